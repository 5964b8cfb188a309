/- The marks' texts. markIntS, heldIntS, markIntSS, heldIntSS. The marks of a row of texts. Contracts of the functions that mark and look at marks: Attribute*:m, Symbol*:m. Made by mk_mark.py. No condition. -/
import Derived.Test.YtbfmeiooeaaibaaGreatMarkBase
import Derived.Test.YtbfmeiooeaaibaaGreatIntsD
import Derived.Laws.IdiomStrings
import Derived.Test.YtbfmeiooeaaibaaGreatFamStr
import Derived.Test.YtbfmeiooeaaibaaGreatFamGramA
namespace Go.Proofs.YtbfmeiooeaaibaaGreat
open Go.RowKit

/-- The digits of a number, none for zero. -/
def dig (n : Nat) : List UInt8 := if _h : n = 0 then [] else dig (n / 10) ++ [UInt8.ofNat (48 + n % 10)]
termination_by n
decreasing_by omega

theorem dig_zero : dig 0 = [] := by rw [dig]; rfl
theorem dig_pos {n : Nat} (h : 0 < n) : dig n = dig (n / 10) ++ [UInt8.ofNat (48 + n % 10)] := by rw [dig, dif_neg (by omega)]
theorem dig_len (n : Nat) : (dig n).length ≤ n := by
  induction n using Nat.strongRecOn with
  | _ n ih =>
    by_cases h : n = 0
    · subst h; simp [dig_zero]
    · rw [dig_pos (by omega)]
      have := ih (n / 10) (by omega)
      simp
      omega

/-- The text of a mark. -/
def mtx (k : Int) : ByteArray := if k ≤ 0 then ⟨#[109, 48]⟩ else ⟨(109 :: dig k.toNat).toArray⟩

theorem mtx_size (k : Int) (h : k ≤ 140737488351231) : (mtx k).size ≤ maxLen := by
  unfold mtx maxLen
  split
  · show 2 ≤ _; omega
  · have := dig_len k.toNat
    show (109 :: dig k.toNat).toArray.size ≤ _
    simp
    omega

set_option maxRecDepth 10000 in
set_option maxHeartbeats 1000000 in
theorem markText_any (k : Int) (w : World) (h0 : 0 < k) (h1 : k ≤ 4398046511104) :
    Calls Tryz.prog 78 #[.int .i64 k] w fun e w' => e = .returned (.string (mtx k)) ∧ Gr w w' := by
  obtain ⟨n0, rfl⟩ : ∃ n : Nat, k = n := ⟨k.toNat, by omega⟩
  go_enter Tryz.func78, Tryz.ntmps78
  go_wp2
  go_loopw [0, 3] (fun s0 s3 wr => ∃ (n : Nat) (o : List UInt8), n + o.length ≤ n0 ∧ dig n ++ o = dig n0 ∧ Gr w wr ∧ s0 = .int .i64 n ∧ s3 = .string ⟨o.toArray⟩) (fun s0 _ _ => (intOf s0).toNat)
  case atStart => exact ⟨n0, [], by simp, by simp, Gr.refl w, rfl, rfl⟩
  case round =>
    obtain ⟨n, o, hn, hd, ⟨x, rfl⟩, rfl, rfl⟩ := hrel
    have HD := Lib.hid hd
    clear hd
    by_cases hlt : 0 < n
    · have b1 : (n : Int) ≤ 4398046511104 := by omega
      have hb2 : ¬ 9223372036854775807 < 1 + o.length := by omega
      clear h1
      have kc := run_convert_bytes_back (P := Tryz.prog) ((w.ext x).alloc (.cells #[.int .u8 (48 + (n : Int) % 10)] 5)) 175 9 5 ⟨w.heap.size + x.objs.size, 0, none⟩ 1 [UInt8.ofNat (48 + n % 10)]
        Tryz.underlying175 Tryz.underlying5 Tryz.underlying9 (fun j hj => by
          obtain rfl : j = 0 := by simpa using hj
          rw [show (⟨w.heap.size + x.objs.size, 0, none⟩ : Addr).add 0 = ⟨w.heap.size + x.objs.size, 0, none⟩ by simp [Addr.add]]
          rw [box_cell (by simp) (v := .int .u8 (48 + (n : Int) % 10)) rfl]
          simp
          omega)
      simp only [List.length_cons, List.length_nil, Nat.zero_add] at kc
      obtain ⟨c, hc⟩ : ∃ c, UInt8.ofNat (48 + n % 10) = c := ⟨_, rfl⟩
      rw [hc] at kc
      have HC := Lib.hid hc
      clear hc
      have hs0 : (⟨#[c]⟩ : ByteArray).size = 1 := rfl
      have hs1 : (⟨o.toArray⟩ : ByteArray).size = o.length := by show o.toArray.size = _; simp
      go_wp2
      refine ⟨⟨n / 10, c :: o, by simp; omega, ?_, (by repeat (first | exact Gr.refl _ | apply Gr.ext | apply Gr.alloc | apply Gr.drew)), by go_num, ?_⟩, by simp [intOf]; omega⟩
      · rw [← HD.out, dig_pos hlt, HC.out]; simp
      · exact congrArg Value.string (ByteArray.ext (by simp))
    · have hs1 : (⟨o.toArray⟩ : ByteArray).size = o.length := by show o.toArray.size = _; simp
      have hn0 : n = 0 := by omega
      subst hn0
      go_wp2
      go_ret
      refine ⟨congrArg (fun s => Ending.returned (.string s)) ?_, (by repeat (first | exact Gr.refl _ | apply Gr.ext | apply Gr.alloc | apply Gr.drew))⟩
      have hd := HD.out
      rw [dig_zero, List.nil_append] at hd
      unfold mtx
      rw [if_neg (by omega), Int.toNat_natCast, hd]
      exact ByteArray.ext (by simp)
end Go.Proofs.YtbfmeiooeaaibaaGreat

namespace Go.Proofs.YtbfmeiooeaaibaaGreat
open Go.RowKit

/-- Bounds of a walk of marks. -/
theorem markL_bd {α : Type} (f : Int → α → α × Int) (wt : α → Nat) (hf : ∀ k x, k ≤ (f k x).2 ∧ (f k x).2 ≤ k + 16 * (1 + wt x)) (xs : List α) : ∀ k, k ≤ (markL f k xs).2 ∧ (markL f k xs).2 ≤ k + 16 * wtL wt xs := by
  induction xs with
  | nil => intro k; simp [markL, wtL]
  | cons x xs ih =>
    intro k
    have h1 := hf k x
    have h2 := ih (f k x).2
    simp only [markL, wtL, List.map_cons, List.sum_cons, List.length_cons] at *
    omega

theorem markL_take {α : Type} (f : Int → α → α × Int) (hf : ∀ k x, k ≤ (f k x).2) (k : Int) (xs : List α) (i : Nat) : k ≤ (markL f k (xs.take i)).2 ∧ (markL f k (xs.take i)).2 ≤ (markL f k xs).2 := by
  have mono : ∀ (ys : List α) (j : Int), j ≤ (markL f j ys).2 := by
    intro ys
    induction ys with
    | nil => intro j; simp [markL]
    | cons y ys ih => intro j; have := hf j y; have := ih (f j y).2; simp only [markL]; omega
  refine ⟨mono _ _, ?_⟩
  have h : markL f k xs = markL f k (xs.take i ++ xs.drop i) := by rw [List.take_append_drop]
  rw [h, markL_append]
  exact mono _ _

theorem wf_mark {y : Int} (h0 : 0 < y) (h1 : y ≤ 4398046511104) : (Lit.int .i64 y).wf = true := by
  simp only [Lit.wf, Bool.and_eq_true, decide_eq_true_eq]
  have e1 : IntKind.i64.min = -9223372036854775808 := by decide
  have e2 : IntKind.i64.max = 9223372036854775807 := by decide
  omega

def mInt (k : Int) (_ : Int) : Int × Int := (k, k + 1)
theorem mInt_bd (k x : Int) : k ≤ (mInt k x).2 ∧ (mInt k x).2 ≤ k + 16 * (1 + (0 : Nat)) := by unfold mInt; simp; omega
theorem mInt_mono (k x : Int) : k ≤ (mInt k x).2 := by unfold mInt; simp; omega
theorem mIntS_eq (xs : List Int) : ∀ k, (markL mInt k xs).2 = k + xs.length := by
  induction xs with
  | nil => intro k; simp [markL]
  | cons x xs ih => intro k; simp only [markL, ih, mInt, List.length_cons]; omega

set_option maxHeartbeats 400000 in
theorem markIntS_any (fp : List Nat) (u : Value) (xs : List Int) (k : Int) (w : World) (hu : SlR fp w u xs) (hnd : fp.Nodup) (h0 : 0 < k) (h1 : (markL mInt k xs).2 ≤ 4398046511104) :
    Calls Tryz.prog 56 #[u, .int .i64 k] w fun e w' => e = .returned (.int .i64 (markL mInt k xs).2) ∧ SlR fp w' u (markL mInt k xs).1 ∧ Wr fp w w' := by
  obtain ⟨a, ca, rfl, g1, g2, g3⟩ := hu.open
  have H1 := Lib.hid h1
  clear h1
  go_enter Tryz.func56, Tryz.ntmps56
  go_wp2
  go_loopw [5, 1] (fun s5 s1 wr => ∃ (i : Nat) (m : Int), i ≤ xs.length ∧ Hid (m = (markL mInt k (xs.take i)).2) ∧ SlR fp wr (.slice a xs.length ca) (markT mInt k xs i) ∧ Wr fp w wr ∧ s5 = .int .i64 i ∧ s1 = .int .i64 m) (fun s5 _ _ => xs.length - (intOf s5).toNat)
  case atStart => exact ⟨0, k, by omega, Lib.hid (by simp [markL]), by rw [markT_zero]; exact hu, Wr.refl _ _, rfl, rfl⟩
  case round =>
    obtain ⟨i, m, hi, hm, hs, hW, rfl, rfl⟩ := hrel
    have HS := Lib.hid hs
    have HW := Lib.hid hW
    clear hs hW
    by_cases hlt : i < xs.length
    · obtain ⟨b, off, rfl, hb⟩ := g3 i hlt
      have hlt' : i < (markT mInt k xs i).length := by rw [markT_len]; exact hlt
      obtain ⟨cs, fq, hc, hr, -, hbm, -, -, hz, hput⟩ := HS.out.focus hnd hlt'
      have HP := Lib.hid hput
      obtain ⟨rfl, rfl, -⟩ := hr
      have z0 : wr.cell? ⟨b, off + i, none⟩ = some (.int .i64 (markT mInt k xs i)[i]) := by simpa [Rd.n] using hc 0 _ rfl
      have f0 : wr.frozen? ⟨b, off + i, none⟩ = false := by simpa [Rd.n] using hz 0 (by simp [Rd.n])
      have bd := markL_take mInt mInt_mono k xs (i + 1)
      have bd2 := markL_take mInt mInt_mono k xs i
      rw [markK_succ mInt k xs hlt, ← hm.out] at bd
      rw [← hm.out] at bd2
      have m0 : 0 < m := by omega
      have em : (mInt m xs[i]).2 = m + 1 := rfl
      rw [em] at bd
      have m1 : m + 1 ≤ 4398046511104 := by have := H1.out; omega
      clear hc hz hput bd bd2 g3 em
      go_wp2
      refine ⟨⟨i + 1, m + 1, by omega, Lib.hid ?_, ?_, HW.out.setCell hbm _, by go_num, rfl⟩, by simp [intOf]; omega⟩
      · rw [markK_succ mInt k xs hlt, ← hm.out]; rfl
      · rw [markT_succ mInt k xs hlt, ← hm.out]
        have hF : Foc b (off + i * Rd.n Int) (Rd.n Int) [] wr (wr.setCell ⟨b, off + i, none⟩ (.int .i64 m)) := (Foc.refl _ _ _ _ _).set (by simp [Rd.n]) (by simp [Rd.n]) _
        refine HP.out _ [.int .i64 m] m hF (fun j v hj => ?_) ⟨rfl, rfl, wf_mark m0 (by omega)⟩
        cases j with
        | zero => simp at hj; subst hj; simpa [Rd.n] using cell_setCell_eq z0
        | succ j => simp at hj
    · have hk2 : i = xs.length := by omega
      subst hk2
      have hs2 := HS.out
      rw [markT_all] at hs2
      have hm2 := hm.out
      rw [List.take_length] at hm2
      have HS2 := Lib.hid hs2
      have HM2 := Lib.hid hm2
      clear hs2 hm2 HS hm
      go_wp2
      go_ret
      exact ⟨ret_int HM2.out, HS2.out, HW.out⟩

set_option maxHeartbeats 400000 in
theorem heldIntS_any (fp : List Nat) (u : Value) (xs : List Int) (k : Int) (w : World) (hu : SlR fp w u (markL mInt k xs).1) (h0 : 0 < k) (h1 : (markL mInt k xs).2 ≤ 4398046511104) :
    Calls Tryz.prog 58 #[u, .int .i64 k] w fun e w' => e = .returned (.int .i64 (markL mInt k xs).2) ∧ Gr w w' := by
  obtain ⟨a, ca, rfl, g1, g2, g3⟩ := hu.open
  have H1 := Lib.hid h1
  clear h1
  rw [markL_len] at g1 g2 hu ⊢
  go_enter Tryz.func58, Tryz.ntmps58
  go_wp2
  go_loopw [5, 1] (fun s5 s1 wr => ∃ (i : Nat) (m : Int), i ≤ xs.length ∧ Hid (m = (markL mInt k (xs.take i)).2) ∧ Gr w wr ∧ s5 = .int .i64 i ∧ s1 = .int .i64 m) (fun s5 _ _ => xs.length - (intOf s5).toNat)
  case atStart => exact ⟨0, k, by omega, Lib.hid (by simp [markL]), Gr.refl _, rfl, rfl⟩
  case round =>
    obtain ⟨i, m, hi, hm, ⟨x, rfl⟩, rfl, rfl⟩ := hrel
    by_cases hlt : i < xs.length
    · have hlt' : i < (markL mInt k xs).1.length := by rw [markL_len]; exact hlt
      obtain ⟨b, off, rfl, hb⟩ := g3 i hlt'
      have z0 := (hu.int_at hlt').1
      rw [markL_at mInt k xs hlt, ← hm.out] at z0
      have bd := markL_take mInt mInt_mono k xs (i + 1)
      have bd2 := markL_take mInt mInt_mono k xs i
      rw [markK_succ mInt k xs hlt, ← hm.out] at bd
      rw [← hm.out] at bd2
      have m0 : 0 < m := by omega
      have em : (mInt m xs[i]).2 = m + 1 := rfl
      have em1 : (mInt m xs[i]).1 = m := rfl
      rw [em] at bd
      rw [em1] at z0
      have m1 : m + 1 ≤ 4398046511104 := by have := H1.out; omega
      clear bd bd2 g3 em em1
      go_wp2
      refine ⟨⟨i + 1, m + 1, by omega, Lib.hid ?_, (by repeat (first | exact Gr.refl _ | apply Gr.ext | apply Gr.alloc | apply Gr.drew)), by go_num, rfl⟩, by simp [intOf]; omega⟩
      rw [markK_succ mInt k xs hlt, ← hm.out]; rfl
    · have hk2 : i = xs.length := by omega
      subst hk2
      have hm2 := hm.out
      rw [List.take_length] at hm2
      have HM2 := Lib.hid hm2
      clear hm2 hm
      go_wp2
      go_ret
      exact ⟨ret_int HM2.out, (by repeat (first | exact Gr.refl _ | apply Gr.ext | apply Gr.alloc | apply Gr.drew))⟩

def mIntS (k : Int) (x : List Int) : List Int × Int := markL mInt k x
theorem mIntS_len (k : Int) (x : List Int) : (mIntS k x).1.length = x.length := markL_len _ _ _
theorem mIntS_bd (k : Int) (x : List Int) : k ≤ (mIntS k x).2 ∧ (mIntS k x).2 ≤ k + 16 * x.length := by unfold mIntS; rw [mIntS_eq]; omega
theorem mIntS_mono (k : Int) (x : List Int) : k ≤ (mIntS k x).2 := (mIntS_bd k x).1

end Go.Proofs.YtbfmeiooeaaibaaGreat

namespace Go.Proofs.YtbfmeiooeaaibaaGreat
open Go.RowKit

def mStr (k : Int) (_ : ByteArray) : ByteArray × Int := (mtx k, k + 1)
/-- The mark of a truth value. -/
abbrev mbo (k : Int) : Bool := k % 3 == 0
theorem mStr_bd (k : Int) (x : ByteArray) : k ≤ (mStr k x).2 ∧ (mStr k x).2 ≤ k + 16 * (1 + x.size) := by unfold mStr; simp; omega
theorem mStr_mono (k : Int) (x : ByteArray) : k ≤ (mStr k x).2 := by unfold mStr; simp; omega
def mStringS (k : Int) (x : List ByteArray) : List ByteArray × Int := markL mStr k x
theorem mStringS_bd (k : Int) (x : List ByteArray) : k ≤ (mStringS k x).2 ∧ (mStringS k x).2 ≤ k + 16 * wtStringS x := by
  have := markL_bd mStr (fun s => s.size) mStr_bd x k
  unfold mStringS wtStringS
  exact this
theorem mStringS_mono (k : Int) (x : List ByteArray) : k ≤ (mStringS k x).2 := (mStringS_bd k x).1

set_option maxHeartbeats 1000000 in
theorem markStringS_any (fp : List Nat) (u : Value) (xs : List ByteArray) (k : Int) (w : World) (hu : SlR fp w u xs) (hnd : fp.Nodup) (h0 : 0 < k) (h1 : (mStringS k xs).2 ≤ 4398046511104) :
    Calls Tryz.prog 102 #[u, .int .i64 k] w fun e w' => e = .returned (.int .i64 (mStringS k xs).2) ∧ SlR fp w' u (mStringS k xs).1 ∧ Wr fp w w' := by
  obtain ⟨a, ca, rfl, g1, g2, g3⟩ := hu.open
  have H1 := Lib.hid (show (markL mStr k xs).2 ≤ 4398046511104 from h1)
  clear h1
  go_enter Tryz.func102, Tryz.ntmps102
  go_wp2
  go_loopw [5, 1] (fun s5 s1 wr => ∃ (i : Nat) (m : Int), i ≤ xs.length ∧ Hid (m = (markL mStr k (xs.take i)).2) ∧ SlR fp wr (.slice a xs.length ca) (markT mStr k xs i) ∧ Wr fp w wr ∧ s5 = .int .i64 i ∧ s1 = .int .i64 m) (fun s5 _ _ => xs.length - (intOf s5).toNat)
  case atStart => exact ⟨0, k, by omega, Lib.hid (by simp [markL]), by rw [markT_zero]; exact hu, Wr.refl _ _, rfl, rfl⟩
  case round =>
    obtain ⟨i, m, hi, hm, hs, hW, rfl, rfl⟩ := hrel
    have HS := Lib.hid hs
    have HW := Lib.hid hW
    clear hs hW
    by_cases hlt : i < xs.length
    · obtain ⟨b, off, rfl, hb⟩ := g3 i hlt
      have hlt' : i < (markT mStr k xs i).length := by rw [markT_len]; exact hlt
      obtain ⟨cs, fq, hc, hr, -, hbm, -, -, hz, hput⟩ := HS.out.focus hnd hlt'
      have HP := Lib.hid hput
      obtain ⟨rfl, rfl, -⟩ := hr
      have z0 : wr.cell? ⟨b, off + i, none⟩ = some (.string (markT mStr k xs i)[i]) := by simpa [Rd.n] using hc 0 _ rfl
      have f0 : wr.frozen? ⟨b, off + i, none⟩ = false := by simpa [Rd.n] using hz 0 (by simp [Rd.n])
      have bl := blk z0
      have bd := markL_take mStr mStr_mono k xs (i + 1)
      have bd2 := markL_take mStr mStr_mono k xs i
      rw [markK_succ mStr k xs hlt, ← hm.out] at bd
      rw [← hm.out] at bd2
      have m0 : 0 < m := by omega
      have em : (mStr m xs[i]).2 = m + 1 := rfl
      rw [em] at bd
      have m1 : m + 1 ≤ 4398046511104 := by have := H1.out; omega
      clear hc hz hput bd bd2 g3 em
      go_wp2_with fail
      refine (markText_any m _ (by omega) (by omega)).mono ?_
      rintro e w2 ⟨rfl, x2, rfl⟩
      go_wp2_with fail
      refine ⟨⟨i + 1, m + 1, by omega, Lib.hid ?_, ?_, ?_, by go_num, rfl⟩, by simp [intOf]; omega⟩
      · rw [markK_succ mStr k xs hlt, ← hm.out]; rfl
      · rw [markT_succ mStr k xs hlt, ← hm.out]
        have hF : Foc b (off + i * Rd.n ByteArray) (Rd.n ByteArray) [] wr ((wr.setCell ⟨b, off + i, none⟩ (.string (mtx m))).ext x2) := Foc.gr ((Foc.refl _ _ _ _ _).set (by simp [Rd.n]) (by simp [Rd.n]) _) bl (Gr.ext (Gr.refl _) _)
        refine HP.out _ [.string (mtx m)] (mtx m) hF (fun j v hj => ?_) ⟨rfl, rfl, mtx_size m (by omega)⟩
        cases j with
        | zero =>
          simp at hj
          subst hj
          rw [cell?_ext _ _ (by simpa using bl)]
          simpa [Rd.n] using cell_setCell_eq z0
        | succ j => simp at hj
      · exact (HW.out.setCell hbm _).gr (Gr.ext (Gr.refl _) _)
    · have hk2 : i = xs.length := by omega
      subst hk2
      have hs2 := HS.out
      rw [markT_all] at hs2
      have hm2 := hm.out
      rw [List.take_length] at hm2
      have HS2 := Lib.hid hs2
      have HM2 := Lib.hid hm2
      clear hs2 hm2 HS hm
      go_wp2
      go_ret
      exact ⟨ret_int HM2.out, HS2.out, HW.out⟩
end Go.Proofs.YtbfmeiooeaaibaaGreat

namespace Go.Proofs.YtbfmeiooeaaibaaGreat
open Go.RowKit

/-- The marks of an element. -/
def mAttribute (k : Int) : GAttribute → GAttribute × Int
  | (_, _, _, _) => ((mtx (k), k + 1, k + 1 + 1, mbo (k + 1 + 1 + 1)), k + 1 + 1 + 1 + 1)
theorem mAttribute_bd (k : Int) (x : GAttribute) : k ≤ (mAttribute k x).2 ∧ (mAttribute k x).2 ≤ k + 16 * (1 + wtAttribute x) := by
  obtain ⟨q0, q1, q2, q3⟩ := x
  have hw : wtAttribute (q0, q1, q2, q3) = (q0.size) := rfl
  simp only [mAttribute] at *
  omega
theorem mAttribute_mono (k : Int) (x : GAttribute) : k ≤ (mAttribute k x).2 := (mAttribute_bd k x).1
def mAttributeS (k : Int) (x : List GAttribute) : List GAttribute × Int := markL mAttribute k x
theorem mAttributeS_len (k : Int) (x : List GAttribute) : (mAttributeS k x).1.length = x.length := markL_len _ _ _
theorem mAttributeS_bd (k : Int) (x : List GAttribute) : k ≤ (mAttributeS k x).2 ∧ (mAttributeS k x).2 ≤ k + 16 * wtAttributeS x := by
  have := markL_bd mAttribute wtAttribute mAttribute_bd x k
  unfold mAttributeS wtAttributeS
  exact this
theorem mAttributeS_mono (k : Int) (x : List GAttribute) : k ≤ (mAttributeS k x).2 := (mAttributeS_bd k x).1

set_option maxHeartbeats 1000000 in
theorem markAttributeS_any (fp : List Nat) (u : Value) (xs : List GAttribute) (k : Int) (w : World) (hu : SlR fp w u xs) (hnd : fp.Nodup) (h0 : 0 < k) (h1 : (mAttributeS k xs).2 ≤ 4398046511104) :
    Calls Tryz.prog 101 #[u, .int .i64 k] w fun e w' => e = .returned (.int .i64 (mAttributeS k xs).2) ∧ SlR fp w' u (mAttributeS k xs).1 ∧ Wr fp w w' := by
  obtain ⟨a, ca, rfl, g1, g2, g3⟩ := hu.open
  have H1 := Lib.hid h1
  clear h1
  go_enter Tryz.func101, Tryz.ntmps101
  go_wp2
  go_loopw [5, 1] (fun s5 s1 wr => ∃ (i : Nat) (m : Int), i ≤ xs.length ∧ Hid (m = (markL mAttribute k (xs.take i)).2) ∧ SlR fp wr (.slice a xs.length ca) (markT mAttribute k xs i) ∧ Wr fp w wr ∧ s5 = .int .i64 i ∧ s1 = .int .i64 m) (fun s5 _ _ => xs.length - (intOf s5).toNat)
  case atStart => exact ⟨0, k, by omega, Lib.hid (by simp [markL]), by rw [markT_zero]; exact hu, Wr.refl _ _, rfl, rfl⟩
  case round =>
    obtain ⟨i, m, hi, hm, hs, hW, rfl, rfl⟩ := hrel
    have HS := Lib.hid hs
    have HW := Lib.hid hW
    clear hs hW
    by_cases hlt : i < xs.length
    · obtain ⟨b, off, rfl, hb⟩ := g3 i hlt
      have hlt' : i < (markT mAttribute k xs i).length := by rw [markT_len]; exact hlt
      obtain ⟨cs, fq, hc, hr, hsub, hbm, hbn, hnq, hz, hput⟩ := HS.out.focus hnd hlt'
      have HP := Lib.hid hput
      rw [markT_at mAttribute k xs hlt] at hr
      obtain ⟨y, hy⟩ : ∃ y, y = xs[i] := ⟨_, rfl⟩
      rw [← hy] at hr
      have HY := Lib.hid hy
      have bd := markL_take mAttribute mAttribute_mono k xs (i + 1)
      have bd2 := markL_take mAttribute mAttribute_mono k xs i
      rw [markK_succ mAttribute k xs hlt, ← hm.out, ← hy] at bd
      rw [← hm.out] at bd2
      obtain ⟨q0, q1, q2, q3⟩ := y
      obtain ⟨hcs, hfq, hq0, hq1, hq2⟩ := rdAttribute_inv (cs := cs.toArray) q0 q1 q2 q3 (by simpa using hr)
      obtain rfl : cs = [.string q0, .int .i64 q1, .int .i64 q2, .bool q3] := by have := congrArg Array.toList hcs; simpa using this
      rw [hfq] at hsub hbn hnq HP hput hr
      clear hfq
      have z0 : wr.cell? ⟨b, off + i * 4, none⟩ = some (.string q0) := by simpa [Rd.n] using hc 0 _ rfl
      have z1 : wr.cell? ⟨b, off + i * 4 + 1, none⟩ = some (.int .i64 q1) := hc 1 _ rfl
      have z2 : wr.cell? ⟨b, off + i * 4 + 2, none⟩ = some (.int .i64 q2) := hc 2 _ rfl
      have z3 : wr.cell? ⟨b, off + i * 4 + 3, none⟩ = some (.bool q3) := hc 3 _ rfl
      have f0 : wr.frozen? ⟨b, off + i * 4, none⟩ = false := by simpa [Rd.n] using hz 0 (by decide)
      have f1 : wr.frozen? ⟨b, off + i * 4 + 1, none⟩ = false := hz 1 (by decide)
      have f2 : wr.frozen? ⟨b, off + i * 4 + 2, none⟩ = false := hz 2 (by decide)
      have f3 : wr.frozen? ⟨b, off + i * 4 + 3, none⟩ = false := hz 3 (by decide)
      have bl := blk z0
      have m0 : 0 < m := by omega
      have em : (mAttribute m (q0, q1, q2, q3)).2 = m + 1 + 1 + 1 + 1 := rfl
      rw [em] at bd
      have m1 : m + 1 + 1 + 1 + 1 ≤ 4398046511104 := by have h := H1.out; have e : (mAttributeS k xs).2 = (markL mAttribute k xs).2 := rfl; omega
      have n0_1 := fun (W : World) (v : Value) => cell_setCell_ne (w := W) (b := b) (o := off + i * 4) (o' := off + i * 4 + 1) (v := v) (by omega)
      have n0_2 := fun (W : World) (v : Value) => cell_setCell_ne (w := W) (b := b) (o := off + i * 4) (o' := off + i * 4 + 2) (v := v) (by omega)
      have n0_3 := fun (W : World) (v : Value) => cell_setCell_ne (w := W) (b := b) (o := off + i * 4) (o' := off + i * 4 + 3) (v := v) (by omega)
      have n1_0 := fun (W : World) (v : Value) => cell_setCell_ne (w := W) (b := b) (o := off + i * 4 + 1) (o' := off + i * 4) (v := v) (by omega)
      have n1_2 := fun (W : World) (v : Value) => cell_setCell_ne (w := W) (b := b) (o := off + i * 4 + 1) (o' := off + i * 4 + 2) (v := v) (by omega)
      have n1_3 := fun (W : World) (v : Value) => cell_setCell_ne (w := W) (b := b) (o := off + i * 4 + 1) (o' := off + i * 4 + 3) (v := v) (by omega)
      have n2_0 := fun (W : World) (v : Value) => cell_setCell_ne (w := W) (b := b) (o := off + i * 4 + 2) (o' := off + i * 4) (v := v) (by omega)
      have n2_1 := fun (W : World) (v : Value) => cell_setCell_ne (w := W) (b := b) (o := off + i * 4 + 2) (o' := off + i * 4 + 1) (v := v) (by omega)
      have n2_3 := fun (W : World) (v : Value) => cell_setCell_ne (w := W) (b := b) (o := off + i * 4 + 2) (o' := off + i * 4 + 3) (v := v) (by omega)
      have n3_0 := fun (W : World) (v : Value) => cell_setCell_ne (w := W) (b := b) (o := off + i * 4 + 3) (o' := off + i * 4) (v := v) (by omega)
      have n3_1 := fun (W : World) (v : Value) => cell_setCell_ne (w := W) (b := b) (o := off + i * 4 + 3) (o' := off + i * 4 + 1) (v := v) (by omega)
      have n3_2 := fun (W : World) (v : Value) => cell_setCell_ne (w := W) (b := b) (o := off + i * 4 + 3) (o' := off + i * 4 + 2) (v := v) (by omega)
      have fz := fun (W : World) (o o' : Nat) (v : Value) => (frozen_setCell' : (W.setCell ⟨b, o, none⟩ v).frozen? ⟨b, o', none⟩ = W.frozen? ⟨b, o', none⟩)
      have Hq0 := Lib.hid (mtx_size (m) (by omega))
      have Hq1 := Lib.hid (wf_mark (y := m + 1) (by omega) (by omega))
      have Hq2 := Lib.hid (wf_mark (y := m + 1 + 1) (by omega) (by omega))
      clear hc hz hput bd2 g3 em hy hr hcs hq0 hq1 hq2
      have Hbn := Lib.hid hbn
      have Hnq := Lib.hid hnq
      have Hsub := Lib.hid hsub
      clear hbn hnq hsub
      go_wp2_with fail
      refine (markText_any (m) _ (by omega) (by omega)).mono ?_
      rintro e w0 ⟨rfl, x0, rfl⟩
      go_wp2_with fail
      refine ⟨⟨i + 1, m + 1 + 1 + 1 + 1, by omega, Lib.hid ?_, ?_, ?_, by go_num, rfl⟩, by simp [intOf]; omega⟩
      · rw [markK_succ mAttribute k xs hlt, ← hm.out, ← HY.out]; rfl
      · rw [markT_succ mAttribute k xs hlt, ← hm.out, ← HY.out]
        refine HP.out _ [.string (mtx (m)), .int .i64 (m + 1), .int .i64 (m + 1 + 1), .bool (mbo (m + 1 + 1 + 1))] (mAttribute m (q0, q1, q2, q3)).1 (by repeat (first | with_reducible refine Foc.set ?_ (by simp [Rd.n] <;> omega) (by simp [Rd.n] <;> omega) _ | with_reducible refine Foc.gr ?_ bl (Gr.ext (Gr.refl _) _) | exact Foc.refl _ _ _ _ _)) (fun j v hj => ?_) (rdAttribute_mk (mtx (m)) (m + 1) (m + 1 + 1) (mbo (m + 1 + 1 + 1)) Hq0.out Hq1.out Hq2.out)
        have en : off + i * Rd.n GAttribute = off + i * 4 := rfl
        rw [en]
        match j, hj with
        | 0, hj => obtain rfl := Option.some.inj hj; go_simp
        | 1, hj => obtain rfl := Option.some.inj hj; go_simp
        | 2, hj => obtain rfl := Option.some.inj hj; go_simp
        | 3, hj => obtain rfl := Option.some.inj hj; go_simp
      · repeat (first | with_reducible refine Wr.setCell ?_ hbm _ | with_reducible refine Wr.gr ?_ (Gr.ext (Gr.refl _) _) | exact HW.out)
    · have hk2 : i = xs.length := by omega
      subst hk2
      have hs2 := HS.out
      rw [markT_all] at hs2
      have hm2 := hm.out
      rw [List.take_length] at hm2
      have HS2 := Lib.hid hs2
      have HM2 := Lib.hid hm2
      clear hs2 hm2 HS hm
      go_wp2
      go_ret
      exact ⟨ret_int HM2.out, HS2.out, HW.out⟩

/-- The marks of an element. -/
def mSymbol (k : Int) : GSymbol → GSymbol × Int
  | (_, q1) => ((mtx (k), (mAttributeS (k + 1) q1).1), (mAttributeS (k + 1) q1).2)
theorem mSymbol_bd (k : Int) (x : GSymbol) : k ≤ (mSymbol k x).2 ∧ (mSymbol k x).2 ≤ k + 16 * (1 + wtSymbol x) := by
  obtain ⟨q0, q1⟩ := x
  have bq1 := mAttributeS_bd (k + 1) q1
  have hw : wtSymbol (q0, q1) = (q0.size) + (wtAttributeS q1) := rfl
  simp only [mSymbol] at *
  omega
theorem mSymbol_mono (k : Int) (x : GSymbol) : k ≤ (mSymbol k x).2 := (mSymbol_bd k x).1
def mSymbolS (k : Int) (x : List GSymbol) : List GSymbol × Int := markL mSymbol k x
theorem mSymbolS_len (k : Int) (x : List GSymbol) : (mSymbolS k x).1.length = x.length := markL_len _ _ _
theorem mSymbolS_bd (k : Int) (x : List GSymbol) : k ≤ (mSymbolS k x).2 ∧ (mSymbolS k x).2 ≤ k + 16 * wtSymbolS x := by
  have := markL_bd mSymbol wtSymbol mSymbol_bd x k
  unfold mSymbolS wtSymbolS
  exact this
theorem mSymbolS_mono (k : Int) (x : List GSymbol) : k ≤ (mSymbolS k x).2 := (mSymbolS_bd k x).1

set_option maxHeartbeats 1000000 in
theorem markSymbolS_any (fp : List Nat) (u : Value) (xs : List GSymbol) (k : Int) (w : World) (hu : SlR fp w u xs) (hnd : fp.Nodup) (h0 : 0 < k) (h1 : (mSymbolS k xs).2 ≤ 4398046511104) :
    Calls Tryz.prog 53 #[u, .int .i64 k] w fun e w' => e = .returned (.int .i64 (mSymbolS k xs).2) ∧ SlR fp w' u (mSymbolS k xs).1 ∧ Wr fp w w' := by
  obtain ⟨a, ca, rfl, g1, g2, g3⟩ := hu.open
  have H1 := Lib.hid h1
  clear h1
  go_enter Tryz.func53, Tryz.ntmps53
  go_wp2
  go_loopw [5, 1] (fun s5 s1 wr => ∃ (i : Nat) (m : Int), i ≤ xs.length ∧ Hid (m = (markL mSymbol k (xs.take i)).2) ∧ SlR fp wr (.slice a xs.length ca) (markT mSymbol k xs i) ∧ Wr fp w wr ∧ s5 = .int .i64 i ∧ s1 = .int .i64 m) (fun s5 _ _ => xs.length - (intOf s5).toNat)
  case atStart => exact ⟨0, k, by omega, Lib.hid (by simp [markL]), by rw [markT_zero]; exact hu, Wr.refl _ _, rfl, rfl⟩
  case round =>
    obtain ⟨i, m, hi, hm, hs, hW, rfl, rfl⟩ := hrel
    have HS := Lib.hid hs
    have HW := Lib.hid hW
    clear hs hW
    by_cases hlt : i < xs.length
    · obtain ⟨b, off, rfl, hb⟩ := g3 i hlt
      have hlt' : i < (markT mSymbol k xs i).length := by rw [markT_len]; exact hlt
      obtain ⟨cs, fq, hc, hr, hsub, hbm, hbn, hnq, hz, hput⟩ := HS.out.focus hnd hlt'
      have HP := Lib.hid hput
      rw [markT_at mSymbol k xs hlt] at hr
      obtain ⟨y, hy⟩ : ∃ y, y = xs[i] := ⟨_, rfl⟩
      rw [← hy] at hr
      have HY := Lib.hid hy
      have bd := markL_take mSymbol mSymbol_mono k xs (i + 1)
      have bd2 := markL_take mSymbol mSymbol_mono k xs i
      rw [markK_succ mSymbol k xs hlt, ← hm.out, ← hy] at bd
      rw [← hm.out] at bd2
      obtain ⟨q0, q1⟩ := y
      obtain ⟨vq1, fq1, hcs, hfq, hq0, hq1⟩ := rdSymbol_inv (cs := cs.toArray) q0 q1 (by simpa using hr)
      obtain rfl : cs = [.string q0, vq1] := by have := congrArg Array.toList hcs; simpa using this
      rw [hfq] at hsub hbn hnq HP hput hr
      clear hfq
      have z0 : wr.cell? ⟨b, off + i * 2, none⟩ = some (.string q0) := by simpa [Rd.n] using hc 0 _ rfl
      have z1 : wr.cell? ⟨b, off + i * 2 + 1, none⟩ = some (vq1) := hc 1 _ rfl
      have f0 : wr.frozen? ⟨b, off + i * 2, none⟩ = false := by simpa [Rd.n] using hz 0 (by decide)
      have bl := blk z0
      have m0 : 0 < m := by omega
      have em : (mSymbol m (q0, q1)).2 = (mAttributeS (m + 1) q1).2 := rfl
      rw [em] at bd
      have bq1 := mAttributeS_mono (m + 1) q1
      have m1 : (mAttributeS (m + 1) q1).2 ≤ 4398046511104 := by have h := H1.out; have e : (mSymbolS k xs).2 = (markL mSymbol k xs).2 := rfl; omega
      have n0_1 := fun (W : World) (v : Value) => cell_setCell_ne (w := W) (b := b) (o := off + i * 2) (o' := off + i * 2 + 1) (v := v) (by omega)
      have fz := fun (W : World) (o o' : Nat) (v : Value) => (frozen_setCell' : (W.setCell ⟨b, o, none⟩ v).frozen? ⟨b, o', none⟩ = W.frozen? ⟨b, o', none⟩)
      have Hq0 := Lib.hid (mtx_size (m) (by omega))
      have N0 : (fq1).Nodup := by simpa only [List.nil_append, List.append_nil] using hnq
      have M0 : b ∉ fq1 := by simpa only [List.nil_append, List.append_nil] using hbn
      have uq1 := N0
      have dq1 : b ∉ fq1 := fun h => M0 (by simp [h])
      have Sq1 := Lib.hid hq1
      obtain ⟨aaq1, ccq1, rfl, -, -, -⟩ := hq1.open
      have Hdq1 := Lib.hid dq1
      have Huq1 := Lib.hid uq1
      clear dq1 uq1 M0 N0  hq1
      clear hc hz hput bd2 g3 em hy hr hcs hq0
      have Hbn := Lib.hid hbn
      have Hnq := Lib.hid hnq
      have Hsub := Lib.hid hsub
      clear hbn hnq hsub
      go_wp2_with fail
      refine (markText_any (m) _ (by omega) (by omega)).mono ?_
      rintro e w0 ⟨rfl, x0, rfl⟩
      go_wp2_with fail
      refine (markAttributeS_any fq1 _ q1 (m + 1) _ ((SlR.wr Sq1.out (fp := [b]) (by repeat (first | with_reducible refine Wr.setCell ?_ (by simp) _ | with_reducible refine Wr.gr ?_ (Gr.ext (Gr.refl _) _) | exact Wr.refl _ _)) (by have := Hdq1.out; intro c hc hcb; simp at hcb; subst hcb; exact this hc))) Huq1.out (by omega) (by show (mAttributeS (m + 1) q1).2 ≤ _; omega)).mono ?_
      rintro e y1 ⟨rfl, t1, r1⟩
      have T1 := Lib.hid t1
      have R1 := Lib.hid r1
      clear t1 r1
      have F1 := Lib.hid (Foc.inner (b := b) (lo := off + i * Rd.n GSymbol) (n := Rd.n GSymbol) (fq := ([] ++ fq1)) (w := wr) (by repeat (first | with_reducible refine Foc.set ?_ (by simp [Rd.n] <;> omega) (by simp [Rd.n] <;> omega) _ | with_reducible refine Foc.gr ?_ bl (Gr.ext (Gr.refl _) _) | exact Foc.refl _ _ _ _ _)) bl R1.out (by intro c hc; simp [hc]) Hdq1.out)
      have Sq1x1 := T1
      have e1 := R1.out.block b (Nat.lt_of_lt_of_le bl (Foc.wr (b := b) (lo := off + i * Rd.n GSymbol) (n := Rd.n GSymbol) (fq := ([] ++ fq1)) (w := wr) (by repeat (first | with_reducible refine Foc.set ?_ (by simp [Rd.n] <;> omega) (by simp [Rd.n] <;> omega) _ | with_reducible refine Foc.gr ?_ bl (Gr.ext (Gr.refl _) _) | exact Foc.refl _ _ _ _ _))).size) Hdq1.out
      have c1 := fun (o : Nat) => World.cell?_of_block (a := ⟨b, o, none⟩) e1
      have z0x1 : y1.cell? ⟨b, off + i * 2, none⟩ = some (.string (mtx (m))) := (c1 _).trans (by go_simp)
      have z1x1 : y1.cell? ⟨b, off + i * 2 + 1, none⟩ = some (.slice aaq1 q1.length ccq1) := (c1 _).trans (by go_simp)
      have s1 := R1.out.size
      clear e1 c1 z0 z1
      clear fz n0_1 f0
      go_wp2_with fail
      refine ⟨⟨i + 1, (mAttributeS (m + 1) q1).2, by omega, Lib.hid ?_, ?_, ?_, by go_num, rfl⟩, by simp [intOf]; omega⟩
      · rw [markK_succ mSymbol k xs hlt, ← hm.out, ← HY.out]; rfl
      · rw [markT_succ mSymbol k xs hlt, ← hm.out, ← HY.out]
        refine HP.out _ [.string (mtx (m)), .slice aaq1 q1.length ccq1] (mSymbol m (q0, q1)).1 (by repeat (first | with_reducible refine Foc.set ?_ (by simp [Rd.n] <;> omega) (by simp [Rd.n] <;> omega) _ | with_reducible refine Foc.gr ?_ bl (Gr.ext (Gr.refl _) _) | exact F1.out)) (fun j v hj => ?_) (rdSymbol_mk (mtx (m)) ((mAttributeS (m + 1) q1).1) Hq0.out (SlR.wr Sq1x1.out (fp := [b]) (by repeat (first | with_reducible refine Wr.setCell ?_ (by simp) _ | with_reducible refine Wr.gr ?_ (Gr.ext (Gr.refl _) _) | exact Wr.refl _ _)) (by have := Hdq1.out; intro c hc hcb; simp at hcb; subst hcb; exact this hc)))
        have en : off + i * Rd.n GSymbol = off + i * 2 := rfl
        rw [en]
        match j, hj with
        | 0, hj => obtain rfl := Option.some.inj hj; exact z0x1
        | 1, hj => obtain rfl := Option.some.inj hj; exact z1x1
      · exact HW.out.trans (Wr.sub (Foc.wr (b := b) (lo := off + i * Rd.n GSymbol) (n := Rd.n GSymbol) (fq := ([] ++ fq1)) (by repeat (first | with_reducible refine Foc.set ?_ (by simp [Rd.n] <;> omega) (by simp [Rd.n] <;> omega) _ | with_reducible refine Foc.gr ?_ bl (Gr.ext (Gr.refl _) _) | exact F1.out))) (fun c hc => by
          rcases List.mem_cons.1 hc with rfl | hc
          · exact hbm
          · exact Hsub.out c hc))
    · have hk2 : i = xs.length := by omega
      subst hk2
      have hs2 := HS.out
      rw [markT_all] at hs2
      have hm2 := hm.out
      rw [List.take_length] at hm2
      have HS2 := Lib.hid hs2
      have HM2 := Lib.hid hm2
      clear hs2 hm2 HS hm
      go_wp2
      go_ret
      exact ⟨ret_int HM2.out, HS2.out, HW.out⟩

end Go.Proofs.YtbfmeiooeaaibaaGreat
