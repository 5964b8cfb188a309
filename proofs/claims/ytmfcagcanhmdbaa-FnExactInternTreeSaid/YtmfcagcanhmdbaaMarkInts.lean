/- markIntS, heldIntS, markIntSS, heldIntSS. No condition. -/
import Derived.Test.YtmfcagcanhmdbaaMarkText
namespace Go.Proofs.Ytmfcagcanhmdbaa
open Go.RowKit

/-- Bounds of a walk of marks. -/
theorem markL_bd {α : Type} (f : Int → α → α × Int) (wt : α → Nat) (hf : ∀ k x, k ≤ (f k x).2 ∧ (f k x).2 ≤ k + 16 * (1 + wt x)) (xs : List α) : ∀ k, k ≤ (markL f k xs).2 ∧ (markL f k xs).2 ≤ k + 16 * wtL wt xs := by
  induction xs with
  | nil => intro k; simp [markL, wtL]
  | cons x xs ih =>
    intro k
    have h1 := hf k x
    have h2 := ih (f k x).2
    simp only [markL, wtL, List.map_cons, List.sum_cons, List.length_cons] at *
    omega

theorem markL_take {α : Type} (f : Int → α → α × Int) (hf : ∀ k x, k ≤ (f k x).2) (k : Int) (xs : List α) (i : Nat) : k ≤ (markL f k (xs.take i)).2 ∧ (markL f k (xs.take i)).2 ≤ (markL f k xs).2 := by
  have mono : ∀ (ys : List α) (j : Int), j ≤ (markL f j ys).2 := by
    intro ys
    induction ys with
    | nil => intro j; simp [markL]
    | cons y ys ih => intro j; have := hf j y; have := ih (f j y).2; simp only [markL]; omega
  refine ⟨mono _ _, ?_⟩
  have h : markL f k xs = markL f k (xs.take i ++ xs.drop i) := by rw [List.take_append_drop]
  rw [h, markL_append]
  exact mono _ _

theorem wf_mark {y : Int} (h0 : 0 < y) (h1 : y ≤ 4398046511104) : (Lit.int .i64 y).wf = true := by
  simp only [Lit.wf, Bool.and_eq_true, decide_eq_true_eq]
  have e1 : IntKind.i64.min = -9223372036854775808 := by decide
  have e2 : IntKind.i64.max = 9223372036854775807 := by decide
  omega

def mInt (k : Int) (_ : Int) : Int × Int := (k, k + 1)
theorem mInt_bd (k x : Int) : k ≤ (mInt k x).2 ∧ (mInt k x).2 ≤ k + 16 * (1 + (0 : Nat)) := by unfold mInt; simp; omega
theorem mInt_mono (k x : Int) : k ≤ (mInt k x).2 := by unfold mInt; simp; omega
theorem mIntS_eq (xs : List Int) : ∀ k, (markL mInt k xs).2 = k + xs.length := by
  induction xs with
  | nil => intro k; simp [markL]
  | cons x xs ih => intro k; simp only [markL, ih, mInt, List.length_cons]; omega

set_option maxHeartbeats 400000 in
theorem markIntS_any (fp : List Nat) (u : Value) (xs : List Int) (k : Int) (w : World) (hu : SlR fp w u xs) (hnd : fp.Nodup) (h0 : 0 < k) (h1 : (markL mInt k xs).2 ≤ 4398046511104) :
    Calls Try.prog 76 #[u, .int .i64 k] w fun e w' => e = .returned (.int .i64 (markL mInt k xs).2) ∧ SlR fp w' u (markL mInt k xs).1 ∧ Wr fp w w' := by
  obtain ⟨a, ca, rfl, g1, g2, g3⟩ := hu.open
  have H1 := Lib.hid h1
  clear h1
  go_enter Try.func76, Try.ntmps76
  go_wp2
  go_loopw [5, 1] (fun s5 s1 wr => ∃ (i : Nat) (m : Int), i ≤ xs.length ∧ Hid (m = (markL mInt k (xs.take i)).2) ∧ SlR fp wr (.slice a xs.length ca) (markT mInt k xs i) ∧ Wr fp w wr ∧ s5 = .int .i64 i ∧ s1 = .int .i64 m) (fun s5 _ _ => xs.length - (intOf s5).toNat)
  case atStart => exact ⟨0, k, by omega, Lib.hid (by simp [markL]), by rw [markT_zero]; exact hu, Wr.refl _ _, rfl, rfl⟩
  case round =>
    obtain ⟨i, m, hi, hm, hs, hW, rfl, rfl⟩ := hrel
    have HS := Lib.hid hs
    have HW := Lib.hid hW
    clear hs hW
    by_cases hlt : i < xs.length
    · obtain ⟨b, off, rfl, hb⟩ := g3 i hlt
      have hlt' : i < (markT mInt k xs i).length := by rw [markT_len]; exact hlt
      obtain ⟨cs, fq, hc, hr, -, hbm, -, -, hz, hput⟩ := HS.out.focus hnd hlt'
      have HP := Lib.hid hput
      obtain ⟨rfl, rfl, -⟩ := hr
      have z0 : wr.cell? ⟨b, off + i, none⟩ = some (.int .i64 (markT mInt k xs i)[i]) := by simpa [Rd.n] using hc 0 _ rfl
      have f0 : wr.frozen? ⟨b, off + i, none⟩ = false := by simpa [Rd.n] using hz 0 (by simp [Rd.n])
      have bd := markL_take mInt mInt_mono k xs (i + 1)
      have bd2 := markL_take mInt mInt_mono k xs i
      rw [markK_succ mInt k xs hlt, ← hm.out] at bd
      rw [← hm.out] at bd2
      have m0 : 0 < m := by omega
      have em : (mInt m xs[i]).2 = m + 1 := rfl
      rw [em] at bd
      have m1 : m + 1 ≤ 4398046511104 := by have := H1.out; omega
      clear hc hz hput bd bd2 g3 em
      go_wp2
      refine ⟨⟨i + 1, m + 1, by omega, Lib.hid ?_, ?_, HW.out.setCell hbm _, by go_num, rfl⟩, by simp [intOf]; omega⟩
      · rw [markK_succ mInt k xs hlt, ← hm.out]; rfl
      · rw [markT_succ mInt k xs hlt, ← hm.out]
        have hF : Foc b (off + i * Rd.n Int) (Rd.n Int) [] wr (wr.setCell ⟨b, off + i, none⟩ (.int .i64 m)) := (Foc.refl _ _ _ _ _).set (by simp [Rd.n]) (by simp [Rd.n]) _
        refine HP.out _ [.int .i64 m] m hF (fun j v hj => ?_) ⟨rfl, rfl, wf_mark m0 (by omega)⟩
        cases j with
        | zero => simp at hj; subst hj; simpa [Rd.n] using cell_setCell_eq z0
        | succ j => simp at hj
    · have hk2 : i = xs.length := by omega
      subst hk2
      have hs2 := HS.out
      rw [markT_all] at hs2
      have hm2 := hm.out
      rw [List.take_length] at hm2
      have HS2 := Lib.hid hs2
      have HM2 := Lib.hid hm2
      clear hs2 hm2 HS hm
      go_wp2
      go_ret
      exact ⟨ret_int HM2.out, HS2.out, HW.out⟩

set_option maxHeartbeats 400000 in
theorem heldIntS_any (fp : List Nat) (u : Value) (xs : List Int) (k : Int) (w : World) (hu : SlR fp w u (markL mInt k xs).1) (h0 : 0 < k) (h1 : (markL mInt k xs).2 ≤ 4398046511104) :
    Calls Try.prog 77 #[u, .int .i64 k] w fun e w' => e = .returned (.int .i64 (markL mInt k xs).2) ∧ Gr w w' := by
  obtain ⟨a, ca, rfl, g1, g2, g3⟩ := hu.open
  have H1 := Lib.hid h1
  clear h1
  rw [markL_len] at g1 g2 hu ⊢
  go_enter Try.func77, Try.ntmps77
  go_wp2
  go_loopw [5, 1] (fun s5 s1 wr => ∃ (i : Nat) (m : Int), i ≤ xs.length ∧ Hid (m = (markL mInt k (xs.take i)).2) ∧ Gr w wr ∧ s5 = .int .i64 i ∧ s1 = .int .i64 m) (fun s5 _ _ => xs.length - (intOf s5).toNat)
  case atStart => exact ⟨0, k, by omega, Lib.hid (by simp [markL]), Gr.refl _, rfl, rfl⟩
  case round =>
    obtain ⟨i, m, hi, hm, ⟨x, rfl⟩, rfl, rfl⟩ := hrel
    by_cases hlt : i < xs.length
    · have hlt' : i < (markL mInt k xs).1.length := by rw [markL_len]; exact hlt
      obtain ⟨b, off, rfl, hb⟩ := g3 i hlt'
      have z0 := (hu.int_at hlt').1
      rw [markL_at mInt k xs hlt, ← hm.out] at z0
      have bd := markL_take mInt mInt_mono k xs (i + 1)
      have bd2 := markL_take mInt mInt_mono k xs i
      rw [markK_succ mInt k xs hlt, ← hm.out] at bd
      rw [← hm.out] at bd2
      have m0 : 0 < m := by omega
      have em : (mInt m xs[i]).2 = m + 1 := rfl
      have em1 : (mInt m xs[i]).1 = m := rfl
      rw [em] at bd
      rw [em1] at z0
      have m1 : m + 1 ≤ 4398046511104 := by have := H1.out; omega
      clear bd bd2 g3 em em1
      go_wp2
      refine ⟨⟨i + 1, m + 1, by omega, Lib.hid ?_, (by repeat (first | exact Gr.refl _ | apply Gr.ext | apply Gr.alloc | apply Gr.drew)), by go_num, rfl⟩, by simp [intOf]; omega⟩
      rw [markK_succ mInt k xs hlt, ← hm.out]; rfl
    · have hk2 : i = xs.length := by omega
      subst hk2
      have hm2 := hm.out
      rw [List.take_length] at hm2
      have HM2 := Lib.hid hm2
      clear hm2 hm
      go_wp2
      go_ret
      exact ⟨ret_int HM2.out, (by repeat (first | exact Gr.refl _ | apply Gr.ext | apply Gr.alloc | apply Gr.drew))⟩

def mIntS (k : Int) (x : List Int) : List Int × Int := markL mInt k x
theorem mIntS_len (k : Int) (x : List Int) : (mIntS k x).1.length = x.length := markL_len _ _ _
theorem mIntS_bd (k : Int) (x : List Int) : k ≤ (mIntS k x).2 ∧ (mIntS k x).2 ≤ k + 16 * x.length := by unfold mIntS; rw [mIntS_eq]; omega
theorem mIntS_mono (k : Int) (x : List Int) : k ≤ (mIntS k x).2 := (mIntS_bd k x).1

end Go.Proofs.Ytmfcagcanhmdbaa