/- Contracts of the functions that measure, compare and copy: Cell, Cell*, Store. Made by mk_fam.py. Contracts on cells and stores: equality, search. Made by mk_store.py. The first element that passes a test. No condition. -/
import Derived.Test.YtmfcagcanhmdbaaH02
import Derived.Test.YtmfcagcanhmdbaaH00
namespace Go.Proofs.Ytmfcagcanhmdbaa
open Go.RowKit

abbrev GCell := ByteArray × Int × List Int
def wtCell (x : GCell) : Nat := x.1.size + x.2.2.length
instance decCell : DecidableEq GCell := @instDecidableEqProd _ _ _ (@instDecidableEqProd _ _ _ (inferInstance))

theorem rdCell_inv {fp : List Nat} {w : World} {cs : Array Value} (q0 : ByteArray) (q1 : Int) (q2 : List Int) (h : Rd.rd (α := GCell) fp w cs.toList (q0, q1, q2)) :
  ∃ vq2 fq2, cs = #[.string q0, .int .i64 q1, vq2] ∧ fp = ([] ++ ([] ++ fq2)) ∧ q0.size ≤ maxLen ∧ (Lit.int .i64 q1).wf = true ∧ SlR fq2 w vq2 q2 := by
 generalize hcs : cs.toList = l at h
 obtain ⟨_, _, _, _, rfl, rfl, ⟨rfl, rfl, hq0⟩, ⟨_, _, _, _, rfl, rfl, ⟨rfl, rfl, hq1⟩, ⟨vq2, rfl, hq2⟩⟩⟩ := h
 exact ⟨_, _, Array.toList_inj.1 (by simpa using hcs), rfl, hq0, hq1, hq2⟩

theorem rdCell_shape {fp : List Nat} {w : World} {cs : Array Value} {x : GCell} (h : Rd.rd (α := GCell) fp w cs.toList x) :
  ∃ q0 q1 aq2 lq2 cq2, cs = #[.string q0, .int .i64 q1, .slice aq2 lq2 cq2] := by
 obtain ⟨q0, q1, q2⟩ := x
 obtain ⟨vq2, fq2, rfl, -, -, -, hq2⟩ := rdCell_inv q0 q1 q2 h
 obtain ⟨aq2, cq2, rfl, -, -, -⟩ := hq2.open
 exact ⟨_, _, _, _, _, rfl⟩

theorem rdCell_mk {w : World} (q0 : ByteArray) (q1 : Int) (q2 : List Int) {vq2 : Value} {fq2 : List Nat} (hq0 : q0.size ≤ maxLen) (hq1 : (Lit.int .i64 q1).wf = true) (hq2 : SlR fq2 w vq2 q2) :
  Rd.rd (α := GCell) (([] ++ ([] ++ fq2))) w [.string q0, .int .i64 q1, vq2] (q0, q1, q2) := ⟨_, _, _, _, rfl, rfl, ⟨rfl, rfl, hq0⟩, ⟨_, _, _, _, rfl, rfl, ⟨rfl, rfl, hq1⟩, ⟨_, rfl, hq2⟩⟩⟩

theorem Cell_ext (q0 : ByteArray) (q1 : Int) (q2 : List Int) (p0 : ByteArray) (p1 : Int) (p2 : List Int) (e0 : q0 = p0) (e1 : q1 = p1) (e2 : q2 = p2) : ((q0, q1, q2) : GCell) = (p0, p1, p2) := by
 exact Prod.ext_iff.2 ⟨e0, Prod.ext_iff.2 ⟨e1, e2⟩⟩

def wtCellS (xs : List GCell) : Nat := wtL wtCell xs

theorem Try.infoCell : (Try.prog.info? 78).map (fun i => (i.zero, i.size, i.bytes)) = some (some (.agg #[.string ByteArray.empty, .int .i64 0, .slice none 0 0]), 3, 48) := by kernel_rfl

abbrev GStore := List GCell
def wtStore (x : GStore) : Nat := wtCellS x

theorem rdStore_inv {fp : List Nat} {w : World} {cs : Array Value} (q0 : List GCell) (h : Rd.rd (α := GStore) fp w cs.toList q0) :
  ∃ vq0 fq0, cs = #[vq0] ∧ fp = fq0 ∧ SlR fq0 w vq0 q0 := by
 generalize hcs : cs.toList = l at h
 obtain ⟨vq0, rfl, hq0⟩ := h
 exact ⟨_, _, Array.toList_inj.1 (by simpa using hcs), rfl, hq0⟩

theorem rdStore_mk {w : World} (q0 : List GCell) {vq0 : Value} {fq0 : List Nat} (hq0 : SlR fq0 w vq0 q0) :
  Rd.rd (α := GStore) (fq0) w [vq0] q0 := ⟨_, rfl, hq0⟩

end Go.Proofs.Ytmfcagcanhmdbaa

namespace Go.Proofs.Ytmfcagcanhmdbaa
open Go.RowKit

set_option maxHeartbeats 1000000 in
theorem specSameCell_any (fp fq : List Nat) (cs ds : Array Value) (x y : GCell) (w : World) (hx : Rd.rd fp w cs.toList x) (hy : Rd.rd fq w ds.toList y) :
  Calls Try.prog 87 #[.agg cs, .agg ds] w fun e w' => e = .returned (.bool (decide (x = y))) ∧ Gr w w' := by
 obtain ⟨q0, q1, q2⟩ := x
 obtain ⟨p0, p1, p2⟩ := y
 obtain ⟨vq2, fq2, rfl, -, -, -, hq2⟩ := rdCell_inv q0 q1 q2 hx
 obtain ⟨vp2, fp2, rfl, -, -, -, hp2⟩ := rdCell_inv p0 p1 p2 hy
 clear hx hy
 go_enter Try.func87, Try.ntmps87
 go_wp2_with fail
 ·have t0 : q0.toList = p0.toList := by assumption
  have t1 : q1 = p1 := by assumption
  have T0 := Lib.hid (str_inj t0)
  have T1 := Lib.hid t1
  refine (l1Ints_any fq2 fp2 _ _ q2 p2 _ (hq2.gr gd) (hp2.gr gd)).mono ?_
  rintro e w5 ⟨rfl, x5, rfl⟩
  by_cases e5 : q2 = p2
  ·rw [decide_eq_true e5]
   have E5 := Lib.hid e5
   clear e5
   go_wp2_with fail
   go_ret
   refine ⟨ret_bool ?_, gd⟩
   symm
   rw [decide_eq_true_eq]
   exact Cell_ext q0 q1 q2 p0 p1 p2 T0.out T1.out E5.out
  ·rw [decide_eq_false e5]
   have E5 := Lib.hid e5
   clear e5
   go_wp2_with fail
   go_ret
   refine ⟨ret_bool ?_, gd⟩
   symm
   rw [decide_eq_false_iff_not]
   exact fun e => E5.out (congrArg (fun z : GCell => z.2.2) e)
 all_goals
  go_ret
  refine ⟨ret_bool ?_, gd⟩
  symm
  rw [decide_eq_false_iff_not]
  intro e
  have ea := congrArg ByteArray.toList (congrArg (fun z : GCell => z.1) e)
  have eb := congrArg (fun z : GCell => z.2.1) e
  first
   | exact absurd ea (by assumption)
   | exact absurd eb (by assumption)

set_option maxHeartbeats 1000000 in
theorem implSameCell_any (fp fq : List Nat) (cs ds : Array Value) (x y : GCell) (w : World) (hx : Rd.rd fp w cs.toList x) (hy : Rd.rd fq w ds.toList y) :
  Calls Try.prog 85 #[.agg cs, .agg ds] w fun e w' => e = .returned (.bool (decide (x = y))) ∧ Gr w w' := by
 obtain ⟨q0, q1, q2⟩ := x
 obtain ⟨p0, p1, p2⟩ := y
 obtain ⟨vq2, fq2, rfl, -, -, -, hq2⟩ := rdCell_inv q0 q1 q2 hx
 obtain ⟨vp2, fp2, rfl, -, -, -, hp2⟩ := rdCell_inv p0 p1 p2 hy
 clear hx hy
 go_enter Try.func85, Try.ntmps85
 go_wp2_with fail
 ·have t0 : q0.toList = p0.toList := by assumption
  have t1 : q1 = p1 := by assumption
  have T0 := Lib.hid (str_inj t0)
  have T1 := Lib.hid t1
  refine (slicesEqualI_any fq2 fp2 _ _ q2 p2 _ (hq2.gr gd) (hp2.gr gd)).mono ?_
  rintro e w5 ⟨rfl, x5, rfl⟩
  by_cases e5 : q2 = p2
  ·rw [decide_eq_true e5]
   have E5 := Lib.hid e5
   clear e5
   go_wp2_with fail
   go_ret
   refine ⟨ret_bool ?_, gd⟩
   symm
   rw [decide_eq_true_eq]
   exact Cell_ext q0 q1 q2 p0 p1 p2 T0.out T1.out E5.out
  ·rw [decide_eq_false e5]
   have E5 := Lib.hid e5
   clear e5
   go_wp2_with fail
   go_ret
   refine ⟨ret_bool ?_, gd⟩
   symm
   rw [decide_eq_false_iff_not]
   exact fun e => E5.out (congrArg (fun z : GCell => z.2.2) e)
 all_goals
  go_ret
  refine ⟨ret_bool ?_, gd⟩
  symm
  rw [decide_eq_false_iff_not]
  intro e
  have ea := congrArg ByteArray.toList (congrArg (fun z : GCell => z.1) e)
  have eb := congrArg (fun z : GCell => z.2.1) e
  first
   | exact absurd ea (by assumption)
   | exact absurd eb (by assumption)

structure TestC (w : World) (fid : Nat) (cap : Array Value) (p : GCell → Bool) (xs : List GCell) : Prop where
 fn : ∀ args W, (callFunc fid args).run Try.prog W = .ok (.enter fid args) W
 calls : ∀ y ∈ xs, ∀ (x : Ext) (fp : List Nat) (cs : Array Value), Rd.rd fp (w.ext x) cs.toList y → Calls Try.prog fid (#[.agg cs] ++ cap) (w.ext x) fun e w' => e = .returned (.bool (p y)) ∧ Gr (w.ext x) w'

set_option maxHeartbeats 1000000 in
theorem slicesIndexFuncC_any (fp : List Nat) (u : Value) (xs : List GCell) (fid : Nat) (cap : Array Value) (p : GCell → Bool) (w : World) (hu : SlR fp w u xs) (hf : TestC w fid cap p xs) :
  Calls Try.prog 83 #[u, .func (.func fid) #[] cap] w fun e w' => e = .returned (.int .i64 (idxOf p xs)) ∧ Gr w w' := by
 obtain ⟨a, ca, rfl, h1, h2, h3⟩ := hu.open
 obtain ⟨hfn, hcalls⟩ := hf
 have HC := Lib.hid hcalls
 clear hcalls
 go_enter Try.func83, Try.ntmps83
 go_wp2
 go_loopw [8, 5] (fun s8 s5 wr => ∃ k : Nat, k ≤ xs.length ∧ (∀ j (h : j < xs.length), j < k → p xs[j] = false) ∧ Gr w wr ∧ s8 = .int .i64 k) (fun s8 s5 _ => xs.length - (intOf s8).toNat)
 case atStart => exact ⟨0, by omega, by omega, Gr.refl w, rfl⟩
 case round =>
  obtain ⟨k, hk, ht, ⟨x, rfl⟩, rfl⟩ := hrel
  have hT := Lib.hid ht
  clear ht
  by_cases hlt : k < xs.length
  ·obtain ⟨b, off, rfl, hb⟩ := h3 k hlt
   obtain ⟨csq, feq, hcq, hrq, -⟩ := hu.at hlt
   have hrdq := hrq
   generalize xs[k] = yq at hrq
   obtain ⟨q0, q1, q2⟩ := yq
   obtain ⟨vq2, fq2, hcsq, -, hq0, hq1, hq2⟩ := rdCell_inv (cs := csq.toArray) q0 q1 q2 (by simpa using hrq)
   obtain rfl : csq = [.string q0, .int .i64 q1, vq2] := by have := congrArg Array.toList hcsq; simpa using this
   have z0 : w.cell? ⟨b, off + k * 3, none⟩ = some (.string q0) := by simpa [Rd.n] using hcq 0 _ rfl
   have z1 : w.cell? ⟨b, off + k * 3 + 1, none⟩ = some (.int .i64 q1) := hcq 1 _ rfl
   have z2 : w.cell? ⟨b, off + k * 3 + 2, none⟩ = some (vq2) := hcq 2 _ rfl
   clear h3 hcsq hcq hrq
   go_wp2_with fail
   refine (HC.out _ (List.getElem_mem hlt) _ _ _ (Rd.gr hrdq gd)).mono ?_
   rintro e w2 ⟨rfl, x2, rfl⟩
   go_wp2
   ·have hx : p xs[k] = true := by assumption
    go_ret
    exact ⟨ret_int (idxOf_at hlt hx hT.out).symm, gd⟩
   ·have hx : p xs[k] = false := by assumption
    refine ⟨⟨k + 1, by omega, fun j hj hjk => ?_, gd, by go_num⟩, by simp [intOf]; omega⟩
    by_cases hjk' : j < k
    ·exact hT.out j hj hjk'
    ·obtain rfl : j = k := by omega
     exact hx
  ·go_wp2
   go_ret
   exact ⟨ret_int (idxOf_none fun j hj => hT.out j hj (by omega)).symm, gd⟩

set_option maxHeartbeats 1000000 in
theorem l39Find_any (fp fq : List Nat) (cs ds : Array Value) (xs : List GCell) (y : GCell) (w : World) (hx : Rd.rd fp w cs.toList xs) (hy : Rd.rd fq w ds.toList y) :
  Calls Try.prog 63 #[.agg cs, .agg ds] w fun e w' => e = .returned (.int .i64 (idxOf (fun z => decide (z = y)) xs)) ∧ Gr w w' := by
 obtain ⟨v, f, rfl, -, hu⟩ := rdStore_inv xs hx
 have hry := hy
 obtain ⟨d0, d1, a2, l2, d2, rfl⟩ := rdCell_shape hy
 obtain ⟨a, ca, rfl, h1, h2, h3⟩ := hu.open
 clear hx hy
 go_enter Try.func63, Try.ntmps63
 go_wp2
 go_loopw [5] (fun s5 wr => ∃ k : Nat, ∃ x, k ≤ xs.length ∧ (∀ j (h : j < xs.length), j < k → decide (xs[j] = y) = false) ∧ wr = ((w.alloc (.cells #[.slice a xs.length ca] 32)).alloc (.cells #[.string d0, .int .i64 d1, .slice a2 l2 d2] 78)).ext x ∧ s5 = .int .i64 k) (fun s5 _ => xs.length - (intOf s5).toNat)
 case atStart => exact ⟨0, ⟨#[], 0⟩, by omega, by omega, (ext_zero _).symm, rfl⟩
 case round =>
  obtain ⟨k, x, hk, ht, rfl, rfl⟩ := hrel
  have hT := Lib.hid ht
  clear ht
  by_cases hlt : k < xs.length
  ·obtain ⟨b, off, rfl, hb⟩ := h3 k hlt
   obtain ⟨csq, feq, hcq, hrq, -⟩ := hu.at hlt
   have hrdq := hrq
   generalize xs[k] = yq at hrq
   obtain ⟨q0, q1, q2⟩ := yq
   obtain ⟨vq2, fq2, hcsq, -, hq0, hq1, hq2⟩ := rdCell_inv (cs := csq.toArray) q0 q1 q2 (by simpa using hrq)
   obtain rfl : csq = [.string q0, .int .i64 q1, vq2] := by have := congrArg Array.toList hcsq; simpa using this
   have z0 : w.cell? ⟨b, off + k * 3, none⟩ = some (.string q0) := by simpa [Rd.n] using hcq 0 _ rfl
   have z1 : w.cell? ⟨b, off + k * 3 + 1, none⟩ = some (.int .i64 q1) := hcq 1 _ rfl
   have z2 : w.cell? ⟨b, off + k * 3 + 2, none⟩ = some (vq2) := hcq 2 _ rfl
   clear h3 hcsq hcq hrq
   go_wp2_with fail
   refine wp_region_grown (by kernel_rfl) (by kernel_rfl) ?_
   repeat (go_big_quiet_step ((go_at_call 87; refine grown_call (specSameCell_any _ _ _ _ xs[k] y _ (Rd.gr hrdq ?_) (Rd.gr hry ?_)) <;> exact gd)))
   refine wpQuiet_nil ?_
   intro _ hw'
   obtain ⟨nx, hw''⟩ := hw'
   subst hw''
   go_wp2
   ·have hx : xs[k] = y := by assumption
    go_ret
    refine ⟨ret_int (idxOf_at hlt (decide_eq_true hx) hT.out).symm, gd⟩
   ·have hx : ¬ xs[k] = y := by assumption
    refine ⟨⟨k + 1, x.comp nx, by omega, fun j hj hjk => ?_, ext_ext _ _ _, by go_num⟩, by simp [intOf]; omega⟩
    by_cases hjk' : j < k
    ·exact hT.out j hj hjk'
    ·obtain rfl : j = k := by omega
     exact decide_eq_false hx
  ·go_wp2
   go_ret
   exact ⟨ret_int (idxOf_none fun j hj => hT.out j hj (by omega)).symm, gd⟩
end Go.Proofs.Ytmfcagcanhmdbaa

namespace Go.Proofs.Ytmfcagcanhmdbaa
open Go.RowKit

theorem find_at {α : Type} {p : α → Bool} {xs : List α} {k : Nat} (hk : k < xs.length) (hp : p xs[k] = true) (h : ∀ j (h : j < xs.length), j < k → p xs[j] = false) : xs.find? p = some xs[k] := by
 induction xs generalizing k with
 | nil => simp at hk
 | cons x xs ih =>
  cases k with
  | zero => simp at hp; simp [hp]
  | succ k =>
   have h0 := h 0 (by simp) (by omega)
   simp at h0
   have := ih (k := k) (by simpa using hk) (by simpa using hp) (fun j hj hjk => by
    have h1 := h (j + 1) (by simp; omega) (by omega)
    rwa [List.getElem_cons_succ] at h1)
   simp [h0, this]

theorem find_none {α : Type} {p : α → Bool} {xs : List α} (h : ∀ j (h : j < xs.length), p xs[j] = false) : xs.find? p = none := by
 rw [List.find?_eq_none]
 intro x hx
 obtain ⟨j, hj, rfl⟩ := List.mem_iff_getElem.1 hx
 simp [h j hj]

theorem SlR.takeK {α : Type} [Rd α] {fp : List Nat} {w : World} {a : Option Addr} {len cap : Nat} {xs : List α} (h : SlR fp w (.slice a len cap) xs) {k : Nat} (hk : k ≤ xs.length) : ∃ fq, SlR fq w (.slice a k cap) (xs.take k) := by
 obtain ⟨a', cap', hv, h1, h2, h3⟩ := h
 injection hv with e1 e2 e3
 subst e1 e3
 have hl : (xs.take k).length = k := by simp; omega
 by_cases h0 : k = 0
 ·subst h0
  exact ⟨[], a, cap, by simp, by simp, by simp, .inl ⟨by simp, rfl⟩⟩
 ·rcases h3 with ⟨rfl, _⟩ | ⟨b, off, fps, hne, rfl, _, hlen, hfr, hx⟩
  ·simp at hk; omega
  ·refine ⟨b :: (fps.take k).flatten, some ⟨b, off, none⟩, cap, by rw [hl], by rw [hl]; omega, by rw [hl]; omega, .inr ⟨b, off, fps.take k, fun e => by rw [e] at hl; simp at hl; omega, rfl, rfl, by simp; omega, fun j hj => hfr j (Nat.lt_of_lt_of_le hj (Nat.mul_le_mul_right _ (by omega))), fun i hi hi' => ?_⟩⟩
   have hik : i < k := by omega
   obtain ⟨cs, hc, hr⟩ := hx i (by omega) (by omega)
   exact ⟨cs, hc, by simpa using hr⟩

end Go.Proofs.Ytmfcagcanhmdbaa
