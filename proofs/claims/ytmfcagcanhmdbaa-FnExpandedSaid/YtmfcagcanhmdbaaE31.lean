/- Contracts on cells and stores: equality, search. Made by mk_store.py. IsValidStore of the program and of the reference. The tree of a cell, plainly: its nodes in preorder, their number, their joining. No condition. -/
import Derived.Test.YtmfcagcanhmdbaaE23
import Derived.Test.YtmfcagcanhmdbaaE11
import Derived.Test.YtmfcagcanhmdbaaE08
namespace Go.Proofs.Ytmfcagcanhmdbaa
open Go.RowKit

set_option maxHeartbeats 1000000 in
theorem specSameCell_any (fp fq : List Nat) (cs ds : Array Value) (x y : GCell) (w : World) (hx : Rd.rd fp w cs.toList x) (hy : Rd.rd fq w ds.toList y) :
  Calls Try.prog 87 #[.agg cs, .agg ds] w fun e w' => e = .returned (.bool (decide (x = y))) ∧ Gr w w' := by
 obtain ⟨q0, q1, q2⟩ := x
 obtain ⟨p0, p1, p2⟩ := y
 obtain ⟨vq2, fq2, rfl, -, -, -, hq2⟩ := rdCell_inv q0 q1 q2 hx
 obtain ⟨vp2, fp2, rfl, -, -, -, hp2⟩ := rdCell_inv p0 p1 p2 hy
 clear hx hy
 go_enter Try.func87, Try.ntmps87
 go_wp2_with fail
 ·have t0 : q0.toList = p0.toList := by assumption
  have t1 : q1 = p1 := by assumption
  have T0 := Lib.hid (str_inj t0)
  have T1 := Lib.hid t1
  refine (l1Ints_any fq2 fp2 _ _ q2 p2 _ (hq2.gr gd) (hp2.gr gd)).mono ?_
  rintro e w5 ⟨rfl, x5, rfl⟩
  by_cases e5 : q2 = p2
  ·rw [decide_eq_true e5]
   have E5 := Lib.hid e5
   clear e5
   go_wp2_with fail
   go_ret
   refine ⟨ret_bool ?_, gd⟩
   symm
   rw [decide_eq_true_eq]
   exact Cell_ext q0 q1 q2 p0 p1 p2 T0.out T1.out E5.out
  ·rw [decide_eq_false e5]
   have E5 := Lib.hid e5
   clear e5
   go_wp2_with fail
   go_ret
   refine ⟨ret_bool ?_, gd⟩
   symm
   rw [decide_eq_false_iff_not]
   exact fun e => E5.out (congrArg (fun z : GCell => z.2.2) e)
 all_goals
  go_ret
  refine ⟨ret_bool ?_, gd⟩
  symm
  rw [decide_eq_false_iff_not]
  intro e
  have ea := congrArg ByteArray.toList (congrArg (fun z : GCell => z.1) e)
  have eb := congrArg (fun z : GCell => z.2.1) e
  first
   | exact absurd ea (by assumption)
   | exact absurd eb (by assumption)

set_option maxHeartbeats 1000000 in
theorem implSameCell_any (fp fq : List Nat) (cs ds : Array Value) (x y : GCell) (w : World) (hx : Rd.rd fp w cs.toList x) (hy : Rd.rd fq w ds.toList y) :
  Calls Try.prog 85 #[.agg cs, .agg ds] w fun e w' => e = .returned (.bool (decide (x = y))) ∧ Gr w w' := by
 obtain ⟨q0, q1, q2⟩ := x
 obtain ⟨p0, p1, p2⟩ := y
 obtain ⟨vq2, fq2, rfl, -, -, -, hq2⟩ := rdCell_inv q0 q1 q2 hx
 obtain ⟨vp2, fp2, rfl, -, -, -, hp2⟩ := rdCell_inv p0 p1 p2 hy
 clear hx hy
 go_enter Try.func85, Try.ntmps85
 go_wp2_with fail
 ·have t0 : q0.toList = p0.toList := by assumption
  have t1 : q1 = p1 := by assumption
  have T0 := Lib.hid (str_inj t0)
  have T1 := Lib.hid t1
  refine (slicesEqualI_any fq2 fp2 _ _ q2 p2 _ (hq2.gr gd) (hp2.gr gd)).mono ?_
  rintro e w5 ⟨rfl, x5, rfl⟩
  by_cases e5 : q2 = p2
  ·rw [decide_eq_true e5]
   have E5 := Lib.hid e5
   clear e5
   go_wp2_with fail
   go_ret
   refine ⟨ret_bool ?_, gd⟩
   symm
   rw [decide_eq_true_eq]
   exact Cell_ext q0 q1 q2 p0 p1 p2 T0.out T1.out E5.out
  ·rw [decide_eq_false e5]
   have E5 := Lib.hid e5
   clear e5
   go_wp2_with fail
   go_ret
   refine ⟨ret_bool ?_, gd⟩
   symm
   rw [decide_eq_false_iff_not]
   exact fun e => E5.out (congrArg (fun z : GCell => z.2.2) e)
 all_goals
  go_ret
  refine ⟨ret_bool ?_, gd⟩
  symm
  rw [decide_eq_false_iff_not]
  intro e
  have ea := congrArg ByteArray.toList (congrArg (fun z : GCell => z.1) e)
  have eb := congrArg (fun z : GCell => z.2.1) e
  first
   | exact absurd ea (by assumption)
   | exact absurd eb (by assumption)

structure TestC (w : World) (fid : Nat) (cap : Array Value) (p : GCell → Bool) (xs : List GCell) : Prop where
 fn : ∀ args W, (callFunc fid args).run Try.prog W = .ok (.enter fid args) W
 calls : ∀ y ∈ xs, ∀ (x : Ext) (fp : List Nat) (cs : Array Value), Rd.rd fp (w.ext x) cs.toList y → Calls Try.prog fid (#[.agg cs] ++ cap) (w.ext x) fun e w' => e = .returned (.bool (p y)) ∧ Gr (w.ext x) w'

set_option maxHeartbeats 1000000 in
theorem slicesIndexFuncC_any (fp : List Nat) (u : Value) (xs : List GCell) (fid : Nat) (cap : Array Value) (p : GCell → Bool) (w : World) (hu : SlR fp w u xs) (hf : TestC w fid cap p xs) :
  Calls Try.prog 83 #[u, .func (.func fid) #[] cap] w fun e w' => e = .returned (.int .i64 (idxOf p xs)) ∧ Gr w w' := by
 obtain ⟨a, ca, rfl, h1, h2, h3⟩ := hu.open
 obtain ⟨hfn, hcalls⟩ := hf
 have HC := Lib.hid hcalls
 clear hcalls
 go_enter Try.func83, Try.ntmps83
 go_wp2
 go_loopw [8, 5] (fun s8 s5 wr => ∃ k : Nat, k ≤ xs.length ∧ (∀ j (h : j < xs.length), j < k → p xs[j] = false) ∧ Gr w wr ∧ s8 = .int .i64 k) (fun s8 s5 _ => xs.length - (intOf s8).toNat)
 case atStart => exact ⟨0, by omega, by omega, Gr.refl w, rfl⟩
 case round =>
  obtain ⟨k, hk, ht, ⟨x, rfl⟩, rfl⟩ := hrel
  have hT := Lib.hid ht
  clear ht
  by_cases hlt : k < xs.length
  ·obtain ⟨b, off, rfl, hb⟩ := h3 k hlt
   obtain ⟨csq, feq, hcq, hrq, -⟩ := hu.at hlt
   have hrdq := hrq
   generalize xs[k] = yq at hrq
   obtain ⟨q0, q1, q2⟩ := yq
   obtain ⟨vq2, fq2, hcsq, -, hq0, hq1, hq2⟩ := rdCell_inv (cs := csq.toArray) q0 q1 q2 (by simpa using hrq)
   obtain rfl : csq = [.string q0, .int .i64 q1, vq2] := by have := congrArg Array.toList hcsq; simpa using this
   have z0 : w.cell? ⟨b, off + k * 3, none⟩ = some (.string q0) := by simpa [Rd.n] using hcq 0 _ rfl
   have z1 : w.cell? ⟨b, off + k * 3 + 1, none⟩ = some (.int .i64 q1) := hcq 1 _ rfl
   have z2 : w.cell? ⟨b, off + k * 3 + 2, none⟩ = some (vq2) := hcq 2 _ rfl
   clear h3 hcsq hcq hrq
   go_wp2_with fail
   refine (HC.out _ (List.getElem_mem hlt) _ _ _ (Rd.gr hrdq gd)).mono ?_
   rintro e w2 ⟨rfl, x2, rfl⟩
   go_wp2
   ·have hx : p xs[k] = true := by assumption
    go_ret
    exact ⟨ret_int (idxOf_at hlt hx hT.out).symm, gd⟩
   ·have hx : p xs[k] = false := by assumption
    refine ⟨⟨k + 1, by omega, fun j hj hjk => ?_, gd, by go_num⟩, by simp [intOf]; omega⟩
    by_cases hjk' : j < k
    ·exact hT.out j hj hjk'
    ·obtain rfl : j = k := by omega
     exact hx
  ·go_wp2
   go_ret
   exact ⟨ret_int (idxOf_none fun j hj => hT.out j hj (by omega)).symm, gd⟩

set_option maxHeartbeats 1000000 in
theorem l39Find_any (fp fq : List Nat) (cs ds : Array Value) (xs : List GCell) (y : GCell) (w : World) (hx : Rd.rd fp w cs.toList xs) (hy : Rd.rd fq w ds.toList y) :
  Calls Try.prog 63 #[.agg cs, .agg ds] w fun e w' => e = .returned (.int .i64 (idxOf (fun z => decide (z = y)) xs)) ∧ Gr w w' := by
 obtain ⟨v, f, rfl, -, hu⟩ := rdStore_inv xs hx
 have hry := hy
 obtain ⟨d0, d1, a2, l2, d2, rfl⟩ := rdCell_shape hy
 obtain ⟨a, ca, rfl, h1, h2, h3⟩ := hu.open
 clear hx hy
 go_enter Try.func63, Try.ntmps63
 go_wp2
 go_loopw [5] (fun s5 wr => ∃ k : Nat, ∃ x, k ≤ xs.length ∧ (∀ j (h : j < xs.length), j < k → decide (xs[j] = y) = false) ∧ wr = ((w.alloc (.cells #[.slice a xs.length ca] 32)).alloc (.cells #[.string d0, .int .i64 d1, .slice a2 l2 d2] 78)).ext x ∧ s5 = .int .i64 k) (fun s5 _ => xs.length - (intOf s5).toNat)
 case atStart => exact ⟨0, ⟨#[], 0⟩, by omega, by omega, (ext_zero _).symm, rfl⟩
 case round =>
  obtain ⟨k, x, hk, ht, rfl, rfl⟩ := hrel
  have hT := Lib.hid ht
  clear ht
  by_cases hlt : k < xs.length
  ·obtain ⟨b, off, rfl, hb⟩ := h3 k hlt
   obtain ⟨csq, feq, hcq, hrq, -⟩ := hu.at hlt
   have hrdq := hrq
   generalize xs[k] = yq at hrq
   obtain ⟨q0, q1, q2⟩ := yq
   obtain ⟨vq2, fq2, hcsq, -, hq0, hq1, hq2⟩ := rdCell_inv (cs := csq.toArray) q0 q1 q2 (by simpa using hrq)
   obtain rfl : csq = [.string q0, .int .i64 q1, vq2] := by have := congrArg Array.toList hcsq; simpa using this
   have z0 : w.cell? ⟨b, off + k * 3, none⟩ = some (.string q0) := by simpa [Rd.n] using hcq 0 _ rfl
   have z1 : w.cell? ⟨b, off + k * 3 + 1, none⟩ = some (.int .i64 q1) := hcq 1 _ rfl
   have z2 : w.cell? ⟨b, off + k * 3 + 2, none⟩ = some (vq2) := hcq 2 _ rfl
   clear h3 hcsq hcq hrq
   go_wp2_with fail
   refine wp_region_grown (by kernel_rfl) (by kernel_rfl) ?_
   repeat (go_big_quiet_step ((go_at_call 87; refine grown_call (specSameCell_any _ _ _ _ xs[k] y _ (Rd.gr hrdq ?_) (Rd.gr hry ?_)) <;> exact gd)))
   refine wpQuiet_nil ?_
   intro _ hw'
   obtain ⟨nx, hw''⟩ := hw'
   subst hw''
   go_wp2
   ·have hx : xs[k] = y := by assumption
    go_ret
    refine ⟨ret_int (idxOf_at hlt (decide_eq_true hx) hT.out).symm, gd⟩
   ·have hx : ¬ xs[k] = y := by assumption
    refine ⟨⟨k + 1, x.comp nx, by omega, fun j hj hjk => ?_, ext_ext _ _ _, by go_num⟩, by simp [intOf]; omega⟩
    by_cases hjk' : j < k
    ·exact hT.out j hj hjk'
    ·obtain rfl : j = k := by omega
     exact decide_eq_false hx
  ·go_wp2
   go_ret
   exact ⟨ret_int (idxOf_none fun j hj => hT.out j hj (by omega)).symm, gd⟩
end Go.Proofs.Ytmfcagcanhmdbaa

namespace Go.Proofs.Ytmfcagcanhmdbaa
open Go.RowKit

def ValidStore (xs : List GCell) : Prop := ∀ i (h : i < xs.length), (∀ j (hj : j < xs.length), j < i → xs[j] ≠ xs[i]) ∧ ∀ c ∈ xs[i].2.2, 0 ≤ c ∧ c ≤ (i : Int) - 1

noncomputable def validB (xs : List GCell) : Bool := @decide (ValidStore xs) (Classical.propDecidable _)

theorem validB_true {xs : List GCell} (h : ValidStore xs) : validB xs = true := by unfold validB; exact @decide_eq_true _ (Classical.propDecidable _) h
theorem validB_false {xs : List GCell} (h : ¬ ValidStore xs) : validB xs = false := by unfold validB; exact @decide_eq_false _ (Classical.propDecidable _) h
theorem validB_iff {xs : List GCell} : validB xs = true ↔ ValidStore xs := by
 unfold validB; exact @decide_eq_true_iff _ (Classical.propDecidable _)

theorem idxOf_self {xs : List GCell} {i : Nat} (h : i < xs.length) : idxOf (fun z => decide (z = xs[i])) xs = i ↔ ∀ j (hj : j < xs.length), j < i → xs[j] ≠ xs[i] := by
 constructor
 ·intro he j hj hji e
  have h1 : ∃ m, ∃ hm : m < xs.length, m ≤ j ∧ xs[m] = xs[i] ∧ ∀ l (hl : l < xs.length), l < m → xs[l] ≠ xs[i] := by
   have : ∀ n, ∀ j (hj : j < xs.length), j ≤ n → xs[j] = xs[i] → ∃ m, ∃ hm : m < xs.length, m ≤ j ∧ xs[m] = xs[i] ∧ ∀ l (hl : l < xs.length), l < m → xs[l] ≠ xs[i] := by
    intro n
    induction n with
    | zero => intro j hj hj0 e; exact ⟨j, hj, Nat.le_refl _, e, fun l hl hlm => by omega⟩
    | succ n ih =>
     intro j hj hjn e
     by_cases hex : ∃ l, ∃ hl : l < xs.length, l < j ∧ xs[l] = xs[i]
     ·obtain ⟨l, hl, hlj, hle⟩ := hex
      obtain ⟨m, hm, hml, hme, hmn⟩ := ih l hl (by omega) hle
      exact ⟨m, hm, by omega, hme, hmn⟩
     ·exact ⟨j, hj, Nat.le_refl _, e, fun l hl hlj hle => hex ⟨l, hl, hlj, hle⟩⟩
   exact this j j hj (Nat.le_refl _) e
  obtain ⟨m, hm, hmj, hme, hmn⟩ := h1
  have := idxOf_at (p := fun z => decide (z = xs[i])) hm (decide_eq_true hme) (fun l hl hlm => decide_eq_false (hmn l hl hlm))
  omega
 ·intro hn
  exact idxOf_at h (decide_eq_true rfl) (fun j hj hji => decide_eq_false (hn j hj hji))

set_option maxHeartbeats 2000000 in
theorem specValid_any (fp : List Nat) (cs : Array Value) (xs : List GCell) (w : World) (hx : Rd.rd fp w cs.toList xs) :
  Calls Try.prog 23 #[.agg cs] w fun e w' => e = .returned (.bool (validB xs)) ∧ Gr w w' := by
 have hrx := hx
 obtain ⟨v, f, rfl, -, hu⟩ := rdStore_inv xs hx
 obtain ⟨a, ca, rfl, h1, h2, h3⟩ := hu.open
 clear hx
 go_enter Try.func23, Try.ntmps23
 go_wp2
 go_loopw [3, 4] (fun s3 s4 wr => ∃ k : Nat, ∃ x, k ≤ xs.length ∧ (∀ i (h : i < xs.length), i < k → (∀ j (hj : j < xs.length), j < i → xs[j] ≠ xs[i]) ∧ ∀ c ∈ xs[i].2.2, 0 ≤ c ∧ c ≤ (i : Int) - 1) ∧ wr = (w.alloc (.cells #[.slice a xs.length ca] 32)).ext x ∧ s3 = .int .i64 k) (fun s3 s4 _ => xs.length - (intOf s3).toNat)
 case atStart => exact ⟨0, ⟨#[], 0⟩, by omega, by omega, (ext_zero _).symm, rfl⟩
 case round =>
  obtain ⟨k, x, hk, ht, rfl, rfl⟩ := hrel
  have hT := Lib.hid ht
  clear ht
  by_cases hlt : k < xs.length
  ·obtain ⟨b, off, rfl, hb⟩ := h3 k hlt
   obtain ⟨csq, feq, hcq, hrq, -⟩ := hu.at hlt
   have hrdq := hrq
   generalize hyq : xs[k] = yq at hrq
   obtain ⟨q0, q1, q2⟩ := yq
   obtain ⟨vq2, fq2, hcsq, -, hq0, hq1, hq2⟩ := rdCell_inv (cs := csq.toArray) q0 q1 q2 (by simpa using hrq)
   obtain rfl : csq = [.string q0, .int .i64 q1, vq2] := by have := congrArg Array.toList hcsq; simpa using this
   have z0 : w.cell? ⟨b, off + k * 3, none⟩ = some (.string q0) := by simpa [Rd.n] using hcq 0 _ rfl
   have z1 : w.cell? ⟨b, off + k * 3 + 1, none⟩ = some (.int .i64 q1) := hcq 1 _ rfl
   have z2 : w.cell? ⟨b, off + k * 3 + 2, none⟩ = some vq2 := hcq 2 _ rfl
   obtain ⟨aq, cq, rfl, k1, k2, k3⟩ := hq2.open
   have HY := Lib.hid hyq
   clear h3 hcsq hcq hrq hyq
   by_cases hfirst : idxOf (fun z => decide (z = xs[k])) xs = k
   ·have hF := Lib.hid hfirst
    have hne : ((idxOf (fun z => decide (z = xs[k])) xs) != (k : Int)) = false := by simp [hfirst]
    clear hfirst
    go_wp2_with fail
    refine wp_region_grown (by kernel_rfl) (by kernel_rfl) ?_
    repeat (go_big_quiet_step ((go_at_call 63; refine grown_call (l39Find_any _ _ _ _ xs xs[k] _ (Rd.gr hrx ?_) (Rd.gr hrdq ?_)) <;> exact gd)))
    refine wpQuiet_nil ?_
    intro _ hw'
    obtain ⟨nx, hw''⟩ := hw'
    subst hw''
    go_wp2_with fail
    go_loopw [4] (fun s4 wr => ∃ j : Nat, ∃ y, j ≤ q2.length ∧ (∀ i (h : i < q2.length), i < j → 0 ≤ q2[i] ∧ q2[i] ≤ (k : Int) - 1) ∧ wr = (w.alloc (.cells #[.slice (some ⟨b, off, none⟩) xs.length ca] 32)).ext y ∧ s4 = .int .i64 j) (fun s4 _ => q2.length - (intOf s4).toNat)
    case atStart => exact ⟨0, x.comp nx, by omega, by omega, ext_ext _ _ _, rfl⟩
    case round =>
     obtain ⟨j, y, hj, ht, rfl, rfl⟩ := hrel
     have hT2 := Lib.hid ht
     clear ht
     by_cases hjl : j < q2.length
     ·obtain ⟨bq, oq, rfl, hbq⟩ := k3 j hjl
      have x3 := (hq2.int_at hjl).1
      clear k3
      by_cases hin : 0 ≤ q2[j] ∧ q2[j] ≤ (k : Int) - 1
      ·have HI := Lib.hid hin
       clear hin
       go_wp2_with (go_at_call 31; refine (l1In_yes _ _ _ _ HI.out.1 HI.out.2).mono ?_; rintro e w' ⟨rfl, x4, rfl⟩)
       refine ⟨⟨j + 1, y.comp x4, by omega, fun i hi hij => ?_, ext_ext _ _ _, by go_num⟩, by simp [intOf]; omega⟩
       by_cases hij' : i < j
       ·exact hT2.out i hi hij'
       ·obtain rfl : i = j := by omega
        exact HI.out
      ·have hor : q2[j] < 0 ∨ (k : Int) - 1 < q2[j] := by omega
       have HI := Lib.hid hor
       have HN := Lib.hid hin
       clear hin hor
       go_wp2_with (go_at_call 31; refine (l1In_no _ _ _ _ HI.out).mono ?_; rintro e w' ⟨rfl, x4, rfl⟩)
       go_ret
       refine ⟨ret_bool (validB_false fun hv => HN.out ?_).symm, gd⟩
       have := (hv k hlt).2
       rw [HY.out] at this
       exact this _ (List.getElem_mem hjl)
     ·go_wp2
      refine ⟨⟨k + 1, y, by omega, fun i hi hik => ?_, rfl, by go_num⟩, by simp [intOf]; omega⟩
      by_cases hik' : i < k
      ·exact hT.out i hi hik'
      ·obtain rfl : i = k := by omega
       refine ⟨idxOf_self hlt |>.1 hF.out, fun c hc => ?_⟩
       rw [HY.out] at hc
       obtain ⟨m, hm, rfl⟩ := List.mem_iff_getElem.1 hc
       have hm2 : m < q2.length := hm
       exact hT2.out m hm2 (by omega)
   ·have hF := Lib.hid hfirst
    have hne : ((idxOf (fun z => decide (z = xs[k])) xs) != (k : Int)) = true := by simpa using hfirst
    clear hfirst
    go_wp2_with fail
    refine wp_region_grown (by kernel_rfl) (by kernel_rfl) ?_
    repeat (go_big_quiet_step ((go_at_call 63; refine grown_call (l39Find_any _ _ _ _ xs xs[k] _ (Rd.gr hrx ?_) (Rd.gr hrdq ?_)) <;> exact gd)))
    refine wpQuiet_nil ?_
    intro _ hw'
    obtain ⟨nx, hw''⟩ := hw'
    subst hw''
    go_wp2_with fail
    go_ret
    exact ⟨ret_bool (validB_false fun hv => hF.out (idxOf_self hlt |>.2 (hv k hlt).1)).symm, gd⟩
  ·go_wp2
   go_ret
   exact ⟨ret_bool (validB_true fun i hi => hT.out i hi (by omega)).symm, gd⟩

set_option maxHeartbeats 1000000 in
theorem cellTest_any (fp fq : List Nat) (cs : Array Value) (x y : GCell) (b : Nat) (d0 : ByteArray) (d1 : Int) (a2 : Option Addr) (l2 d2 : Nat) (w : World) (hx : Rd.rd fp w cs.toList x)
  (hy : Rd.rd fq w [.string d0, .int .i64 d1, .slice a2 l2 d2] y) (c0 : w.cell? ⟨b, 0, none⟩ = some (.string d0)) (c1 : w.cell? ⟨b, 1, none⟩ = some (.int .i64 d1)) (c2 : w.cell? ⟨b, 2, none⟩ = some (.slice a2 l2 d2)) :
  Calls Try.prog 84 #[.agg cs, .pointer (some ⟨b, 0, none⟩)] w fun e w' => e = .returned (.bool (decide (x = y))) ∧ Gr w w' := by
 have hrx := hx
 obtain ⟨q0, q1, qa, ql, qc, rfl⟩ := rdCell_shape hx
 have hb := blk c0
 clear hx
 go_enter Try.func84, Try.ntmps84
 go_wp2_with (go_at_call 85; refine (implSameCell_any _ _ _ #[.string d0, .int .i64 d1, .slice a2 l2 d2] x y _ (Rd.gr hrx gd) (Rd.gr hy gd)).mono ?_; rintro e w' ⟨rfl, x3, rfl⟩)
 go_ret
 exact ⟨rfl, gd⟩

set_option maxHeartbeats 1000000 in
theorem cellIndex_any (fp fq : List Nat) (u : Value) (ds : Array Value) (xs : List GCell) (y : GCell) (w : World) (hu : SlR fp w u xs) (hy : Rd.rd fq w ds.toList y) :
  Calls Try.prog 60 #[u, .agg ds] w fun e w' => e = .returned (.int .i64 (idxOf (fun z => decide (z = y)) xs)) ∧ Gr w w' := by
 have hry := hy
 obtain ⟨d0, d1, a2, l2, d2, rfl⟩ := rdCell_shape hy
 clear hy
 have hT : TestC (w.alloc (.cells #[.string d0, .int .i64 d1, .slice a2 l2 d2] 78)) 84 #[.pointer (some ⟨w.heap.size, 0, none⟩)] (fun z => decide (z = y)) xs :=
  ⟨Try.call84, fun z _ x fp cs hz => cellTest_any fp fq cs z y w.heap.size d0 d1 a2 l2 d2 _ hz (Rd.gr hry gd) (by simp) (by simp) (by simp)⟩
 have HT := Lib.hid hT
 clear hT
 go_enter Try.func60, Try.ntmps60
 go_wp2_with (go_at_call 83; refine (slicesIndexFuncC_any fp _ xs _ _ _ _ (hu.gr gd) HT.out).mono ?_; rintro e w' ⟨rfl, x3, rfl⟩)
 go_ret
 exact ⟨rfl, gd⟩

def outOf (k y : Int) : Bool := !(decide (0 ≤ y) && decide (y ≤ k - 1))

theorem childTest_any (y : Int) (k : Nat) (b : Nat) (w : World) (hk : k ≤ 140737488351232) (hc : w.cell? ⟨b, 0, none⟩ = some (.int .i64 k)) :
  Calls Try.prog 62 #[.int .i64 y, .pointer (some ⟨b, 0, none⟩)] w fun e w' => e = .returned (.bool (outOf k y)) ∧ Gr w w' := by
 go_enter Try.func62, Try.ntmps62
 go_wp2_with (go_at_call 55; refine (within_any _ _ _ _).mono ?_; rintro e w' ⟨rfl, rfl⟩)
 go_ret
 refine ⟨ret_bool ?_, Gr.refl w⟩
 unfold outOf; rw [Bool.not_and]

theorem any_outOf {k : Nat} {q : List Int} : q.any (outOf k) = true ↔ ¬ ∀ c ∈ q, 0 ≤ c ∧ c ≤ (k : Int) - 1 := by
 rw [List.any_eq_true]
 constructor
 ·rintro ⟨c, hc, ho⟩ hn
  have := hn c hc
  simp [outOf] at ho
  omega
 ·intro hn
  apply Classical.byContradiction
  intro hx
  apply hn
  intro c hc
  apply Classical.byContradiction
  intro hy
  apply hx
  refine ⟨c, hc, ?_⟩
  simp [outOf]
  omega

theorem any_take_iff {xs : List GCell} {k : Nat} (h : k < xs.length) : (0 ≤ idxOf (fun z => decide (z = xs[k])) (xs.take k)) ↔ ¬ ∀ j (hj : j < xs.length), j < k → xs[j] ≠ xs[k] := by
 rw [idxOf_nonneg, List.any_eq_true]
 constructor
 ·rintro ⟨z, hz, hp⟩ hn
  obtain ⟨j, hj, rfl⟩ := List.mem_iff_getElem.1 hz
  have hj2 : j < k := by simp at hj; omega
  have hj3 : j < xs.length := by omega
  simp only [List.getElem_take, decide_eq_true_eq] at hp
  exact hn j hj3 hj2 hp
 ·intro hn
  apply Classical.byContradiction
  intro hc
  apply hn
  intro j hj hjk e
  apply hc
  refine ⟨xs[j], ?_, by simpa using e⟩
  rw [List.mem_iff_getElem]
  exact ⟨j, by simp; omega, by simp⟩

end Go.Proofs.Ytmfcagcanhmdbaa

namespace Go.Proofs.Ytmfcagcanhmdbaa
open Go.RowKit
set_option linter.unusedVariables false

def exK (T : Int → Int → Int → Int → List GNode) (i : Int) : Int → Int → List Int → List Int × List GNode
 | _, _, [] => ([], [])
 | k, b, c :: cs => (b :: (exK T i (k + 1) (b + (T c b i k).length) cs).1, T c b i k ++ (exK T i (k + 1) (b + (T c b i k).length) cs).2)

def exN (s : GStore) : Nat → Nat → Int → Int → Int → List GNode
 | 0, _, _, _, _ => []
 | f + 1, a, i, p, l => match s[a]? with
  | none => []
  | some c => (0, p, l, c.2.1, c.1, (exK (fun q b i k => exN s f q.toNat b i k) i 1 (i + 1) c.2.2).1) :: (exK (fun q b i k => exN s f q.toNat b i k) i 1 (i + 1) c.2.2).2

theorem exN_at (s : GStore) (f : Nat) {a : Nat} {c : GCell} (h : s[a]? = some c) (i p l : Int) : exN s (f + 1) a i p l = (0, p, l, c.2.1, c.1, (exK (fun q b i k => exN s f q.toNat b i k) i 1 (i + 1) c.2.2).1) :: (exK (fun q b i k => exN s f q.toNat b i k) i 1 (i + 1) c.2.2).2 := by
 simp only [exN, h]

def exL (s : GStore) : Nat → Nat → Nat
 | 0, _ => 0
 | f + 1, a => match s[a]? with
  | none => 0
  | some c => 1 + (c.2.2.map fun q => exL s f q.toNat).sum

theorem exK_len {T : Int → Int → Int → Int → List GNode} {L : Int → Nat} (h : ∀ c b i k, (T c b i k).length = L c) (i : Int) (cs : List Int) : ∀ k b, (exK T i k b cs).2.length = (cs.map L).sum ∧ (exK T i k b cs).1.length = cs.length := by
 induction cs with
 | nil => intro k b; exact ⟨rfl, rfl⟩
 | cons c cs ih =>
  intro k b
  have := ih (k + 1) (b + (T c b i k).length)
  simp only [exK, List.length_append, List.length_cons, List.map_cons, List.sum_cons, h] at this ⊢
  omega

theorem exN_len (s : GStore) : ∀ f a i p l, (exN s f a i p l).length = exL s f a := by
 intro f
 induction f with
 | zero => intro a i p l; rfl
 | succ f ih =>
  intro a i p l
  unfold exN exL
  cases s[a]? with
  | none => rfl
  | some c =>
   simp only [List.length_cons]
   rw [(exK_len (L := fun q => exL s f q.toNat) (fun q b i k => ih q.toNat b i k) i c.2.2 1 (i + 1)).1]
   omega

theorem exK_snoc {T : Int → Int → Int → Int → List GNode} (i : Int) (cs : List Int) (c : Int) : ∀ k b, exK T i k b (cs ++ [c]) = ((exK T i k b cs).1 ++ [b + (exK T i k b cs).2.length], (exK T i k b cs).2 ++ T c (b + (exK T i k b cs).2.length) i (k + cs.length)) := by
 induction cs with
 | nil => intro k b; simp [exK]
 | cons d cs ih =>
  intro k b
  simp only [List.cons_append, exK, ih, List.length_append, List.length_cons]
  have e1 : b + ((T d b i k).length : Int) + ((exK T i (k + 1) (b + (T d b i k).length) cs).2.length : Int) = b + (((T d b i k).length + (exK T i (k + 1) (b + (T d b i k).length) cs).2.length : Nat) : Int) := by omega
  have e2 : k + 1 + (cs.length : Int) = k + ((cs.length + 1 : Nat) : Int) := by omega
  rw [e1, e2, List.append_assoc]

def shN (b : Int) (x : GNode) : GNode := (x.1, x.2.1 + b, x.2.2.1, x.2.2.2.1, x.2.2.2.2.1, x.2.2.2.2.2.map (· + b))

theorem exK_sh {T : Int → Int → Int → Int → List GNode} (d : Int) (h : ∀ c b i k, T c (b + d) (i + d) k = (T c b i k).map (shN d)) (i : Int) (cs : List Int) : ∀ k b, exK T (i + d) k (b + d) cs = ((exK T i k b cs).1.map (· + d), (exK T i k b cs).2.map (shN d)) := by
 induction cs with
 | nil => intro k b; rfl
 | cons c cs ih =>
  intro k b
  have e : b + d + ((T c (b + d) (i + d) k).length : Int) = b + ((T c b i k).length : Int) + d := by rw [h, List.length_map]; omega
  simp only [exK]
  rw [e, ih, h]
  simp

theorem exN_sh (s : GStore) (d : Int) : ∀ f a i p l, exN s f a (i + d) (p + d) l = (exN s f a i p l).map (shN d) := by
 intro f
 induction f with
 | zero => intro a i p l; rfl
 | succ f ih =>
  intro a i p l
  unfold exN
  cases s[a]? with
  | none => rfl
  | some c =>
   have e : i + d + 1 = i + 1 + d := by omega
   simp only [e]
   rw [exK_sh d (fun q b i k => ih q.toNat b i k)]
   rfl

def adjN (k b : Int) : List GNode → List GNode
 | [] => []
 | x :: xs => (x.1, 0, k, x.2.2.2.1, x.2.2.2.2.1, x.2.2.2.2.2.map (· + b)) :: xs.map (shN b)

theorem adjN_len (k b : Int) (l : List GNode) : (adjN k b l).length = l.length := by cases l <;> simp [adjN]

def joK : Int → Int → List (List GNode) → List Int × List GNode
 | _, _, [] => ([], [])
 | k, b, t :: ts => (b :: (joK (k + 1) (b + t.length) ts).1, adjN k b t ++ (joK (k + 1) (b + t.length) ts).2)

def joN (r : GNode) (ts : List (List GNode)) : List GNode := (r.1, -1, 0, r.2.2.2.1, r.2.2.2.2.1, (joK 1 1 ts).1) :: (joK 1 1 ts).2

theorem joK_len (ts : List (List GNode)) : ∀ k b, (joK k b ts).2.length = (ts.map List.length).sum ∧ (joK k b ts).1.length = ts.length := by
 induction ts with
 | nil => intro k b; exact ⟨rfl, rfl⟩
 | cons t ts ih =>
  intro k b
  have := ih (k + 1) (b + t.length)
  simp only [joK, List.length_append, List.length_cons, List.map_cons, List.sum_cons, adjN_len]
  omega

theorem joK_snoc (ts : List (List GNode)) (t : List GNode) : ∀ k b, joK k b (ts ++ [t]) = ((joK k b ts).1 ++ [b + (joK k b ts).2.length], (joK k b ts).2 ++ adjN (k + ts.length) (b + (joK k b ts).2.length) t) := by
 induction ts with
 | nil => intro k b; simp [joK]
 | cons d ts ih =>
  intro k b
  simp only [List.cons_append, joK, ih, List.length_append, List.length_cons, adjN_len]
  have e1 : b + (d.length : Int) + ((joK (k + 1) (b + d.length) ts).2.length : Int) = b + ((d.length + (joK (k + 1) (b + d.length) ts).2.length : Nat) : Int) := by omega
  have e2 : k + 1 + (ts.length : Int) = k + ((ts.length + 1 : Nat) : Int) := by omega
  rw [e1, e2, List.append_assoc]

theorem adjN_exN (s : GStore) (f a : Nat) (k b : Int) : adjN k b (exN s f a 0 (-1) 0) = exN s f a b 0 k := by
 cases f with
 | zero => rfl
 | succ f =>
  unfold exN
  cases s[a]? with
  | none => rfl
  | some c =>
   simp only [adjN]
   have e := exK_sh (T := fun q b i k => exN s f q.toNat b i k) b (fun q b' i k => exN_sh s b f q.toNat b' i k) 0 c.2.2 1 (0 + 1)
   rw [show (0 : Int) + b = b from by omega, show (0 : Int) + 1 + b = b + 1 from by omega] at e
   rw [e]

theorem joK_exK (s : GStore) (f : Nat) (cs : List Int) : ∀ k b, joK k b (cs.map fun q => exN s f q.toNat 0 (-1) 0) = exK (fun q b i k => exN s f q.toNat b i k) 0 k b cs := by
 induction cs with
 | nil => intro k b; rfl
 | cons c cs ih =>
  intro k b
  simp only [List.map_cons, joK, exK, ih, adjN_exN, exN_len]

theorem exN_join (s : GStore) (f : Nat) {a : Nat} (c : GCell) (h : s[a]? = some c) (x1 x2 x3 : Int) (x4 : List Int) : joN (0, x1, x2, c.2.1, c.1, x4) (c.2.2.map fun q => exN s f q.toNat 0 (-1) 0) = exN s (f + 1) a 0 (-1) 0 := by
 rw [exN_at s f h]
 unfold joN
 rw [joK_exK]
 rfl

def idN (first : Int) : Int → List GNode → List GNode
 | _, [] => []
 | j, x :: xs => (first + j, x.2) :: idN first (j + 1) xs

theorem idN_len (first : Int) (xs : List GNode) : ∀ j, (idN first j xs).length = xs.length := by
 induction xs with
 | nil => intro j; rfl
 | cons x xs ih => intro j; simp [idN, ih]
theorem idN_append (first : Int) (xs ys : List GNode) : ∀ j, idN first j (xs ++ ys) = idN first j xs ++ idN first (j + xs.length) ys := by
 induction xs with
 | nil => intro j; simp [idN]
 | cons x xs ih =>
  intro j
  simp only [List.cons_append, idN, ih, List.length_cons]
  rw [show j + 1 + (xs.length : Int) = j + ((xs.length + 1 : Nat) : Int) from by omega]

theorem valid_kid {xs : List GCell} (h : ValidStore xs) {a : Nat} (ha : a < xs.length) {k : Nat} (hk : k < xs[a].2.2.length) : ∃ m : Nat, xs[a].2.2[k] = m ∧ m < a := by
 have := (h a ha).2 _ (List.getElem_mem hk)
 exact ⟨xs[a].2.2[k].toNat, by omega, by omega⟩
theorem exL_at (s : GStore) (f : Nat) {a : Nat} (h : a < s.length) : exL s (f + 1) a = 1 + (s[a].2.2.map fun q => exL s f q.toNat).sum := by
 simp only [exL, List.getElem?_eq_getElem h]
theorem exL_pos (s : GStore) (f a : Nat) (h : a < s.length) : 0 < exL s (f + 1) a := by
 rw [exL_at s f h]; omega
theorem adjN_at {k b : Int} {l : List GNode} {i : Nat} (h : i < l.length) (h' : i < (adjN k b l).length) : (adjN k b l)[i] = (l[i].1, if i = 0 then 0 else l[i].2.1 + b, if i = 0 then k else l[i].2.2.1, l[i].2.2.2.1, l[i].2.2.2.2.1, l[i].2.2.2.2.2.map (· + b)) := by
 cases l with
 | nil => simp at h
 | cons x l =>
  cases i with
  | zero => rfl
  | succ i => simp [adjN, shN]

theorem joN_snoc (r : GNode) (ts : List (List GNode)) (t : List GNode) : joN r (ts ++ [t]) = (joN r ts).set 0 (r.1, -1, 0, r.2.2.2.1, r.2.2.2.2.1, (joK 1 1 ts).1 ++ [((joN r ts).length : Int)]) ++ adjN (1 + ts.length) ((joN r ts).length : Int) t := by
 unfold joN
 rw [joK_snoc]
 simp only [List.length_cons, List.set_cons_zero, List.cons_append]
 rw [show (1 : Int) + ((joK 1 1 ts).2.length : Int) = (((joK 1 1 ts).2.length + 1 : Nat) : Int) from by omega]

def InN (M : Nat) (i p : Int) (n : Nat) (x : GNode) : Prop := (x.2.1 = p ∨ (i ≤ x.2.1 ∧ x.2.1 ≤ i + n)) ∧ x.2.2.2.2.2.length ≤ M ∧ ∀ c ∈ x.2.2.2.2.2, i ≤ c ∧ c ≤ i + n

theorem InN.mono {M : Nat} {i p j : Int} {n m : Nat} {x : GNode} (h : InN M i p n x) (h1 : j ≤ i) (h2 : i + n ≤ j + m) : InN M j p m x :=
 ⟨h.1.imp id fun h => by omega, h.2.1, fun c hc => by have := h.2.2 c hc; omega⟩

theorem exK_small {T : Int → Int → Int → Int → List GNode} {M : Nat} (i : Int) (H : ∀ c b k, ∀ x ∈ T c b i k, InN M b i (T c b i k).length x) (cs : List Int) :
  ∀ k b, (∀ x ∈ (exK T i k b cs).2, InN M b i (exK T i k b cs).2.length x) ∧ ∀ c ∈ (exK T i k b cs).1, b ≤ c ∧ c ≤ b + (exK T i k b cs).2.length := by
 induction cs with
 | nil => intro k b; simp [exK]
 | cons d cs ih =>
  intro k b
  have h1 := ih (k + 1) (b + (T d b i k).length)
  simp only [exK, List.length_append]
  refine ⟨fun x hx => ?_, fun c hc => ?_⟩
  ·rcases List.mem_append.1 hx with hx | hx
   ·exact (H d b k x hx).mono (by omega) (by omega)
   ·exact (h1.1 x hx).mono (by omega) (by omega)
  ·rcases List.mem_cons.1 hc with rfl | hc
   ·omega
   ·have := h1.2 c hc; omega

theorem exN_small (s : GStore) {M : Nat} (hs : ∀ c ∈ s, c.2.2.length ≤ M) : ∀ f a i p l, ∀ x ∈ exN s f a i p l, InN M i p (exN s f a i p l).length x := by
 intro f
 induction f with
 | zero => intro a i p l x hx; simp [exN] at hx
 | succ f ih =>
  intro a i p l x hx
  cases hc : s[a]? with
  | none => simp only [exN, hc] at hx; simp at hx
  | some c =>
   rw [exN_at s f hc] at hx ⊢
   have hk := exK_small (T := fun q b i k => exN s f q.toNat b i k) (M := M) i (fun q b k => ih q.toNat b i k) c.2.2 1 (i + 1)
   rcases List.mem_cons.1 hx with rfl | hx
   ·refine ⟨.inl rfl, ?_, fun d hd => ?_⟩
    ·simp only
     rw [(exK_len (L := fun q => exL s f q.toNat) (fun q b i k => exN_len s f q.toNat b i k) i c.2.2 1 (i + 1)).2]
     exact hs c (List.mem_of_getElem? hc)
    ·have := hk.2 d hd
     simp only [List.length_cons]
     omega
   ·refine ⟨.inr ?_, ?_, fun d hd => ?_⟩
    ·have := (hk.1 x hx).1
     simp only [List.length_cons]
     rcases this with h | h <;> omega
    ·exact (hk.1 x hx).2.1
    ·have := (hk.1 x hx).2.2 d hd
     simp only [List.length_cons]
     omega

def ExpOk (s : GStore) (a first : Int) : Prop := ValidStore s ∧ (0 ≤ a ∧ a ≤ (s.length : Int) - 1) ∧ (1 ≤ first ∧ first ≤ 999) ∧ exL s s.length a.toNat ≤ 16
open Classical in
noncomputable def expOf (s : GStore) (a first : Int) : Option (List GNode) := if ExpOk s a first then some (idN first 0 (exN s s.length a.toNat 0 (-1) 0)) else none
theorem expOf_yes {s : GStore} {a first : Int} (h : ExpOk s a first) : expOf s a first = some (idN first 0 (exN s s.length a.toNat 0 (-1) 0)) := if_pos h
theorem expOf_no {s : GStore} {a first : Int} (h : ¬ ExpOk s a first) : expOf s a first = none := if_neg h
theorem cells_small {s : GStore} (h : wtStore s ≤ 1048576) : s.length ≤ 1048576 ∧ ∀ c ∈ s, c.2.2.length ≤ 1048576 := by
 have h0 : wtL wtCell s ≤ 1048576 := h
 refine ⟨Nat.le_trans (wtL_len wtCell s) h0, fun c hc => ?_⟩
 obtain ⟨i, hi, rfl⟩ := List.mem_iff_getElem.1 hc
 have h1 := wtL_at wtCell s hi
 have h2 : s[i].2.2.length ≤ wtCell s[i] := Nat.le_add_left _ _
 omega

theorem idN_step (first : Int) (NS : List GNode) {i : Nat} (h : i < NS.length) : (idN first 0 (NS.take i) ++ NS.drop i).set i (first + i, NS[i].2) = idN first 0 (NS.take (i + 1)) ++ NS.drop (i + 1) ∧ (idN first 0 (NS.take i) ++ NS.drop i)[i]? = some NS[i] := by
 have hl : (idN first 0 (NS.take i)).length = i := by rw [idN_len, List.length_take]; omega
 have e : (0 : Int) + ((NS.take i).length : Int) = i := by rw [List.length_take]; omega
 constructor
 ·rw [List.take_succ_eq_append_getElem h, idN_append, e, List.drop_eq_getElem_cons h, List.set_append]
  rw [if_neg (by omega), hl, Nat.sub_self, List.set_cons_zero, List.append_assoc]
  rfl
 ·rw [List.getElem?_append_right (by omega), hl, Nat.sub_self, List.drop_eq_getElem_cons h]
  rfl

theorem kids_idN {first : Int} {M : Nat} {xs : List GNode} : ∀ {j : Int} (h : ∀ x ∈ xs, x.2.2.2.2.2.length ≤ M), ∀ x ∈ idN first j xs, x.2.2.2.2.2.length ≤ M := by
 induction xs with
 | nil => intro j h x hx; simp [idN] at hx
 | cons y ys ih =>
  intro j h x hx
  rcases List.mem_cons.1 hx with rfl | hx
  ·exact h y (by simp)
  ·exact ih (fun z hz => h z (List.mem_cons_of_mem _ hz)) x hx

theorem exK_all {T : Int → Int → Int → Int → List GNode} {P : GNode → Prop} (i : Int) (H : ∀ c b k, ∀ x ∈ T c b i k, P x) (cs : List Int) : ∀ k b, ∀ x ∈ (exK T i k b cs).2, P x := by
 induction cs with
 | nil => intro k b x hx; simp [exK] at hx
 | cons d cs ih =>
  intro k b x hx
  simp only [exK] at hx
  rcases List.mem_append.1 hx with hx | hx
  ·exact H d b k x hx
  ·exact ih _ _ x hx

theorem exN_wt (s : GStore) {M K : Nat} (hs : ∀ c ∈ s, c.2.2.length ≤ M) (hr : ∀ c ∈ s, c.1.size ≤ K) : ∀ f a i p l, ∀ x ∈ exN s f a i p l, wtNode x ≤ K + M := by
 intro f
 induction f with
 | zero => intro a i p l x hx; simp [exN] at hx
 | succ f ih =>
  intro a i p l x hx
  cases hc : s[a]? with
  | none => simp only [exN, hc] at hx; simp at hx
  | some c =>
   rw [exN_at s f hc] at hx
   rcases List.mem_cons.1 hx with rfl | hx
   ·show c.1.size + (exK (fun q b i k => exN s f q.toNat b i k) i 1 (i + 1) c.2.2).1.length ≤ _
    rw [(exK_len (L := fun q => exL s f q.toNat) (fun q b i k => exN_len s f q.toNat b i k) i c.2.2 1 (i + 1)).2]
    have h1 := hs c (List.mem_of_getElem? hc)
    have h2 := hr c (List.mem_of_getElem? hc)
    omega
   ·exact exK_all i (fun q b k => ih q.toNat b i k) c.2.2 1 (i + 1) x hx

theorem wt_idN {first : Int} {M : Nat} {xs : List GNode} : ∀ {j : Int} (h : ∀ x ∈ xs, wtNode x ≤ M), ∀ x ∈ idN first j xs, wtNode x ≤ M := by
 induction xs with
 | nil => intro j h x hx; simp [idN] at hx
 | cons y ys ih =>
  intro j h x hx
  rcases List.mem_cons.1 hx with rfl | hx
  ·exact h y (by simp)
  ·exact ih (fun z hz => h z (List.mem_cons_of_mem _ hz)) x hx

theorem wtS_le {M : Nat} (xs : List GNode) (h : ∀ x ∈ xs, wtNode x ≤ M) : wtL wtNode xs ≤ xs.length * (M + 1) := by
 induction xs with
 | nil => simp [wtL]
 | cons x xs ih =>
  have h1 := ih (fun y hy => h y (List.mem_cons_of_mem _ hy))
  have h2 := h x (by simp)
  simp only [wtL, List.map_cons, List.sum_cons, List.length_cons] at h1 ⊢
  rw [Nat.add_mul]
  omega

end Go.Proofs.Ytmfcagcanhmdbaa
