/- isCell of the program. ExpandCell of the program. slices.EqualFunc at struct elements. Made by mk_equal.py. No condition. -/
import Derived.Test.YtmfcagcanhmdbaaE43
import Derived.Test.YtmfcagcanhmdbaaE42
import Derived.Test.YtmfcagcanhmdbaaE13
import Derived.Test.YtmfcagcanhmdbaaE45
import Derived.Test.YtmfcagcanhmdbaaE07
import Derived.Test.YtmfcagcanhmdbaaE08
namespace Go.Proofs.Ytmfcagcanhmdbaa
open Go.RowKit

set_option maxHeartbeats 2000000 in
theorem isCell_any (fp : List Nat) (cs : Array Value) (xs : List GCell) (a : Int) (w : World) (hx : Rd.rd fp w cs.toList xs) :
  Calls Try.prog 54 #[.agg cs, .int .i64 a] w fun e w' => e = .returned (.bool (validB xs && (decide (0 ≤ a) && decide (a ≤ (xs.length : Int) - 1)))) ∧ Gr w w' := by
 have hrx := hx
 obtain ⟨v, f, rfl, -, hu⟩ := rdStore_inv xs hx
 obtain ⟨aa, ca, rfl, h1, h2, h3⟩ := hu.open
 clear hx h3
 by_cases hv : ValidStore xs
 ·have HV := Lib.hid hv
  clear hv
  go_enter Try.func54, Try.ntmps54
  go_wp2_with fail
  refine (implValid_any _ _ xs _ (Rd.gr hrx gd)).mono ?_
  rintro e w' ⟨rfl, x1, rfl⟩
  rw [validB_true HV.out]
  go_wp2_with fail
  refine (within_any _ _ _ _).mono ?_
  rintro e w' ⟨rfl, rfl⟩
  go_wp2_with fail
  go_ret
  exact ⟨ret_bool (by simp [validB_true HV.out]), gd⟩
 ·have HV := Lib.hid hv
  clear hv
  go_enter Try.func54, Try.ntmps54
  go_wp2_with fail
  refine (implValid_any _ _ xs _ (Rd.gr hrx gd)).mono ?_
  rintro e w' ⟨rfl, x1, rfl⟩
  rw [validB_false HV.out]
  go_wp2_with fail
  go_ret
  exact ⟨ret_bool (by simp [validB_false HV.out]), gd⟩
end Go.Proofs.Ytmfcagcanhmdbaa

namespace Go.Proofs.Ytmfcagcanhmdbaa
open Go.RowKit
set_option linter.unusedVariables false
set_option linter.unusedSimpArgs false

set_option maxRecDepth 100000 in
set_option maxHeartbeats 8000000 in
theorem implExpand_any {fs : List Nat} {cs : Array Value} (s : GStore) (a : Int) (first : Int) (w : World) (hs : Rd.rd fs w cs.toList s) (hl : wtStore s ≤ 1048576) :
  Calls Try.prog 19 #[.agg cs, .int .i64 a, .int .i64 first] w (FoundT w (expOf s a first)) := by
 have HWT := Lib.hid hl
 clear hl
 have HS := Lib.hid hs
 obtain ⟨s0, rfl⟩ : ∃ y, y = s := ⟨s, rfl⟩
 obtain ⟨vs0, fs0, rfl, hfps, hs0⟩ := rdStore_inv s0 hs
 have FPs := Lib.hid hfps
 clear hfps
 obtain ⟨as0, ks0, rfl, os01, os02, os03⟩ := hs0.open
 clear hs
 by_cases hc : ValidStore s0 ∧ 0 ≤ a ∧ a ≤ (s0.length : Int) - 1
 ·by_cases hfi : 1 ≤ first ∧ first ≤ 999
  ·obtain ⟨n, rfl⟩ : ∃ n : Nat, a = n := ⟨a.toNat, by omega⟩
   have HB := Lib.hid (show (validB s0 && (decide (0 ≤ (n : Int)) && decide ((n : Int) ≤ (s0.length : Int) - 1))) = true by rw [validB_true hc.1, decide_eq_true hc.2.1, decide_eq_true hc.2.2]; rfl)
   have HC := Lib.hid hc
   have HFI := Lib.hid hfi
   clear hc hfi
   go_enter Try.func19, Try.ntmps19
   go_wp2_with fail
   refine (isCell_any _ _ s0 (n : Int) _ (Rd.gr HS.out gd)).mono ?_
   rintro e w' ⟨rfl, x1, rfl⟩
   rw [HB.out]
   go_wp2_with fail
   refine (within_yes _ _ _ _ HFI.out.1 HFI.out.2).mono ?_
   rintro e w' ⟨rfl, x2, rfl⟩
   go_wp2_with fail
   generalize hD : (((((w.alloc (.cells #[.slice as0 s0.length ks0] 32)).alloc (.cells #[.slice none 0 0] 38)).alloc (.cells #[.slice none 0 0] 38)).ext x1).ext x2) = D
   have gD : Gr w D := by rw [← hD]; exact gd
   have vR : VRow D (w.heap.size + 1) 38 [.slice none 0 0] := by
    rw [← hD]
    repeat (first | ((with_reducible refine VRow.new ?_) <;> first | omega | (simp; done) | (simp; omega) | rfl) | (with_reducible refine VRow.gr ?_ (Gr.alloc (Gr.refl _) _)) | (with_reducible refine VRow.gr ?_ (Gr.ext (Gr.refl _) _)) | (with_reducible refine VRow.gr ?_ (Gr.drew (Gr.refl _))))
   have vT : VRow D (w.heap.size + 1 + 1) 38 [.slice none 0 0] := by
    rw [← hD]
    repeat (first | ((with_reducible refine VRow.new ?_) <;> first | omega | (simp; done) | (simp; omega) | rfl) | (with_reducible refine VRow.gr ?_ (Gr.alloc (Gr.refl _) _)) | (with_reducible refine VRow.gr ?_ (Gr.ext (Gr.refl _) _)) | (with_reducible refine VRow.gr ?_ (Gr.drew (Gr.refl _))))
   have hcd : w.heap.size + 1 + 1 < D.heap.size := vT.lt
   have HGD := Lib.hid gD
   have HVR := Lib.hid vR
   have HVT := Lib.hid vT
   clear hD gD vR vT
   have HSL := Lib.hid (Rd.lt HS.out)
   refine (expand_any s0 HC.out.1 HWT.out first HFI.out (w.heap.size + 1 + 1) D hcd s0.length n (-1) 0 fs _ _ [] [] D (Rd.gr HS.out HGD.out) (by have := HC.out.2.2; omega) (by have := HC.out.2.2; omega) (by decide) (by decide) (fun c hc => by have := HSL.out c hc; omega) (Nat.le_refl _) HVT.out (OwnT.nil D D) (by simp)).mono ?_
   rintro e W7 ⟨r, rfl, hw7, hr1, hr2, hr3⟩
   have g7 : Gr w W7 := Gr.wr HGD.out hw7 (fun b hb => by simp at hb; omega)
   have vR7 := HVR.out.wr hw7 (fun hm => by simp at hm)
   have HG7 := Lib.hid g7
   have HVR7 := Lib.hid vR7
   have x0 := vR7.box
   have zx0 := blk x0
   have fx0 := vR7.frozen 0
   simp only [List.length_nil, Nat.zero_add] at hr1 hr2
   clear hw7 g7 vR7
   cases r with
   | false =>
    have HNO := Lib.hid (expOf_no (s := s0) (a := (n : Int)) (first := first) (fun h => by have h1 := hr2 rfl; have h2 := h.2.2.2; rw [Int.toNat_natCast] at h2; omega))
    clear hr1 hr2 hr3
    go_wp2_with fail
    generalize hF : W7.setCell ⟨w.heap.size + 1, 0, none⟩ (.slice none 0 0) = WF
    have vF : VRow WF (w.heap.size + 1) 38 [.slice none 0 0] := by rw [← hF]; exact HVR7.out.set 0 _
    have gF : Gr w WF := by rw [← hF]; exact HG7.out.setCell (p := ⟨w.heap.size + 1, 0, none⟩) (by simp) _
    have r0' := vF.box
    clear hF vF
    exact bodyPost_ret (v := .tuple #[.agg #[.slice none 0 0], .bool false]) (by simp [results, Try.results19, go_sem, r0']) rfl ⟨#[.slice none 0 0], [], by rw [HNO.out]; rfl, by rw [HNO.out]; exact ⟨_, rfl, SlR.nil _⟩, Fresh.nil _, gF⟩
   | true =>
    have HNO := Lib.hid (expOf_yes (s := s0) (a := (n : Int)) (first := first) ⟨HC.out.1, HC.out.2, HFI.out, by rw [Int.toNat_natCast]; exact hr1 rfl⟩)
    obtain ⟨v7, F7, vx7, t7, hF7⟩ := hr3 rfl
    rw [Int.toNat_natCast] at HNO
    obtain ⟨NS, hNS⟩ : ∃ NS, NS = idN first 0 (exN s0 s0.length n 0 (-1) 0) := ⟨_, rfl⟩
    rw [show ([] : List GNode) ++ idN first (([] : List GNode).length : Int) (exN s0 s0.length n (([] : List GNode).length : Int) (-1) 0) = NS by rw [hNS]; rfl] at t7
    rw [← hNS] at HNO
    obtain ⟨av, cv, hform⟩ := t7.form
    subst hform
    have y0 := vx7.box
    have zy0 := blk y0
    have hnl : NS.length ≤ 16 := by rw [hNS, idN_len, exN_len]; exact hr1 rfl
    have HT7 := Lib.hid t7
    have HF7 := Lib.hid hF7
    have HNS := Lib.hid hNS
    clear hr1 hr2 hr3 vx7 t7 hF7 hNS
    go_wp2_with fail
    generalize hF : W7.setCell ⟨w.heap.size + 1, 0, none⟩ (.slice av NS.length cv) = WF
    have vF : VRow WF (w.heap.size + 1) 38 [.slice av NS.length cv] := by rw [← hF]; exact HVR7.out.set 0 _
    have gF : Gr w WF := by rw [← hF]; exact HG7.out.setCell (p := ⟨w.heap.size + 1, 0, none⟩) (by simp) _
    have tF : OwnT D WF (.slice av NS.length cv) F7 NS := by
     rw [← hF]
     refine HT7.out.wr ((Wr.refl [w.heap.size + 1] _).setCell (by simp) _) (fun b hb hm => ?_)
     rcases HF7.out b hb with h | h
     ·simp at h
     ·simp at hm; omega
    have r0' := vF.box
    obtain ⟨fq, h1, h2, -⟩ := tF.read (by unfold reachLen; omega) (fun x hx => by
     have h1 := kids_idN (M := 1048576) (first := first) (j := 0) (xs := exN s0 s0.length n 0 (-1) 0) (fun x hx => (exN_small s0 (cells_small HWT.out).2 s0.length n 0 (-1) 0 x hx).2.1) x (by rw [← HNS.out]; exact hx)
     unfold reachLen
     omega)
    have h3 := h2.of_le HGD.out.size
    clear hF vF tF h2
    exact bodyPost_ret (v := .tuple #[.agg #[.slice av NS.length cv], .bool true]) (by simp [results, Try.results19, go_sem, r0']) rfl ⟨#[.slice av NS.length cv], fq, by rw [HNO.out]; rfl, by rw [HNO.out]; exact ⟨_, rfl, h1⟩, h3, gF⟩
  ·have HNO := Lib.hid (expOf_no (s := s0) (a := a) (first := first) (fun h => hfi h.2.2.1))
   have HB := Lib.hid (show (validB s0 && (decide (0 ≤ a) && decide (a ≤ (s0.length : Int) - 1))) = true by rw [validB_true hc.1, decide_eq_true hc.2.1, decide_eq_true hc.2.2]; rfl)
   have HFI := Lib.hid (show first < 1 ∨ 999 < first by omega)
   clear hc hfi
   go_enter Try.func19, Try.ntmps19
   go_wp2_with fail
   refine (isCell_any _ _ s0 a _ (Rd.gr HS.out gd)).mono ?_
   rintro e w' ⟨rfl, x1, rfl⟩
   rw [HB.out]
   go_wp2_with fail
   refine (within_no _ _ _ _ HFI.out).mono ?_
   rintro e w' ⟨rfl, x2, rfl⟩
   go_wp2_with fail
   have r0' : (((((w.alloc (.cells #[.slice as0 s0.length ks0] 32)).alloc (.cells #[.slice none 0 0] 38)).alloc (.cells #[.slice none 0 0] 38)).ext x1).ext x2).cell? ⟨w.heap.size + 1, 0, none⟩ = some (.slice none 0 0) := by repeat (first | ((with_reducible refine box_cell ?_ ?_) <;> first | omega | (simp; done) | (simp; omega) | rfl) | (with_reducible refine Gr.keep (Gr.alloc (Gr.refl _) _) ?_) | (with_reducible refine Gr.keep (Gr.ext (Gr.refl _) _) ?_) | (with_reducible refine Gr.keep (Gr.drew (Gr.refl _)) ?_))
   exact bodyPost_ret (v := .tuple #[.agg #[.slice none 0 0], .bool false]) (by simp [results, Try.results19, go_sem, r0']) rfl ⟨#[.slice none 0 0], [], by rw [HNO.out]; rfl, by rw [HNO.out]; exact ⟨_, rfl, SlR.nil _⟩, Fresh.nil _, gd⟩
 ·have HNO := Lib.hid (expOf_no (s := s0) (a := a) (first := first) (fun h => hc ⟨h.1, h.2.1⟩))
  have HB := Lib.hid (show (validB s0 && (decide (0 ≤ a) && decide (a ≤ (s0.length : Int) - 1))) = false by
   by_cases hv : ValidStore s0
   ·rw [validB_true hv]
    have : ¬ (0 ≤ a ∧ a ≤ (s0.length : Int) - 1) := fun h => hc ⟨hv, h⟩
    simp
    omega
   ·rw [validB_false hv]; rfl)
  clear hc
  go_enter Try.func19, Try.ntmps19
  go_wp2_with fail
  refine (isCell_any _ _ s0 a _ (Rd.gr HS.out gd)).mono ?_
  rintro e w' ⟨rfl, x1, rfl⟩
  rw [HB.out]
  go_wp2_with fail
  have r0' : ((((w.alloc (.cells #[.slice as0 s0.length ks0] 32)).alloc (.cells #[.slice none 0 0] 38)).alloc (.cells #[.slice none 0 0] 38)).ext x1).cell? ⟨w.heap.size + 1, 0, none⟩ = some (.slice none 0 0) := by repeat (first | ((with_reducible refine box_cell ?_ ?_) <;> first | omega | (simp; done) | (simp; omega) | rfl) | (with_reducible refine Gr.keep (Gr.alloc (Gr.refl _) _) ?_) | (with_reducible refine Gr.keep (Gr.ext (Gr.refl _) _) ?_) | (with_reducible refine Gr.keep (Gr.drew (Gr.refl _)) ?_))
  exact bodyPost_ret (v := .tuple #[.agg #[.slice none 0 0], .bool false]) (by simp [results, Try.results19, go_sem, r0']) rfl ⟨#[.slice none 0 0], [], by rw [HNO.out]; rfl, by rw [HNO.out]; exact ⟨_, rfl, SlR.nil _⟩, Fresh.nil _, gd⟩
end Go.Proofs.Ytmfcagcanhmdbaa

namespace Go.Proofs.Ytmfcagcanhmdbaa
open Go.RowKit
variable {d : Nat}

structure TestEq {α : Type} [Rd α] [DecidableEq α] (w : World) (fid : Nat) (xs ys : List α) : Prop where
 fn : ∀ args W, (callFunc fid args).run Try.prog W = .ok (.enter fid args) W
 calls : ∀ x ∈ xs, ∀ y ∈ ys, ∀ (W : World) (fp fq : List Nat) (cs ds : Array Value), Gr w W → Rd.rd fp W cs.toList x → Rd.rd fq W ds.toList y → Calls Try.prog fid #[.agg cs, .agg ds] W fun e w' => e = .returned (.bool (decide (x = y))) ∧ Gr W w'

end Go.Proofs.Ytmfcagcanhmdbaa
