/- isCell of the program. ExpandCell of the program. The search of the reference's SharedSize. Plain Lean, no program in sight.  SharedSize of the reference. SharedSize of the program. The walk of the statement on shared trees. No condition. -/
import Derived.Test.YtmfcagcanhmdbaaH44
import Derived.Test.YtmfcagcanhmdbaaH11
import Derived.Test.YtmfcagcanhmdbaaH06
import Derived.Test.YtmfcagcanhmdbaaH46
import Derived.Maps.AppendAt
import Derived.Test.YtmfcagcanhmdbaaH45
namespace Go.Proofs.Ytmfcagcanhmdbaa
open Go.RowKit

set_option maxHeartbeats 2000000 in
theorem isCell_any (fp : List Nat) (cs : Array Value) (xs : List GCell) (a : Int) (w : World) (hx : Rd.rd fp w cs.toList xs) :
  Calls Try.prog 54 #[.agg cs, .int .i64 a] w fun e w' => e = .returned (.bool (validB xs && (decide (0 ≤ a) && decide (a ≤ (xs.length : Int) - 1)))) ∧ Gr w w' := by
 have hrx := hx
 obtain ⟨v, f, rfl, -, hu⟩ := rdStore_inv xs hx
 obtain ⟨aa, ca, rfl, h1, h2, h3⟩ := hu.open
 clear hx h3
 by_cases hv : ValidStore xs
 ·have HV := Lib.hid hv
  clear hv
  go_enter Try.func54, Try.ntmps54
  go_wp2_with fail
  refine (implValid_any _ _ xs _ (Rd.gr hrx gd)).mono ?_
  rintro e w' ⟨rfl, x1, rfl⟩
  rw [validB_true HV.out]
  go_wp2_with fail
  refine (within_any _ _ _ _).mono ?_
  rintro e w' ⟨rfl, rfl⟩
  go_wp2_with fail
  go_ret
  exact ⟨ret_bool (by simp [validB_true HV.out]), gd⟩
 ·have HV := Lib.hid hv
  clear hv
  go_enter Try.func54, Try.ntmps54
  go_wp2_with fail
  refine (implValid_any _ _ xs _ (Rd.gr hrx gd)).mono ?_
  rintro e w' ⟨rfl, x1, rfl⟩
  rw [validB_false HV.out]
  go_wp2_with fail
  go_ret
  exact ⟨ret_bool (by simp [validB_false HV.out]), gd⟩
end Go.Proofs.Ytmfcagcanhmdbaa

namespace Go.Proofs.Ytmfcagcanhmdbaa
open Go.RowKit
set_option linter.unusedVariables false
set_option linter.unusedSimpArgs false

set_option maxRecDepth 100000 in
set_option maxHeartbeats 8000000 in
theorem implExpand_any {fs : List Nat} {cs : Array Value} (s : GStore) (a : Int) (first : Int) (w : World) (hs : Rd.rd fs w cs.toList s) (hl : wtStore s ≤ 1048576) :
  Calls Try.prog 19 #[.agg cs, .int .i64 a, .int .i64 first] w (FoundT w (expOf s a first)) := by
 have HWT := Lib.hid hl
 clear hl
 have HS := Lib.hid hs
 obtain ⟨s0, rfl⟩ : ∃ y, y = s := ⟨s, rfl⟩
 obtain ⟨vs0, fs0, rfl, hfps, hs0⟩ := rdStore_inv s0 hs
 have FPs := Lib.hid hfps
 clear hfps
 obtain ⟨as0, ks0, rfl, os01, os02, os03⟩ := hs0.open
 clear hs
 by_cases hc : ValidStore s0 ∧ 0 ≤ a ∧ a ≤ (s0.length : Int) - 1
 ·by_cases hfi : 1 ≤ first ∧ first ≤ 999
  ·obtain ⟨n, rfl⟩ : ∃ n : Nat, a = n := ⟨a.toNat, by omega⟩
   have HB := Lib.hid (show (validB s0 && (decide (0 ≤ (n : Int)) && decide ((n : Int) ≤ (s0.length : Int) - 1))) = true by rw [validB_true hc.1, decide_eq_true hc.2.1, decide_eq_true hc.2.2]; rfl)
   have HC := Lib.hid hc
   have HFI := Lib.hid hfi
   clear hc hfi
   go_enter Try.func19, Try.ntmps19
   go_wp2_with fail
   refine (isCell_any _ _ s0 (n : Int) _ (Rd.gr HS.out gd)).mono ?_
   rintro e w' ⟨rfl, x1, rfl⟩
   rw [HB.out]
   go_wp2_with fail
   refine (within_yes _ _ _ _ HFI.out.1 HFI.out.2).mono ?_
   rintro e w' ⟨rfl, x2, rfl⟩
   go_wp2_with fail
   generalize hD : (((((w.alloc (.cells #[.slice as0 s0.length ks0] 32)).alloc (.cells #[.slice none 0 0] 38)).alloc (.cells #[.slice none 0 0] 38)).ext x1).ext x2) = D
   have gD : Gr w D := by rw [← hD]; exact gd
   have vR : VRow D (w.heap.size + 1) 38 [.slice none 0 0] := by
    rw [← hD]
    repeat (first | ((with_reducible refine VRow.new ?_) <;> first | omega | (simp; done) | (simp; omega) | rfl) | (with_reducible refine VRow.gr ?_ (Gr.alloc (Gr.refl _) _)) | (with_reducible refine VRow.gr ?_ (Gr.ext (Gr.refl _) _)) | (with_reducible refine VRow.gr ?_ (Gr.drew (Gr.refl _))))
   have vT : VRow D (w.heap.size + 1 + 1) 38 [.slice none 0 0] := by
    rw [← hD]
    repeat (first | ((with_reducible refine VRow.new ?_) <;> first | omega | (simp; done) | (simp; omega) | rfl) | (with_reducible refine VRow.gr ?_ (Gr.alloc (Gr.refl _) _)) | (with_reducible refine VRow.gr ?_ (Gr.ext (Gr.refl _) _)) | (with_reducible refine VRow.gr ?_ (Gr.drew (Gr.refl _))))
   have hcd : w.heap.size + 1 + 1 < D.heap.size := vT.lt
   have HGD := Lib.hid gD
   have HVR := Lib.hid vR
   have HVT := Lib.hid vT
   clear hD gD vR vT
   have HSL := Lib.hid (Rd.lt HS.out)
   refine (expand_any s0 HC.out.1 HWT.out first HFI.out (w.heap.size + 1 + 1) D hcd s0.length n (-1) 0 fs _ _ [] [] D (Rd.gr HS.out HGD.out) (by have := HC.out.2.2; omega) (by have := HC.out.2.2; omega) (by decide) (by decide) (fun c hc => by have := HSL.out c hc; omega) (Nat.le_refl _) HVT.out (OwnT.nil D D) (by simp)).mono ?_
   rintro e W7 ⟨r, rfl, hw7, hr1, hr2, hr3⟩
   have g7 : Gr w W7 := Gr.wr HGD.out hw7 (fun b hb => by simp at hb; omega)
   have vR7 := HVR.out.wr hw7 (fun hm => by simp at hm)
   have HG7 := Lib.hid g7
   have HVR7 := Lib.hid vR7
   have x0 := vR7.box
   have zx0 := blk x0
   have fx0 := vR7.frozen 0
   simp only [List.length_nil, Nat.zero_add] at hr1 hr2
   clear hw7 g7 vR7
   cases r with
   | false =>
    have HNO := Lib.hid (expOf_no (s := s0) (a := (n : Int)) (first := first) (fun h => by have h1 := hr2 rfl; have h2 := h.2.2.2; rw [Int.toNat_natCast] at h2; omega))
    clear hr1 hr2 hr3
    go_wp2_with fail
    generalize hF : W7.setCell ⟨w.heap.size + 1, 0, none⟩ (.slice none 0 0) = WF
    have vF : VRow WF (w.heap.size + 1) 38 [.slice none 0 0] := by rw [← hF]; exact HVR7.out.set 0 _
    have gF : Gr w WF := by rw [← hF]; exact HG7.out.setCell (p := ⟨w.heap.size + 1, 0, none⟩) (by simp) _
    have r0' := vF.box
    clear hF vF
    exact bodyPost_ret (v := .tuple #[.agg #[.slice none 0 0], .bool false]) (by simp [results, Try.results19, go_sem, r0']) rfl ⟨#[.slice none 0 0], [], by rw [HNO.out]; rfl, by rw [HNO.out]; exact ⟨_, rfl, SlR.nil _⟩, Fresh.nil _, gF⟩
   | true =>
    have HNO := Lib.hid (expOf_yes (s := s0) (a := (n : Int)) (first := first) ⟨HC.out.1, HC.out.2, HFI.out, by rw [Int.toNat_natCast]; exact hr1 rfl⟩)
    obtain ⟨v7, F7, vx7, t7, hF7⟩ := hr3 rfl
    rw [Int.toNat_natCast] at HNO
    obtain ⟨NS, hNS⟩ : ∃ NS, NS = idN first 0 (exN s0 s0.length n 0 (-1) 0) := ⟨_, rfl⟩
    rw [show ([] : List GNode) ++ idN first (([] : List GNode).length : Int) (exN s0 s0.length n (([] : List GNode).length : Int) (-1) 0) = NS by rw [hNS]; rfl] at t7
    rw [← hNS] at HNO
    obtain ⟨av, cv, hform⟩ := t7.form
    subst hform
    have y0 := vx7.box
    have zy0 := blk y0
    have hnl : NS.length ≤ 16 := by rw [hNS, idN_len, exN_len]; exact hr1 rfl
    have HT7 := Lib.hid t7
    have HF7 := Lib.hid hF7
    have HNS := Lib.hid hNS
    clear hr1 hr2 hr3 vx7 t7 hF7 hNS
    go_wp2_with fail
    generalize hF : W7.setCell ⟨w.heap.size + 1, 0, none⟩ (.slice av NS.length cv) = WF
    have vF : VRow WF (w.heap.size + 1) 38 [.slice av NS.length cv] := by rw [← hF]; exact HVR7.out.set 0 _
    have gF : Gr w WF := by rw [← hF]; exact HG7.out.setCell (p := ⟨w.heap.size + 1, 0, none⟩) (by simp) _
    have tF : OwnT D WF (.slice av NS.length cv) F7 NS := by
     rw [← hF]
     refine HT7.out.wr ((Wr.refl [w.heap.size + 1] _).setCell (by simp) _) (fun b hb hm => ?_)
     rcases HF7.out b hb with h | h
     ·simp at h
     ·simp at hm; omega
    have r0' := vF.box
    obtain ⟨fq, h1, h2, -⟩ := tF.read (by unfold reachLen; omega) (fun x hx => by
     have h1 := kids_idN (M := 1048576) (first := first) (j := 0) (xs := exN s0 s0.length n 0 (-1) 0) (fun x hx => (exN_small s0 (cells_small HWT.out).2 s0.length n 0 (-1) 0 x hx).2.1) x (by rw [← HNS.out]; exact hx)
     unfold reachLen
     omega)
    have h3 := h2.of_le HGD.out.size
    clear hF vF tF h2
    exact bodyPost_ret (v := .tuple #[.agg #[.slice av NS.length cv], .bool true]) (by simp [results, Try.results19, go_sem, r0']) rfl ⟨#[.slice av NS.length cv], fq, by rw [HNO.out]; rfl, by rw [HNO.out]; exact ⟨_, rfl, h1⟩, h3, gF⟩
  ·have HNO := Lib.hid (expOf_no (s := s0) (a := a) (first := first) (fun h => hfi h.2.2.1))
   have HB := Lib.hid (show (validB s0 && (decide (0 ≤ a) && decide (a ≤ (s0.length : Int) - 1))) = true by rw [validB_true hc.1, decide_eq_true hc.2.1, decide_eq_true hc.2.2]; rfl)
   have HFI := Lib.hid (show first < 1 ∨ 999 < first by omega)
   clear hc hfi
   go_enter Try.func19, Try.ntmps19
   go_wp2_with fail
   refine (isCell_any _ _ s0 a _ (Rd.gr HS.out gd)).mono ?_
   rintro e w' ⟨rfl, x1, rfl⟩
   rw [HB.out]
   go_wp2_with fail
   refine (within_no _ _ _ _ HFI.out).mono ?_
   rintro e w' ⟨rfl, x2, rfl⟩
   go_wp2_with fail
   have r0' : (((((w.alloc (.cells #[.slice as0 s0.length ks0] 32)).alloc (.cells #[.slice none 0 0] 38)).alloc (.cells #[.slice none 0 0] 38)).ext x1).ext x2).cell? ⟨w.heap.size + 1, 0, none⟩ = some (.slice none 0 0) := by repeat (first | ((with_reducible refine box_cell ?_ ?_) <;> first | omega | (simp; done) | (simp; omega) | rfl) | (with_reducible refine Gr.keep (Gr.alloc (Gr.refl _) _) ?_) | (with_reducible refine Gr.keep (Gr.ext (Gr.refl _) _) ?_) | (with_reducible refine Gr.keep (Gr.drew (Gr.refl _)) ?_))
   exact bodyPost_ret (v := .tuple #[.agg #[.slice none 0 0], .bool false]) (by simp [results, Try.results19, go_sem, r0']) rfl ⟨#[.slice none 0 0], [], by rw [HNO.out]; rfl, by rw [HNO.out]; exact ⟨_, rfl, SlR.nil _⟩, Fresh.nil _, gd⟩
 ·have HNO := Lib.hid (expOf_no (s := s0) (a := a) (first := first) (fun h => hc ⟨h.1, h.2.1⟩))
  have HB := Lib.hid (show (validB s0 && (decide (0 ≤ a) && decide (a ≤ (s0.length : Int) - 1))) = false by
   by_cases hv : ValidStore s0
   ·rw [validB_true hv]
    have : ¬ (0 ≤ a ∧ a ≤ (s0.length : Int) - 1) := fun h => hc ⟨hv, h⟩
    simp
    omega
   ·rw [validB_false hv]; rfl)
  clear hc
  go_enter Try.func19, Try.ntmps19
  go_wp2_with fail
  refine (isCell_any _ _ s0 a _ (Rd.gr HS.out gd)).mono ?_
  rintro e w' ⟨rfl, x1, rfl⟩
  rw [HB.out]
  go_wp2_with fail
  have r0' : ((((w.alloc (.cells #[.slice as0 s0.length ks0] 32)).alloc (.cells #[.slice none 0 0] 38)).alloc (.cells #[.slice none 0 0] 38)).ext x1).cell? ⟨w.heap.size + 1, 0, none⟩ = some (.slice none 0 0) := by repeat (first | ((with_reducible refine box_cell ?_ ?_) <;> first | omega | (simp; done) | (simp; omega) | rfl) | (with_reducible refine Gr.keep (Gr.alloc (Gr.refl _) _) ?_) | (with_reducible refine Gr.keep (Gr.ext (Gr.refl _) _) ?_) | (with_reducible refine Gr.keep (Gr.drew (Gr.refl _)) ?_))
  exact bodyPost_ret (v := .tuple #[.agg #[.slice none 0 0], .bool false]) (by simp [results, Try.results19, go_sem, r0']) rfl ⟨#[.slice none 0 0], [], by rw [HNO.out]; rfl, by rw [HNO.out]; exact ⟨_, rfl, SlR.nil _⟩, Fresh.nil _, gd⟩
end Go.Proofs.Ytmfcagcanhmdbaa

namespace Go.Proofs.Ytmfcagcanhmdbaa

def BfsInv (xs : List GCell) (a i : Nat) (L : List Int) : Prop :=
 i ≤ L.length ∧ L.Nodup ∧ (∀ y ∈ L, ∃ j : Nat, y = j ∧ j < xs.length ∧ Reach xs a j) ∧ (a : Int) ∈ L ∧
  ∀ m (_ : m < L.length), m < i → ∀ p (_ : p < xs.length), L[m] = (p : Int) → ∀ y ∈ xs[p].2.2, y ∈ L

theorem BfsInv.start {xs : List GCell} {a : Nat} (ha : a < xs.length) : BfsInv xs a 0 [(a : Int)] :=
 ⟨by simp, by simp, fun y hy => ⟨a, by simpa using hy, ha, Reach.self _ _⟩, by simp, fun m _ hm => by omega⟩

theorem BfsInv.push {xs : List GCell} (hv : ValidStore xs) {a i p : Nat} {L : List Int} (h : BfsInv xs a i L) (hi : i < L.length) (hp : p < xs.length) (hLp : L[i] = (p : Int)) {y : Int} (hy : y ∈ xs[p].2.2) (hn : y ∉ L) :
  BfsInv xs a i (L ++ [y]) := by
 obtain ⟨h1, h2, h3, h4, h5⟩ := h
 obtain ⟨j, hj, hjl, hjr⟩ := h3 _ (List.getElem_mem hi)
 obtain rfl : j = p := by omega
 have hb := (hv j hp).2 y hy
 refine ⟨by simp; omega, ?_, ?_, by simp [h4], ?_⟩
 ·rw [List.nodup_append]
  exact ⟨h2, by simp, fun u hu v hv e => hn (by simp at hv; rw [← hv, ← e]; exact hu)⟩
 ·intro z hz
  rcases List.mem_append.1 hz with hz | hz
  ·exact h3 z hz
  ·obtain rfl : z = y := by simpa using hz
   exact ⟨z.toNat, by omega, by omega, Reach.step hp hjr (by rw [show ((z.toNat : Nat) : Int) = z by omega]; exact hy)⟩
 ·intro m hm hmi q hq hLq z hz
  have hm2 : m < L.length := by omega
  rw [List.getElem_append_left hm2] at hLq
  exact List.mem_append_left _ (h5 m hm2 hmi q hq hLq z hz)

theorem BfsInv.next {xs : List GCell} {a i p : Nat} {L : List Int} (h : BfsInv xs a i L) (hi : i < L.length) (hLp : L[i] = (p : Int)) (hp : p < xs.length) (hc : ∀ y ∈ xs[p].2.2, y ∈ L) : BfsInv xs a (i + 1) L := by
 obtain ⟨h1, h2, h3, h4, h5⟩ := h
 refine ⟨by omega, h2, h3, h4, fun m hm hmi q hq hLq z hz => ?_⟩
 by_cases hmi2 : m < i
 ·exact h5 m hm hmi2 q hq hLq z hz
 ·obtain rfl : m = i := by omega
  obtain rfl : q = p := by omega
  exact hc z hz

theorem BfsInv.length_le {xs : List GCell} {a i : Nat} {L : List Int} (h : BfsInv xs a i L) : L.length ≤ xs.length :=
 length_le_below h.2.1 fun y hy => by
  obtain ⟨j, hj, hl, _⟩ := h.2.2.1 y hy
  omega

theorem BfsInv.done {xs : List GCell} {a : Nat} {L : List Int} (h : BfsInv xs a L.length L) : L.length = reachN xs a 0 := by
 obtain ⟨h1, h2, h3, h4, h5⟩ := h
 refine reachN_list h2 h3 h4 fun p hp hm y hy => ?_
 obtain ⟨m, hml, e⟩ := List.mem_iff_getElem.1 hm
 exact h5 m hml hml p hp e y hy
end Go.Proofs.Ytmfcagcanhmdbaa

namespace Go.Proofs.Ytmfcagcanhmdbaa
open Go.RowKit

set_option maxRecDepth 10000 in
set_option maxHeartbeats 8000000 in
theorem specShared_any (fp : List Nat) (cs : Array Value) (xs : List GCell) (a : Int) (w : World) (hx : Rd.rd fp w cs.toList xs) (hlen : xs.length ≤ 1048576) :
  Calls Try.prog 26 #[.agg cs, .int .i64 a] w fun e w' => e = .returned (.int .i64 (sharedN xs a)) ∧ Gr w w' := by
 have hrx := hx
 obtain ⟨v, f, rfl, -, hu⟩ := rdStore_inv xs hx
 obtain ⟨aa, ca, rfl, h1, h2, h3⟩ := hu.open
 clear hx
 by_cases hv : ValidStore xs
 ·have HV := Lib.hid hv
  clear hv
  by_cases hin : 0 ≤ a ∧ a ≤ (xs.length : Int) - 1
  ·obtain ⟨n, rfl⟩ : ∃ n : Nat, a = n := ⟨a.toNat, by omega⟩
   have HI := Lib.hid hin
   have hn : n < xs.length := by omega
   clear hin
   go_enter Try.func26, Try.ntmps26
   go_wp2_with fail
   refine (specValid_any _ _ xs _ (Rd.gr hrx gd)).mono ?_
   rintro e w' ⟨rfl, x1, rfl⟩
   rw [validB_true HV.out]
   go_wp2_with fail
   refine (l1In_yes _ _ _ _ HI.out.1 HI.out.2).mono ?_
   rintro e w' ⟨rfl, x2, rfl⟩
   go_wp2_with fail
   obtain ⟨i0, hi0, hz0, hz1, hz2⟩ := info_parts Try.infoInt
   generalize hB : (w.alloc (Obj.cells #[Value.slice aa xs.length ca] 32)) = B
   have gB : Gr w B := by rw [← hB]; exact gd
   have bB : ∀ w' : World, Gr B w' → w'.cell? ⟨w.heap.size, 0, none⟩ = some (.slice aa xs.length ca) := fun w' hg => hg.keep (by rw [← hB]; exact box_cell rfl rfl)
   have sB : B.heap.size = w.heap.size + 1 := by rw [← hB]; simp
   clear hB
   have HZ := Lib.hid (And.intro hi0 (And.intro hz0 (And.intro hz1 hz2)))
   clear hi0 hz0 hz1 hz2
   go_loopw [5, 6] (fun s5 s6 wr => ∃ (i : Nat) (L : List Int), BfsInv xs n i L ∧ Gr B wr ∧ wr.ownsRow B.heap.size 3 1 s5 L.length (L.map (Value.int .i64)) ∧ s6 = .int .i64 i) (fun s5 s6 _ => xs.length - (intOf s6).toNat)
   case atStart =>
    refine ⟨0, [(n : Int)], BfsInv.start hn, ((Gr.refl B).ext x1).ext x2 |>.alloc _, ?_, rfl⟩
    have := World.ownsRow_lit (base := B.heap.size) (e := 3) (size := 1) ((B.ext x1).ext x2) #[.int .i64 n] 1 (by simp; omega) (by decide) rfl
    simpa [sB] using this
   case round =>
    obtain ⟨i, L, hI, hg, hown, rfl⟩ := hrel
    rename World => W1
    have HI2 := Lib.hid hI
    have hLn : L.length ≤ xs.length := hI.length_le
    have hL0 : 0 < L.length := List.length_pos_of_mem hI.2.2.2.1
    obtain ⟨g, cap, rfl, hbg, hgl⟩ := ownForm hown hL0
    have HOW := Lib.hid hown
    have HGR := Lib.hid hg
    have hbox := bB _ hg
    by_cases hlt : i < L.length
    ·obtain ⟨p, hpe, hpl, hpr⟩ := hI.2.2.1 _ (List.getElem_mem hlt)
     have hcell : W1.cell? ⟨g, i, none⟩ = some (.int .i64 (p : Int)) := by
      rw [hown.cellAt i (by omega), List.getElem?_map, List.getElem?_eq_getElem hlt, ← hpe]; rfl
     have HP := Lib.hid hpe
     have gw : Gr w W1 := gB.trans hg
     clear hI hown hpe hpr hg
     obtain ⟨b, off, rfl, hb⟩ := h3 p hpl
     obtain ⟨csq, feq, hcq, hrq, -⟩ := hu.at hpl
     generalize hyq : xs[p] = yq at hrq
     obtain ⟨q0, q1, q2⟩ := yq
     obtain ⟨vq2, fq2, hcsq, -, hq0, hq1, hq2⟩ := rdCell_inv (cs := csq.toArray) q0 q1 q2 (by simpa using hrq)
     obtain rfl : csq = [.string q0, .int .i64 q1, vq2] := by have := congrArg Array.toList hcsq; simpa using this
     obtain ⟨aq, cq, rfl, k1, k2, k3⟩ := hq2.open
     have z2 : W1.cell? ⟨b, off + p * 3 + 2, none⟩ = some (.slice aq q2.length cq) := gw.keep (hcq 2 _ rfl)
     have zb := blk z2
     have zg := blk hcell
     have zx := blk hbox
     have HY := Lib.hid hyq
     clear h3 hcsq hcq hrq hyq
     go_wp2_with fail
     refine wp_region_grown (by kernel_rfl) (by kernel_rfl) ?_
     repeat (go_big_quiet_step (fail))
     refine wpQuiet_nil ?_
     intro _ hw'
     obtain ⟨nx, hw''⟩ := hw'
     subst hw''
     go_wp2_with fail
     have HB2 := Lib.hid hbox
     go_loopw [5, 8] (fun s5 s8 wr => ∃ (k : Nat) (M : List Int), k ≤ q2.length ∧ BfsInv xs n i M ∧ (∃ h : i < M.length, M[i] = (p : Int)) ∧ (∀ m (h : m < q2.length), m < k → q2[m] ∈ M) ∧ Gr B wr ∧ wr.ownsRow B.heap.size 3 1 s5 M.length (M.map (Value.int .i64)) ∧ s8 = .int .i64 k) (fun s5 s8 _ => q2.length - (intOf s8).toNat)
     case atStart => exact ⟨0, L, by omega, HI2.out, ⟨hlt, HP.out⟩, by omega, HGR.out.ext nx, ownsRow_gr HOW.out ((Gr.refl W1).ext nx), rfl⟩
     case round =>
      obtain ⟨k, M, hk, hJ, hMi, hin, hg2, hown2, rfl⟩ := hrel
      have hMn : M.length ≤ xs.length := hJ.length_le
      have hM0 : 0 < M.length := List.length_pos_of_mem hJ.2.2.2.1
      obtain ⟨g2, cap2, rfl, hbg2, hgl2⟩ := ownForm hown2 hM0
      have HJ := Lib.hid hJ
      have HMI := Lib.hid hMi
      have HIN := Lib.hid hin
      have HOW2 := Lib.hid hown2
      have HG2 := Lib.hid hg2
      have hall := hJ.2.2.1
      have hwf : ∀ y ∈ M, (Lit.int .i64 y).wf = true := fun y hy => by
       obtain ⟨j, rfl, hjl, _⟩ := hall y hy
       exact wf_small (by omega) (by omega)
      obtain ⟨fm, hsM, -, -, -⟩ := ownsFlat rfl (Value.int .i64) hown2 (fun y hy => intRd (hwf y hy) _) (by unfold reachLen; omega)
      have HSM := Lib.hid hsM
      clear hJ hMi hin hown2 hg2 hall hwf hsM
      by_cases hkl : k < q2.length
      ·obtain ⟨bq, oq, rfl, hbq⟩ := k3 k hkl
       have c1 : wr.cell? ⟨bq, oq + k, none⟩ = some (.int .i64 q2[k]) := (gB.trans HG2.out).keep (hq2.int_at hkl).1
       have c0 := blk c1
       clear k3
       by_cases hy : q2[k] ∈ M
       ·have hany : M.any (fun z => q2[k] == z) = true := List.any_eq_true.2 ⟨_, hy, by simp⟩
        have HA := Lib.hid hany
        have HY2 := Lib.hid hy
        clear hany hy
        go_wp2_with fail
        refine (l1HasInt_any _ _ M _ _ HSM.out).mono ?_
        rintro e w2 ⟨rfl, x4, rfl⟩
        rw [HA.out]
        go_wp2_with fail
        refine ⟨⟨k + 1, M, by omega, HJ.out, HMI.out, fun m hm hmk => ?_, HG2.out.ext x4, ownsRow_gr HOW2.out ((Gr.refl _).ext x4), by go_num⟩, by simp [intOf]; omega⟩
        by_cases hmk2 : m < k
        ·exact HIN.out m hm hmk2
        ·obtain rfl : m = k := by omega
         exact HY2.out
       ·have hany : M.any (fun z => q2[k] == z) = false := by
         rw [List.any_eq_false]
         intro z hz e
         have e2 : q2[k] = z := by simpa using e
         exact hy (by rw [e2]; exact hz)
        have HA := Lib.hid hany
        have HY2 := Lib.hid hy
        clear hany hy
        go_wp2_with fail
        refine (l1HasInt_any _ _ M _ _ HSM.out).mono ?_
        rintro e w2 ⟨rfl, x4, rfl⟩
        rw [HA.out]
        have hown3 := ownsRow_gr HOW2.out ((Gr.refl wr).ext x4)
        have hg3 : Gr B (wr.ext x4) := HG2.out.ext x4
        have c2 := ((Gr.refl wr).ext x4).keep c1
        clear c1 c0 hgl2
        generalize wr.ext x4 = W2 at hown3 hg3 c2 ⊢
        have c3 := blk c2
        have HOW3 := Lib.hid hown3
        have HG3 := Lib.hid hg3
        clear hown3 hg3
        have hi0 := HZ.out.1
        go_wp2_with (first | (at_builtin; refine wpList_append_gr (w0 := B) (HG3.out.alloc _) rfl _ _ 59 rfl 3 i0 (.int .i64 0) 1 8 Try.underlying59 HZ.out.1 HZ.out.2.1 HZ.out.2.2.1 HZ.out.2.2.2 rfl (by decide) _ _ _ rfl (HOW3.out.alloc _) ⟨W2.heap.size, 0, none⟩ 1 1 [.int .i64 q2[k]] rfl rfl (cell_one_new _ _ _) (fun u hu => by simp at hu; subst hu; rfl) (by decide) (by unfold maxLen; omega) (by omega) ?_; intro v' w3 hown4 hgrow4 hg4))
        obtain ⟨hiM, hMp⟩ := HMI.out
        have hyx : q2[k] ∈ xs[p].2.2 := by rw [HY.out]; exact List.getElem_mem hkl
        refine ⟨⟨k + 1, M ++ [q2[k]], by omega, HJ.out.push HV.out hiM hpl hMp hyx HY2.out, ⟨by simp; omega, by rw [List.getElem_append_left hiM]; exact hMp⟩, fun m hm hmk => ?_, hg4, by simpa using hown4, by go_num⟩, by simp [intOf]; omega⟩
        by_cases hmk2 : m < k
        ·exact List.mem_append_left _ (HIN.out m hm hmk2)
        ·obtain rfl : m = k := by omega
         exact List.mem_append_right _ (by simp)
      ·obtain ⟨hiM, hMp⟩ := HMI.out
       have hMn2 := HJ.out.length_le
       have HMP := Lib.hid hMp
       clear hMp
       go_wp2_with fail
       refine ⟨⟨i + 1, M, HJ.out.next hiM HMP.out hpl fun y hy => ?_, HG2.out, HOW2.out, by go_num⟩, by simp [intOf]; omega⟩
       rw [HY.out] at hy
       obtain ⟨m, hm, rfl⟩ := List.mem_iff_getElem.1 hy
       have hm2 : m < q2.length := hm
       exact HIN.out m hm2 (by omega)
    ·have hi : i = L.length := by have := hI.1; omega
     subst hi
     have hR : L.length = reachN xs n 0 := hI.done
     have HR := Lib.hid hR
     clear hR hI
     go_wp2_with fail
     go_ret
     exact ⟨ret_int (by rw [sharedN_yes HV.out hn, HR.out]), gB.trans HGR.out⟩
  ·have HI := Lib.hid hin
   have hor : a < 0 ∨ (xs.length : Int) - 1 < a := by omega
   have HO := Lib.hid hor
   clear hin hor
   go_enter Try.func26, Try.ntmps26
   go_wp2_with fail
   refine (specValid_any _ _ xs _ (Rd.gr hrx gd)).mono ?_
   rintro e w' ⟨rfl, x1, rfl⟩
   rw [validB_true HV.out]
   go_wp2_with fail
   refine (l1In_no _ _ _ _ HO.out).mono ?_
   rintro e w' ⟨rfl, x2, rfl⟩
   go_wp2_with fail
   go_ret
   exact ⟨ret_int (sharedN_no fun h => HI.out h.2).symm, gd⟩
 ·have HV := Lib.hid hv
  clear hv
  go_enter Try.func26, Try.ntmps26
  go_wp2_with fail
  refine (specValid_any _ _ xs _ (Rd.gr hrx gd)).mono ?_
  rintro e w' ⟨rfl, x1, rfl⟩
  rw [validB_false HV.out]
  go_wp2_with fail
  go_ret
  exact ⟨ret_int (sharedN_no fun h => HV.out h.1).symm, gd⟩
end Go.Proofs.Ytmfcagcanhmdbaa

namespace Go.Proofs.Ytmfcagcanhmdbaa
open Go.RowKit

theorem Try.infoBool : (Try.prog.info? 4).map (fun i => (i.zero, i.size, i.bytes)) = some (some (.bool false), 1, 1) := by kernel_rfl

def Met (xs : List GCell) (a m : Nat) (β : Nat → Bool) : Prop :=
 ∀ j, j < xs.length → (β j = true ↔ j = a ∨ ∃ p, ∃ hp : p < xs.length, m ≤ p ∧ Reach xs a p ∧ (j : Int) ∈ xs[p].2.2)

theorem Met.here {xs : List GCell} (hv : ValidStore xs) {a m : Nat} {β : Nat → Bool} (h : Met xs a (m + 1) β) (hm : m < xs.length) : β m = true ↔ Reach xs a m := by
 rw [h m hm]
 constructor
 ·rintro (rfl | ⟨p, hp, _, hr, hc⟩)
  ·exact Reach.self _ _
  ·exact Reach.step hp hr hc
 ·intro hr
  rcases hr.cases with rfl | ⟨p, hp, hr2, hc⟩
  ·exact .inl rfl
  ·have := (hv p hp).2 _ hc
   exact .inr ⟨p, hp, by omega, hr2, hc⟩

theorem Met.skip {xs : List GCell} {a m : Nat} {β : Nat → Bool} (h : Met xs a (m + 1) β) (hr : ¬ Reach xs a m) : Met xs a m β := by
 intro j hj
 rw [h j hj]
 constructor
 ·rintro (rfl | ⟨p, hp, h1, h2, h3⟩)
  ·exact .inl rfl
  ·exact .inr ⟨p, hp, by omega, h2, h3⟩
 ·rintro (rfl | ⟨p, hp, h1, h2, h3⟩)
  ·exact .inl rfl
  ·by_cases e : p = m
   ·subst e; exact absurd h2 hr
   ·exact .inr ⟨p, hp, by omega, h2, h3⟩

theorem Met.take {xs : List GCell} {a m : Nat} {β β' : Nat → Bool} (h : Met xs a (m + 1) β) (hm : m < xs.length) (hr : Reach xs a m)
  (hb : ∀ j, j < xs.length → (β' j = true ↔ β j = true ∨ (j : Int) ∈ xs[m].2.2)) : Met xs a m β' := by
 intro j hj
 rw [hb j hj, h j hj]
 constructor
 ·rintro ((rfl | ⟨p, hp, h1, h2, h3⟩) | hc)
  ·exact .inl rfl
  ·exact .inr ⟨p, hp, by omega, h2, h3⟩
  ·exact .inr ⟨m, hm, Nat.le_refl _, hr, hc⟩
 ·rintro (rfl | ⟨p, hp, h1, h2, h3⟩)
  ·exact .inl (.inl rfl)
  ·by_cases e : p = m
   ·subst e; exact .inr h3
   ·exact .inl (.inr ⟨p, hp, by omega, h2, h3⟩)

theorem reachN_le (xs : List GCell) (a k : Nat) : reachN xs a k ≤ xs.length := by
 unfold reachN
 have := List.length_filter_le (reachB xs a k) (List.range xs.length)
 simpa using this

set_option maxRecDepth 10000 in
set_option maxHeartbeats 8000000 in
theorem implShared_any (fp : List Nat) (cs : Array Value) (xs : List GCell) (a : Int) (w : World) (hx : Rd.rd fp w cs.toList xs) (hlen : xs.length ≤ 1048576) :
    Calls Try.prog 24 #[.agg cs, .int .i64 a] w fun e w' => e = .returned (.int .i64 (sharedN xs a)) ∧ Gr w w' := by
  have hrx := hx
  obtain ⟨v, f, rfl, -, hu⟩ := rdStore_inv xs hx
  obtain ⟨aa, ca, rfl, h1, h2, h3⟩ := hu.open
  clear hx
  by_cases hall : ValidStore xs ∧ 0 ≤ a ∧ a ≤ (xs.length : Int) - 1
  · obtain ⟨hv, hin0, hin1⟩ := hall
    obtain ⟨n, rfl⟩ : ∃ n : Nat, a = n := ⟨a.toNat, by omega⟩
    have HV := Lib.hid hv
    have hn : n < xs.length := by omega
    have hB : (validB xs && (decide (0 ≤ (n : Int)) && decide ((n : Int) ≤ (xs.length : Int) - 1))) = true := by
      rw [validB_true hv, decide_eq_true hin0, decide_eq_true hin1]; rfl
    have HB := Lib.hid hB
    clear hv hin0 hin1 hB
    obtain ⟨i0, hi, hz0, hz1, hz2⟩ := info_parts Try.infoBool
    have hmk := fun (W : World) => run_make (P := Try.prog) W 92 4 i0 (.bool false) Try.underlying92 hi hz0 .i64 .i64 xs.length xs.length (by omega) (by omega) (by rw [hz2]; omega) (by omega)
    rw [hz1] at hmk
    clear hi hz0 hz1 hz2
    simp only [Int.toNat_natCast, Nat.mul_one] at hmk
    have hms := size_madeCells (Value.bool false).cells xs.length
    have hmc : ∀ j, j < xs.length → (madeCells (Value.bool false).cells xs.length)[j]? = some (.bool false) := by
      intro j hj
      show (madeCells #[Value.bool false] xs.length)[j]? = _
      rw [← Array.getElem?_toList, toList_madeCells_one, List.getElem?_replicate, if_pos hj]
    generalize madeCells (Value.bool false).cells xs.length = C0 at hmk hms hmc
    have HS := Lib.hid hms
    have HC := Lib.hid hmc
    have y0 : n < C0.size := by have : C0.size = xs.length := by simpa using hms
                                omega
    clear hms hmc
    go_enter Try.func24, Try.ntmps24
    go_wp2_with fail
    refine (isCell_any _ _ xs _ _ (Rd.gr hrx gd)).mono ?_
    rintro e w' ⟨rfl, x1, rfl⟩
    rw [HB.out]
    generalize hW0 : (w.alloc (Obj.cells #[Value.slice aa xs.length ca] 32)).ext x1 = W0
    have gW : Gr w W0 := by rw [← hW0]; exact gd
    have gB : Gr (w.alloc (Obj.cells #[Value.slice aa xs.length ca] 32)) W0 := by rw [← hW0]; exact gd
    have hbox : W0.cell? ⟨w.heap.size, 0, none⟩ = some (.slice aa xs.length ca) := gB.keep (box_cell rfl rfl)
    have zx := blk hbox
    clear hW0 gB
    go_wp2_with fail
    go_loopw [6, 7] (fun s6 s7 wr => ∃ (m : Nat) (C : Array Value) (β : Nat → Bool), m ≤ n + 1 ∧ C.size = xs.length ∧ (∀ j, j < xs.length → C[j]? = some (.bool (β j))) ∧ Met xs n m β ∧ wr = W0.alloc (.cells C 4) ∧ s6 = .int .i64 (reachN xs n m : Int) ∧ s7 = .int .i64 ((m : Int) - 1)) (fun s6 s7 _ => (intOf s7 + 1).toNat)
    case atStart =>
      refine ⟨n + 1, _, fun j => decide (j = n), by omega, by simpa using HS.out, fun j hj => ?_, fun j hj => ?_, rfl, by rw [reachN_top HV.out]; rfl, by go_num⟩
      · rw [Array.getElem?_setIfInBounds]
        by_cases e : n = j
        · subst e; simp [y0]
        · rw [if_neg e, HC.out j hj]; simp [Ne.symm e]
      · simp only [decide_eq_true_eq]
        constructor
        · exact fun e => .inl e
        · rintro (e | ⟨p, hp, h1, h2, h3⟩)
          · exact e
          · have := h2.le HV.out
            omega
    case round =>
      obtain ⟨m, C, β, hm, hCs, hC, hM, rfl, rfl, rfl⟩ := hrel
      have HCS := Lib.hid hCs
      have HC2 := Lib.hid hC
      have HM := Lib.hid hM
      clear hC hM
      cases m with
      | zero =>
        go_wp2_with fail
        go_ret
        exact ⟨ret_int (by rw [sharedN_yes HV.out hn]), gW.alloc _⟩
      | succ m =>
        have e : ((m + 1 : Nat) : Int) - 1 = m := by omega
        rw [e]
        have HE := Lib.hid e
        have hml : m < xs.length := by omega
        have c1 := HC2.out m hml
        have y1 : m < C.size := by omega
        clear e hCs
        have hrn := reachN_le xs n (m + 1)
        by_cases hr : Reach xs n m
        · have HR := Lib.hid hr
          have hb : β m = true := (HM.out.here HV.out hml).2 hr
          rw [hb] at c1
          have c2 : C[m] = .bool true := by simpa [y1] using c1
          obtain ⟨b, off, rfl, hbk⟩ := h3 m hml
          obtain ⟨csq, feq, hcq, hrq, -⟩ := hu.at hml
          generalize hyq : xs[m] = yq at hrq
          obtain ⟨q0, q1, q2⟩ := yq
          obtain ⟨vq2, fq2, hcsq, -, hq0, hq1, hq2⟩ := rdCell_inv (cs := csq.toArray) q0 q1 q2 (by simpa using hrq)
          obtain rfl : csq = [.string q0, .int .i64 q1, vq2] := by have := congrArg Array.toList hcsq; simpa using this
          obtain ⟨aq, cq, rfl, k1, k2, k3⟩ := hq2.open
          have z2 : W0.cell? ⟨b, off + m * 3 + 2, none⟩ = some (.slice aq q2.length cq) := gW.keep (hcq 2 _ rfl)
          have zb := blk z2
          have HY := Lib.hid hyq
          clear h3 hcsq hcq hrq hyq
          clear hr hb c1
          go_wp2_with fail
          go_loopw [9, 40] (fun s9 s40 wr => ∃ (k : Nat) (D : Array Value) (γ : Nat → Bool), k ≤ q2.length ∧ D.size = xs.length ∧ (∀ j, j < xs.length → D[j]? = some (.bool (γ j))) ∧ (∀ j, j < xs.length → (γ j = true ↔ β j = true ∨ ∃ i, ∃ h : i < q2.length, i < k ∧ q2[i] = (j : Int))) ∧ wr = W0.alloc (.cells D 4) ∧ s40 = .int .i64 k) (fun s9 s40 _ => q2.length - (intOf s40).toNat)
          case atStart => exact ⟨0, C, β, by omega, HCS.out, HC2.out, fun j hj => ⟨.inl, fun h => h.elim id fun ⟨i, _, h, _⟩ => absurd h (by omega)⟩, rfl, rfl⟩
          case round =>
            obtain ⟨k, D, γ, hk, hDs, hD, hG, rfl, rfl⟩ := hrel
            have HDS := Lib.hid hDs
            have HD := Lib.hid hD
            have HG := Lib.hid hG
            clear hD hG
            by_cases hkl : k < q2.length
            · obtain ⟨bq, oq, rfl, hbq⟩ := k3 k hkl
              have hch : 0 ≤ q2[k] ∧ q2[k] ≤ (m : Int) - 1 := (HV.out m hml).2 _ (by rw [HY.out]; exact List.getElem_mem hkl)
              obtain ⟨d, hd⟩ : ∃ d : Nat, q2[k] = d := ⟨q2[k].toNat, by omega⟩
              have d1 : W0.cell? ⟨bq, oq + k, none⟩ = some (.int .i64 (d : Int)) := by rw [← hd]; exact gW.keep (hq2.int_at hkl).1
              have d0 := blk d1
              have hdl : d < xs.length := by omega
              have y2 : d < D.size := by omega
              have HDD := Lib.hid hd
              clear k3 hch hd hDs
              go_wp2_with fail
              refine ⟨⟨k + 1, _, fun j => decide (j = d) || γ j, by omega, by simp [HDS.out], fun j hj => ?_, fun j hj => ?_, rfl, by go_num⟩, by simp [intOf] <;> omega⟩
              · rw [Array.getElem?_setIfInBounds]
                by_cases e : d = j
                · subst e; simp [y2]
                · rw [if_neg e, HD.out j hj]; simp [Ne.symm e]
              · rw [Bool.or_eq_true, decide_eq_true_eq, HG.out j hj]
                constructor
                · rintro (rfl | h | ⟨i, h, h1, h2⟩)
                  · exact .inr ⟨k, hkl, by omega, HDD.out⟩
                  · exact .inl h
                  · exact .inr ⟨i, h, by omega, h2⟩
                · rintro (h | ⟨i, h, h1, h2⟩)
                  · exact .inr (.inl h)
                  · by_cases e : i = k
                    · subst e
                      have := HDD.out
                      exact .inl (by omega)
                    · exact .inr (.inr ⟨i, h, by omega, h2⟩)
            · clear hDs
              go_wp2_with fail
              refine ⟨⟨m, D, γ, by omega, HDS.out, HD.out, HM.out.take hml HR.out fun j hj => ?_, rfl, by rw [reachN_yes hml HR.out]; go_num, by go_num⟩, by simp [intOf] <;> omega⟩
              rw [HG.out j hj, HY.out]
              refine or_congr Iff.rfl ⟨fun ⟨i, h, _, e⟩ => by rw [← e]; exact List.getElem_mem h, fun h => ?_⟩
              obtain ⟨i, hi, e⟩ := List.mem_iff_getElem.1 h
              have hi2 : i < q2.length := hi
              exact ⟨i, hi2, by omega, e⟩
        · have HR := Lib.hid hr
          have hb : β m = false := Bool.eq_false_iff.2 fun h => hr ((HM.out.here HV.out hml).1 h)
          rw [hb] at c1
          have c2 : C[m] = .bool false := by simpa [y1] using c1
          clear hr hb c1
          go_wp2_with fail
          refine ⟨⟨m, C, β, by omega, HCS.out, HC2.out, HM.out.skip HR.out, rfl, by rw [reachN_no HR.out], by go_num⟩, by simp [intOf] <;> omega⟩
  · have HA := Lib.hid hall
    have hB : (validB xs && (decide (0 ≤ a) && decide (a ≤ (xs.length : Int) - 1))) = false := by
      rw [Bool.eq_false_iff]
      intro h
      simp only [Bool.and_eq_true, decide_eq_true_eq] at h
      exact hall ⟨validB_iff.1 h.1, h.2⟩
    have HB := Lib.hid hB
    clear hall hB
    go_enter Try.func24, Try.ntmps24
    go_wp2_with fail
    refine (isCell_any _ _ xs _ _ (Rd.gr hrx gd)).mono ?_
    rintro e w' ⟨rfl, x1, rfl⟩
    rw [HB.out]
    go_wp2_with fail
    go_ret
    exact ⟨ret_int (sharedN_no HA.out).symm, gd⟩
end Go.Proofs.Ytmfcagcanhmdbaa

namespace Go.Proofs.Ytmfcagcanhmdbaa
open Go.RowKit
set_option linter.unusedVariables false
set_option linter.unusedSimpArgs false

theorem bigS_any (fp : List Nat) (u : Value) (code : List U8) (w : World) (hu : SlR fp w u code) :
  Calls Try.prog 17 #[u] w fun e w' => e = .returned (.bool (decide ((1048576 : Int) < (code.length : Int)))) ∧ w = w' := by
 obtain ⟨a, ca, rfl, h1, h2, h3⟩ := hu.open
 clear h3
 go_enter Try.func17, Try.ntmps17
 go_wp2
 all_goals
  go_ret
  refine ⟨?_, rfl⟩
  first | rfl | (congr 2; simp; done) | simp
theorem itn_valid {s : GStore} {t : List GNode} {i : Int} : (!validB (itnOf s t i).1 && validB s) = false := by
 rcases Int.lt_or_le (itnOf s t i).2 0 with h | h
 ·rw [(itn_neg h).1]
  cases validB s <;> rfl
 ·rw [validB_true (itn_emb h).2.2.2.1]
  rfl

set_option maxRecDepth 100000 in
set_option maxHeartbeats 16000000 in
theorem fnShared_any (fp : List Nat) (u : Value) (code : List U8) (w : World) (hu : SlR fp w u code) :
  Calls Try.prog 5 #[u] w fun e w' => e = .returned (.bool true) ∧ Gr w w' := by
 have HU := Lib.hid hu
 obtain ⟨ac, cc, rfl, -, -, -⟩ := hu.open
 clear hu
 by_cases hbig : (1048576 : Int) < (code.length : Int)
 ·have HB := Lib.hid (decide_eq_true hbig)
  clear hbig
  go_enter Try.func5, Try.ntmps5
  go_wp2_with fail
  refine (bigS_any _ _ code _ HU.out).mono ?_
  rintro e w1 ⟨rfl, rfl⟩
  rw [HB.out]
  go_wp2_with fail
  go_ret
  exact ⟨rfl, Gr.refl _⟩
 ·have hcl : code.length ≤ 1048576 := by omega
  have HB := Lib.hid (decide_eq_false hbig)
  clear hbig
  go_enter Try.func5, Try.ntmps5
  go_wp2_with fail
  refine (bigS_any _ _ code _ HU.out).mono ?_
  rintro e w1 ⟨rfl, rfl⟩
  rw [HB.out]
  go_wp2_with fail
  refine (drawIntern_any _ _ code _ HU.out hcl).mono ?_
  rintro e W1 ⟨vs, fs, s, vt, ft, uu, ns, i, rfl, hrs, hrt, hws, hfu, hlu, hbn, hi0, hi1, hg1⟩
  obtain ⟨vs0, fs0, ecs, -, hs0⟩ := rdStore_inv (cs := #[vs]) s hrs
  obtain rfl : vs = vs0 := by simpa using ecs
  obtain ⟨as0, ks0, rfl, -, -, -⟩ := hs0.open
  obtain ⟨vt0, ft0, ect, -, ht0⟩ := rdTree_inv (cs := #[vt]) ns hrt
  obtain rfl : vt = vt0 := by simpa using ect
  obtain ⟨at0, kt0, rfl, -, -, -⟩ := ht0.open
  have hwn : wtTree ns ≤ 5000 := by have h1 := hbn.wt; have h2 := hfu.wt hlu; omega
  have hln : ns.length ≤ 40 := by rw [hbn.len]; exact hlu
  obtain ⟨R, hR⟩ : ∃ R, R = itnOf s ns i := ⟨_, rfl⟩
  have hwR : wtStore R.1 ≤ 14000 := by rw [hR]; have := itn_le (s := s) (t := ns) i; omega
  have HRR := Lib.hid hR
  have HVAL := Lib.hid (show (!validB R.1 && validB s) = false by rw [hR]; exact itn_valid)
  have HRS := Lib.hid hrs
  have HRT := Lib.hid hrt
  have HBN := Lib.hid hbn
  have HFU := Lib.hid hfu
  have HG1 := Lib.hid hg1
  obtain ⟨s', n⟩ := R
  simp only at hwR HVAL
  clear hrs hrt hs0 ht0 ecs ect hg1 hbn hfu hR
  go_wp2_with fail
  have g12 := (show Gr W1 ((W1.alloc (.cells #[.slice as0 s.length ks0] 32)).alloc (.cells #[.slice at0 ns.length kt0] 38)) from gd)
  have VS2 := Lib.hid (show VRow ((W1.alloc (.cells #[.slice as0 s.length ks0] 32)).alloc (.cells #[.slice at0 ns.length kt0] 38)) W1.heap.size 32 [.slice as0 s.length ks0] from (VRow.new (A := W1) rfl).gr gd)
  have VT2 := Lib.hid (show VRow ((W1.alloc (.cells #[.slice as0 s.length ks0] 32)).alloc (.cells #[.slice at0 ns.length kt0] 38)) (W1.heap.size + 1) 38 [.slice at0 ns.length kt0] from VRow.new (by simp))
  generalize ((W1.alloc (.cells #[.slice as0 s.length ks0] 32)).alloc (.cells #[.slice at0 ns.length kt0] 38)) = W2 at g12 VS2 VT2 ⊢
  have HRS2 := Lib.hid (Rd.gr HRS.out g12)
  have HRT2 := Lib.hid (Rd.gr HRT.out g12)
  have HG2 := Lib.hid (HG1.out.trans g12)
  have hsz12 := g12.size
  clear HRS HRT HG1 g12
  refine (implIntern_any s ns i W2 HRS2.out HRT2.out (by omega) (by omega)).mono ?_
  rw [← HRR.out]
  rintro e W3 ⟨c3, f3, rfl, hr3, -, hg3⟩
  simp only at hr3 ⊢
  obtain ⟨v3, g3, rfl, -, hsl3⟩ := rdStore_inv s' hr3
  obtain ⟨a3, k3, rfl, -, -, -⟩ := hsl3.open
  have VS3 := Lib.hid (VS2.out.gr hg3)
  have VT3 := Lib.hid (VT2.out.gr hg3)
  have x0 := VS3.out.cell (k := 0) (by simp)
  have y0 := VT3.out.cell (k := 0) (by simp)
  have zx0 := blk x0
  have zy0 := blk y0
  have HR3 := Lib.hid hr3
  have HG23 := Lib.hid hg3
  clear hr3 hg3 hsl3
  go_wp2_with fail
  have g34 := (show Gr W3 (W3.alloc (.cells #[.slice a3 s'.length k3] 32)) from gd)
  have VA4 := Lib.hid (show VRow (W3.alloc (.cells #[.slice a3 s'.length k3] 32)) W3.heap.size 32 [.slice a3 s'.length k3] from VRow.new rfl)
  generalize W3.alloc (.cells #[.slice a3 s'.length k3] 32) = W4 at g34 VA4 ⊢
  have HG24 := Lib.hid (HG23.out.trans g34)
  have hsz34 := g34.size
  have VS4 := Lib.hid (VS3.out.gr g34)
  have VT4 := Lib.hid (VT3.out.gr g34)
  have HRA4 := Lib.hid (Rd.gr HR3.out g34)
  clear x0 y0 zx0 zy0 g34 HG23 VS3 VT3 HR3
  refine (specIntern_own s ns i W4 (Rd.gr HRS2.out HG24.out) (Rd.gr HRT2.out HG24.out) (by omega) (by omega)).mono ?_
  rw [← HRR.out]
  rintro e W5 ⟨v5, F5, rfl, ho5, hg5⟩
  simp only at ho5 ⊢
  obtain ⟨a5, k5, rfl⟩ := ho5.form
  obtain ⟨f5, hr5, -, -⟩ := ho5.rd (by omega)
  have HR5 := Lib.hid hr5
  have HG45 := Lib.hid hg5
  clear hr5 hg5 ho5
  go_upto_region 6 with fail
  have g56 := (show Gr W5 (W5.alloc (.cells #[.slice a5 s'.length k5] 32)) from gd)
  have VB6 := Lib.hid (show VRow (W5.alloc (.cells #[.slice a5 s'.length k5] 32)) W5.heap.size 32 [.slice a5 s'.length k5] from VRow.new rfl)
  generalize W5.alloc (.cells #[.slice a5 s'.length k5] 32) = W6 at g56 VB6 ⊢
  have g46 := HG45.out.trans g56
  have VS6 := Lib.hid (VS4.out.gr g46)
  have VT6 := Lib.hid (VT4.out.gr g46)
  have VA6 := Lib.hid (VA4.out.gr g46)
  have HRS6 := Lib.hid (Rd.gr HRS2.out (HG24.out.trans g46))
  have HRT6 := Lib.hid (Rd.gr HRT2.out (HG24.out.trans g46))
  have HRA6 := Lib.hid (Rd.gr HRA4.out g46)
  have HRB6 := Lib.hid (Rd.gr HR5.out g56)
  have HG6 := Lib.hid (HG2.out.trans (HG24.out.trans g46))
  have hsz46 := g46.size
  have hsz56 := g56.size
  clear g46 g56 VS4 VT4 VA4 HRA4 HR5 HG45 HG24 HRS2 HRT2 HG2
  have HVI := Lib.hid (fun x : Ext => implValid_any _ _ s' _ (Rd.gr HRA6.out (gd : Gr W6 (W6.ext x))))
  have HVP := Lib.hid (fun x : Ext => specValid_any _ _ s _ (Rd.gr HRS6.out (gd : Gr W6 (W6.ext x))))
  have x0 := VS6.out.cell (k := 0) (by simp)
  have y0 := VT6.out.cell (k := 0) (by simp)
  have a0 := VA6.out.cell (k := 0) (by simp)
  have b0 := VB6.out.cell (k := 0) (by simp)
  have zx0 := blk x0
  have zy0 := blk y0
  have za0 := blk a0
  have zb0 := blk b0
  go_cut [57] (fun s57 wx => s57 = .bool false ∧ Gr W6 wx)
  case first =>
   go_wp2_with fail
   refine (implValid_any _ _ s' _ HRA6.out).mono ?_
   rintro e w' ⟨rfl, x7, rfl⟩
   cases hva : validB s' with
   | true =>
    go_wp2_with fail
    go_meet
    exact ⟨rfl, gd⟩
   | false =>
    have hvs : validB s = false := by have := HVAL.out; rw [hva] at this; simpa using this
    go_wp2_with fail
    refine (specValid_any _ _ s _ (Rd.gr HRS6.out gd)).mono ?_
    rintro e w' ⟨rfl, x8, rfl⟩
    rw [hvs]
    go_wp2_with fail
    go_meet
    exact ⟨rfl, gd⟩
  case rest =>
   obtain ⟨rfl, g67⟩ := hcut
   rename World => W7
   have hsz67 := g67.size
   have HRA7 := Lib.hid (Rd.gr HRA6.out g67)
   have HRB7 := Lib.hid (Rd.gr HRB6.out g67)
   have HRT7 := Lib.hid (Rd.gr HRT6.out g67)
   have VS7 := Lib.hid (VS6.out.gr g67)
   have VT7 := Lib.hid (VT6.out.gr g67)
   have VA7 := Lib.hid (VA6.out.gr g67)
   have VB7 := Lib.hid (VB6.out.gr g67)
   have HG7 := Lib.hid (HG6.out.trans g67)
   clear x0 y0 a0 b0 zx0 zy0 za0 zb0 g67 HRA6 HRB6 HRT6 HRS6 VS6 VT6 VA6 VB6 HVI HVP
   have x0 := VS7.out.cell (k := 0) (by simp)
   have y0 := VT7.out.cell (k := 0) (by simp)
   have a0 := VA7.out.cell (k := 0) (by simp)
   have b0 := VB7.out.cell (k := 0) (by simp)
   have zx0 := blk x0
   have zy0 := blk y0
   have za0 := blk a0
   have zb0 := blk b0
   by_cases hn : n < 0
   ·have hss : s' = s := by
     have h1 := HRR.out
     have h2 : (itnOf s ns i).2 < 0 := by rw [← h1]; exact hn
     have h3 := (itn_neg h2).1
     rw [← h1] at h3
     exact h3
    have HLS := Lib.hid (show ((s'.length : Int) == (s.length : Int)) = true by rw [hss]; simp)
    clear hss
    have hls := HLS.out
    go_wp2_with fail
    go_ret
    exact ⟨rfl, HG7.out.trans gd⟩
   ·have hn0 : 0 ≤ n := by omega
    have hemb := itn_emb (s := s) (t := ns) (i := i) (by rw [← HRR.out]; exact hn0)
    rw [← HRR.out] at hemb
    obtain ⟨hvs, -, hi2, hvs', hE⟩ := hemb
    simp only at hvs' hE
    obtain ⟨N, rfl⟩ : ∃ N : Nat, n = N := ⟨n.toNat, by omega⟩
    obtain ⟨I, rfl⟩ : ∃ I : Nat, i = I := ⟨i.toNat, by omega⟩
    rw [Int.toNat_natCast, Int.toNat_natCast] at hE
    have HFI := Lib.hid (itn_find hvs' hE)
    obtain ⟨m, hseg, hnf, hshape⟩ := shape_all HBN.out HFU.out hlu hvs' hE
    have HSEG := Lib.hid hseg
    have HNF := Lib.hid hnf
    have HSHP := Lib.hid hshape
    have hshc := shared_cells s' (N : Int)
    obtain ⟨sn, hsn⟩ : ∃ n, n = sharedN s' (N : Int) := ⟨_, rfl⟩
    rw [← hsn] at hshc
    have HSN := Lib.hid hsn
    have hshn : ((s'.length : Int) < sn) = False := by simp; omega
    have hshd : decide ((s'.length : Int) < sn) = false := decide_eq_false (by omega)
    have hls' : s'.length ≤ 14000 := (kids_store hwR).1
    clear hvs hvs' hE hseg hnf hshape hsn hi2
    go_wp2_with fail
    refine (implIntern_any s' ns (I : Int) W7 HRA7.out HRT7.out (by omega) (by omega)).mono ?_
    rw [HFI.out]
    rintro e W8 ⟨c8, f8, rfl, hr8, -, hg8⟩
    simp only at hr8 ⊢
    obtain ⟨v8, g8, rfl, -, hsl8⟩ := rdStore_inv s' hr8
    obtain ⟨a8, k8, rfl, -, -, -⟩ := hsl8.open
    have hsz78 := hg8.size
    have HG78 := Lib.hid hg8
    clear hsl8 hr8 hg8 x0 y0 a0 b0 zx0 zy0 za0 zb0
    go_upto_region 11 with fail
    have g89 := (show Gr W8 (W8.alloc (.cells #[.slice a8 s'.length k8] 32)) from gd)
    have VC9 := Lib.hid (show VRow (W8.alloc (.cells #[.slice a8 s'.length k8] 32)) W8.heap.size 32 [.slice a8 s'.length k8] from VRow.new rfl)
    generalize W8.alloc (.cells #[.slice a8 s'.length k8] 32) = W9 at g89 VC9 ⊢
    have g79 := HG78.out.trans g89
    have VT9 := Lib.hid (VT7.out.gr g79)
    have VA9 := Lib.hid (VA7.out.gr g79)
    have VB9 := Lib.hid (VB7.out.gr g79)
    have HRA9 := Lib.hid (Rd.gr HRA7.out g79)
    have HRB9 := Lib.hid (Rd.gr HRB7.out g79)
    have HRT9 := Lib.hid (Rd.gr HRT7.out g79)
    have HG9 := Lib.hid (HG7.out.trans g79)
    have hsz79 := g79.size
    clear g89 g79 HG78 VS7 VT7 VA7 VB7 HRA7 HRB7 HRT7 HG7
    have y0 := VT9.out.cell (k := 0) (by simp)
    have a0 := VA9.out.cell (k := 0) (by simp)
    have b0 := VB9.out.cell (k := 0) (by simp)
    have d0 := VC9.out.cell (k := 0) (by simp)
    have zy0 := blk y0
    have za0 := blk a0
    have zb0 := blk b0
    have zd0 := blk d0
    have HSI := Lib.hid (show ∀ x : Ext, Calls Try.prog 24 #[.agg #[.slice a3 s'.length k3], .int .i64 (N : Int)] (W9.ext x) fun e w' => e = .returned (.int .i64 sn) ∧ Gr (W9.ext x) w' from fun x => by
     rw [HSN.out]
     exact implShared_any _ _ s' (N : Int) _ (Rd.gr HRA9.out gd) (by omega))
    have HSP := Lib.hid (show ∀ x : Ext, Calls Try.prog 26 #[.agg #[.slice a5 s'.length k5], .int .i64 (N : Int)] (W9.ext x) fun e w' => e = .returned (.int .i64 sn) ∧ Gr (W9.ext x) w' from fun x => by
     rw [HSN.out]
     exact specShared_any _ _ s' (N : Int) _ (Rd.gr HRB9.out gd) (by omega))
    refine wp_region_grown (by kernel_rfl) (by kernel_rfl) ?_
    repeat (go_big_quiet_step (first | (go_at_call 24; with_reducible exact grown_call (HSI.out _)) | (go_at_call 26; with_reducible exact grown_call (HSP.out _))))
    refine wpQuiet_nil ?_
    intro _ hw'
    obtain ⟨x9, hw''⟩ := hw'
    subst hw''
    go_wp2_with fail
    refine (subtree_yes (ct := #[.slice at0 ns.length kt0]) ns (I : Int) (W9.ext x9) (Rd.gr HRT9.out gd) rfl HSEG.out (by omega) HNF.out).mono ?_
    rintro e WA ⟨csA, fA, rfl, hrA, hgA⟩
    obtain ⟨aA, lA, cA, rfl⟩ := rdTree_shape hrA
    have g9A := (gd : Gr W9 (W9.ext x9)).trans hgA
    have hsz9A := g9A.size
    have HRA := Lib.hid hrA
    have HG9A := Lib.hid g9A
    clear hrA hgA g9A y0 a0 b0 d0 zy0 za0 zb0 zd0
    go_upto_region 14 with fail
    have gAB := (show Gr WA (WA.alloc (.cells #[.slice aA lA cA] 38)) from gd)
    have VDB := Lib.hid (show VRow (WA.alloc (.cells #[.slice aA lA cA] 38)) WA.heap.size 38 [.slice aA lA cA] from VRow.new rfl)
    generalize WA.alloc (.cells #[.slice aA lA cA] 38) = WB at gAB VDB ⊢
    have hszAB := gAB.size
    have VAB := Lib.hid (VA9.out.gr (HG9A.out.trans gAB))
    have HRAB := Lib.hid (Rd.gr HRA9.out (HG9A.out.trans gAB))
    have HSUB := Lib.hid (Rd.gr HRA.out gAB)
    have HGB := Lib.hid (HG9.out.trans (HG9A.out.trans gAB))
    clear gAB VA9 VB9 VC9 VT9 HRA9 HRB9 HRT9 HRA HG9A HG9
    have a0 := VAB.out.cell (k := 0) (by simp)
    have za0 := blk a0
    obtain ⟨yv, hyv⟩ : ∃ y, y = (expOf s' (N : Int) 1).getD [] := ⟨_, rfl⟩
    obtain ⟨bb, hbb⟩ : ∃ b, b = (expOf s' (N : Int) 1).isSome := ⟨_, rfl⟩
    have HYV := Lib.hid hyv
    have HBB := Lib.hid hbb
    clear hyv hbb
    go_wp2_with fail
    refine (implExpand_any (cs := #[.slice a3 s'.length k3]) s' (N : Int) 1 WB HRAB.out (by omega)).mono ?_
    rintro e WC ⟨esC, fC, rfl, hrC, -, hgC⟩
    rw [← HBB.out]
    rw [← HYV.out] at hrC
    obtain ⟨aC, lC, cC, rfl⟩ := rdTree_shape hrC
    have HRC := Lib.hid hrC
    have HGBC := Lib.hid hgC
    have VDC := Lib.hid (VDB.out.gr hgC)
    have hszBC := hgC.size
    clear hrC hgC a0 za0
    have y0 := VDC.out.cell (k := 0) (by simp)
    have zy0 := blk y0
    cases bb with
    | false =>
     go_wp2_with fail
     go_ret
     exact ⟨rfl, HGB.out.trans (HGBC.out.trans gd)⟩
    | true =>
     have hok : ExpOk s' (N : Int) 1 := by
      have h1 := HBB.out
      by_cases h : ExpOk s' (N : Int) 1
      ·exact h
      ·rw [expOf_no h] at h1; cases h1
     have hmap : List.map noId yv = List.map noId (subN ns I m) := by
      rw [HYV.out, expOf_yes hok, Option.getD_some, idN_noId, exN_noId, Int.toNat_natCast, HSHP.out]
     have HMAP := Lib.hid hmap
     clear hok hmap
     go_wp2_with fail
     refine (sameShape_yes _ _ _ _ yv (subN ns I m) _ (Rd.gr HRC.out gd) (Rd.gr HSUB.out (HGBC.out.trans gd)) HMAP.out).mono ?_
     rintro e w' ⟨rfl, xz, rfl⟩
     go_wp2_with fail
     go_ret
     exact ⟨rfl, HGB.out.trans (HGBC.out.trans gd)⟩
end Go.Proofs.Ytmfcagcanhmdbaa
