/- spec.l13Same with identities, spec.EqualTree. Made by mk_eqspec.py. The search of the reference's SharedSize. Plain Lean, no program in sight.  SharedSize of the reference. SharedSize of the program. The walk of the statement on expanded cells. No condition. -/
import Derived.Test.YtmfcagcanhmdbaaE46
import Derived.Test.YtmfcagcanhmdbaaE01
import Derived.Test.YtmfcagcanhmdbaaE42
import Derived.Maps.AppendAt
import Derived.Test.YtmfcagcanhmdbaaE41
import Derived.Test.YtmfcagcanhmdbaaE44
namespace Go.Proofs.Ytmfcagcanhmdbaa
open Go.RowKit

set_option maxRecDepth 10000 in
set_option maxHeartbeats 8000000 in
theorem l13Same_any (fp fq : List Nat) (cs ds : Array Value) (x y : GTree) (w : World) (hx : Rd.rd fp w cs.toList x) (hy : Rd.rd fq w ds.toList y) :
  Calls Try.prog 59 #[.agg cs, .agg ds, .bool true] w fun e w' => e = .returned (.bool (decide (x = y))) ∧ Gr w w' := by
 obtain ⟨v0, f0, rfl, -, hu⟩ := rdTree_inv x hx
 obtain ⟨v1, f1, rfl, -, hv⟩ := rdTree_inv y hy
 clear hx hy
 obtain ⟨xs, hxs⟩ : ∃ t : List GNode, t = x := ⟨x, rfl⟩
 obtain ⟨ys, hys⟩ : ∃ t : List GNode, t = y := ⟨y, rfl⟩
 subst hxs
 subst hys
 obtain ⟨a, ca, rfl, h1, h2, h3⟩ := hu.open
 obtain ⟨c, cc, rfl, g1, g2, g3⟩ := hv.open
 by_cases hl : xs.length = ys.length
 ·have hl' := Lib.hid hl
  have hne : ((xs.length : Int) != (ys.length : Int)) = false := by simp [hl]
  clear hl
  go_enter Try.func59, Try.ntmps59
  go_wp2_with fail
  go_loopw [7] (fun s7 wr => ∃ k : Nat, k ≤ xs.length ∧ xs.take k = ys.take k ∧ Gr ((w.alloc (Obj.cells #[.slice a xs.length ca] 38)).alloc (Obj.cells #[.slice c ys.length cc] 38)) wr ∧ s7 = .int .i64 k) (fun s7 _ => xs.length - (intOf s7).toNat)
  case atStart => exact ⟨0, by omega, rfl, Gr.refl _, rfl⟩
  case round =>
   obtain ⟨k, hk, ht, ⟨x, rfl⟩, rfl⟩ := hrel
   by_cases hlt : k < xs.length
   ·have hlt2 : k < ys.length := by have := hl'.out; omega
    obtain ⟨b, off, rfl, hb⟩ := h3 k hlt
    obtain ⟨b', off', rfl, hb'⟩ := g3 k hlt2
    obtain ⟨csq, feq, hcq, hrq, -⟩ := hu.at hlt
    have hrdq := hrq
    generalize hyq : xs[k] = yq at hrq
    obtain ⟨q0, q1, q2, q3, q4, q5⟩ := yq
    obtain ⟨vq5, fq5, hcsq, -, hq0, hq1, hq2, hq3, hq4, hq5⟩ := rdNode_inv (cs := csq.toArray) q0 q1 q2 q3 q4 q5 (by simpa using hrq)
    obtain rfl : csq = [.int .i64 q0, .int .i64 q1, .int .i64 q2, .int .i64 q3, .string q4, vq5] := by have := congrArg Array.toList hcsq; simpa using this
    obtain ⟨csp, fep, hcp, hrp, -⟩ := hv.at hlt2
    have hrdp := hrp
    generalize hyp : ys[k] = yp at hrp
    obtain ⟨p0, p1, p2, p3, p4, p5⟩ := yp
    obtain ⟨vp5, fp5, hcsp, -, hp0, hp1, hp2, hp3, hp4, hp5⟩ := rdNode_inv (cs := csp.toArray) p0 p1 p2 p3 p4 p5 (by simpa using hrp)
    obtain rfl : csp = [.int .i64 p0, .int .i64 p1, .int .i64 p2, .int .i64 p3, .string p4, vp5] := by have := congrArg Array.toList hcsp; simpa using this
    have sq5 := hq5
    have sp5 := hp5
    obtain ⟨aq5, cq5, rfl, -, -, -⟩ := hq5.open
    obtain ⟨ap5, cp5, rfl, -, -, -⟩ := hp5.open
    have z0 : w.cell? ⟨b, off + k * 6, none⟩ = some (.int .i64 q0) := by simpa [Rd.n] using hcq 0 _ rfl
    have z1 : w.cell? ⟨b, off + k * 6 + 1, none⟩ = some (.int .i64 q1) := hcq 1 _ rfl
    have z2 : w.cell? ⟨b, off + k * 6 + 2, none⟩ = some (.int .i64 q2) := hcq 2 _ rfl
    have z3 : w.cell? ⟨b, off + k * 6 + 3, none⟩ = some (.int .i64 q3) := hcq 3 _ rfl
    have z4 : w.cell? ⟨b, off + k * 6 + 4, none⟩ = some (.string q4) := hcq 4 _ rfl
    have z5 : w.cell? ⟨b, off + k * 6 + 5, none⟩ = some (.slice aq5 q5.length cq5) := hcq 5 _ rfl
    have zz0 : w.cell? ⟨b', off' + k * 6, none⟩ = some (.int .i64 p0) := by simpa [Rd.n] using hcp 0 _ rfl
    have zz1 : w.cell? ⟨b', off' + k * 6 + 1, none⟩ = some (.int .i64 p1) := hcp 1 _ rfl
    have zz2 : w.cell? ⟨b', off' + k * 6 + 2, none⟩ = some (.int .i64 p2) := hcp 2 _ rfl
    have zz3 : w.cell? ⟨b', off' + k * 6 + 3, none⟩ = some (.int .i64 p3) := hcp 3 _ rfl
    have zz4 : w.cell? ⟨b', off' + k * 6 + 4, none⟩ = some (.string p4) := hcp 4 _ rfl
    have zz5 : w.cell? ⟨b', off' + k * 6 + 5, none⟩ = some (.slice ap5 p5.length cp5) := hcp 5 _ rfl
    have hT := Lib.hid ht
    have HQ := Lib.hid hyq
    have HP := Lib.hid hyp
    clear hyq hyp h3 g3 ht hcsq hcsp hcq hcp hrq hrp
    go_wp2_with fail
    ·skip
     have e0 : q0 = p0 := by assumption
     have e1 : q1 = p1 := by assumption
     have e2 : q2 = p2 := by assumption
     have e3 : q3 = p3 := by assumption
     have e4 : q4 = p4 := str_inj (by assumption)
     have E04 := Lib.hid (And.intro e0 (And.intro e1 (And.intro e2 (And.intro e3 e4))))
     clear e0 e1 e2 e3 e4
     refine (l1Ints_any _ _ _ _ q5 p5 _ (sq5.gr gd) (sp5.gr gd)).mono ?_
     rintro e w3 ⟨rfl, x3, rfl⟩
     by_cases e5 : q5 = p5
     ·rw [decide_eq_true e5]
      have E5 := Lib.hid e5
      clear e5
      go_wp2_with fail
      refine ⟨⟨k + 1, by omega, ?_, gd, by go_num⟩, by simp [intOf]; omega⟩
      obtain ⟨e0, e1, e2, e3, e4⟩ := E04.out
      rw [List.take_succ_eq_append_getElem hlt, List.take_succ_eq_append_getElem hlt2, hT.out, HQ.out, HP.out, e0, e1, e2, e3, e4, E5.out]
     ·rw [decide_eq_false e5]
      have E5 := Lib.hid e5
      clear e5
      go_wp2_with fail
      go_ret
      refine ⟨ret_bool (decide_eq_false fun hxy => ?_).symm, gd⟩
      have hxy2 : xs = ys := hxy
      subst hxy2
      have h := HQ.out.symm.trans HP.out
      simp only [Prod.mk.injEq] at h
      obtain ⟨k0, k1, k2, k3, k4, k5⟩ := h
      exact E5.out k5
    all_goals
    ·skip
     go_ret
     refine ⟨ret_bool (decide_eq_false fun hxy => ?_).symm, gd⟩
     have hxy2 : xs = ys := hxy
     subst hxy2
     have h := HQ.out.symm.trans HP.out
     simp only [Prod.mk.injEq] at h
     obtain ⟨k0, k1, k2, k3, k4, k5⟩ := h
     first
     | exact absurd (congrArg ByteArray.toList k0) (by assumption)
     | exact absurd k0 (by assumption)
     | exact absurd (congrArg ByteArray.toList k1) (by assumption)
     | exact absurd k1 (by assumption)
     | exact absurd (congrArg ByteArray.toList k2) (by assumption)
     | exact absurd k2 (by assumption)
     | exact absurd (congrArg ByteArray.toList k3) (by assumption)
     | exact absurd k3 (by assumption)
     | exact absurd (congrArg ByteArray.toList k4) (by assumption)
     | exact absurd k4 (by assumption)
   ·have hk2 : k = xs.length := by omega
    subst hk2
    have e : xs = ys := by
     have h := ht
     have h' := hl'.out
     rw [List.take_length, h', List.take_length] at h
     exact h
    have E := Lib.hid e
    clear e ht
    go_wp2
    go_ret
    exact ⟨ret_bool (decide_eq_true E.out).symm, gd⟩
 ·have hne : ((xs.length : Int) != (ys.length : Int)) = true := by simp; omega
  have HL := Lib.hid hl
  clear hl
  go_enter Try.func59, Try.ntmps59
  go_wp2_with fail
  go_ret
  exact ⟨ret_bool (decide_eq_false fun hxy => HL.out (congrArg (fun z : List GNode => z.length) hxy)).symm, gd⟩

theorem specEqTree_any (fp fq : List Nat) (cs ds : Array Value) (x y : GTree) (w : World) (hx : Rd.rd fp w cs.toList x) (hy : Rd.rd fq w ds.toList y) :
  Calls Try.prog 21 #[.agg cs, .agg ds] w fun e w' => e = .returned (.bool (decide (x = y))) ∧ Gr w w' := by
 have HX := Lib.hid hx
 have HY := Lib.hid hy
 obtain ⟨v0, f0, rfl, -, hu⟩ := rdTree_inv x hx
 obtain ⟨v1, f1, rfl, -, hv⟩ := rdTree_inv y hy
 obtain ⟨a0, c0, rfl, -, -, -⟩ := hu.open
 obtain ⟨a1, c1, rfl, -, -, -⟩ := hv.open
 clear hx hy hu hv
 go_enter Try.func21, Try.ntmps21
 go_wp2_with fail
 refine (l13Same_any _ _ _ _ x y _ (Rd.gr HX.out gd) (Rd.gr HY.out gd)).mono ?_
 rintro e w3 ⟨rfl, x3, rfl⟩
 go_wp2_with fail
 go_ret
 exact ⟨rfl, gd⟩

end Go.Proofs.Ytmfcagcanhmdbaa

namespace Go.Proofs.Ytmfcagcanhmdbaa

def BfsInv (xs : List GCell) (a i : Nat) (L : List Int) : Prop :=
 i ≤ L.length ∧ L.Nodup ∧ (∀ y ∈ L, ∃ j : Nat, y = j ∧ j < xs.length ∧ Reach xs a j) ∧ (a : Int) ∈ L ∧
  ∀ m (_ : m < L.length), m < i → ∀ p (_ : p < xs.length), L[m] = (p : Int) → ∀ y ∈ xs[p].2.2, y ∈ L

theorem BfsInv.start {xs : List GCell} {a : Nat} (ha : a < xs.length) : BfsInv xs a 0 [(a : Int)] :=
 ⟨by simp, by simp, fun y hy => ⟨a, by simpa using hy, ha, Reach.self _ _⟩, by simp, fun m _ hm => by omega⟩

theorem BfsInv.push {xs : List GCell} (hv : ValidStore xs) {a i p : Nat} {L : List Int} (h : BfsInv xs a i L) (hi : i < L.length) (hp : p < xs.length) (hLp : L[i] = (p : Int)) {y : Int} (hy : y ∈ xs[p].2.2) (hn : y ∉ L) :
  BfsInv xs a i (L ++ [y]) := by
 obtain ⟨h1, h2, h3, h4, h5⟩ := h
 obtain ⟨j, hj, hjl, hjr⟩ := h3 _ (List.getElem_mem hi)
 obtain rfl : j = p := by omega
 have hb := (hv j hp).2 y hy
 refine ⟨by simp; omega, ?_, ?_, by simp [h4], ?_⟩
 ·rw [List.nodup_append]
  exact ⟨h2, by simp, fun u hu v hv e => hn (by simp at hv; rw [← hv, ← e]; exact hu)⟩
 ·intro z hz
  rcases List.mem_append.1 hz with hz | hz
  ·exact h3 z hz
  ·obtain rfl : z = y := by simpa using hz
   exact ⟨z.toNat, by omega, by omega, Reach.step hp hjr (by rw [show ((z.toNat : Nat) : Int) = z by omega]; exact hy)⟩
 ·intro m hm hmi q hq hLq z hz
  have hm2 : m < L.length := by omega
  rw [List.getElem_append_left hm2] at hLq
  exact List.mem_append_left _ (h5 m hm2 hmi q hq hLq z hz)

theorem BfsInv.next {xs : List GCell} {a i p : Nat} {L : List Int} (h : BfsInv xs a i L) (hi : i < L.length) (hLp : L[i] = (p : Int)) (hp : p < xs.length) (hc : ∀ y ∈ xs[p].2.2, y ∈ L) : BfsInv xs a (i + 1) L := by
 obtain ⟨h1, h2, h3, h4, h5⟩ := h
 refine ⟨by omega, h2, h3, h4, fun m hm hmi q hq hLq z hz => ?_⟩
 by_cases hmi2 : m < i
 ·exact h5 m hm hmi2 q hq hLq z hz
 ·obtain rfl : m = i := by omega
  obtain rfl : q = p := by omega
  exact hc z hz

theorem BfsInv.done {xs : List GCell} {a : Nat} {L : List Int} (h : BfsInv xs a L.length L) : L.length = reachN xs a 0 := by
 obtain ⟨h1, h2, h3, h4, h5⟩ := h
 refine reachN_list h2 h3 h4 fun p hp hm y hy => ?_
 obtain ⟨m, hml, e⟩ := List.mem_iff_getElem.1 hm
 exact h5 m hml hml p hp e y hy
end Go.Proofs.Ytmfcagcanhmdbaa

namespace Go.Proofs.Ytmfcagcanhmdbaa
open Go.RowKit

end Go.Proofs.Ytmfcagcanhmdbaa

namespace Go.Proofs.Ytmfcagcanhmdbaa
open Go.RowKit

theorem Try.infoBool : (Try.prog.info? 4).map (fun i => (i.zero, i.size, i.bytes)) = some (some (.bool false), 1, 1) := by kernel_rfl

def Met (xs : List GCell) (a m : Nat) (β : Nat → Bool) : Prop :=
 ∀ j, j < xs.length → (β j = true ↔ j = a ∨ ∃ p, ∃ hp : p < xs.length, m ≤ p ∧ Reach xs a p ∧ (j : Int) ∈ xs[p].2.2)

theorem Met.here {xs : List GCell} (hv : ValidStore xs) {a m : Nat} {β : Nat → Bool} (h : Met xs a (m + 1) β) (hm : m < xs.length) : β m = true ↔ Reach xs a m := by
 rw [h m hm]
 constructor
 ·rintro (rfl | ⟨p, hp, _, hr, hc⟩)
  ·exact Reach.self _ _
  ·exact Reach.step hp hr hc
 ·intro hr
  rcases hr.cases with rfl | ⟨p, hp, hr2, hc⟩
  ·exact .inl rfl
  ·have := (hv p hp).2 _ hc
   exact .inr ⟨p, hp, by omega, hr2, hc⟩

theorem Met.skip {xs : List GCell} {a m : Nat} {β : Nat → Bool} (h : Met xs a (m + 1) β) (hr : ¬ Reach xs a m) : Met xs a m β := by
 intro j hj
 rw [h j hj]
 constructor
 ·rintro (rfl | ⟨p, hp, h1, h2, h3⟩)
  ·exact .inl rfl
  ·exact .inr ⟨p, hp, by omega, h2, h3⟩
 ·rintro (rfl | ⟨p, hp, h1, h2, h3⟩)
  ·exact .inl rfl
  ·by_cases e : p = m
   ·subst e; exact absurd h2 hr
   ·exact .inr ⟨p, hp, by omega, h2, h3⟩

theorem Met.take {xs : List GCell} {a m : Nat} {β β' : Nat → Bool} (h : Met xs a (m + 1) β) (hm : m < xs.length) (hr : Reach xs a m)
  (hb : ∀ j, j < xs.length → (β' j = true ↔ β j = true ∨ (j : Int) ∈ xs[m].2.2)) : Met xs a m β' := by
 intro j hj
 rw [hb j hj, h j hj]
 constructor
 ·rintro ((rfl | ⟨p, hp, h1, h2, h3⟩) | hc)
  ·exact .inl rfl
  ·exact .inr ⟨p, hp, by omega, h2, h3⟩
  ·exact .inr ⟨m, hm, Nat.le_refl _, hr, hc⟩
 ·rintro (rfl | ⟨p, hp, h1, h2, h3⟩)
  ·exact .inl (.inl rfl)
  ·by_cases e : p = m
   ·subst e; exact .inr h3
   ·exact .inl (.inr ⟨p, hp, by omega, h2, h3⟩)

theorem reachN_le (xs : List GCell) (a k : Nat) : reachN xs a k ≤ xs.length := by
 unfold reachN
 have := List.length_filter_le (reachB xs a k) (List.range xs.length)
 simpa using this

set_option maxRecDepth 10000 in
set_option maxHeartbeats 8000000 in
theorem implShared_any (fp : List Nat) (cs : Array Value) (xs : List GCell) (a : Int) (w : World) (hx : Rd.rd fp w cs.toList xs) (hlen : xs.length ≤ 1048576) :
    Calls Try.prog 24 #[.agg cs, .int .i64 a] w fun e w' => e = .returned (.int .i64 (sharedN xs a)) ∧ Gr w w' := by
  have hrx := hx
  obtain ⟨v, f, rfl, -, hu⟩ := rdStore_inv xs hx
  obtain ⟨aa, ca, rfl, h1, h2, h3⟩ := hu.open
  clear hx
  by_cases hall : ValidStore xs ∧ 0 ≤ a ∧ a ≤ (xs.length : Int) - 1
  · obtain ⟨hv, hin0, hin1⟩ := hall
    obtain ⟨n, rfl⟩ : ∃ n : Nat, a = n := ⟨a.toNat, by omega⟩
    have HV := Lib.hid hv
    have hn : n < xs.length := by omega
    have hB : (validB xs && (decide (0 ≤ (n : Int)) && decide ((n : Int) ≤ (xs.length : Int) - 1))) = true := by
      rw [validB_true hv, decide_eq_true hin0, decide_eq_true hin1]; rfl
    have HB := Lib.hid hB
    clear hv hin0 hin1 hB
    obtain ⟨i0, hi, hz0, hz1, hz2⟩ := info_parts Try.infoBool
    have hmk := fun (W : World) => run_make (P := Try.prog) W 92 4 i0 (.bool false) Try.underlying92 hi hz0 .i64 .i64 xs.length xs.length (by omega) (by omega) (by rw [hz2]; omega) (by omega)
    rw [hz1] at hmk
    clear hi hz0 hz1 hz2
    simp only [Int.toNat_natCast, Nat.mul_one] at hmk
    have hms := size_madeCells (Value.bool false).cells xs.length
    have hmc : ∀ j, j < xs.length → (madeCells (Value.bool false).cells xs.length)[j]? = some (.bool false) := by
      intro j hj
      show (madeCells #[Value.bool false] xs.length)[j]? = _
      rw [← Array.getElem?_toList, toList_madeCells_one, List.getElem?_replicate, if_pos hj]
    generalize madeCells (Value.bool false).cells xs.length = C0 at hmk hms hmc
    have HS := Lib.hid hms
    have HC := Lib.hid hmc
    have y0 : n < C0.size := by have : C0.size = xs.length := by simpa using hms
                                omega
    clear hms hmc
    go_enter Try.func24, Try.ntmps24
    go_wp2_with fail
    refine (isCell_any _ _ xs _ _ (Rd.gr hrx gd)).mono ?_
    rintro e w' ⟨rfl, x1, rfl⟩
    rw [HB.out]
    generalize hW0 : (w.alloc (Obj.cells #[Value.slice aa xs.length ca] 32)).ext x1 = W0
    have gW : Gr w W0 := by rw [← hW0]; exact gd
    have gB : Gr (w.alloc (Obj.cells #[Value.slice aa xs.length ca] 32)) W0 := by rw [← hW0]; exact gd
    have hbox : W0.cell? ⟨w.heap.size, 0, none⟩ = some (.slice aa xs.length ca) := gB.keep (box_cell rfl rfl)
    have zx := blk hbox
    clear hW0 gB
    go_wp2_with fail
    go_loopw [6, 7] (fun s6 s7 wr => ∃ (m : Nat) (C : Array Value) (β : Nat → Bool), m ≤ n + 1 ∧ C.size = xs.length ∧ (∀ j, j < xs.length → C[j]? = some (.bool (β j))) ∧ Met xs n m β ∧ wr = W0.alloc (.cells C 4) ∧ s6 = .int .i64 (reachN xs n m : Int) ∧ s7 = .int .i64 ((m : Int) - 1)) (fun s6 s7 _ => (intOf s7 + 1).toNat)
    case atStart =>
      refine ⟨n + 1, _, fun j => decide (j = n), by omega, by simpa using HS.out, fun j hj => ?_, fun j hj => ?_, rfl, by rw [reachN_top HV.out]; rfl, by go_num⟩
      · rw [Array.getElem?_setIfInBounds]
        by_cases e : n = j
        · subst e; simp [y0]
        · rw [if_neg e, HC.out j hj]; simp [Ne.symm e]
      · simp only [decide_eq_true_eq]
        constructor
        · exact fun e => .inl e
        · rintro (e | ⟨p, hp, h1, h2, h3⟩)
          · exact e
          · have := h2.le HV.out
            omega
    case round =>
      obtain ⟨m, C, β, hm, hCs, hC, hM, rfl, rfl, rfl⟩ := hrel
      have HCS := Lib.hid hCs
      have HC2 := Lib.hid hC
      have HM := Lib.hid hM
      clear hC hM
      cases m with
      | zero =>
        go_wp2_with fail
        go_ret
        exact ⟨ret_int (by rw [sharedN_yes HV.out hn]), gW.alloc _⟩
      | succ m =>
        have e : ((m + 1 : Nat) : Int) - 1 = m := by omega
        rw [e]
        have HE := Lib.hid e
        have hml : m < xs.length := by omega
        have c1 := HC2.out m hml
        have y1 : m < C.size := by omega
        clear e hCs
        have hrn := reachN_le xs n (m + 1)
        by_cases hr : Reach xs n m
        · have HR := Lib.hid hr
          have hb : β m = true := (HM.out.here HV.out hml).2 hr
          rw [hb] at c1
          have c2 : C[m] = .bool true := by simpa [y1] using c1
          obtain ⟨b, off, rfl, hbk⟩ := h3 m hml
          obtain ⟨csq, feq, hcq, hrq, -⟩ := hu.at hml
          generalize hyq : xs[m] = yq at hrq
          obtain ⟨q0, q1, q2⟩ := yq
          obtain ⟨vq2, fq2, hcsq, -, hq0, hq1, hq2⟩ := rdCell_inv (cs := csq.toArray) q0 q1 q2 (by simpa using hrq)
          obtain rfl : csq = [.string q0, .int .i64 q1, vq2] := by have := congrArg Array.toList hcsq; simpa using this
          obtain ⟨aq, cq, rfl, k1, k2, k3⟩ := hq2.open
          have z2 : W0.cell? ⟨b, off + m * 3 + 2, none⟩ = some (.slice aq q2.length cq) := gW.keep (hcq 2 _ rfl)
          have zb := blk z2
          have HY := Lib.hid hyq
          clear h3 hcsq hcq hrq hyq
          clear hr hb c1
          go_wp2_with fail
          go_loopw [9, 40] (fun s9 s40 wr => ∃ (k : Nat) (D : Array Value) (γ : Nat → Bool), k ≤ q2.length ∧ D.size = xs.length ∧ (∀ j, j < xs.length → D[j]? = some (.bool (γ j))) ∧ (∀ j, j < xs.length → (γ j = true ↔ β j = true ∨ ∃ i, ∃ h : i < q2.length, i < k ∧ q2[i] = (j : Int))) ∧ wr = W0.alloc (.cells D 4) ∧ s40 = .int .i64 k) (fun s9 s40 _ => q2.length - (intOf s40).toNat)
          case atStart => exact ⟨0, C, β, by omega, HCS.out, HC2.out, fun j hj => ⟨.inl, fun h => h.elim id fun ⟨i, _, h, _⟩ => absurd h (by omega)⟩, rfl, rfl⟩
          case round =>
            obtain ⟨k, D, γ, hk, hDs, hD, hG, rfl, rfl⟩ := hrel
            have HDS := Lib.hid hDs
            have HD := Lib.hid hD
            have HG := Lib.hid hG
            clear hD hG
            by_cases hkl : k < q2.length
            · obtain ⟨bq, oq, rfl, hbq⟩ := k3 k hkl
              have hch : 0 ≤ q2[k] ∧ q2[k] ≤ (m : Int) - 1 := (HV.out m hml).2 _ (by rw [HY.out]; exact List.getElem_mem hkl)
              obtain ⟨d, hd⟩ : ∃ d : Nat, q2[k] = d := ⟨q2[k].toNat, by omega⟩
              have d1 : W0.cell? ⟨bq, oq + k, none⟩ = some (.int .i64 (d : Int)) := by rw [← hd]; exact gW.keep (hq2.int_at hkl).1
              have d0 := blk d1
              have hdl : d < xs.length := by omega
              have y2 : d < D.size := by omega
              have HDD := Lib.hid hd
              clear k3 hch hd hDs
              go_wp2_with fail
              refine ⟨⟨k + 1, _, fun j => decide (j = d) || γ j, by omega, by simp [HDS.out], fun j hj => ?_, fun j hj => ?_, rfl, by go_num⟩, by simp [intOf] <;> omega⟩
              · rw [Array.getElem?_setIfInBounds]
                by_cases e : d = j
                · subst e; simp [y2]
                · rw [if_neg e, HD.out j hj]; simp [Ne.symm e]
              · rw [Bool.or_eq_true, decide_eq_true_eq, HG.out j hj]
                constructor
                · rintro (rfl | h | ⟨i, h, h1, h2⟩)
                  · exact .inr ⟨k, hkl, by omega, HDD.out⟩
                  · exact .inl h
                  · exact .inr ⟨i, h, by omega, h2⟩
                · rintro (h | ⟨i, h, h1, h2⟩)
                  · exact .inr (.inl h)
                  · by_cases e : i = k
                    · subst e
                      have := HDD.out
                      exact .inl (by omega)
                    · exact .inr (.inr ⟨i, h, by omega, h2⟩)
            · clear hDs
              go_wp2_with fail
              refine ⟨⟨m, D, γ, by omega, HDS.out, HD.out, HM.out.take hml HR.out fun j hj => ?_, rfl, by rw [reachN_yes hml HR.out]; go_num, by go_num⟩, by simp [intOf] <;> omega⟩
              rw [HG.out j hj, HY.out]
              refine or_congr Iff.rfl ⟨fun ⟨i, h, _, e⟩ => by rw [← e]; exact List.getElem_mem h, fun h => ?_⟩
              obtain ⟨i, hi, e⟩ := List.mem_iff_getElem.1 h
              have hi2 : i < q2.length := hi
              exact ⟨i, hi2, by omega, e⟩
        · have HR := Lib.hid hr
          have hb : β m = false := Bool.eq_false_iff.2 fun h => hr ((HM.out.here HV.out hml).1 h)
          rw [hb] at c1
          have c2 : C[m] = .bool false := by simpa [y1] using c1
          clear hr hb c1
          go_wp2_with fail
          refine ⟨⟨m, C, β, by omega, HCS.out, HC2.out, HM.out.skip HR.out, rfl, by rw [reachN_no HR.out], by go_num⟩, by simp [intOf] <;> omega⟩
  · have HA := Lib.hid hall
    have hB : (validB xs && (decide (0 ≤ a) && decide (a ≤ (xs.length : Int) - 1))) = false := by
      rw [Bool.eq_false_iff]
      intro h
      simp only [Bool.and_eq_true, decide_eq_true_eq] at h
      exact hall ⟨validB_iff.1 h.1, h.2⟩
    have HB := Lib.hid hB
    clear hall hB
    go_enter Try.func24, Try.ntmps24
    go_wp2_with fail
    refine (isCell_any _ _ xs _ _ (Rd.gr hrx gd)).mono ?_
    rintro e w' ⟨rfl, x1, rfl⟩
    rw [HB.out]
    go_wp2_with fail
    go_ret
    exact ⟨ret_int (sharedN_no HA.out).symm, gd⟩
end Go.Proofs.Ytmfcagcanhmdbaa

namespace Go.Proofs.Ytmfcagcanhmdbaa
open Go.RowKit
set_option linter.unusedVariables false
set_option linter.unusedSimpArgs false

theorem bigE_any (fp : List Nat) (u : Value) (code : List U8) (w : World) (hu : SlR fp w u code) :
  Calls Try.prog 17 #[u] w fun e w' => e = .returned (.bool (decide ((1048576 : Int) < (code.length : Int)))) ∧ w = w' := by
 obtain ⟨a, ca, rfl, h1, h2, h3⟩ := hu.open
 clear h3
 go_enter Try.func17, Try.ntmps17
 go_wp2
 all_goals
  go_ret
  refine ⟨?_, rfl⟩
  first | rfl | (congr 2; simp; done) | simp
theorem wt_exp {s : GStore} {M : Nat} (h : wtStore s ≤ M) {a first : Int} (hk : ExpOk s a first) : wtTree (idN first 0 (exN s s.length a.toNat 0 (-1) 0)) ≤ 16 * (M + M + 1) := by
 obtain ⟨h1, h2⟩ := kids_store h
 have hrule : ∀ c ∈ s, c.1.size ≤ M := fun c hc => by
  obtain ⟨i, hi, rfl⟩ := List.mem_iff_getElem.1 hc
  have h1 := wtL_at wtCell s hi
  have h2 : s[i].1.size ≤ wtCell s[i] := Nat.le_add_right _ _
  have h0 : wtL wtCell s ≤ M := h
  omega
 have hall := wt_idN (first := first) (M := M + M) (exN_wt s h2 hrule s.length a.toNat 0 (-1) 0) (j := 0)
 have hl : (idN first 0 (exN s s.length a.toNat 0 (-1) 0)).length ≤ 16 := by rw [idN_len, exN_len]; exact hk.2.2.2
 have := wtS_le (idN first 0 (exN s s.length a.toNat 0 (-1) 0)) hall
 have h3 : (idN first 0 (exN s s.length a.toNat 0 (-1) 0)).length * (M + M + 1) ≤ 16 * (M + M + 1) := Nat.mul_le_mul_right _ hl
 show wtL wtNode _ ≤ _
 omega

set_option maxRecDepth 100000 in
set_option maxHeartbeats 16000000 in
theorem fnExpanded_any (fp : List Nat) (u : Value) (code : List U8) (w : World) (hu : SlR fp w u code) :
  Calls Try.prog 4 #[u] w fun e w' => e = .returned (.bool true) ∧ Gr w w' := by
 have HU := Lib.hid hu
 obtain ⟨ac, cc, rfl, -, -, -⟩ := hu.open
 clear hu
 by_cases hbig : (1048576 : Int) < (code.length : Int)
 ·have HB := Lib.hid (decide_eq_true hbig)
  clear hbig
  go_enter Try.func4, Try.ntmps4
  go_wp2_with fail
  refine (bigE_any _ _ code _ HU.out).mono ?_
  rintro e w1 ⟨rfl, rfl⟩
  rw [HB.out]
  go_wp2_with fail
  go_ret
  exact ⟨rfl, Gr.refl _⟩
 ·have hcl : code.length ≤ 1048576 := by omega
  have HB := Lib.hid (decide_eq_false hbig)
  clear hbig
  go_enter Try.func4, Try.ntmps4
  go_wp2_with fail
  refine (bigE_any _ _ code _ HU.out).mono ?_
  rintro e w1 ⟨rfl, rfl⟩
  rw [HB.out]
  go_wp2_with fail
  refine (drawExpand_any _ _ code _ HU.out hcl).mono ?_
  rintro e W1 ⟨vs, fq, s, at0, fi0, rfl, hrs, -, hws, ha0, ha1, hf0, hf1, hg1⟩
  obtain ⟨vs0, fs0, ecs, hfps, hs0⟩ := rdStore_inv (cs := #[vs]) s hrs
  obtain rfl : vs = vs0 := by simpa using ecs
  obtain ⟨as0, ks0, rfl, -, -, -⟩ := hs0.open
  have HRS := Lib.hid hrs
  have HG1 := Lib.hid hg1
  clear hrs hs0 hfps ecs hg1
  go_wp2_with fail
  have g12 := (show Gr W1 (W1.alloc (.cells #[.slice as0 s.length ks0] 32)) from gd)
  have VS2 := Lib.hid (show VRow (W1.alloc (.cells #[.slice as0 s.length ks0] 32)) W1.heap.size 32 [.slice as0 s.length ks0] from VRow.new rfl)
  generalize W1.alloc (.cells #[.slice as0 s.length ks0] 32) = W2 at g12 VS2 ⊢
  have HRS2 := Lib.hid (Rd.gr HRS.out g12)
  have HG2 := Lib.hid (HG1.out.trans g12)
  obtain ⟨yv, hyv⟩ : ∃ y, y = (expOf s at0 fi0).getD [] := ⟨_, rfl⟩
  obtain ⟨bb, hbb⟩ : ∃ b, b = (expOf s at0 fi0).isSome := ⟨_, rfl⟩
  have HYV := Lib.hid hyv
  have HBB := Lib.hid hbb
  have hsz12 := g12.size
  clear HRS HG1 g12 hyv hbb
  refine (implExpand_any s at0 fi0 W2 HRS2.out (by omega)).mono ?_
  rintro e W3 ⟨es3, f3, rfl, hr3, -, hg3⟩
  rw [← HBB.out]
  rw [← HYV.out] at hr3
  obtain ⟨v3, g3, rfl, -, hsl3⟩ := rdTree_inv yv hr3
  obtain ⟨at3, ct3, rfl, -, -, -⟩ := hsl3.open
  have HR3 := Lib.hid hr3
  have HG3 := Lib.hid hg3
  have HVS3 := Lib.hid (VS2.out.gr hg3)
  clear hr3 hg3 hsl3
  have x0 := HVS3.out.cell (k := 0) (by simp)
  have zx0 := blk x0
  go_wp2_with fail
  have g34 := (show Gr W3 (W3.alloc (.cells #[.slice at3 yv.length ct3] 38)) from gd)
  have VT4 := Lib.hid (show VRow (W3.alloc (.cells #[.slice at3 yv.length ct3] 38)) W3.heap.size 38 [.slice at3 yv.length ct3] from VRow.new rfl)
  generalize W3.alloc (.cells #[.slice at3 yv.length ct3] 38) = W4 at g34 VT4 ⊢
  have hsz34 := g34.size
  have HG24 := Lib.hid (HG3.out.trans g34)
  have HVS4 := Lib.hid (HVS3.out.gr g34)
  have HR4 := Lib.hid (Rd.gr HR3.out g34)
  clear x0 zx0 g34 HVS3 HR3 HG3
  refine (specExpand_any s at0 fi0 W4 (Rd.gr HRS2.out HG24.out) (by omega)).mono ?_
  rintro e W5 ⟨es5, f5, rfl, hr5, -, hg5⟩
  rw [← HBB.out]
  rw [← HYV.out] at hr5
  obtain ⟨v5, g5, rfl, -, hsl5⟩ := rdTree_inv yv hr5
  obtain ⟨at5, ct5, rfl, -, -, -⟩ := hsl5.open
  have HR5 := Lib.hid hr5
  have HG5 := Lib.hid hg5
  clear hr5 hg5 hsl5
  go_upto_region 6 with fail
  have g56 := (show Gr W5 (W5.alloc (.cells #[.slice at5 yv.length ct5] 38)) from gd)
  have VU6 := Lib.hid (show VRow (W5.alloc (.cells #[.slice at5 yv.length ct5] 38)) W5.heap.size 38 [.slice at5 yv.length ct5] from VRow.new rfl)
  generalize W5.alloc (.cells #[.slice at5 yv.length ct5] 38) = W6 at g56 VU6 ⊢
  have g46 := HG5.out.trans g56
  have HVS6 := Lib.hid (HVS4.out.gr g46)
  have HVT6 := Lib.hid (VT4.out.gr g46)
  have hsz46 := g46.size
  have hsz56 := g56.size
  have HG6 := Lib.hid (HG2.out.trans (HG24.out.trans g46))
  have HRS6 := Lib.hid (Rd.gr HRS2.out (HG24.out.trans g46))
  have HRT6 := Lib.hid (Rd.gr HR4.out g46)
  have HRU6 := Lib.hid (Rd.gr HR5.out g56)
  clear g56 g46 HVS4 HR4 HG24 HR5 HG5
  have HEQ := Lib.hid (show ∀ x : Ext, Calls Try.prog 21 #[.agg #[.slice at3 yv.length ct3], .agg #[.slice at5 yv.length ct5]] (W6.ext x) fun e w' => e = .returned (.bool true) ∧ Gr (W6.ext x) w' from fun x => by
   refine (specEqTree_any _ _ _ _ yv yv _ (Rd.gr HRT6.out gd) (Rd.gr HRU6.out gd)).mono ?_
   rintro e w' ⟨rfl, h⟩
   exact ⟨by rw [decide_eq_true rfl], h⟩)
  have HVI := Lib.hid (fun x : Ext => implValid_any _ _ s _ (Rd.gr HRS6.out (gd : Gr W6 (W6.ext x))))
  have HVP := Lib.hid (fun x : Ext => specValid_any _ _ s _ (Rd.gr HRS6.out (gd : Gr W6 (W6.ext x))))
  have x0 := HVS6.out.cell (k := 0) (by simp)
  have y0 := HVT6.out.cell (k := 0) (by simp)
  have z0 := VU6.out.cell (k := 0) (by simp)
  have zx0 := blk x0
  have zy0 := blk y0
  have zz0 := blk z0
  cases bb with
  | false =>
   have HL0 := Lib.hid (show yv.length = 0 by
    have h1 := HBB.out
    have h2 := HYV.out
    cases hx : expOf s at0 fi0 with
    | none => rw [hx] at h2; rw [h2]; rfl
    | some z => rw [hx] at h1; cases h1)
   refine wp_region_grown (by kernel_rfl) (by kernel_rfl) ?_
   repeat (go_big_quiet_step (first | (go_at_call 21; with_reducible exact grown_call (HEQ.out _)) | (go_at_call 22; with_reducible exact grown_call (HVI.out _)) | (go_at_call 23; with_reducible exact grown_call (HVP.out _))))
   refine wpQuiet_nil ?_
   intro _ hw'
   obtain ⟨x7, hw''⟩ := hw'
   subst hw''
   have hl0 := HL0.out
   go_wp2_with fail
   go_ret
   exact ⟨rfl, HG6.out.trans gd⟩
  | true =>
   have hok : ExpOk s at0 fi0 := by
    have h1 := HBB.out
    by_cases h : ExpOk s at0 fi0
    ·exact h
    ·rw [expOf_no h] at h1; cases h1
   have hyv2 : yv = idN fi0 0 (exN s s.length at0.toNat 0 (-1) 0) := by rw [HYV.out, expOf_yes hok]; rfl
   have hfind : itnOf s yv 0 = (s, at0) := by rw [hyv2]; exact exp_find hok
   have hshare : sharedN s at0 ≤ (yv.length : Int) := by rw [hyv2]; exact shared_le hok
   have hwy : wtTree yv ≤ 16 * (9000 + 9000 + 1) := by rw [hyv2]; exact wt_exp hws hok
   have HFI := Lib.hid hfind
   obtain ⟨sn, hsn⟩ : ∃ n, n = sharedN s at0 := ⟨_, rfl⟩
   rw [← hsn] at hshare
   have HSN := Lib.hid hsn
   clear hok hyv2 hfind hsn
   refine wp_region_grown (by kernel_rfl) (by kernel_rfl) ?_
   repeat (go_big_quiet_step (first | (go_at_call 21; with_reducible exact grown_call (HEQ.out _)) | (go_at_call 22; with_reducible exact grown_call (HVI.out _)) | (go_at_call 23; with_reducible exact grown_call (HVP.out _))))
   refine wpQuiet_nil ?_
   intro _ hw'
   obtain ⟨x7, hw''⟩ := hw'
   subst hw''
   clear z0 zz0
   go_wp2_with fail
   refine (implIntern_any s yv 0 (W6.ext x7) (Rd.gr HRS6.out gd) (Rd.gr HRT6.out gd) (by omega) (by omega)).mono ?_
   rw [HFI.out]
   rintro e W8 ⟨c8, f8, rfl, hr8, -, hg8⟩
   obtain ⟨v8, g8, rfl, -, hsl8⟩ := rdStore_inv s hr8
   obtain ⟨at8, ct8, rfl, -, -, -⟩ := hsl8.open
   have g68 := (gd : Gr W6 (W6.ext x7)).trans hg8
   have hsz68 := g68.size
   clear hsl8 hr8 hg8 x0 y0 zx0 zy0
   go_upto_region 11 with fail
   have g89 := (show Gr W8 (W8.alloc (.cells #[.slice at8 s.length ct8] 32)) from gd)
   have VA9 := Lib.hid (show VRow (W8.alloc (.cells #[.slice at8 s.length ct8] 32)) W8.heap.size 32 [.slice at8 s.length ct8] from VRow.new rfl)
   generalize W8.alloc (.cells #[.slice at8 s.length ct8] 32) = W9 at g89 VA9 ⊢
   have g69 := g68.trans g89
   have HVS9 := Lib.hid (HVS6.out.gr g69)
   have HVT9 := Lib.hid (HVT6.out.gr g69)
   have HRS9 := Lib.hid (Rd.gr HRS6.out g69)
   have HG9 := Lib.hid (HG6.out.trans g69)
   have x0 := HVS9.out.cell (k := 0) (by simp)
   have y0 := HVT9.out.cell (k := 0) (by simp)
   have z0 := VA9.out.cell (k := 0) (by simp)
   have zx0 := blk x0
   have zy0 := blk y0
   have zz0 := blk z0
   have HSH := Lib.hid (show ∀ x : Ext, Calls Try.prog 24 #[.agg #[.slice as0 s.length ks0], .int .i64 at0] (W9.ext x) fun e w' => e = .returned (.int .i64 sn) ∧ Gr (W9.ext x) w' from fun x => by
    rw [HSN.out]
    exact implShared_any _ _ s at0 _ (Rd.gr HRS9.out gd) (Nat.le_trans (kids_store (M := 9000) hws).1 (by omega)))
   clear g68 g89 g69
   refine wp_region_grown (by kernel_rfl) (by kernel_rfl) ?_
   repeat (go_big_quiet_step ((go_at_call 24; with_reducible exact grown_call (HSH.out _))))
   refine wpQuiet_nil ?_
   intro _ hw'
   obtain ⟨x9, hw''⟩ := hw'
   subst hw''
   go_wp2_with fail
   go_ret
   exact ⟨rfl, HG9.out.trans gd⟩
end Go.Proofs.Ytmfcagcanhmdbaa
