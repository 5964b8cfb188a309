/- slices.EqualFunc at struct elements. Made by mk_equal.py. Trees of one shape: the reference's tests. The number of nodes of a cell's tree: the reference's count, up to a little more than the most. No condition. -/
import Derived.Test.YtmfcagcanhmdbaaH17
import Derived.Test.YtmfcagcanhmdbaaH02
import Derived.Test.YtmfcagcanhmdbaaH01
import Derived.Test.YtmfcagcanhmdbaaH11
import Derived.Test.YtmfcagcanhmdbaaH05
import Derived.Test.YtmfcagcanhmdbaaH08
namespace Go.Proofs.Ytmfcagcanhmdbaa
open Go.RowKit
variable {d : Nat}

structure TestEq {α : Type} [Rd α] [DecidableEq α] (w : World) (fid : Nat) (xs ys : List α) : Prop where
 fn : ∀ args W, (callFunc fid args).run Try.prog W = .ok (.enter fid args) W
 calls : ∀ x ∈ xs, ∀ y ∈ ys, ∀ (W : World) (fp fq : List Nat) (cs ds : Array Value), Gr w W → Rd.rd fp W cs.toList x → Rd.rd fq W ds.toList y → Calls Try.prog fid #[.agg cs, .agg ds] W fun e w' => e = .returned (.bool (decide (x = y))) ∧ Gr W w'

end Go.Proofs.Ytmfcagcanhmdbaa

namespace Go.Proofs.Ytmfcagcanhmdbaa
open Go.RowKit
set_option linter.unusedVariables false

set_option maxRecDepth 10000 in
set_option maxHeartbeats 8000000 in
theorem l13SameF_yes (fp fq : List Nat) (cs ds : Array Value) (x y : GTree) (w : World) (hx : Rd.rd fp w cs.toList x) (hy : Rd.rd fq w ds.toList y) (hxy : List.map noId x = List.map noId y) :
  Calls Try.prog 59 #[.agg cs, .agg ds, .bool false] w fun e w' => e = .returned (.bool true) ∧ Gr w w' := by
 have HXY := Lib.hid hxy
 obtain ⟨v0, f0, rfl, -, hu⟩ := rdTree_inv x hx
 obtain ⟨v1, f1, rfl, -, hv⟩ := rdTree_inv y hy
 clear hx hy
 obtain ⟨xs, rfl⟩ : ∃ t : List GNode, t = x := ⟨x, rfl⟩
 obtain ⟨ys, rfl⟩ : ∃ t : List GNode, t = y := ⟨y, rfl⟩
 obtain ⟨a, ca, rfl, h1, h2, h3⟩ := hu.open
 obtain ⟨c, cc, rfl, g1, g2, g3⟩ := hv.open
 have hl : xs.length = ys.length := by have := congrArg List.length hxy; simpa using this
 have hl' := Lib.hid hl
 have hne : ((xs.length : Int) != (ys.length : Int)) = false := by simp [hl]
 clear hl hxy
 go_enter Try.func59, Try.ntmps59
 go_wp2_with fail
 go_loopw [7] (fun s7 wr => ∃ k : Nat, k ≤ xs.length ∧ Gr ((w.alloc (Obj.cells #[.slice a xs.length ca] 38)).alloc (Obj.cells #[.slice c ys.length cc] 38)) wr ∧ s7 = .int .i64 k) (fun s7 _ => xs.length - (intOf s7).toNat)
 case atStart => exact ⟨0, by omega, Gr.refl _, rfl⟩
 case round =>
  obtain ⟨k, hk, ⟨x, rfl⟩, rfl⟩ := hrel
  by_cases hlt : k < xs.length
  ·have hlt2 : k < ys.length := by have := hl'.out; omega
   obtain ⟨b, off, rfl, hb⟩ := h3 k hlt
   obtain ⟨b', off', rfl, hb'⟩ := g3 k hlt2
   have hee : noId xs[k] = noId ys[k] := by
    have h := congrArg (fun l : List GNode => l[k]?) HXY.out
    simpa [hlt, hlt2] using h
   obtain ⟨csq, feq, hcq, hrq, -⟩ := hu.at hlt
   obtain ⟨csp, fep, hcp, hrp, -⟩ := hv.at hlt2
   obtain ⟨yq, hyq⟩ : ∃ y, y = xs[k] := ⟨_, rfl⟩
   obtain ⟨yp, hyp⟩ : ∃ y, y = ys[k] := ⟨_, rfl⟩
   rw [← hyq] at hrq hee
   rw [← hyp] at hrp hee
   clear hyq hyp
   obtain ⟨q0, q1, q2, q3, q4, q5⟩ := yq
   obtain ⟨p0, p1, p2, p3, p4, p5⟩ := yp
   simp only [noId, Prod.mk.injEq, true_and] at hee
   obtain ⟨rfl, rfl, rfl, rfl, rfl⟩ := hee
   obtain ⟨vq5, fq5, hcsq, -, hq0, hq1, hq2, hq3, hq4, hq5⟩ := rdNode_inv (cs := csq.toArray) q0 q1 q2 q3 q4 q5 (by simpa using hrq)
   obtain rfl : csq = [.int .i64 q0, .int .i64 q1, .int .i64 q2, .int .i64 q3, .string q4, vq5] := by have := congrArg Array.toList hcsq; simpa using this
   obtain ⟨vp5, fp5, hcsp, -, hp0, -, -, -, -, hp5⟩ := rdNode_inv (cs := csp.toArray) p0 q1 q2 q3 q4 q5 (by simpa using hrp)
   obtain rfl : csp = [.int .i64 p0, .int .i64 q1, .int .i64 q2, .int .i64 q3, .string q4, vp5] := by have := congrArg Array.toList hcsp; simpa using this
   have sq5 := hq5
   have sp5 := hp5
   obtain ⟨aq5, cq5, rfl, -, -, -⟩ := hq5.open
   obtain ⟨ap5, cp5, rfl, -, -, -⟩ := hp5.open
   have z0 : w.cell? ⟨b, off + k * 6, none⟩ = some (.int .i64 q0) := by simpa [Rd.n] using hcq 0 _ rfl
   have z1 : w.cell? ⟨b, off + k * 6 + 1, none⟩ = some (.int .i64 q1) := hcq 1 _ rfl
   have z2 : w.cell? ⟨b, off + k * 6 + 2, none⟩ = some (.int .i64 q2) := hcq 2 _ rfl
   have z3 : w.cell? ⟨b, off + k * 6 + 3, none⟩ = some (.int .i64 q3) := hcq 3 _ rfl
   have z4 : w.cell? ⟨b, off + k * 6 + 4, none⟩ = some (.string q4) := hcq 4 _ rfl
   have z5 : w.cell? ⟨b, off + k * 6 + 5, none⟩ = some (.slice aq5 q5.length cq5) := hcq 5 _ rfl
   have zz0 : w.cell? ⟨b', off' + k * 6, none⟩ = some (.int .i64 p0) := by simpa [Rd.n] using hcp 0 _ rfl
   have zz1 : w.cell? ⟨b', off' + k * 6 + 1, none⟩ = some (.int .i64 q1) := hcp 1 _ rfl
   have zz2 : w.cell? ⟨b', off' + k * 6 + 2, none⟩ = some (.int .i64 q2) := hcp 2 _ rfl
   have zz3 : w.cell? ⟨b', off' + k * 6 + 3, none⟩ = some (.int .i64 q3) := hcp 3 _ rfl
   have zz4 : w.cell? ⟨b', off' + k * 6 + 4, none⟩ = some (.string q4) := hcp 4 _ rfl
   have zz5 : w.cell? ⟨b', off' + k * 6 + 5, none⟩ = some (.slice ap5 q5.length cp5) := hcp 5 _ rfl
   clear h3 g3 hcsq hcsp hcq hcp hrq hrp
   go_wp2_with fail
   refine (l1Ints_any _ _ _ _ q5 q5 _ (sq5.gr gd) (sp5.gr gd)).mono ?_
   rintro e w3 ⟨rfl, x3, rfl⟩
   rw [decide_eq_true rfl]
   go_wp2_with fail
   exact ⟨⟨k + 1, by omega, gd, by go_num⟩, by simp [intOf]; omega⟩
  ·have hk2 : k = xs.length := by omega
   subst hk2
   go_wp2
   go_ret
   exact ⟨rfl, gd⟩

set_option maxHeartbeats 1000000 in
theorem sameShape_yes (fp fq : List Nat) (cs ds : Array Value) (x y : GTree) (w : World) (hx : Rd.rd fp w cs.toList x) (hy : Rd.rd fq w ds.toList y) (hxy : List.map noId x = List.map noId y) :
  Calls Try.prog 28 #[.agg cs, .agg ds] w fun e w' => e = .returned (.bool true) ∧ Gr w w' := by
 have HX := Lib.hid hx
 have HY := Lib.hid hy
 have HXY := Lib.hid hxy
 obtain ⟨v0, f0, rfl, -, hu⟩ := rdTree_inv x hx
 obtain ⟨v1, f1, rfl, -, hv⟩ := rdTree_inv y hy
 obtain ⟨a0, c0, rfl, -, -, -⟩ := hu.open
 obtain ⟨a1, c1, rfl, -, -, -⟩ := hv.open
 clear hx hy hu hv hxy
 go_enter Try.func28, Try.ntmps28
 go_wp2_with fail
 refine (l13SameF_yes _ _ _ _ x y _ (Rd.gr HX.out gd) (Rd.gr HY.out gd) HXY.out).mono ?_
 rintro e w3 ⟨rfl, x3, rfl⟩
 go_wp2_with fail
 go_ret
 exact ⟨rfl, gd⟩
end Go.Proofs.Ytmfcagcanhmdbaa

namespace Go.Proofs.Ytmfcagcanhmdbaa
open Go.RowKit
set_option linter.unusedVariables false

end Go.Proofs.Ytmfcagcanhmdbaa
