/- impl.EqualSession. Made by mk_eqchain.py. No condition. -/
import Derived.Test.YtmdiabjaggadjaaGreatSessBase
import Derived.Test.YtmdiabjaggadjaaGreatEqGramI
import Derived.Test.YtmdiabjaggadjaaGreatEqTreeI
import Derived.Test.YtmdiabjaggadjaaGreatMemoD
namespace Go.Proofs.YtmdiabjaggadjaaGreat
open Go.RowKit
variable {d : Nat}

set_option maxRecDepth 10000 in
set_option maxHeartbeats 8000000 in
theorem implEqSession_any (fp fq : List Nat) (cs ds : Array Value) (x y : (GSession d)) (w : World) (hx : Rd.rd fp w cs.toList x) (hy : Rd.rd fq w ds.toList y) :
    Calls Tryz.prog 7 #[.agg cs, .agg ds] w fun e w' => e = .returned (.bool (decide (x = y))) ∧ Gr w w' := by
  obtain ⟨⟨q00, q01⟩, q10, ⟨q20, q21⟩, q3⟩ := x
  obtain ⟨⟨p00, p01⟩, p10, ⟨p20, p21⟩, p3⟩ := y
  obtain ⟨vq00, fq00, vq01, fq01, vq10, fq10, vq20, fq20, vq21, fq21, rfl, -, hq00, hq01, hq10, hq20, hq21, hq3⟩ := rdSession_inv q00 q01 q10 q20 q21 q3 hx
  obtain ⟨vp00, fp00, vp01, fp01, vp10, fp10, vp20, fp20, vp21, fp21, rfl, -, hp00, hp01, hp10, hp20, hp21, hp3⟩ := rdSession_inv p00 p01 p10 p20 p21 p3 hy
  have hry0 := (rdGrammar_mk q00 q01 hq00 hq01 : Rd.rd (α := (GGrammar d)) _ w _ _)
  obtain ⟨y0, hny0⟩ : ∃ y : (GGrammar d), y = (q00, q01) := ⟨_, rfl⟩
  rw [← hny0] at hry0
  have hry1 := (rdTree_mk q10 hq10 : Rd.rd (α := GTree) _ w _ _)
  obtain ⟨y1, hny1⟩ : ∃ y : GTree, y = (q10) := ⟨_, rfl⟩
  rw [← hny1] at hry1
  have hry2 := (rdMemo_mk q20 q21 hq20 hq21 : Rd.rd (α := GMemo) _ w _ _)
  obtain ⟨y2, hny2⟩ : ∃ y : GMemo, y = (q20, q21) := ⟨_, rfl⟩
  rw [← hny2] at hry2
  have hrz0 := (rdGrammar_mk p00 p01 hp00 hp01 : Rd.rd (α := (GGrammar d)) _ w _ _)
  obtain ⟨z0, hnz0⟩ : ∃ y : (GGrammar d), y = (p00, p01) := ⟨_, rfl⟩
  rw [← hnz0] at hrz0
  have hrz1 := (rdTree_mk p10 hp10 : Rd.rd (α := GTree) _ w _ _)
  obtain ⟨z1, hnz1⟩ : ∃ y : GTree, y = (p10) := ⟨_, rfl⟩
  rw [← hnz1] at hrz1
  have hrz2 := (rdMemo_mk p20 p21 hp20 hp21 : Rd.rd (α := GMemo) _ w _ _)
  obtain ⟨z2, hnz2⟩ : ∃ y : GMemo, y = (p20, p21) := ⟨_, rfl⟩
  rw [← hnz2] at hrz2
  have HE : (((q00, q01), q10, (q20, q21), q3) : (GSession d)) = ((p00, p01), p10, (p20, p21), p3) ↔ y0 = z0 ∧ y1 = z1 ∧ y2 = z2 ∧ q3 = p3 := by
    rw [hny0, hnz0, hny1, hnz1, hny2, hnz2]
    simp only [Prod.mk.injEq, and_assoc]
  have HE := Lib.hid HE
  clear hny0 hnz0 hny1 hnz1 hny2 hnz2
  have sq00 := hq00
  obtain ⟨aq00, cq00, rfl, -, -, -⟩ := hq00.open
  have sq01 := hq01
  obtain ⟨aq01, cq01, rfl, -, -, -⟩ := hq01.open
  have sq10 := hq10
  obtain ⟨aq10, cq10, rfl, -, -, -⟩ := hq10.open
  have sq20 := hq20
  obtain ⟨aq20, cq20, rfl, -, -, -⟩ := hq20.open
  have sq21 := hq21
  obtain ⟨aq21, cq21, rfl, -, -, -⟩ := hq21.open
  have sp00 := hp00
  obtain ⟨ap00, cp00, rfl, -, -, -⟩ := hp00.open
  have sp01 := hp01
  obtain ⟨ap01, cp01, rfl, -, -, -⟩ := hp01.open
  have sp10 := hp10
  obtain ⟨ap10, cp10, rfl, -, -, -⟩ := hp10.open
  have sp20 := hp20
  obtain ⟨ap20, cp20, rfl, -, -, -⟩ := hp20.open
  have sp21 := hp21
  obtain ⟨ap21, cp21, rfl, -, -, -⟩ := hp21.open
  clear hx hy hq00 hq01 hq10 hq20 hq21 hp00 hp01 hp10 hp20 hp21
  go_enter Tryz.func7, Tryz.ntmps7
  go_wp2_with fail
  refine (implEqGrammar_any _ _ _ _ y0 z0 _ (Rd.gr hry0 (by repeat (first | exact Gr.refl _ | apply Gr.ext | apply Gr.alloc | apply Gr.drew))) (Rd.gr hrz0 (by repeat (first | exact Gr.refl _ | apply Gr.ext | apply Gr.alloc | apply Gr.drew)))).mono ?_
  rintro e w3 ⟨rfl, x3, rfl⟩
  by_cases e0 : y0 = z0
  · rw [decide_eq_true e0]
    have E0 := Lib.hid e0
    clear e0
    go_wp2_with fail
    refine (implEqTree_any _ _ _ _ y1 z1 _ (Rd.gr hry1 (by repeat (first | exact Gr.refl _ | apply Gr.ext | apply Gr.alloc | apply Gr.drew))) (Rd.gr hrz1 (by repeat (first | exact Gr.refl _ | apply Gr.ext | apply Gr.alloc | apply Gr.drew)))).mono ?_
    rintro e w4 ⟨rfl, x4, rfl⟩
    by_cases e1 : y1 = z1
    · rw [decide_eq_true e1]
      have E1 := Lib.hid e1
      clear e1
      go_wp2_with fail
      refine (implEqMemo_any _ _ _ _ y2 z2 _ (Rd.gr hry2 (by repeat (first | exact Gr.refl _ | apply Gr.ext | apply Gr.alloc | apply Gr.drew))) (Rd.gr hrz2 (by repeat (first | exact Gr.refl _ | apply Gr.ext | apply Gr.alloc | apply Gr.drew)))).mono ?_
      rintro e w5 ⟨rfl, x5, rfl⟩
      by_cases e2 : y2 = z2
      · rw [decide_eq_true e2]
        have E2 := Lib.hid e2
        clear e2
        go_wp2_with fail
        go_ret
        refine ⟨ret_bool ?_, (by repeat (first | exact Gr.refl _ | apply Gr.ext | apply Gr.alloc | apply Gr.drew))⟩
        by_cases el : q3 = p3
        · rw [decide_eq_true (HE.out.2 ⟨E0.out, E1.out, E2.out, el⟩), el]
          simp
        · rw [decide_eq_false fun hxy => el (HE.out.1 hxy).2.2.2]
          exact beq_eq_false_iff_ne.2 el
      · rw [decide_eq_false e2]
        have E2 := Lib.hid e2
        clear e2
        go_wp2_with fail
        go_ret
        refine ⟨ret_bool (decide_eq_false fun hxy => ?_).symm, (by repeat (first | exact Gr.refl _ | apply Gr.ext | apply Gr.alloc | apply Gr.drew))⟩
        obtain ⟨k0, k1, k2, k3⟩ := HE.out.1 hxy
        exact E2.out k2
    · rw [decide_eq_false e1]
      have E1 := Lib.hid e1
      clear e1
      go_wp2_with fail
      go_ret
      refine ⟨ret_bool (decide_eq_false fun hxy => ?_).symm, (by repeat (first | exact Gr.refl _ | apply Gr.ext | apply Gr.alloc | apply Gr.drew))⟩
      obtain ⟨k0, k1, k2, k3⟩ := HE.out.1 hxy
      exact E1.out k1
  · rw [decide_eq_false e0]
    have E0 := Lib.hid e0
    clear e0
    go_wp2_with fail
    go_ret
    refine ⟨ret_bool (decide_eq_false fun hxy => ?_).symm, (by repeat (first | exact Gr.refl _ | apply Gr.ext | apply Gr.alloc | apply Gr.drew))⟩
    obtain ⟨k0, k1, k2, k3⟩ := HE.out.1 hxy
    exact E0.out k0

end Go.Proofs.YtmdiabjaggadjaaGreat
