/- The Session measured and compared. Made by mk_sess.py. No condition. -/
import Derived.Test.YtmdiabjaggadjaaGreatSessBase
namespace Go.Proofs.YtmdiabjaggadjaaGreat
open Go.RowKit
variable {d : Nat}

set_option maxHeartbeats 1000000 in
theorem szSession_any (fp : List Nat) (cs : Array Value) (x : (GSession d)) (left : Int) (w : World) (hx : Rd.rd fp w cs.toList x) (h0 : 0 ≤ left) (h1 : left ≤ 1048576) :
    Calls Tryz.prog 4 #[.agg cs, .int .i64 left] w fun e w' => e = .returned (.int .i64 (less left (wtSession x))) ∧ Gr w w' := by
  obtain ⟨⟨q00, q01⟩, q10, ⟨q20, q21⟩, q3⟩ := x
  obtain ⟨vq00, fq00, vq01, fq01, vq10, fq10, vq20, fq20, vq21, fq21, rfl, -, hq00, hq01, hq10, hq20, hq21, hq3⟩ := rdSession_inv q00 q01 q10 q20 q21 q3 hx
  have hry0 := (rdGrammar_mk q00 q01 hq00 hq01 : Rd.rd (α := (GGrammar d)) _ w _ _)
  obtain ⟨y0, hny0⟩ : ∃ y : (GGrammar d), y = (q00, q01) := ⟨_, rfl⟩
  rw [← hny0] at hry0
  have HNy0 := Lib.hid hny0
  clear hny0
  have hry1 := (rdTree_mk q10 hq10 : Rd.rd (α := GTree) _ w _ _)
  obtain ⟨y1, hny1⟩ : ∃ y : GTree, y = q10 := ⟨_, rfl⟩
  rw [← hny1] at hry1
  have HNy1 := Lib.hid hny1
  clear hny1
  have hry2 := (rdMemo_mk q20 q21 hq20 hq21 : Rd.rd (α := GMemo) _ w _ _)
  obtain ⟨y2, hny2⟩ : ∃ y : GMemo, y = (q20, q21) := ⟨_, rfl⟩
  rw [← hny2] at hry2
  have HNy2 := Lib.hid hny2
  clear hny2
  obtain ⟨aq00, cq00, rfl, bq00, dq00, -⟩ := hq00.open
  obtain ⟨aq01, cq01, rfl, bq01, dq01, -⟩ := hq01.open
  obtain ⟨aq10, cq10, rfl, bq10, dq10, -⟩ := hq10.open
  obtain ⟨aq20, cq20, rfl, bq20, dq20, -⟩ := hq20.open
  obtain ⟨aq21, cq21, rfl, bq21, dq21, -⟩ := hq21.open
  have hwt : wtSession ((q00, q01), q10, (q20, q21), q3) = (wtGrammar y0) + (wtTree y1) + (wtMemo y2) := by rw [HNy0.out]; rw [HNy1.out]; rw [HNy2.out]; rfl
  have HW := Lib.hid hwt
  clear hwt hx
  go_enter Tryz.func4, Tryz.ntmps4
  go_wp2_with fail
  refine (szGrammar_any _ _ y0 _ _ (Rd.gr hry0 (by repeat (first | exact Gr.refl _ | apply Gr.ext | apply Gr.alloc | apply Gr.drew))) (by omega) (by omega)).mono ?_
  rintro e w0 ⟨rfl, x0, rfl⟩
  have hb0 := less_le (left) (wtGrammar y0) (by omega)
  go_wp2_with fail
  · go_ret
    refine ⟨ret_int ?_, (by repeat (first | exact Gr.refl _ | apply Gr.ext | apply Gr.alloc | apply Gr.drew))⟩
    have := less_cases left (wtSession ((q00, q01), q10, (q20, q21), q3))
    have := HW.out
    have := less_cases (left) (wtGrammar y0)
    omega
  · skip
    refine (szTree_any _ _ y1 _ _ (Rd.gr hry1 (by repeat (first | exact Gr.refl _ | apply Gr.ext | apply Gr.alloc | apply Gr.drew))) (by have := less_cases (left) (wtGrammar y0); omega) (by have := less_cases (left) (wtGrammar y0); omega)).mono ?_
    rintro e w1 ⟨rfl, x1, rfl⟩
    have hb1 := less_le (less (left) (wtGrammar y0)) (wtTree y1) (by have := less_cases (left) (wtGrammar y0); omega)
    go_wp2_with fail
    · go_ret
      refine ⟨ret_int ?_, (by repeat (first | exact Gr.refl _ | apply Gr.ext | apply Gr.alloc | apply Gr.drew))⟩
      have := less_cases left (wtSession ((q00, q01), q10, (q20, q21), q3))
      have := HW.out
      have := less_cases (left) (wtGrammar y0)
      have := less_cases (less (left) (wtGrammar y0)) (wtTree y1)
      omega
    · skip
      refine (szMemo_any _ _ y2 _ _ (Rd.gr hry2 (by repeat (first | exact Gr.refl _ | apply Gr.ext | apply Gr.alloc | apply Gr.drew))) (by have := less_cases (left) (wtGrammar y0); have := less_cases (less (left) (wtGrammar y0)) (wtTree y1); omega) (by have := less_cases (left) (wtGrammar y0); have := less_cases (less (left) (wtGrammar y0)) (wtTree y1); omega)).mono ?_
      rintro e w2 ⟨rfl, x2, rfl⟩
      have hb2 := less_le (less (less (left) (wtGrammar y0)) (wtTree y1)) (wtMemo y2) (by have := less_cases (left) (wtGrammar y0); have := less_cases (less (left) (wtGrammar y0)) (wtTree y1); omega)
      go_wp2_with fail
      · go_ret
        refine ⟨ret_int ?_, (by repeat (first | exact Gr.refl _ | apply Gr.ext | apply Gr.alloc | apply Gr.drew))⟩
        have := less_cases left (wtSession ((q00, q01), q10, (q20, q21), q3))
        have := HW.out
        have := less_cases (left) (wtGrammar y0)
        have := less_cases (less (left) (wtGrammar y0)) (wtTree y1)
        have := less_cases (less (less (left) (wtGrammar y0)) (wtTree y1)) (wtMemo y2)
        omega
      · skip
        go_ret
        refine ⟨ret_int ?_, (by repeat (first | exact Gr.refl _ | apply Gr.ext | apply Gr.alloc | apply Gr.drew))⟩
        have := less_cases left (wtSession ((q00, q01), q10, (q20, q21), q3))
        have := HW.out
        have := less_cases (left) (wtGrammar y0)
        have := less_cases (less (left) (wtGrammar y0)) (wtTree y1)
        have := less_cases (less (less (left) (wtGrammar y0)) (wtTree y1)) (wtMemo y2)
        omega

theorem Session_ext (q00 : List GSymbol) (q01 : List (GRule d)) (q10 : List GNode) (q20 : List GEntry) (q21 : List GInstance) (q3 : Int) (p00 : List GSymbol) (p01 : List (GRule d)) (p10 : List GNode) (p20 : List GEntry) (p21 : List GInstance) (p3 : Int) (e0 : (q00, q01) = (p00, p01)) (e1 : q10 = p10) (e2 : (q20, q21) = (p20, p21)) (e3 : q3 = p3) : (((q00, q01), q10, (q20, q21), q3) : (GSession d)) = ((p00, p01), p10, (p20, p21), p3) := by
  exact Prod.ext_iff.2 ⟨e0, Prod.ext_iff.2 ⟨e1, Prod.ext_iff.2 ⟨e2, e3⟩⟩⟩

set_option maxHeartbeats 1000000 in
theorem eqSession_any (fp fq : List Nat) (cs ds : Array Value) (x y : (GSession d)) (w : World) (hx : Rd.rd fp w cs.toList x) (hy : Rd.rd fq w ds.toList y) :
    Calls Tryz.prog 8 #[.agg cs, .agg ds] w fun e w' => e = .returned (.bool (decide (x = y))) ∧ Gr w w' := by
  obtain ⟨⟨q00, q01⟩, q10, ⟨q20, q21⟩, q3⟩ := x
  obtain ⟨⟨p00, p01⟩, p10, ⟨p20, p21⟩, p3⟩ := y
  obtain ⟨vq00, fq00, vq01, fq01, vq10, fq10, vq20, fq20, vq21, fq21, rfl, -, hq00, hq01, hq10, hq20, hq21, hq3⟩ := rdSession_inv q00 q01 q10 q20 q21 q3 hx
  obtain ⟨vp00, fp00, vp01, fp01, vp10, fp10, vp20, fp20, vp21, fp21, rfl, -, hp00, hp01, hp10, hp20, hp21, hp3⟩ := rdSession_inv p00 p01 p10 p20 p21 p3 hy
  have hry0 := (rdGrammar_mk q00 q01 hq00 hq01 : Rd.rd (α := (GGrammar d)) _ w _ _)
  obtain ⟨y0, hny0⟩ : ∃ y : (GGrammar d), y = (q00, q01) := ⟨_, rfl⟩
  rw [← hny0] at hry0
  have HNy0 := Lib.hid hny0
  clear hny0
  have hry1 := (rdTree_mk q10 hq10 : Rd.rd (α := GTree) _ w _ _)
  obtain ⟨y1, hny1⟩ : ∃ y : GTree, y = q10 := ⟨_, rfl⟩
  rw [← hny1] at hry1
  have HNy1 := Lib.hid hny1
  clear hny1
  have hry2 := (rdMemo_mk q20 q21 hq20 hq21 : Rd.rd (α := GMemo) _ w _ _)
  obtain ⟨y2, hny2⟩ : ∃ y : GMemo, y = (q20, q21) := ⟨_, rfl⟩
  rw [← hny2] at hry2
  have HNy2 := Lib.hid hny2
  clear hny2
  have hrz0 := (rdGrammar_mk p00 p01 hp00 hp01 : Rd.rd (α := (GGrammar d)) _ w _ _)
  obtain ⟨z0, hnz0⟩ : ∃ y : (GGrammar d), y = (p00, p01) := ⟨_, rfl⟩
  rw [← hnz0] at hrz0
  have HNz0 := Lib.hid hnz0
  clear hnz0
  have hrz1 := (rdTree_mk p10 hp10 : Rd.rd (α := GTree) _ w _ _)
  obtain ⟨z1, hnz1⟩ : ∃ y : GTree, y = p10 := ⟨_, rfl⟩
  rw [← hnz1] at hrz1
  have HNz1 := Lib.hid hnz1
  clear hnz1
  have hrz2 := (rdMemo_mk p20 p21 hp20 hp21 : Rd.rd (α := GMemo) _ w _ _)
  obtain ⟨z2, hnz2⟩ : ∃ y : GMemo, y = (p20, p21) := ⟨_, rfl⟩
  rw [← hnz2] at hrz2
  have HNz2 := Lib.hid hnz2
  clear hnz2
  obtain ⟨aq00, cq00, rfl, -, -, -⟩ := hq00.open
  obtain ⟨aq01, cq01, rfl, -, -, -⟩ := hq01.open
  obtain ⟨aq10, cq10, rfl, -, -, -⟩ := hq10.open
  obtain ⟨aq20, cq20, rfl, -, -, -⟩ := hq20.open
  obtain ⟨aq21, cq21, rfl, -, -, -⟩ := hq21.open
  obtain ⟨ap00, cp00, rfl, -, -, -⟩ := hp00.open
  obtain ⟨ap01, cp01, rfl, -, -, -⟩ := hp01.open
  obtain ⟨ap10, cp10, rfl, -, -, -⟩ := hp10.open
  obtain ⟨ap20, cp20, rfl, -, -, -⟩ := hp20.open
  obtain ⟨ap21, cp21, rfl, -, -, -⟩ := hp21.open
  clear hx hy
  go_enter Tryz.func8, Tryz.ntmps8
  go_wp2_with fail
  refine (eqGrammar_any _ _ _ _ y0 z0 _ (Rd.gr hry0 (by repeat (first | exact Gr.refl _ | apply Gr.ext | apply Gr.alloc | apply Gr.drew))) (Rd.gr hrz0 (by repeat (first | exact Gr.refl _ | apply Gr.ext | apply Gr.alloc | apply Gr.drew)))).mono ?_
  rintro e w0 ⟨rfl, x0, rfl⟩
  go_wp2_with fail
  · have ht : (!decide (y0 = z0)) = true := by assumption
    go_ret
    exact ⟨ret_bool (decide_eq_false fun e => dec_ne ht (HNy0.out.trans ((congrArg (fun z : (GSession d) => z.1) e).trans HNz0.out.symm))).symm, (by repeat (first | exact Gr.refl _ | apply Gr.ext | apply Gr.alloc | apply Gr.drew))⟩
  · skip
    have e0 := Lib.hid (dec_eq (show (!decide (y0 = z0)) = false by assumption))
    refine (eqTree_any _ _ _ _ y1 z1 _ (Rd.gr hry1 (by repeat (first | exact Gr.refl _ | apply Gr.ext | apply Gr.alloc | apply Gr.drew))) (Rd.gr hrz1 (by repeat (first | exact Gr.refl _ | apply Gr.ext | apply Gr.alloc | apply Gr.drew)))).mono ?_
    rintro e w1 ⟨rfl, x1, rfl⟩
    go_wp2_with fail
    · have ht : (!decide (y1 = z1)) = true := by assumption
      go_ret
      exact ⟨ret_bool (decide_eq_false fun e => dec_ne ht (HNy1.out.trans ((congrArg (fun z : (GSession d) => z.2.1) e).trans HNz1.out.symm))).symm, (by repeat (first | exact Gr.refl _ | apply Gr.ext | apply Gr.alloc | apply Gr.drew))⟩
    · skip
      have e1 := Lib.hid (dec_eq (show (!decide (y1 = z1)) = false by assumption))
      refine (eqMemo_any _ _ _ _ y2 z2 _ (Rd.gr hry2 (by repeat (first | exact Gr.refl _ | apply Gr.ext | apply Gr.alloc | apply Gr.drew))) (Rd.gr hrz2 (by repeat (first | exact Gr.refl _ | apply Gr.ext | apply Gr.alloc | apply Gr.drew)))).mono ?_
      rintro e w2 ⟨rfl, x2, rfl⟩
      go_wp2_with fail
      · have ht : (!decide (y2 = z2)) = true := by assumption
        go_ret
        exact ⟨ret_bool (decide_eq_false fun e => dec_ne ht (HNy2.out.trans ((congrArg (fun z : (GSession d) => z.2.2.1) e).trans HNz2.out.symm))).symm, (by repeat (first | exact Gr.refl _ | apply Gr.ext | apply Gr.alloc | apply Gr.drew))⟩
      · have ht : (q3 != p3) = true := by assumption
        go_ret
        exact ⟨ret_bool (decide_eq_false fun e => int_ne ht (congrArg (fun z : (GSession d) => z.2.2.2) e)).symm, (by repeat (first | exact Gr.refl _ | apply Gr.ext | apply Gr.alloc | apply Gr.drew))⟩
      · skip
        have e2 := Lib.hid (dec_eq (show (!decide (y2 = z2)) = false by assumption))
        have e3 := Lib.hid (int_eq (show (q3 != p3) = false by assumption))
        go_ret
        exact ⟨ret_bool (decide_eq_true (Session_ext q00 q01 q10 q20 q21 q3 p00 p01 p10 p20 p21 p3 (HNy0.out.symm.trans (e0.out.trans HNz0.out)) (HNy1.out.symm.trans (e1.out.trans HNz1.out)) (HNy2.out.symm.trans (e2.out.trans HNz2.out)) e3.out)).symm, (by repeat (first | exact Gr.refl _ | apply Gr.ext | apply Gr.alloc | apply Gr.drew))⟩

end Go.Proofs.YtmdiabjaggadjaaGreat
