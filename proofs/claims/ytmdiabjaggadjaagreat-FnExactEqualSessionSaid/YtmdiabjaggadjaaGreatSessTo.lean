/- The Session copied. Made by mk_sess.py. No condition. -/
import Derived.Test.YtmdiabjaggadjaaGreatSessFam
namespace Go.Proofs.YtmdiabjaggadjaaGreat
open Go.RowKit
variable {d : Nat}

set_option maxHeartbeats 2000000 in
theorem toSession_any (fp : List Nat) (cs : Array Value) (x : GSession d) (w : World) (hx : Rd.rd fp w cs.toList x) (hl : wtSession x ≤ 1048576) :
    Calls Tryz.prog 6 #[.agg cs] w fun e w' => ∃ ds fq, e = .returned (.agg ds) ∧ Rd.rd fq w' ds.toList x ∧ Fresh w fq ∧ Gr w w' := by
  obtain ⟨⟨q00, q01⟩, q10, ⟨q20, q21⟩, q3⟩ := x
  obtain ⟨vq00, fq00, vq01, fq01, vq10, fq10, vq20, fq20, vq21, fq21, rfl, -, hq00, hq01, hq10, hq20, hq21, hq3⟩ := rdSession_inv q00 q01 q10 q20 q21 q3 hx
  have hry0 : Rd.rd (α := GGrammar d) _ w _ _ := rdGrammar_mk q00 q01 hq00 hq01
  have hry1 : Rd.rd (α := GTree) _ w _ _ := rdTree_mk q10 hq10
  have hry2 : Rd.rd (α := GMemo) _ w _ _ := rdMemo_mk q20 q21 hq20 hq21
  have hwt : wtSession ((q00, q01), q10, (q20, q21), q3) = wtGrammar (q00, q01) + wtTree q10 + wtMemo (q20, q21) := rfl
  rw [hwt] at hl
  have HW := Lib.hid hl
  clear hwt hx hl
  obtain ⟨aq00, cq00, rfl, -, -, -⟩ := hq00.open
  obtain ⟨aq01, cq01, rfl, -, -, -⟩ := hq01.open
  obtain ⟨aq10, cq10, rfl, -, -, -⟩ := hq10.open
  obtain ⟨aq20, cq20, rfl, -, -, -⟩ := hq20.open
  obtain ⟨aq21, cq21, rfl, -, -, -⟩ := hq21.open
  clear hq00 hq01 hq10 hq20 hq21
  go_enter Tryz.func6, Tryz.ntmps6
  go_wp2_with fail
  refine (toGrammar_any _ _ (q00, q01) _ (Rd.gr hry0 (by repeat (first | exact Gr.refl _ | apply Gr.ext | apply Gr.alloc | apply Gr.drew))) (by have := HW.out; omega)).mono ?_
  rintro e w0 ⟨ds0, g0, rfl, s0, fr0, x0, rfl⟩
  obtain ⟨a0, l0, c0, a1, l1, c1, rfl⟩ := rdGrammar_shape s0
  go_wp2_with fail
  refine (toTree_any _ _ q10 _ (Rd.gr hry1 (by repeat (first | exact Gr.refl _ | apply Gr.ext | apply Gr.alloc | apply Gr.drew))) (by have := HW.out; omega)).mono ?_
  rintro e w1 ⟨ds1, g1, rfl, s1, fr1, x1, rfl⟩
  obtain ⟨a2, l2, c2, rfl⟩ := rdTree_shape s1
  go_wp2_with fail
  refine (toMemo_any _ _ (q20, q21) _ (Rd.gr hry2 (by repeat (first | exact Gr.refl _ | apply Gr.ext | apply Gr.alloc | apply Gr.drew))) (by have := HW.out; omega)).mono ?_
  rintro e w2 ⟨ds2, g2, rfl, s2, fr2, x2, rfl⟩
  obtain ⟨a3, l3, c3, a4, l4, c4, rfl⟩ := rdMemo_shape s2
  go_wp2_with fail
  have hfresh : Fresh w (g0 ++ (g1 ++ (g2 ++ []))) := by
    rw [List.append_nil]
    exact (Fresh.app (Fresh.of_le fr0 (by simp <;> omega)) (Rd.lt s0) (Fresh.app fr1 (Rd.lt s1) fr2 (by simp <;> omega) (by simp <;> omega)) (by simp <;> omega) (by simp <;> omega))
  exact bodyPost_ret (v := .agg #[.slice a0 l0 c0, .slice a1 l1 c1, .slice a2 l2 c2, .slice a3 l3 c3, .slice a4 l4 c4, .int .i64 q3]) (by simp [results, Tryz.results6, go_sem]) rfl
    ⟨_, _, rfl, ⟨_, _, _, _, rfl, rfl, Rd.moved s0 fr0 (by repeat (first | exact Gr.refl _ | apply Gr.ext | apply Gr.alloc | apply Gr.drew)) (by simp), ⟨_, _, _, _, rfl, rfl, Rd.moved s1 fr1 (by repeat (first | exact Gr.refl _ | apply Gr.ext | apply Gr.alloc | apply Gr.drew)) (by simp), ⟨_, _, _, _, rfl, rfl, Rd.moved s2 fr2 (by repeat (first | exact Gr.refl _ | apply Gr.ext | apply Gr.alloc | apply Gr.drew)) (by simp), ⟨rfl, rfl, hq3⟩⟩⟩⟩, hfresh, (by repeat (first | exact Gr.refl _ | apply Gr.ext | apply Gr.alloc | apply Gr.drew))⟩

end Go.Proofs.YtmdiabjaggadjaaGreat
