/- An entry in new memory, in the reference and in the program. No condition. -/
import Derived.Test.YtkfaihfgjiahdaaMemV
namespace Go.Proofs.Ytkfaihfgjiahdaa
open Go.RowKit

set_option maxRecDepth 10000 in
set_option maxHeartbeats 4000000 in
theorem l36Entry_any (fp : List Nat) (cs : Array Value) (x : GEntry) (w : World) (hx : Rd.rd fp w cs.toList x) (hl : wtEntry x ≤ 1048576) :
    Calls Try.prog 81 #[.agg cs] w fun e w' => ∃ ds fq, e = .returned (.agg ds) ∧ Rd.rd fq w' ds.toList x ∧ Fresh w fq ∧ Gr w w' := by
  obtain ⟨⟨q00, q01⟩, q1, q2, q3, q4, q5, q6, q7⟩ := x
  obtain ⟨vq5, fq5, vq6, fq6, vq7, fq7, rfl, -, hq00, hq01, hq1, hq2, hq3, hq4, hq5, hq6, hq7⟩ := rdEntry_inv q00 q01 q1 q2 q3 q4 q5 q6 q7 hx
  have S5 := Lib.hid hq5
  have S6 := Lib.hid hq6
  have S7 := Lib.hid hq7
  obtain ⟨a5, c5, rfl, -, -, -⟩ := hq5.open
  obtain ⟨a6, c6, rfl, -, -, -⟩ := hq6.open
  obtain ⟨a7, c7, rfl, -, -, -⟩ := hq7.open
  have hw : wtInstance (q00, q01) + q4.size + q5.length + q6.length + wtReadingS q7 ≤ 1048576 := hl
  have l5 : q5.length ≤ 1048576 := by omega
  have l6 : q6.length ≤ 1048576 := by omega
  have l7 : q7.length ≤ 1048576 := Nat.le_trans (wtL_len wtReading q7) (show wtReadingS q7 ≤ _ by omega)
  obtain ⟨i0, hi, hz0, hz1, hz2⟩ := info_parts Try.infoIntC
  have HZ := Lib.hid (And.intro hi (And.intro hz0 (And.intro hz1 hz2)))
  clear hi hz0 hz1 hz2
  obtain ⟨i1, hi, hz0, hz1, hz2⟩ := info_parts Try.infoReadC
  have HY := Lib.hid (And.intro hi (And.intro hz0 (And.intro hz1 hz2)))
  have H0 := Lib.hid (And.intro hq00 (And.intro hq01 (And.intro hq1 (And.intro hq2 (And.intro hq3 hq4)))))
  clear hi hz0 hz1 hz2 hx hl hw hq5 hq6 hq7 hq00 hq01 hq1 hq2 hq3 hq4
  go_enter Try.func81, Try.ntmps81
  go_wp2_with (first
    | (at_builtin; refine wpList_clone (o := ⟨some 6, _, _, _, _, _⟩) flatInt rfl _ _ 43 rfl 3 i0 (.int .i64 0) 8 Try.underlying43 HZ.out.1 HZ.out.2.1 HZ.out.2.2.1 HZ.out.2.2.2 rfl (by rfl) (by simp) (by rfl) (S5.out.gr (by repeat (first | exact Gr.refl _ | apply Gr.ext | apply Gr.alloc | apply Gr.drew))) l5 (by omega) ?_; intro b5 d5 f5 y5 s5 r5; replace s5 := Lib.hid s5; replace r5 := Lib.hid r5)
    | (at_builtin; refine wpList_clone (o := ⟨some 11, _, _, _, _, _⟩) flatInt rfl _ _ 43 rfl 3 i0 (.int .i64 0) 8 Try.underlying43 HZ.out.1 HZ.out.2.1 HZ.out.2.2.1 HZ.out.2.2.2 rfl (by rfl) (by simp) (by rfl) (S6.out.gr (by repeat (first | exact Gr.refl _ | apply Gr.ext | apply Gr.alloc | apply Gr.drew))) l6 (by omega) ?_; intro b6 d6 f6 y6 s6 r6; replace s6 := Lib.hid s6; replace r6 := Lib.hid r6)
    | (at_builtin; refine wpList_clone (o := ⟨some 16, _, _, _, _, _⟩) flatReading rfl _ _ 71 rfl 128 i1 (.agg #[.int .i64 0, .string ByteArray.empty, .int .i64 0, .string ByteArray.empty]) 48 Try.underlying71 HY.out.1 HY.out.2.1 HY.out.2.2.1 HY.out.2.2.2 rfl (by rfl) (by simp) (by rfl) (S7.out.gr (by repeat (first | exact Gr.refl _ | apply Gr.ext | apply Gr.alloc | apply Gr.drew))) l7 (by omega) ?_; intro b7 d7 f7 y7 s7 r7; replace s7 := Lib.hid s7; replace r7 := Lib.hid r7))
  obtain ⟨h00, h01, h1, h2, h3, h4⟩ := H0.out
  have hfresh : Fresh w (f5 ++ (f6 ++ f7)) := Fresh.app (Fresh.of_le r5.out (by simp <;> omega)) (SlR.lt s5.out) (Fresh.app r6.out (SlR.lt s6.out) r7.out (by simp <;> omega) (by simp <;> omega)) (by simp <;> omega) (by simp <;> omega)
  exact bodyPost_ret (v := .agg #[.int .i64 q00, .string q01, .int .i64 q1, .int .i64 q2, .int .i64 q3, .string q4, .slice (some ⟨b5, 0, none⟩) q5.length d5, .slice (some ⟨b6, 0, none⟩) q6.length d6, .slice (some ⟨b7, 0, none⟩) q7.length d7])
    (by simp [results, Try.results81, go_sem]) rfl
    ⟨_, _, rfl, rdEntry_mk q00 q01 q1 q2 q3 q4 q5 q6 q7 h00 h01 h1 h2 h3 h4 (SlR.moved s5.out r5.out (by repeat (first | exact Gr.refl _ | apply Gr.ext | apply Gr.alloc | apply Gr.drew)) (by simp)) (SlR.moved s6.out r6.out (by repeat (first | exact Gr.refl _ | apply Gr.ext | apply Gr.alloc | apply Gr.drew)) (by simp)) (SlR.moved s7.out r7.out (by repeat (first | exact Gr.refl _ | apply Gr.ext | apply Gr.alloc | apply Gr.drew)) (by simp)), hfresh, (by repeat (first | exact Gr.refl _ | apply Gr.ext | apply Gr.alloc | apply Gr.drew))⟩
end Go.Proofs.Ytkfaihfgjiahdaa
