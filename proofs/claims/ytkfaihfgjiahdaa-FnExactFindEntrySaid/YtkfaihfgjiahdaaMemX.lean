/- copyEntry: an entry in new memory, in the program. No condition. -/
import Derived.Test.YtkfaihfgjiahdaaMemV
import Derived.Deep.DrawnRows
import Derived.Deep.RegionWith
namespace Go.Proofs.Ytkfaihfgjiahdaa
open Go.RowKit

attribute [local go_sem ↓] Go.wp_at_zero Go.wp_at_succ

set_option maxRecDepth 10000 in
set_option maxHeartbeats 16000000 in
theorem copyEntry_any (fp : List Nat) (cs : Array Value) (x : GEntry) (w : World) (hx : Rd.rd fp w cs.toList x) (hl : wtEntry x ≤ 1048576) :
    Calls Try.prog 82 #[.agg cs] w fun e w' => ∃ ds fq, e = .returned (.agg ds) ∧ Rd.rd fq w' ds.toList x ∧ Fresh w fq ∧ Gr w w' := by
  obtain ⟨⟨q00, q01⟩, q1, q2, q3, q4, q5, q6, q7⟩ := x
  obtain ⟨vq5, fq5, vq6, fq6, vq7, fq7, rfl, -, hq00, hq01, hq1, hq2, hq3, hq4, hq5, hq6, hq7⟩ := rdEntry_inv q00 q01 q1 q2 q3 q4 q5 q6 q7 hx
  have S5 := Lib.hid hq5
  have S6 := Lib.hid hq6
  have S7 := Lib.hid hq7
  obtain ⟨a5, c5, rfl, -, -, -⟩ := hq5.open
  obtain ⟨a6, c6, rfl, -, -, -⟩ := hq6.open
  obtain ⟨a7, c7, rfl, -, -, -⟩ := hq7.open
  have hw : wtInstance (q00, q01) + q4.size + q5.length + q6.length + wtReadingS q7 ≤ 1048576 := hl
  have l5 : q5.length ≤ 1048576 := by omega
  have l6 : q6.length ≤ 1048576 := by omega
  have l7 : q7.length ≤ 1048576 := Nat.le_trans (wtL_len wtReading q7) (show wtReadingS q7 ≤ _ by omega)
  have H0 := Lib.hid (And.intro hq00 (And.intro hq01 (And.intro hq1 (And.intro hq2 (And.intro hq3 hq4)))))
  clear hx hl hw hq5 hq6 hq7 hq00 hq01 hq1 hq2 hq3 hq4
  go_enter Try.func82, Try.ntmps82
  go_wp2_with fail
  go_region_with (first
    | (go_at_call 92; refine (cloneInt_any _ _ q5 _ (S5.out.gr (by repeat (first | exact Gr.refl _ | apply Gr.ext | apply Gr.alloc | apply Gr.drew))) l5).mono ?_; rintro e w5 ⟨v5, f5, rfl, s5, r5, y5, rfl⟩; have s5' := s5; replace s5 := Lib.hid s5; replace r5 := Lib.hid r5; obtain ⟨b5, d5, rfl, -, -, -⟩ := s5'.open; clear s5')
    | (go_at_call 92; refine (cloneInt_any _ _ q6 _ (S6.out.gr (by repeat (first | exact Gr.refl _ | apply Gr.ext | apply Gr.alloc | apply Gr.drew))) l6).mono ?_; rintro e w6 ⟨v6, f6, rfl, s6, r6, y6, rfl⟩; have s6' := s6; replace s6 := Lib.hid s6; replace r6 := Lib.hid r6; obtain ⟨b6, d6, rfl, -, -, -⟩ := s6'.open; clear s6')
    | (go_at_call 101; refine (cloneReading_any _ _ q7 _ (S7.out.gr (by repeat (first | exact Gr.refl _ | apply Gr.ext | apply Gr.alloc | apply Gr.drew))) l7).mono ?_; rintro e w7 ⟨v7, f7, rfl, s7, r7, y7, rfl⟩; have s7' := s7; replace s7 := Lib.hid s7; replace r7 := Lib.hid r7; obtain ⟨b7, d7, rfl, -, -, -⟩ := s7'.open; clear s7'))
  all_goals
    go_wp2_with fail
    obtain ⟨h00, h01, h1, h2, h3, h4⟩ := H0.out
    have hfresh : Fresh w (f5 ++ (f6 ++ f7)) := Fresh.app (Fresh.of_le r5.out (by simp <;> omega)) (SlR.lt s5.out) (Fresh.app r6.out (SlR.lt s6.out) r7.out (by simp <;> omega) (by simp <;> omega)) (by simp <;> omega) (by simp <;> omega)
    exact bodyPost_ret (v := .agg #[.int .i64 q00, .string q01, .int .i64 q1, .int .i64 q2, .int .i64 q3, .string q4, .slice b5 q5.length d5, .slice b6 q6.length d6, .slice b7 q7.length d7])
      (by simp [results, Try.results82, go_sem]) rfl
      ⟨_, _, rfl, rdEntry_mk q00 q01 q1 q2 q3 q4 q5 q6 q7 h00 h01 h1 h2 h3 h4 (SlR.moved s5.out r5.out (by repeat (first | exact Gr.refl _ | apply Gr.ext | apply Gr.alloc | apply Gr.drew)) (by simp)) (SlR.moved s6.out r6.out (by repeat (first | exact Gr.refl _ | apply Gr.ext | apply Gr.alloc | apply Gr.drew)) (by simp)) (SlR.moved s7.out r7.out (by repeat (first | exact Gr.refl _ | apply Gr.ext | apply Gr.alloc | apply Gr.drew)) (by simp)), hfresh, (by repeat (first | exact Gr.refl _ | apply Gr.ext | apply Gr.alloc | apply Gr.drew))⟩
end Go.Proofs.Ytkfaihfgjiahdaa
