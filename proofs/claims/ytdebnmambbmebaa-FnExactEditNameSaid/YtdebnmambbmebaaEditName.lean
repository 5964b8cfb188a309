/- EditName of the program and of the reference, and the statement on them. No condition. -/
import Derived.Test.YtdebnmambbmebaaInts
namespace Go.Proofs.Ytdebnmambbmebaa
open Go.RowKit

set_option maxRecDepth 100000 in
theorem specEditName_0 (w : World) :
    Calls Try.prog 15 #[.int .i64 0] w fun e w' => e = .returned (.string { data := #[111, 107] }) ∧ Gr w w' := by
  go_enter Try.func15, Try.ntmps15
  go_wp2_with (go_at_call 64; refine (l1In_yes _ _ _ _ (by omega) (by omega)).mono ?_; rintro e w' ⟨rfl, x, rfl⟩)
  go_ret
  exact ⟨rfl, (by repeat (first | exact Gr.refl _ | apply Gr.ext | apply Gr.alloc | apply Gr.drew))⟩
set_option maxRecDepth 100000 in
theorem implEditName_0 (w : World) :
    Calls Try.prog 16 #[.int .i64 0] w fun e w' => e = .returned (.string { data := #[111, 107] }) ∧ Gr w w' := by
  have ix : ∀ w, (Instr.index 86 (.agg #[(.string { data := #[111, 107] }), (.string { data := #[98, 97, 100] }), (.string { data := #[109, 105, 115, 115, 105, 110, 103] }), (.string { data := #[115, 121, 109, 98, 111, 108] }), (.string { data := #[105, 100, 115] }), (.string { data := #[115, 105, 122, 101] }), (.string { data := #[110, 101, 115, 116, 101, 100] }), (.string { data := #[108, 105, 116, 101, 114, 97, 108] })]) (.int .i64 0)).run Try.prog w = .ok (.string { data := #[111, 107] }) w := fun _ => by kernel_rfl
  go_enter Try.func16, Try.ntmps16
  go_wp2_with (go_at_call 65; refine (within_yes _ _ _ _ (by omega) (by omega)).mono ?_; rintro e w' ⟨rfl, x, rfl⟩)
  go_ret
  exact ⟨rfl, (by repeat (first | exact Gr.refl _ | apply Gr.ext | apply Gr.alloc | apply Gr.drew))⟩
theorem lawEditName_0 (w : World) :
    Calls Try.prog 3 #[.int .i64 0] w fun e w' => e = .returned (.bool true) ∧ Gr w w' := by
  go_enter Try.func3, Try.ntmps3
  go_wp2_with (first | (go_at_call 15; refine (specEditName_0 _).mono ?_; rintro e w1 ⟨rfl, x1, rfl⟩) | (go_at_call 16; refine (implEditName_0 _).mono ?_; rintro e w2 ⟨rfl, x2, rfl⟩))
  go_ret
  exact ⟨rfl, (by repeat (first | exact Gr.refl _ | apply Gr.ext | apply Gr.alloc | apply Gr.drew))⟩

set_option maxRecDepth 100000 in
theorem specEditName_1 (w : World) :
    Calls Try.prog 15 #[.int .i64 1] w fun e w' => e = .returned (.string { data := #[98, 97, 100] }) ∧ Gr w w' := by
  go_enter Try.func15, Try.ntmps15
  go_wp2_with (go_at_call 64; refine (l1In_yes _ _ _ _ (by omega) (by omega)).mono ?_; rintro e w' ⟨rfl, x, rfl⟩)
  go_ret
  exact ⟨rfl, (by repeat (first | exact Gr.refl _ | apply Gr.ext | apply Gr.alloc | apply Gr.drew))⟩
set_option maxRecDepth 100000 in
theorem implEditName_1 (w : World) :
    Calls Try.prog 16 #[.int .i64 1] w fun e w' => e = .returned (.string { data := #[98, 97, 100] }) ∧ Gr w w' := by
  have ix : ∀ w, (Instr.index 86 (.agg #[(.string { data := #[111, 107] }), (.string { data := #[98, 97, 100] }), (.string { data := #[109, 105, 115, 115, 105, 110, 103] }), (.string { data := #[115, 121, 109, 98, 111, 108] }), (.string { data := #[105, 100, 115] }), (.string { data := #[115, 105, 122, 101] }), (.string { data := #[110, 101, 115, 116, 101, 100] }), (.string { data := #[108, 105, 116, 101, 114, 97, 108] })]) (.int .i64 1)).run Try.prog w = .ok (.string { data := #[98, 97, 100] }) w := fun _ => by kernel_rfl
  go_enter Try.func16, Try.ntmps16
  go_wp2_with (go_at_call 65; refine (within_yes _ _ _ _ (by omega) (by omega)).mono ?_; rintro e w' ⟨rfl, x, rfl⟩)
  go_ret
  exact ⟨rfl, (by repeat (first | exact Gr.refl _ | apply Gr.ext | apply Gr.alloc | apply Gr.drew))⟩
theorem lawEditName_1 (w : World) :
    Calls Try.prog 3 #[.int .i64 1] w fun e w' => e = .returned (.bool true) ∧ Gr w w' := by
  go_enter Try.func3, Try.ntmps3
  go_wp2_with (first | (go_at_call 15; refine (specEditName_1 _).mono ?_; rintro e w1 ⟨rfl, x1, rfl⟩) | (go_at_call 16; refine (implEditName_1 _).mono ?_; rintro e w2 ⟨rfl, x2, rfl⟩))
  go_ret
  exact ⟨rfl, (by repeat (first | exact Gr.refl _ | apply Gr.ext | apply Gr.alloc | apply Gr.drew))⟩

set_option maxRecDepth 100000 in
theorem specEditName_2 (w : World) :
    Calls Try.prog 15 #[.int .i64 2] w fun e w' => e = .returned (.string { data := #[109, 105, 115, 115, 105, 110, 103] }) ∧ Gr w w' := by
  go_enter Try.func15, Try.ntmps15
  go_wp2_with (go_at_call 64; refine (l1In_yes _ _ _ _ (by omega) (by omega)).mono ?_; rintro e w' ⟨rfl, x, rfl⟩)
  go_ret
  exact ⟨rfl, (by repeat (first | exact Gr.refl _ | apply Gr.ext | apply Gr.alloc | apply Gr.drew))⟩
set_option maxRecDepth 100000 in
theorem implEditName_2 (w : World) :
    Calls Try.prog 16 #[.int .i64 2] w fun e w' => e = .returned (.string { data := #[109, 105, 115, 115, 105, 110, 103] }) ∧ Gr w w' := by
  have ix : ∀ w, (Instr.index 86 (.agg #[(.string { data := #[111, 107] }), (.string { data := #[98, 97, 100] }), (.string { data := #[109, 105, 115, 115, 105, 110, 103] }), (.string { data := #[115, 121, 109, 98, 111, 108] }), (.string { data := #[105, 100, 115] }), (.string { data := #[115, 105, 122, 101] }), (.string { data := #[110, 101, 115, 116, 101, 100] }), (.string { data := #[108, 105, 116, 101, 114, 97, 108] })]) (.int .i64 2)).run Try.prog w = .ok (.string { data := #[109, 105, 115, 115, 105, 110, 103] }) w := fun _ => by kernel_rfl
  go_enter Try.func16, Try.ntmps16
  go_wp2_with (go_at_call 65; refine (within_yes _ _ _ _ (by omega) (by omega)).mono ?_; rintro e w' ⟨rfl, x, rfl⟩)
  go_ret
  exact ⟨rfl, (by repeat (first | exact Gr.refl _ | apply Gr.ext | apply Gr.alloc | apply Gr.drew))⟩
theorem lawEditName_2 (w : World) :
    Calls Try.prog 3 #[.int .i64 2] w fun e w' => e = .returned (.bool true) ∧ Gr w w' := by
  go_enter Try.func3, Try.ntmps3
  go_wp2_with (first | (go_at_call 15; refine (specEditName_2 _).mono ?_; rintro e w1 ⟨rfl, x1, rfl⟩) | (go_at_call 16; refine (implEditName_2 _).mono ?_; rintro e w2 ⟨rfl, x2, rfl⟩))
  go_ret
  exact ⟨rfl, (by repeat (first | exact Gr.refl _ | apply Gr.ext | apply Gr.alloc | apply Gr.drew))⟩

set_option maxRecDepth 100000 in
theorem specEditName_3 (w : World) :
    Calls Try.prog 15 #[.int .i64 3] w fun e w' => e = .returned (.string { data := #[115, 121, 109, 98, 111, 108] }) ∧ Gr w w' := by
  go_enter Try.func15, Try.ntmps15
  go_wp2_with (go_at_call 64; refine (l1In_yes _ _ _ _ (by omega) (by omega)).mono ?_; rintro e w' ⟨rfl, x, rfl⟩)
  go_ret
  exact ⟨rfl, (by repeat (first | exact Gr.refl _ | apply Gr.ext | apply Gr.alloc | apply Gr.drew))⟩
set_option maxRecDepth 100000 in
theorem implEditName_3 (w : World) :
    Calls Try.prog 16 #[.int .i64 3] w fun e w' => e = .returned (.string { data := #[115, 121, 109, 98, 111, 108] }) ∧ Gr w w' := by
  have ix : ∀ w, (Instr.index 86 (.agg #[(.string { data := #[111, 107] }), (.string { data := #[98, 97, 100] }), (.string { data := #[109, 105, 115, 115, 105, 110, 103] }), (.string { data := #[115, 121, 109, 98, 111, 108] }), (.string { data := #[105, 100, 115] }), (.string { data := #[115, 105, 122, 101] }), (.string { data := #[110, 101, 115, 116, 101, 100] }), (.string { data := #[108, 105, 116, 101, 114, 97, 108] })]) (.int .i64 3)).run Try.prog w = .ok (.string { data := #[115, 121, 109, 98, 111, 108] }) w := fun _ => by kernel_rfl
  go_enter Try.func16, Try.ntmps16
  go_wp2_with (go_at_call 65; refine (within_yes _ _ _ _ (by omega) (by omega)).mono ?_; rintro e w' ⟨rfl, x, rfl⟩)
  go_ret
  exact ⟨rfl, (by repeat (first | exact Gr.refl _ | apply Gr.ext | apply Gr.alloc | apply Gr.drew))⟩
theorem lawEditName_3 (w : World) :
    Calls Try.prog 3 #[.int .i64 3] w fun e w' => e = .returned (.bool true) ∧ Gr w w' := by
  go_enter Try.func3, Try.ntmps3
  go_wp2_with (first | (go_at_call 15; refine (specEditName_3 _).mono ?_; rintro e w1 ⟨rfl, x1, rfl⟩) | (go_at_call 16; refine (implEditName_3 _).mono ?_; rintro e w2 ⟨rfl, x2, rfl⟩))
  go_ret
  exact ⟨rfl, (by repeat (first | exact Gr.refl _ | apply Gr.ext | apply Gr.alloc | apply Gr.drew))⟩

set_option maxRecDepth 100000 in
theorem specEditName_4 (w : World) :
    Calls Try.prog 15 #[.int .i64 4] w fun e w' => e = .returned (.string { data := #[105, 100, 115] }) ∧ Gr w w' := by
  go_enter Try.func15, Try.ntmps15
  go_wp2_with (go_at_call 64; refine (l1In_yes _ _ _ _ (by omega) (by omega)).mono ?_; rintro e w' ⟨rfl, x, rfl⟩)
  go_ret
  exact ⟨rfl, (by repeat (first | exact Gr.refl _ | apply Gr.ext | apply Gr.alloc | apply Gr.drew))⟩
set_option maxRecDepth 100000 in
theorem implEditName_4 (w : World) :
    Calls Try.prog 16 #[.int .i64 4] w fun e w' => e = .returned (.string { data := #[105, 100, 115] }) ∧ Gr w w' := by
  have ix : ∀ w, (Instr.index 86 (.agg #[(.string { data := #[111, 107] }), (.string { data := #[98, 97, 100] }), (.string { data := #[109, 105, 115, 115, 105, 110, 103] }), (.string { data := #[115, 121, 109, 98, 111, 108] }), (.string { data := #[105, 100, 115] }), (.string { data := #[115, 105, 122, 101] }), (.string { data := #[110, 101, 115, 116, 101, 100] }), (.string { data := #[108, 105, 116, 101, 114, 97, 108] })]) (.int .i64 4)).run Try.prog w = .ok (.string { data := #[105, 100, 115] }) w := fun _ => by kernel_rfl
  go_enter Try.func16, Try.ntmps16
  go_wp2_with (go_at_call 65; refine (within_yes _ _ _ _ (by omega) (by omega)).mono ?_; rintro e w' ⟨rfl, x, rfl⟩)
  go_ret
  exact ⟨rfl, (by repeat (first | exact Gr.refl _ | apply Gr.ext | apply Gr.alloc | apply Gr.drew))⟩
theorem lawEditName_4 (w : World) :
    Calls Try.prog 3 #[.int .i64 4] w fun e w' => e = .returned (.bool true) ∧ Gr w w' := by
  go_enter Try.func3, Try.ntmps3
  go_wp2_with (first | (go_at_call 15; refine (specEditName_4 _).mono ?_; rintro e w1 ⟨rfl, x1, rfl⟩) | (go_at_call 16; refine (implEditName_4 _).mono ?_; rintro e w2 ⟨rfl, x2, rfl⟩))
  go_ret
  exact ⟨rfl, (by repeat (first | exact Gr.refl _ | apply Gr.ext | apply Gr.alloc | apply Gr.drew))⟩

set_option maxRecDepth 100000 in
theorem specEditName_5 (w : World) :
    Calls Try.prog 15 #[.int .i64 5] w fun e w' => e = .returned (.string { data := #[115, 105, 122, 101] }) ∧ Gr w w' := by
  go_enter Try.func15, Try.ntmps15
  go_wp2_with (go_at_call 64; refine (l1In_yes _ _ _ _ (by omega) (by omega)).mono ?_; rintro e w' ⟨rfl, x, rfl⟩)
  go_ret
  exact ⟨rfl, (by repeat (first | exact Gr.refl _ | apply Gr.ext | apply Gr.alloc | apply Gr.drew))⟩
set_option maxRecDepth 100000 in
theorem implEditName_5 (w : World) :
    Calls Try.prog 16 #[.int .i64 5] w fun e w' => e = .returned (.string { data := #[115, 105, 122, 101] }) ∧ Gr w w' := by
  have ix : ∀ w, (Instr.index 86 (.agg #[(.string { data := #[111, 107] }), (.string { data := #[98, 97, 100] }), (.string { data := #[109, 105, 115, 115, 105, 110, 103] }), (.string { data := #[115, 121, 109, 98, 111, 108] }), (.string { data := #[105, 100, 115] }), (.string { data := #[115, 105, 122, 101] }), (.string { data := #[110, 101, 115, 116, 101, 100] }), (.string { data := #[108, 105, 116, 101, 114, 97, 108] })]) (.int .i64 5)).run Try.prog w = .ok (.string { data := #[115, 105, 122, 101] }) w := fun _ => by kernel_rfl
  go_enter Try.func16, Try.ntmps16
  go_wp2_with (go_at_call 65; refine (within_yes _ _ _ _ (by omega) (by omega)).mono ?_; rintro e w' ⟨rfl, x, rfl⟩)
  go_ret
  exact ⟨rfl, (by repeat (first | exact Gr.refl _ | apply Gr.ext | apply Gr.alloc | apply Gr.drew))⟩
theorem lawEditName_5 (w : World) :
    Calls Try.prog 3 #[.int .i64 5] w fun e w' => e = .returned (.bool true) ∧ Gr w w' := by
  go_enter Try.func3, Try.ntmps3
  go_wp2_with (first | (go_at_call 15; refine (specEditName_5 _).mono ?_; rintro e w1 ⟨rfl, x1, rfl⟩) | (go_at_call 16; refine (implEditName_5 _).mono ?_; rintro e w2 ⟨rfl, x2, rfl⟩))
  go_ret
  exact ⟨rfl, (by repeat (first | exact Gr.refl _ | apply Gr.ext | apply Gr.alloc | apply Gr.drew))⟩

set_option maxRecDepth 100000 in
theorem specEditName_6 (w : World) :
    Calls Try.prog 15 #[.int .i64 6] w fun e w' => e = .returned (.string { data := #[110, 101, 115, 116, 101, 100] }) ∧ Gr w w' := by
  go_enter Try.func15, Try.ntmps15
  go_wp2_with (go_at_call 64; refine (l1In_yes _ _ _ _ (by omega) (by omega)).mono ?_; rintro e w' ⟨rfl, x, rfl⟩)
  go_ret
  exact ⟨rfl, (by repeat (first | exact Gr.refl _ | apply Gr.ext | apply Gr.alloc | apply Gr.drew))⟩
set_option maxRecDepth 100000 in
theorem implEditName_6 (w : World) :
    Calls Try.prog 16 #[.int .i64 6] w fun e w' => e = .returned (.string { data := #[110, 101, 115, 116, 101, 100] }) ∧ Gr w w' := by
  have ix : ∀ w, (Instr.index 86 (.agg #[(.string { data := #[111, 107] }), (.string { data := #[98, 97, 100] }), (.string { data := #[109, 105, 115, 115, 105, 110, 103] }), (.string { data := #[115, 121, 109, 98, 111, 108] }), (.string { data := #[105, 100, 115] }), (.string { data := #[115, 105, 122, 101] }), (.string { data := #[110, 101, 115, 116, 101, 100] }), (.string { data := #[108, 105, 116, 101, 114, 97, 108] })]) (.int .i64 6)).run Try.prog w = .ok (.string { data := #[110, 101, 115, 116, 101, 100] }) w := fun _ => by kernel_rfl
  go_enter Try.func16, Try.ntmps16
  go_wp2_with (go_at_call 65; refine (within_yes _ _ _ _ (by omega) (by omega)).mono ?_; rintro e w' ⟨rfl, x, rfl⟩)
  go_ret
  exact ⟨rfl, (by repeat (first | exact Gr.refl _ | apply Gr.ext | apply Gr.alloc | apply Gr.drew))⟩
theorem lawEditName_6 (w : World) :
    Calls Try.prog 3 #[.int .i64 6] w fun e w' => e = .returned (.bool true) ∧ Gr w w' := by
  go_enter Try.func3, Try.ntmps3
  go_wp2_with (first | (go_at_call 15; refine (specEditName_6 _).mono ?_; rintro e w1 ⟨rfl, x1, rfl⟩) | (go_at_call 16; refine (implEditName_6 _).mono ?_; rintro e w2 ⟨rfl, x2, rfl⟩))
  go_ret
  exact ⟨rfl, (by repeat (first | exact Gr.refl _ | apply Gr.ext | apply Gr.alloc | apply Gr.drew))⟩

set_option maxRecDepth 100000 in
theorem specEditName_7 (w : World) :
    Calls Try.prog 15 #[.int .i64 7] w fun e w' => e = .returned (.string { data := #[108, 105, 116, 101, 114, 97, 108] }) ∧ Gr w w' := by
  go_enter Try.func15, Try.ntmps15
  go_wp2_with (go_at_call 64; refine (l1In_yes _ _ _ _ (by omega) (by omega)).mono ?_; rintro e w' ⟨rfl, x, rfl⟩)
  go_ret
  exact ⟨rfl, (by repeat (first | exact Gr.refl _ | apply Gr.ext | apply Gr.alloc | apply Gr.drew))⟩
set_option maxRecDepth 100000 in
theorem implEditName_7 (w : World) :
    Calls Try.prog 16 #[.int .i64 7] w fun e w' => e = .returned (.string { data := #[108, 105, 116, 101, 114, 97, 108] }) ∧ Gr w w' := by
  have ix : ∀ w, (Instr.index 86 (.agg #[(.string { data := #[111, 107] }), (.string { data := #[98, 97, 100] }), (.string { data := #[109, 105, 115, 115, 105, 110, 103] }), (.string { data := #[115, 121, 109, 98, 111, 108] }), (.string { data := #[105, 100, 115] }), (.string { data := #[115, 105, 122, 101] }), (.string { data := #[110, 101, 115, 116, 101, 100] }), (.string { data := #[108, 105, 116, 101, 114, 97, 108] })]) (.int .i64 7)).run Try.prog w = .ok (.string { data := #[108, 105, 116, 101, 114, 97, 108] }) w := fun _ => by kernel_rfl
  go_enter Try.func16, Try.ntmps16
  go_wp2_with (go_at_call 65; refine (within_yes _ _ _ _ (by omega) (by omega)).mono ?_; rintro e w' ⟨rfl, x, rfl⟩)
  go_ret
  exact ⟨rfl, (by repeat (first | exact Gr.refl _ | apply Gr.ext | apply Gr.alloc | apply Gr.drew))⟩
theorem lawEditName_7 (w : World) :
    Calls Try.prog 3 #[.int .i64 7] w fun e w' => e = .returned (.bool true) ∧ Gr w w' := by
  go_enter Try.func3, Try.ntmps3
  go_wp2_with (first | (go_at_call 15; refine (specEditName_7 _).mono ?_; rintro e w1 ⟨rfl, x1, rfl⟩) | (go_at_call 16; refine (implEditName_7 _).mono ?_; rintro e w2 ⟨rfl, x2, rfl⟩))
  go_ret
  exact ⟨rfl, (by repeat (first | exact Gr.refl _ | apply Gr.ext | apply Gr.alloc | apply Gr.drew))⟩

set_option maxRecDepth 100000 in
theorem specEditName_out (x : Int) (w : World) (h : x < 0 ∨ 7 < x) :
    Calls Try.prog 15 #[.int .i64 x] w fun e w' => e = .returned (.string { data := #[63] }) ∧ Gr w w' := by
  have H := Lib.hid h
  clear h
  go_enter Try.func15, Try.ntmps15
  go_wp2_with (go_at_call 64; refine (l1In_no _ _ _ _ H.out).mono ?_; rintro e w' ⟨rfl, x, rfl⟩)
  go_ret
  exact ⟨rfl, (by repeat (first | exact Gr.refl _ | apply Gr.ext | apply Gr.alloc | apply Gr.drew))⟩
set_option maxRecDepth 100000 in
theorem implEditName_out (x : Int) (w : World) (h : x < 0 ∨ 7 < x) :
    Calls Try.prog 16 #[.int .i64 x] w fun e w' => e = .returned (.string { data := #[63] }) ∧ Gr w w' := by
  have H := Lib.hid h
  clear h
  go_enter Try.func16, Try.ntmps16
  go_wp2_with (go_at_call 65; refine (within_no _ _ _ _ H.out).mono ?_; rintro e w' ⟨rfl, x, rfl⟩)
  go_ret
  exact ⟨rfl, (by repeat (first | exact Gr.refl _ | apply Gr.ext | apply Gr.alloc | apply Gr.drew))⟩
theorem lawEditName_any (x : Int) (w : World) (_h : (Lit.int .i64 x).wf = true) :
    Calls Try.prog 3 #[.int .i64 x] w fun e w' => e = .returned (.bool true) ∧ Gr w w' := by
  by_cases h : x < 0 ∨ 7 < x
  · have H := Lib.hid h
    clear h
    go_enter Try.func3, Try.ntmps3
    go_wp2_with (first | (go_at_call 15; refine (specEditName_out _ _ H.out).mono ?_; rintro e w1 ⟨rfl, x1, rfl⟩) | (go_at_call 16; refine (implEditName_out _ _ H.out).mono ?_; rintro e w2 ⟨rfl, x2, rfl⟩))
    go_ret
    exact ⟨rfl, (by repeat (first | exact Gr.refl _ | apply Gr.ext | apply Gr.alloc | apply Gr.drew))⟩
  · obtain rfl | rfl | rfl | rfl | rfl | rfl | rfl | rfl : x = 0 ∨ x = 1 ∨ x = 2 ∨ x = 3 ∨ x = 4 ∨ x = 5 ∨ x = 6 ∨ x = 7 := by omega
    · exact lawEditName_0 w
    · exact lawEditName_1 w
    · exact lawEditName_2 w
    · exact lawEditName_3 w
    · exact lawEditName_4 w
    · exact lawEditName_5 w
    · exact lawEditName_6 w
    · exact lawEditName_7 w
end Go.Proofs.Ytdebnmambbmebaa
