/- ExampleTree of the program and of the reference, and the statement on them. No condition. -/
import Derived.Test.YtdebnmambbmebaaInts
namespace Go.Proofs.Ytdebnmambbmebaa
open Go.RowKit

set_option maxRecDepth 100000 in
theorem specExampleTree_1 (w : World) :
    Calls Try.prog 17 #[.int .i64 1] w fun e w' => e = .returned (.string { data := #[40, 98, 108, 111, 99, 107, 32, 40, 112, 97, 105, 114, 32, 40, 112, 97, 105, 114, 32, 40, 117, 115, 101, 32, 51, 41, 32, 40, 100, 101, 99, 108, 32, 51, 41, 41, 32, 40, 117, 115, 101, 32, 52, 41, 41, 41] }) ∧ Gr w w' := by
  go_enter Try.func17, Try.ntmps17
  go_wp2_with (go_at_call 64; refine (l1In_yes _ _ _ _ (by omega) (by omega)).mono ?_; rintro e w' ⟨rfl, x, rfl⟩)
  go_ret
  exact ⟨rfl, (by repeat (first | exact Gr.refl _ | apply Gr.ext | apply Gr.alloc | apply Gr.drew))⟩
set_option maxRecDepth 100000 in
theorem implExampleTree_1 (w : World) :
    Calls Try.prog 18 #[.int .i64 1] w fun e w' => e = .returned (.string { data := #[40, 98, 108, 111, 99, 107, 32, 40, 112, 97, 105, 114, 32, 40, 112, 97, 105, 114, 32, 40, 117, 115, 101, 32, 51, 41, 32, 40, 100, 101, 99, 108, 32, 51, 41, 41, 32, 40, 117, 115, 101, 32, 52, 41, 41, 41] }) ∧ Gr w w' := by
  have ix : ∀ w, (Instr.index 87 (.agg #[(.string { data := #[40, 98, 108, 111, 99, 107, 32, 40, 112, 97, 105, 114, 32, 40, 112, 97, 105, 114, 32, 40, 117, 115, 101, 32, 51, 41, 32, 40, 100, 101, 99, 108, 32, 51, 41, 41, 32, 40, 117, 115, 101, 32, 52, 41, 41, 41] }), (.string { data := #[40, 109, 97, 105, 110, 32, 40, 115, 101, 113, 32, 40, 103, 101, 110, 32, 49, 41, 32, 40, 108, 111, 111, 112, 32, 40, 115, 101, 113, 32, 40, 107, 105, 108, 108, 32, 49, 41, 32, 40, 103, 101, 110, 32, 50, 41, 41, 41, 41, 41] }), (.string { data := #[40, 112, 97, 103, 101, 32, 49, 48, 32, 40, 114, 111, 119, 32, 40, 98, 111, 120, 32, 52, 41, 32, 40, 114, 111, 119, 32, 40, 98, 111, 120, 32, 53, 41, 32, 40, 98, 111, 120, 32, 51, 41, 41, 41, 41] })]) (.int .i64 0)).run Try.prog w = .ok (.string { data := #[40, 98, 108, 111, 99, 107, 32, 40, 112, 97, 105, 114, 32, 40, 112, 97, 105, 114, 32, 40, 117, 115, 101, 32, 51, 41, 32, 40, 100, 101, 99, 108, 32, 51, 41, 41, 32, 40, 117, 115, 101, 32, 52, 41, 41, 41] }) w := fun _ => by kernel_rfl
  go_enter Try.func18, Try.ntmps18
  go_wp2_with (go_at_call 65; refine (within_yes _ _ _ _ (by omega) (by omega)).mono ?_; rintro e w' ⟨rfl, x, rfl⟩)
  go_ret
  exact ⟨rfl, (by repeat (first | exact Gr.refl _ | apply Gr.ext | apply Gr.alloc | apply Gr.drew))⟩
theorem lawExampleTree_1 (w : World) :
    Calls Try.prog 4 #[.int .i64 1] w fun e w' => e = .returned (.bool true) ∧ Gr w w' := by
  go_enter Try.func4, Try.ntmps4
  go_wp2_with (first | (go_at_call 17; refine (specExampleTree_1 _).mono ?_; rintro e w1 ⟨rfl, x1, rfl⟩) | (go_at_call 18; refine (implExampleTree_1 _).mono ?_; rintro e w2 ⟨rfl, x2, rfl⟩))
  go_ret
  exact ⟨rfl, (by repeat (first | exact Gr.refl _ | apply Gr.ext | apply Gr.alloc | apply Gr.drew))⟩

set_option maxRecDepth 100000 in
theorem specExampleTree_2 (w : World) :
    Calls Try.prog 17 #[.int .i64 2] w fun e w' => e = .returned (.string { data := #[40, 109, 97, 105, 110, 32, 40, 115, 101, 113, 32, 40, 103, 101, 110, 32, 49, 41, 32, 40, 108, 111, 111, 112, 32, 40, 115, 101, 113, 32, 40, 107, 105, 108, 108, 32, 49, 41, 32, 40, 103, 101, 110, 32, 50, 41, 41, 41, 41, 41] }) ∧ Gr w w' := by
  go_enter Try.func17, Try.ntmps17
  go_wp2_with (go_at_call 64; refine (l1In_yes _ _ _ _ (by omega) (by omega)).mono ?_; rintro e w' ⟨rfl, x, rfl⟩)
  go_ret
  exact ⟨rfl, (by repeat (first | exact Gr.refl _ | apply Gr.ext | apply Gr.alloc | apply Gr.drew))⟩
set_option maxRecDepth 100000 in
theorem implExampleTree_2 (w : World) :
    Calls Try.prog 18 #[.int .i64 2] w fun e w' => e = .returned (.string { data := #[40, 109, 97, 105, 110, 32, 40, 115, 101, 113, 32, 40, 103, 101, 110, 32, 49, 41, 32, 40, 108, 111, 111, 112, 32, 40, 115, 101, 113, 32, 40, 107, 105, 108, 108, 32, 49, 41, 32, 40, 103, 101, 110, 32, 50, 41, 41, 41, 41, 41] }) ∧ Gr w w' := by
  have ix : ∀ w, (Instr.index 87 (.agg #[(.string { data := #[40, 98, 108, 111, 99, 107, 32, 40, 112, 97, 105, 114, 32, 40, 112, 97, 105, 114, 32, 40, 117, 115, 101, 32, 51, 41, 32, 40, 100, 101, 99, 108, 32, 51, 41, 41, 32, 40, 117, 115, 101, 32, 52, 41, 41, 41] }), (.string { data := #[40, 109, 97, 105, 110, 32, 40, 115, 101, 113, 32, 40, 103, 101, 110, 32, 49, 41, 32, 40, 108, 111, 111, 112, 32, 40, 115, 101, 113, 32, 40, 107, 105, 108, 108, 32, 49, 41, 32, 40, 103, 101, 110, 32, 50, 41, 41, 41, 41, 41] }), (.string { data := #[40, 112, 97, 103, 101, 32, 49, 48, 32, 40, 114, 111, 119, 32, 40, 98, 111, 120, 32, 52, 41, 32, 40, 114, 111, 119, 32, 40, 98, 111, 120, 32, 53, 41, 32, 40, 98, 111, 120, 32, 51, 41, 41, 41, 41] })]) (.int .i64 1)).run Try.prog w = .ok (.string { data := #[40, 109, 97, 105, 110, 32, 40, 115, 101, 113, 32, 40, 103, 101, 110, 32, 49, 41, 32, 40, 108, 111, 111, 112, 32, 40, 115, 101, 113, 32, 40, 107, 105, 108, 108, 32, 49, 41, 32, 40, 103, 101, 110, 32, 50, 41, 41, 41, 41, 41] }) w := fun _ => by kernel_rfl
  go_enter Try.func18, Try.ntmps18
  go_wp2_with (go_at_call 65; refine (within_yes _ _ _ _ (by omega) (by omega)).mono ?_; rintro e w' ⟨rfl, x, rfl⟩)
  go_ret
  exact ⟨rfl, (by repeat (first | exact Gr.refl _ | apply Gr.ext | apply Gr.alloc | apply Gr.drew))⟩
theorem lawExampleTree_2 (w : World) :
    Calls Try.prog 4 #[.int .i64 2] w fun e w' => e = .returned (.bool true) ∧ Gr w w' := by
  go_enter Try.func4, Try.ntmps4
  go_wp2_with (first | (go_at_call 17; refine (specExampleTree_2 _).mono ?_; rintro e w1 ⟨rfl, x1, rfl⟩) | (go_at_call 18; refine (implExampleTree_2 _).mono ?_; rintro e w2 ⟨rfl, x2, rfl⟩))
  go_ret
  exact ⟨rfl, (by repeat (first | exact Gr.refl _ | apply Gr.ext | apply Gr.alloc | apply Gr.drew))⟩

set_option maxRecDepth 100000 in
theorem specExampleTree_3 (w : World) :
    Calls Try.prog 17 #[.int .i64 3] w fun e w' => e = .returned (.string { data := #[40, 112, 97, 103, 101, 32, 49, 48, 32, 40, 114, 111, 119, 32, 40, 98, 111, 120, 32, 52, 41, 32, 40, 114, 111, 119, 32, 40, 98, 111, 120, 32, 53, 41, 32, 40, 98, 111, 120, 32, 51, 41, 41, 41, 41] }) ∧ Gr w w' := by
  go_enter Try.func17, Try.ntmps17
  go_wp2_with (go_at_call 64; refine (l1In_yes _ _ _ _ (by omega) (by omega)).mono ?_; rintro e w' ⟨rfl, x, rfl⟩)
  go_ret
  exact ⟨rfl, (by repeat (first | exact Gr.refl _ | apply Gr.ext | apply Gr.alloc | apply Gr.drew))⟩
set_option maxRecDepth 100000 in
theorem implExampleTree_3 (w : World) :
    Calls Try.prog 18 #[.int .i64 3] w fun e w' => e = .returned (.string { data := #[40, 112, 97, 103, 101, 32, 49, 48, 32, 40, 114, 111, 119, 32, 40, 98, 111, 120, 32, 52, 41, 32, 40, 114, 111, 119, 32, 40, 98, 111, 120, 32, 53, 41, 32, 40, 98, 111, 120, 32, 51, 41, 41, 41, 41] }) ∧ Gr w w' := by
  have ix : ∀ w, (Instr.index 87 (.agg #[(.string { data := #[40, 98, 108, 111, 99, 107, 32, 40, 112, 97, 105, 114, 32, 40, 112, 97, 105, 114, 32, 40, 117, 115, 101, 32, 51, 41, 32, 40, 100, 101, 99, 108, 32, 51, 41, 41, 32, 40, 117, 115, 101, 32, 52, 41, 41, 41] }), (.string { data := #[40, 109, 97, 105, 110, 32, 40, 115, 101, 113, 32, 40, 103, 101, 110, 32, 49, 41, 32, 40, 108, 111, 111, 112, 32, 40, 115, 101, 113, 32, 40, 107, 105, 108, 108, 32, 49, 41, 32, 40, 103, 101, 110, 32, 50, 41, 41, 41, 41, 41] }), (.string { data := #[40, 112, 97, 103, 101, 32, 49, 48, 32, 40, 114, 111, 119, 32, 40, 98, 111, 120, 32, 52, 41, 32, 40, 114, 111, 119, 32, 40, 98, 111, 120, 32, 53, 41, 32, 40, 98, 111, 120, 32, 51, 41, 41, 41, 41] })]) (.int .i64 2)).run Try.prog w = .ok (.string { data := #[40, 112, 97, 103, 101, 32, 49, 48, 32, 40, 114, 111, 119, 32, 40, 98, 111, 120, 32, 52, 41, 32, 40, 114, 111, 119, 32, 40, 98, 111, 120, 32, 53, 41, 32, 40, 98, 111, 120, 32, 51, 41, 41, 41, 41] }) w := fun _ => by kernel_rfl
  go_enter Try.func18, Try.ntmps18
  go_wp2_with (go_at_call 65; refine (within_yes _ _ _ _ (by omega) (by omega)).mono ?_; rintro e w' ⟨rfl, x, rfl⟩)
  go_ret
  exact ⟨rfl, (by repeat (first | exact Gr.refl _ | apply Gr.ext | apply Gr.alloc | apply Gr.drew))⟩
theorem lawExampleTree_3 (w : World) :
    Calls Try.prog 4 #[.int .i64 3] w fun e w' => e = .returned (.bool true) ∧ Gr w w' := by
  go_enter Try.func4, Try.ntmps4
  go_wp2_with (first | (go_at_call 17; refine (specExampleTree_3 _).mono ?_; rintro e w1 ⟨rfl, x1, rfl⟩) | (go_at_call 18; refine (implExampleTree_3 _).mono ?_; rintro e w2 ⟨rfl, x2, rfl⟩))
  go_ret
  exact ⟨rfl, (by repeat (first | exact Gr.refl _ | apply Gr.ext | apply Gr.alloc | apply Gr.drew))⟩

set_option maxRecDepth 100000 in
theorem specExampleTree_out (x : Int) (w : World) (h : x < 1 ∨ 3 < x) :
    Calls Try.prog 17 #[.int .i64 x] w fun e w' => e = .returned (.string { data := #[] }) ∧ Gr w w' := by
  have H := Lib.hid h
  clear h
  go_enter Try.func17, Try.ntmps17
  go_wp2_with (go_at_call 64; refine (l1In_no _ _ _ _ H.out).mono ?_; rintro e w' ⟨rfl, x, rfl⟩)
  go_ret
  exact ⟨rfl, (by repeat (first | exact Gr.refl _ | apply Gr.ext | apply Gr.alloc | apply Gr.drew))⟩
set_option maxRecDepth 100000 in
theorem implExampleTree_out (x : Int) (w : World) (h : x < 1 ∨ 3 < x) :
    Calls Try.prog 18 #[.int .i64 x] w fun e w' => e = .returned (.string { data := #[] }) ∧ Gr w w' := by
  have H := Lib.hid h
  clear h
  go_enter Try.func18, Try.ntmps18
  go_wp2_with (go_at_call 65; refine (within_no _ _ _ _ H.out).mono ?_; rintro e w' ⟨rfl, x, rfl⟩)
  go_ret
  exact ⟨rfl, (by repeat (first | exact Gr.refl _ | apply Gr.ext | apply Gr.alloc | apply Gr.drew))⟩
theorem lawExampleTree_any (x : Int) (w : World) (_h : (Lit.int .i64 x).wf = true) :
    Calls Try.prog 4 #[.int .i64 x] w fun e w' => e = .returned (.bool true) ∧ Gr w w' := by
  by_cases h : x < 1 ∨ 3 < x
  · have H := Lib.hid h
    clear h
    go_enter Try.func4, Try.ntmps4
    go_wp2_with (first | (go_at_call 17; refine (specExampleTree_out _ _ H.out).mono ?_; rintro e w1 ⟨rfl, x1, rfl⟩) | (go_at_call 18; refine (implExampleTree_out _ _ H.out).mono ?_; rintro e w2 ⟨rfl, x2, rfl⟩))
    go_ret
    exact ⟨rfl, (by repeat (first | exact Gr.refl _ | apply Gr.ext | apply Gr.alloc | apply Gr.drew))⟩
  · obtain rfl | rfl | rfl : x = 1 ∨ x = 2 ∨ x = 3 := by omega
    · exact lawExampleTree_1 w
    · exact lawExampleTree_2 w
    · exact lawExampleTree_3 w
end Go.Proofs.Ytdebnmambbmebaa
