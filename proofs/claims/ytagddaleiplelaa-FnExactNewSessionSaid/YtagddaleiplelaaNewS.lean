/- NewSession of the program and of the reference, and the walk of the statement on them. Made by mk_new.py. No condition. -/
import Derived.Test.YtagddaleiplelaaBase
import Derived.Test.YtagddaleiplelaaProg
namespace Go.Proofs.Ytagddaleiplelaa
open Go.RowKit

theorem eqSymbolS_nil (w : World) :
    Calls Try.prog 72 #[.slice none 0 0, .slice none 0 0] w fun e w' => e = .returned (.bool true) ∧ Gr w w' := by
  go_enter Try.func72, Try.ntmps72
  go_wp2
  go_loopw [5] (fun s5 wr => wr = w ∧ s5 = .int .i64 0) (fun _ _ => 0)
  case atStart => exact ⟨rfl, rfl⟩
  case round =>
    obtain ⟨rfl, rfl⟩ := hrel
    go_wp2
    go_ret
    exact ⟨rfl, Gr.refl _⟩

theorem markSymbolS_nil (w : World) :
    Calls Try.prog 76 #[.slice none 0 0, .int .i64 1] w fun e w' => e = .returned (.int .i64 1) ∧ Gr w w' := by
  go_enter Try.func76, Try.ntmps76
  go_wp2
  go_loopw [5, 1] (fun s5 s1 wr => wr = w ∧ s5 = .int .i64 0 ∧ s1 = .int .i64 1) (fun _ _ _ => 0)
  case atStart => exact ⟨rfl, rfl, rfl⟩
  case round =>
    obtain ⟨rfl, rfl, rfl⟩ := hrel
    go_wp2
    go_ret
    exact ⟨rfl, Gr.refl _⟩

theorem heldSymbolS_nil (w : World) :
    Calls Try.prog 80 #[.slice none 0 0, .int .i64 1] w fun e w' => e = .returned (.int .i64 1) ∧ Gr w w' := by
  go_enter Try.func80, Try.ntmps80
  go_wp2
  go_loopw [5, 1] (fun s5 s1 wr => wr = w ∧ s5 = .int .i64 0 ∧ s1 = .int .i64 1) (fun _ _ _ => 0)
  case atStart => exact ⟨rfl, rfl, rfl⟩
  case round =>
    obtain ⟨rfl, rfl, rfl⟩ := hrel
    go_wp2
    go_ret
    exact ⟨rfl, Gr.refl _⟩

theorem eqRuleS_nil (w : World) :
    Calls Try.prog 73 #[.slice none 0 0, .slice none 0 0] w fun e w' => e = .returned (.bool true) ∧ Gr w w' := by
  go_enter Try.func73, Try.ntmps73
  go_wp2
  go_loopw [5] (fun s5 wr => wr = w ∧ s5 = .int .i64 0) (fun _ _ => 0)
  case atStart => exact ⟨rfl, rfl⟩
  case round =>
    obtain ⟨rfl, rfl⟩ := hrel
    go_wp2
    go_ret
    exact ⟨rfl, Gr.refl _⟩

theorem markRuleS_nil (w : World) :
    Calls Try.prog 77 #[.slice none 0 0, .int .i64 1] w fun e w' => e = .returned (.int .i64 1) ∧ Gr w w' := by
  go_enter Try.func77, Try.ntmps77
  go_wp2
  go_loopw [5, 1] (fun s5 s1 wr => wr = w ∧ s5 = .int .i64 0 ∧ s1 = .int .i64 1) (fun _ _ _ => 0)
  case atStart => exact ⟨rfl, rfl, rfl⟩
  case round =>
    obtain ⟨rfl, rfl, rfl⟩ := hrel
    go_wp2
    go_ret
    exact ⟨rfl, Gr.refl _⟩

theorem heldRuleS_nil (w : World) :
    Calls Try.prog 81 #[.slice none 0 0, .int .i64 1] w fun e w' => e = .returned (.int .i64 1) ∧ Gr w w' := by
  go_enter Try.func81, Try.ntmps81
  go_wp2
  go_loopw [5, 1] (fun s5 s1 wr => wr = w ∧ s5 = .int .i64 0 ∧ s1 = .int .i64 1) (fun _ _ _ => 0)
  case atStart => exact ⟨rfl, rfl, rfl⟩
  case round =>
    obtain ⟨rfl, rfl, rfl⟩ := hrel
    go_wp2
    go_ret
    exact ⟨rfl, Gr.refl _⟩

theorem eqNodeS_nil (w : World) :
    Calls Try.prog 34 #[.slice none 0 0, .slice none 0 0] w fun e w' => e = .returned (.bool true) ∧ Gr w w' := by
  go_enter Try.func34, Try.ntmps34
  go_wp2
  go_loopw [5] (fun s5 wr => wr = w ∧ s5 = .int .i64 0) (fun _ _ => 0)
  case atStart => exact ⟨rfl, rfl⟩
  case round =>
    obtain ⟨rfl, rfl⟩ := hrel
    go_wp2
    go_ret
    exact ⟨rfl, Gr.refl _⟩

theorem markNodeS_nil (w : World) :
    Calls Try.prog 37 #[.slice none 0 0, .int .i64 1] w fun e w' => e = .returned (.int .i64 1) ∧ Gr w w' := by
  go_enter Try.func37, Try.ntmps37
  go_wp2
  go_loopw [5, 1] (fun s5 s1 wr => wr = w ∧ s5 = .int .i64 0 ∧ s1 = .int .i64 1) (fun _ _ _ => 0)
  case atStart => exact ⟨rfl, rfl, rfl⟩
  case round =>
    obtain ⟨rfl, rfl, rfl⟩ := hrel
    go_wp2
    go_ret
    exact ⟨rfl, Gr.refl _⟩

theorem heldNodeS_nil (w : World) :
    Calls Try.prog 38 #[.slice none 0 0, .int .i64 1] w fun e w' => e = .returned (.int .i64 1) ∧ Gr w w' := by
  go_enter Try.func38, Try.ntmps38
  go_wp2
  go_loopw [5, 1] (fun s5 s1 wr => wr = w ∧ s5 = .int .i64 0 ∧ s1 = .int .i64 1) (fun _ _ _ => 0)
  case atStart => exact ⟨rfl, rfl, rfl⟩
  case round =>
    obtain ⟨rfl, rfl, rfl⟩ := hrel
    go_wp2
    go_ret
    exact ⟨rfl, Gr.refl _⟩

theorem eqEntryS_nil (w : World) :
    Calls Try.prog 74 #[.slice none 0 0, .slice none 0 0] w fun e w' => e = .returned (.bool true) ∧ Gr w w' := by
  go_enter Try.func74, Try.ntmps74
  go_wp2
  go_loopw [5] (fun s5 wr => wr = w ∧ s5 = .int .i64 0) (fun _ _ => 0)
  case atStart => exact ⟨rfl, rfl⟩
  case round =>
    obtain ⟨rfl, rfl⟩ := hrel
    go_wp2
    go_ret
    exact ⟨rfl, Gr.refl _⟩

theorem markEntryS_nil (w : World) :
    Calls Try.prog 78 #[.slice none 0 0, .int .i64 1] w fun e w' => e = .returned (.int .i64 1) ∧ Gr w w' := by
  go_enter Try.func78, Try.ntmps78
  go_wp2
  go_loopw [5, 1] (fun s5 s1 wr => wr = w ∧ s5 = .int .i64 0 ∧ s1 = .int .i64 1) (fun _ _ _ => 0)
  case atStart => exact ⟨rfl, rfl, rfl⟩
  case round =>
    obtain ⟨rfl, rfl, rfl⟩ := hrel
    go_wp2
    go_ret
    exact ⟨rfl, Gr.refl _⟩

theorem heldEntryS_nil (w : World) :
    Calls Try.prog 82 #[.slice none 0 0, .int .i64 1] w fun e w' => e = .returned (.int .i64 1) ∧ Gr w w' := by
  go_enter Try.func82, Try.ntmps82
  go_wp2
  go_loopw [5, 1] (fun s5 s1 wr => wr = w ∧ s5 = .int .i64 0 ∧ s1 = .int .i64 1) (fun _ _ _ => 0)
  case atStart => exact ⟨rfl, rfl, rfl⟩
  case round =>
    obtain ⟨rfl, rfl, rfl⟩ := hrel
    go_wp2
    go_ret
    exact ⟨rfl, Gr.refl _⟩

theorem eqInstanceS_nil (w : World) :
    Calls Try.prog 75 #[.slice none 0 0, .slice none 0 0] w fun e w' => e = .returned (.bool true) ∧ Gr w w' := by
  go_enter Try.func75, Try.ntmps75
  go_wp2
  go_loopw [5] (fun s5 wr => wr = w ∧ s5 = .int .i64 0) (fun _ _ => 0)
  case atStart => exact ⟨rfl, rfl⟩
  case round =>
    obtain ⟨rfl, rfl⟩ := hrel
    go_wp2
    go_ret
    exact ⟨rfl, Gr.refl _⟩

theorem markInstanceS_nil (w : World) :
    Calls Try.prog 79 #[.slice none 0 0, .int .i64 1] w fun e w' => e = .returned (.int .i64 1) ∧ Gr w w' := by
  go_enter Try.func79, Try.ntmps79
  go_wp2
  go_loopw [5, 1] (fun s5 s1 wr => wr = w ∧ s5 = .int .i64 0 ∧ s1 = .int .i64 1) (fun _ _ _ => 0)
  case atStart => exact ⟨rfl, rfl, rfl⟩
  case round =>
    obtain ⟨rfl, rfl, rfl⟩ := hrel
    go_wp2
    go_ret
    exact ⟨rfl, Gr.refl _⟩

theorem heldInstanceS_nil (w : World) :
    Calls Try.prog 83 #[.slice none 0 0, .int .i64 1] w fun e w' => e = .returned (.int .i64 1) ∧ Gr w w' := by
  go_enter Try.func83, Try.ntmps83
  go_wp2
  go_loopw [5, 1] (fun s5 s1 wr => wr = w ∧ s5 = .int .i64 0 ∧ s1 = .int .i64 1) (fun _ _ _ => 0)
  case atStart => exact ⟨rfl, rfl, rfl⟩
  case round =>
    obtain ⟨rfl, rfl, rfl⟩ := hrel
    go_wp2
    go_ret
    exact ⟨rfl, Gr.refl _⟩

set_option maxRecDepth 10000 in
theorem eqGrammar_nil (w : World) :
    Calls Try.prog 50 #[.agg #[.slice none 0 0, .slice none 0 0], .agg #[.slice none 0 0, .slice none 0 0]] w fun e w' => e = .returned (.bool true) ∧ Gr w w' := by
  go_enter Try.func50, Try.ntmps50
  go_wp2_with fail
  refine (eqSymbolS_nil _).mono ?_
  rintro e W1 ⟨rfl, x1, rfl⟩
  go_wp2_with fail
  refine (eqRuleS_nil _).mono ?_
  rintro e W2 ⟨rfl, x2, rfl⟩
  go_wp2_with fail
  go_ret
  exact ⟨rfl, (by repeat (first | exact Gr.refl _ | apply Gr.ext | apply Gr.alloc | apply Gr.drew))⟩

set_option maxRecDepth 10000 in
theorem markGrammar_nil (w : World) :
    Calls Try.prog 52 #[.agg #[.slice none 0 0, .slice none 0 0], .int .i64 1] w fun e w' => e = .returned (.int .i64 1) ∧ Gr w w' := by
  go_enter Try.func52, Try.ntmps52
  go_wp2_with fail
  refine (markSymbolS_nil _).mono ?_
  rintro e W3 ⟨rfl, x3, rfl⟩
  go_wp2_with fail
  refine (markRuleS_nil _).mono ?_
  rintro e W4 ⟨rfl, x4, rfl⟩
  go_wp2_with fail
  go_ret
  exact ⟨rfl, (by repeat (first | exact Gr.refl _ | apply Gr.ext | apply Gr.alloc | apply Gr.drew))⟩

set_option maxRecDepth 10000 in
theorem heldGrammar_nil (w : World) :
    Calls Try.prog 54 #[.agg #[.slice none 0 0, .slice none 0 0], .int .i64 1] w fun e w' => e = .returned (.int .i64 1) ∧ Gr w w' := by
  go_enter Try.func54, Try.ntmps54
  go_wp2_with fail
  refine (heldSymbolS_nil _).mono ?_
  rintro e W5 ⟨rfl, x5, rfl⟩
  go_wp2_with fail
  refine (heldRuleS_nil _).mono ?_
  rintro e W6 ⟨rfl, x6, rfl⟩
  go_wp2_with fail
  go_ret
  exact ⟨rfl, (by repeat (first | exact Gr.refl _ | apply Gr.ext | apply Gr.alloc | apply Gr.drew))⟩

set_option maxRecDepth 10000 in
theorem eqTree_nil (w : World) :
    Calls Try.prog 10 #[.agg #[.slice none 0 0], .agg #[.slice none 0 0]] w fun e w' => e = .returned (.bool true) ∧ Gr w w' := by
  go_enter Try.func10, Try.ntmps10
  go_wp2_with fail
  refine (eqNodeS_nil _).mono ?_
  rintro e W7 ⟨rfl, x7, rfl⟩
  go_wp2_with fail
  go_ret
  exact ⟨rfl, (by repeat (first | exact Gr.refl _ | apply Gr.ext | apply Gr.alloc | apply Gr.drew))⟩

set_option maxRecDepth 10000 in
theorem markTree_nil (w : World) :
    Calls Try.prog 13 #[.agg #[.slice none 0 0], .int .i64 1] w fun e w' => e = .returned (.int .i64 1) ∧ Gr w w' := by
  go_enter Try.func13, Try.ntmps13
  go_wp2_with fail
  refine (markNodeS_nil _).mono ?_
  rintro e W8 ⟨rfl, x8, rfl⟩
  go_wp2_with fail
  go_ret
  exact ⟨rfl, (by repeat (first | exact Gr.refl _ | apply Gr.ext | apply Gr.alloc | apply Gr.drew))⟩

set_option maxRecDepth 10000 in
theorem heldTree_nil (w : World) :
    Calls Try.prog 14 #[.agg #[.slice none 0 0], .int .i64 1] w fun e w' => e = .returned (.int .i64 1) ∧ Gr w w' := by
  go_enter Try.func14, Try.ntmps14
  go_wp2_with fail
  refine (heldNodeS_nil _).mono ?_
  rintro e W9 ⟨rfl, x9, rfl⟩
  go_wp2_with fail
  go_ret
  exact ⟨rfl, (by repeat (first | exact Gr.refl _ | apply Gr.ext | apply Gr.alloc | apply Gr.drew))⟩

set_option maxRecDepth 10000 in
theorem eqMemo_nil (w : World) :
    Calls Try.prog 51 #[.agg #[.slice none 0 0, .slice none 0 0], .agg #[.slice none 0 0, .slice none 0 0]] w fun e w' => e = .returned (.bool true) ∧ Gr w w' := by
  go_enter Try.func51, Try.ntmps51
  go_wp2_with fail
  refine (eqEntryS_nil _).mono ?_
  rintro e W10 ⟨rfl, x10, rfl⟩
  go_wp2_with fail
  refine (eqInstanceS_nil _).mono ?_
  rintro e W11 ⟨rfl, x11, rfl⟩
  go_wp2_with fail
  go_ret
  exact ⟨rfl, (by repeat (first | exact Gr.refl _ | apply Gr.ext | apply Gr.alloc | apply Gr.drew))⟩

set_option maxRecDepth 10000 in
theorem markMemo_nil (w : World) :
    Calls Try.prog 53 #[.agg #[.slice none 0 0, .slice none 0 0], .int .i64 1] w fun e w' => e = .returned (.int .i64 1) ∧ Gr w w' := by
  go_enter Try.func53, Try.ntmps53
  go_wp2_with fail
  refine (markEntryS_nil _).mono ?_
  rintro e W12 ⟨rfl, x12, rfl⟩
  go_wp2_with fail
  refine (markInstanceS_nil _).mono ?_
  rintro e W13 ⟨rfl, x13, rfl⟩
  go_wp2_with fail
  go_ret
  exact ⟨rfl, (by repeat (first | exact Gr.refl _ | apply Gr.ext | apply Gr.alloc | apply Gr.drew))⟩

set_option maxRecDepth 10000 in
theorem heldMemo_nil (w : World) :
    Calls Try.prog 55 #[.agg #[.slice none 0 0, .slice none 0 0], .int .i64 1] w fun e w' => e = .returned (.int .i64 1) ∧ Gr w w' := by
  go_enter Try.func55, Try.ntmps55
  go_wp2_with fail
  refine (heldEntryS_nil _).mono ?_
  rintro e W14 ⟨rfl, x14, rfl⟩
  go_wp2_with fail
  refine (heldInstanceS_nil _).mono ?_
  rintro e W15 ⟨rfl, x15, rfl⟩
  go_wp2_with fail
  go_ret
  exact ⟨rfl, (by repeat (first | exact Gr.refl _ | apply Gr.ext | apply Gr.alloc | apply Gr.drew))⟩

set_option maxRecDepth 10000 in
theorem eqSession_nil (w : World) :
    Calls Try.prog 22 #[.agg #[.slice none 0 0, .slice none 0 0, .slice none 0 0, .slice none 0 0, .slice none 0 0, .int .i64 1], .agg #[.slice none 0 0, .slice none 0 0, .slice none 0 0, .slice none 0 0, .slice none 0 0, .int .i64 1]] w fun e w' => e = .returned (.bool true) ∧ Gr w w' := by
  go_enter Try.func22, Try.ntmps22
  go_wp2_with fail
  refine (eqGrammar_nil _).mono ?_
  rintro e W16 ⟨rfl, x16, rfl⟩
  go_wp2_with fail
  refine (eqTree_nil _).mono ?_
  rintro e W17 ⟨rfl, x17, rfl⟩
  go_wp2_with fail
  refine (eqMemo_nil _).mono ?_
  rintro e W18 ⟨rfl, x18, rfl⟩
  go_wp2_with fail
  go_ret
  exact ⟨rfl, (by repeat (first | exact Gr.refl _ | apply Gr.ext | apply Gr.alloc | apply Gr.drew))⟩

set_option maxRecDepth 10000 in
theorem markSession_nil (w : World) :
    Calls Try.prog 23 #[.agg #[.slice none 0 0, .slice none 0 0, .slice none 0 0, .slice none 0 0, .slice none 0 0, .int .i64 1], .int .i64 1] w fun e w' => e = .returned (.int .i64 1) ∧ Gr w w' := by
  go_enter Try.func23, Try.ntmps23
  go_wp2_with fail
  refine (markGrammar_nil _).mono ?_
  rintro e W19 ⟨rfl, x19, rfl⟩
  go_wp2_with fail
  refine (markTree_nil _).mono ?_
  rintro e W20 ⟨rfl, x20, rfl⟩
  go_wp2_with fail
  refine (markMemo_nil _).mono ?_
  rintro e W21 ⟨rfl, x21, rfl⟩
  go_wp2_with fail
  go_ret
  exact ⟨rfl, (by repeat (first | exact Gr.refl _ | apply Gr.ext | apply Gr.alloc | apply Gr.drew))⟩

set_option maxRecDepth 10000 in
theorem heldSession_nil (w : World) :
    Calls Try.prog 24 #[.agg #[.slice none 0 0, .slice none 0 0, .slice none 0 0, .slice none 0 0, .slice none 0 0, .int .i64 1], .int .i64 1] w fun e w' => e = .returned (.int .i64 1) ∧ Gr w w' := by
  go_enter Try.func24, Try.ntmps24
  go_wp2_with fail
  refine (heldGrammar_nil _).mono ?_
  rintro e W22 ⟨rfl, x22, rfl⟩
  go_wp2_with fail
  refine (heldTree_nil _).mono ?_
  rintro e W23 ⟨rfl, x23, rfl⟩
  go_wp2_with fail
  refine (heldMemo_nil _).mono ?_
  rintro e W24 ⟨rfl, x24, rfl⟩
  go_wp2_with fail
  go_ret
  exact ⟨rfl, (by repeat (first | exact Gr.refl _ | apply Gr.ext | apply Gr.alloc | apply Gr.drew))⟩

set_option maxRecDepth 10000 in
theorem implNew (w : World) :
    Calls Try.prog 21 #[] w fun e w' => e = .returned (.agg #[.slice none 0 0, .slice none 0 0, .slice none 0 0, .slice none 0 0, .slice none 0 0, .int .i64 1]) ∧ Gr w w' := by
  go_enter Try.func21, Try.ntmps21
  go_wp2
  exact bodyPost_ret (v := .agg #[.slice none 0 0, .slice none 0 0, .slice none 0 0, .slice none 0 0, .slice none 0 0, .int .i64 1]) (by simp [results, Try.results21, go_sem]) rfl ⟨rfl, (by repeat (first | exact Gr.refl _ | apply Gr.ext | apply Gr.alloc | apply Gr.drew))⟩

set_option maxRecDepth 10000 in
theorem specNew (w : World) :
    Calls Try.prog 20 #[] w fun e w' => e = .returned (.agg #[.slice none 0 0, .slice none 0 0, .slice none 0 0, .slice none 0 0, .slice none 0 0, .int .i64 1]) ∧ Gr w w' := by
  go_enter Try.func20, Try.ntmps20
  go_wp2
  exact bodyPost_ret (v := .agg #[.slice none 0 0, .slice none 0 0, .slice none 0 0, .slice none 0 0, .slice none 0 0, .int .i64 1]) (by simp [results, Try.results20, go_sem]) rfl ⟨rfl, (by repeat (first | exact Gr.refl _ | apply Gr.ext | apply Gr.alloc | apply Gr.drew))⟩

set_option maxRecDepth 10000 in
set_option maxHeartbeats 4000000 in
theorem lawNew_any (w : World) :
    Calls Try.prog 5 #[] w fun e w' => e = .returned (.bool true) ∧ Gr w w' := by
  go_enter Try.func5, Try.ntmps5
  go_wp2_with fail
  refine (specNew _).mono ?_
  rintro e W25 ⟨rfl, x25, rfl⟩
  go_wp2_with fail
  refine (implNew _).mono ?_
  rintro e W26 ⟨rfl, x26, rfl⟩
  go_wp2_with fail
  refine (eqSession_nil _).mono ?_
  rintro e W27 ⟨rfl, x27, rfl⟩
  go_wp2_with fail
  refine (markSession_nil _).mono ?_
  rintro e W28 ⟨rfl, x28, rfl⟩
  go_wp2_with fail
  refine (heldSession_nil _).mono ?_
  rintro e W29 ⟨rfl, x29, rfl⟩
  go_wp2_with fail
  refine (implNew _).mono ?_
  rintro e W30 ⟨rfl, x30, rfl⟩
  go_wp2_with fail
  refine (eqSession_nil _).mono ?_
  rintro e W31 ⟨rfl, x31, rfl⟩
  go_wp2_with fail
  refine (heldSession_nil _).mono ?_
  rintro e W32 ⟨rfl, x32, rfl⟩
  go_wp2_with fail
  go_ret
  exact ⟨rfl, (by repeat (first | exact Gr.refl _ | apply Gr.ext | apply Gr.alloc | apply Gr.drew))⟩

end Go.Proofs.Ytagddaleiplelaa
