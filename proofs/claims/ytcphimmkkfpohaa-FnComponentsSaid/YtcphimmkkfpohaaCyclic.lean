/- IsCyclicComponent of the program and of the reference, and the statement on them. No condition. -/
import Derived.Test.YtcphimmkkfpohaaIntsD
namespace Go.Proofs.Ytcphimmkkfpohaa
open Go.RowKit

/-- What IsCyclicComponent answers. -/
def isCyc (t : List (List Int)) (l : List Int) : Bool :=
  match l with
  | [y] => decide (0 ≤ y) && decide (y ≤ (t.length : Int) - 1) && (t.getD y.toNat []).any (fun z => y == z)
  | l => decide (1 < l.length)

theorem isCyc_far {t : List (List Int)} {l : List Int} (h : l.length ≠ 1) : isCyc t l = decide (1 < l.length) := by
  unfold isCyc
  split
  · simp at h
  · rfl

set_option maxHeartbeats 400000 in
theorem specCyclic_any (fp fq : List Nat) (u v : Value) (t : List (List Int)) (l : List Int) (w : World) (hu : SlR fp w u t) (hv : SlR fq w v l) :
    Calls Try.prog 16 #[u, v] w fun e w' => e = .returned (.bool (isCyc t l)) ∧ Gr w w' := by
  by_cases hl : l.length = 1
  · obtain ⟨y, rfl⟩ := List.length_eq_one_iff.1 hl
    obtain ⟨a, ca, rfl, h1, h2, h3⟩ := hu.open
    obtain ⟨c, cc, rfl, g1, g2, g3⟩ := hv.open
    obtain ⟨b', off', rfl, hb'⟩ := g3 0 (by simp)
    have x2 := (hv.int_at (i := 0) (by simp)).1
    simp only [List.getElem_cons_zero, Nat.add_zero] at x2
    clear g3 hl
    by_cases hin : 0 ≤ y ∧ y ≤ (t.length : Int) - 1
    · obtain ⟨n, rfl⟩ := Int.eq_ofNat_of_zero_le hin.1
      have hlt : n < t.length := by omega
      obtain ⟨b, off, rfl, hb⟩ := h3 n hlt
      obtain ⟨r1, f1, x1, hr1, _⟩ := hu.sl_at hlt
      have hfin : isCyc t [(n : Int)] = t[n].any (fun z => (n : Int) == z) := by
        simp [isCyc, hlt]
        omega
      have HF := Lib.hid hfin
      clear h3 hin hfin
      go_enter Try.func16, Try.ntmps16
      go_wp2_with fail
      refine wp_region_grown (by kernel_rfl) (by kernel_rfl) ?_
      repeat (go_big_quiet_step ((first | (go_at_call 35; exact grown_call (l1In_yes _ _ _ _ (by omega) (by omega))) | (go_at_call 36; refine grown_call (l1HasInt_any f1 _ _ _ _ (hr1.gr ?_)); exact (Gr.refl w).ext _))))
      refine wpQuiet_nil ?_
      intro _ hw'
      obtain ⟨nx, hw''⟩ := hw'
      subst hw''
      go_wp2
      go_ret
      exact ⟨ret_bool HF.out.symm, (Gr.refl w).ext _⟩
    · have hfin : isCyc t [y] = false := by
        simp only [isCyc, Bool.and_eq_false_iff]
        left
        by_cases h0 : 0 ≤ y
        · exact Or.inr (decide_eq_false fun h => hin ⟨h0, h⟩)
        · exact Or.inl (decide_eq_false h0)
      have HF := Lib.hid hfin
      have hor : y < 0 ∨ (t.length : Int) - 1 < y := by omega
      have HO := Lib.hid hor
      clear hfin hin hor h3
      go_enter Try.func16, Try.ntmps16
      go_wp2_with fail
      refine wp_region_grown (by kernel_rfl) (by kernel_rfl) ?_
      repeat (go_big_quiet_step ((go_at_call 35; exact grown_call (l1In_no _ _ _ _ HO.out))))
      refine wpQuiet_nil ?_
      intro _ hw'
      obtain ⟨nx, hw''⟩ := hw'
      subst hw''
      go_wp2
      go_ret
      exact ⟨ret_bool HF.out.symm, (Gr.refl w).ext _⟩
  · have hfin := isCyc_far (t := t) hl
    obtain ⟨a, ca, rfl, h1, h2, h3⟩ := hu.open
    obtain ⟨c, cc, rfl, g1, g2, g3⟩ := hv.open
    have hne : ((l.length : Int) != 1) = true := by simp; omega
    have HF := Lib.hid hfin
    clear hfin hl
    go_enter Try.func16, Try.ntmps16
    go_wp2
    go_ret
    refine ⟨ret_bool ?_, Gr.refl w⟩
    rw [HF.out]
    simp
    omega
set_option maxHeartbeats 400000 in
theorem implCyclic_any (fp fq : List Nat) (u v : Value) (t : List (List Int)) (l : List Int) (w : World) (hu : SlR fp w u t) (hv : SlR fq w v l) :
    Calls Try.prog 15 #[u, v] w fun e w' => e = .returned (.bool (isCyc t l)) ∧ Gr w w' := by
  by_cases hl : l.length = 1
  · obtain ⟨y, rfl⟩ := List.length_eq_one_iff.1 hl
    obtain ⟨a, ca, rfl, h1, h2, h3⟩ := hu.open
    obtain ⟨c, cc, rfl, g1, g2, g3⟩ := hv.open
    obtain ⟨b', off', rfl, hb'⟩ := g3 0 (by simp)
    have x2 := (hv.int_at (i := 0) (by simp)).1
    simp only [List.getElem_cons_zero, Nat.add_zero] at x2
    clear g3 hl
    by_cases hin : 0 ≤ y ∧ y ≤ (t.length : Int) - 1
    · obtain ⟨n, rfl⟩ := Int.eq_ofNat_of_zero_le hin.1
      have hlt : n < t.length := by omega
      obtain ⟨b, off, rfl, hb⟩ := h3 n hlt
      obtain ⟨r1, f1, x1, hr1, _⟩ := hu.sl_at hlt
      have hfin : isCyc t [(n : Int)] = t[n].any (fun z => (n : Int) == z) := by
        simp [isCyc, hlt]
        omega
      have HF := Lib.hid hfin
      clear h3 hin hfin
      go_enter Try.func15, Try.ntmps15
      go_wp2_with (first | (go_at_call 33; refine (within_yes _ _ _ _ (by omega) (by omega)).mono ?_; rintro e w' ⟨rfl, x, rfl⟩) | (go_at_call 34; refine (slicesContainsI_any f1 _ _ _ _ (hr1.gr ((Gr.refl w).ext _))).mono ?_; rintro e w' ⟨rfl, y, rfl⟩))
      go_ret
      exact ⟨ret_bool HF.out.symm, ((Gr.refl w).ext _).ext _⟩
    · have hfin : isCyc t [y] = false := by
        simp only [isCyc, Bool.and_eq_false_iff]
        left
        by_cases h0 : 0 ≤ y
        · exact Or.inr (decide_eq_false fun h => hin ⟨h0, h⟩)
        · exact Or.inl (decide_eq_false h0)
      have HF := Lib.hid hfin
      have hor : y < 0 ∨ (t.length : Int) - 1 < y := by omega
      have HO := Lib.hid hor
      clear hfin hin hor h3
      go_enter Try.func15, Try.ntmps15
      go_wp2_with (go_at_call 33; refine (within_no _ _ _ _ HO.out).mono ?_; rintro e w' ⟨rfl, x, rfl⟩)
      go_ret
      exact ⟨ret_bool HF.out.symm, (Gr.refl w).ext _⟩
  · have hfin := isCyc_far (t := t) hl
    obtain ⟨a, ca, rfl, h1, h2, h3⟩ := hu.open
    obtain ⟨c, cc, rfl, g1, g2, g3⟩ := hv.open
    have hne : ((l.length : Int) != 1) = true := by simp; omega
    have HF := Lib.hid hfin
    clear hfin hl
    go_enter Try.func15, Try.ntmps15
    go_wp2
    go_ret
    refine ⟨ret_bool ?_, Gr.refl w⟩
    rw [HF.out]
    simp
    omega

theorem wtSS_len {xs : List (List Int)} {n : Nat} (h : wtSS xs ≤ n) : xs.length ≤ n ∧ ∀ r ∈ xs, r.length ≤ n := by
  unfold wtSS at h
  have := wtL_len List.length xs
  refine ⟨by omega, fun r hr => ?_⟩
  obtain ⟨i, hi, rfl⟩ := List.mem_iff_getElem.1 hr
  have := wtL_at List.length xs hi
  omega

end Go.Proofs.Ytcphimmkkfpohaa