/- IsCyclicComponent of the program and of the reference, and the statement on them. No condition. -/
import Derived.Test.YtdebnmambbmebaaIntsD
namespace Go.Proofs.Ytdebnmambbmebaa
open Go.RowKit

/-- What IsCyclicComponent answers. -/
def isCyc (t : List (List Int)) (l : List Int) : Bool :=
  match l with
  | [y] => decide (0 ≤ y) && decide (y ≤ (t.length : Int) - 1) && (t.getD y.toNat []).any (fun z => y == z)
  | l => decide (1 < l.length)

theorem isCyc_far {t : List (List Int)} {l : List Int} (h : l.length ≠ 1) : isCyc t l = decide (1 < l.length) := by
  unfold isCyc
  split
  · simp at h
  · rfl

set_option maxHeartbeats 400000 in
theorem specCyclic_any (fp fq : List Nat) (u v : Value) (t : List (List Int)) (l : List Int) (w : World) (hu : SlR fp w u t) (hv : SlR fq w v l) :
    Calls Try.prog 20 #[u, v] w fun e w' => e = .returned (.bool (isCyc t l)) ∧ Gr w w' := by
  by_cases hl : l.length = 1
  · obtain ⟨y, rfl⟩ := List.length_eq_one_iff.1 hl
    obtain ⟨a, ca, rfl, h1, h2, h3⟩ := hu.open
    obtain ⟨c, cc, rfl, g1, g2, g3⟩ := hv.open
    obtain ⟨b', off', rfl, hb'⟩ := g3 0 (by simp)
    have x2 := (hv.int_at (i := 0) (by simp)).1
    simp only [List.getElem_cons_zero, Nat.add_zero] at x2
    clear g3 hl
    by_cases hin : 0 ≤ y ∧ y ≤ (t.length : Int) - 1
    · obtain ⟨n, rfl⟩ := Int.eq_ofNat_of_zero_le hin.1
      have hlt : n < t.length := by omega
      obtain ⟨b, off, rfl, hb⟩ := h3 n hlt
      obtain ⟨r1, f1, x1, hr1, _⟩ := hu.sl_at hlt
      have hfin : isCyc t [(n : Int)] = t[n].any (fun z => (n : Int) == z) := by
        simp [isCyc, hlt]
        omega
      have HF := Lib.hid hfin
      clear h3 hin hfin
      go_enter Try.func20, Try.ntmps20
      go_wp2_with fail
      refine wp_region_grown (by kernel_rfl) (by kernel_rfl) ?_
      repeat (go_big_quiet_step ((first | (go_at_call 64; exact grown_call (l1In_yes _ _ _ _ (by omega) (by omega))) | (go_at_call 67; refine grown_call (l1HasInt_any f1 _ _ _ _ (hr1.gr ?_)); exact (Gr.refl w).ext _))))
      refine wpQuiet_nil ?_
      intro _ hw'
      obtain ⟨nx, hw''⟩ := hw'
      subst hw''
      go_wp2
      go_ret
      exact ⟨ret_bool HF.out.symm, (Gr.refl w).ext _⟩
    · have hfin : isCyc t [y] = false := by
        simp only [isCyc, Bool.and_eq_false_iff]
        left
        by_cases h0 : 0 ≤ y
        · exact Or.inr (decide_eq_false fun h => hin ⟨h0, h⟩)
        · exact Or.inl (decide_eq_false h0)
      have HF := Lib.hid hfin
      have hor : y < 0 ∨ (t.length : Int) - 1 < y := by omega
      have HO := Lib.hid hor
      clear hfin hin hor h3
      go_enter Try.func20, Try.ntmps20
      go_wp2_with fail
      refine wp_region_grown (by kernel_rfl) (by kernel_rfl) ?_
      repeat (go_big_quiet_step ((go_at_call 64; exact grown_call (l1In_no _ _ _ _ HO.out))))
      refine wpQuiet_nil ?_
      intro _ hw'
      obtain ⟨nx, hw''⟩ := hw'
      subst hw''
      go_wp2
      go_ret
      exact ⟨ret_bool HF.out.symm, (Gr.refl w).ext _⟩
  · have hfin := isCyc_far (t := t) hl
    obtain ⟨a, ca, rfl, h1, h2, h3⟩ := hu.open
    obtain ⟨c, cc, rfl, g1, g2, g3⟩ := hv.open
    have hne : ((l.length : Int) != 1) = true := by simp; omega
    have HF := Lib.hid hfin
    clear hfin hl
    go_enter Try.func20, Try.ntmps20
    go_wp2
    go_ret
    refine ⟨ret_bool ?_, Gr.refl w⟩
    rw [HF.out]
    simp
    omega
set_option maxHeartbeats 400000 in
theorem implCyclic_any (fp fq : List Nat) (u v : Value) (t : List (List Int)) (l : List Int) (w : World) (hu : SlR fp w u t) (hv : SlR fq w v l) :
    Calls Try.prog 23 #[u, v] w fun e w' => e = .returned (.bool (isCyc t l)) ∧ Gr w w' := by
  by_cases hl : l.length = 1
  · obtain ⟨y, rfl⟩ := List.length_eq_one_iff.1 hl
    obtain ⟨a, ca, rfl, h1, h2, h3⟩ := hu.open
    obtain ⟨c, cc, rfl, g1, g2, g3⟩ := hv.open
    obtain ⟨b', off', rfl, hb'⟩ := g3 0 (by simp)
    have x2 := (hv.int_at (i := 0) (by simp)).1
    simp only [List.getElem_cons_zero, Nat.add_zero] at x2
    clear g3 hl
    by_cases hin : 0 ≤ y ∧ y ≤ (t.length : Int) - 1
    · obtain ⟨n, rfl⟩ := Int.eq_ofNat_of_zero_le hin.1
      have hlt : n < t.length := by omega
      obtain ⟨b, off, rfl, hb⟩ := h3 n hlt
      obtain ⟨r1, f1, x1, hr1, _⟩ := hu.sl_at hlt
      have hfin : isCyc t [(n : Int)] = t[n].any (fun z => (n : Int) == z) := by
        simp [isCyc, hlt]
        omega
      have HF := Lib.hid hfin
      clear h3 hin hfin
      go_enter Try.func23, Try.ntmps23
      go_wp2_with (first | (go_at_call 65; refine (within_yes _ _ _ _ (by omega) (by omega)).mono ?_; rintro e w' ⟨rfl, x, rfl⟩) | (go_at_call 68; refine (slicesContainsI_any f1 _ _ _ _ (hr1.gr ((Gr.refl w).ext _))).mono ?_; rintro e w' ⟨rfl, y, rfl⟩))
      go_ret
      exact ⟨ret_bool HF.out.symm, ((Gr.refl w).ext _).ext _⟩
    · have hfin : isCyc t [y] = false := by
        simp only [isCyc, Bool.and_eq_false_iff]
        left
        by_cases h0 : 0 ≤ y
        · exact Or.inr (decide_eq_false fun h => hin ⟨h0, h⟩)
        · exact Or.inl (decide_eq_false h0)
      have HF := Lib.hid hfin
      have hor : y < 0 ∨ (t.length : Int) - 1 < y := by omega
      have HO := Lib.hid hor
      clear hfin hin hor h3
      go_enter Try.func23, Try.ntmps23
      go_wp2_with (go_at_call 65; refine (within_no _ _ _ _ HO.out).mono ?_; rintro e w' ⟨rfl, x, rfl⟩)
      go_ret
      exact ⟨ret_bool HF.out.symm, (Gr.refl w).ext _⟩
  · have hfin := isCyc_far (t := t) hl
    obtain ⟨a, ca, rfl, h1, h2, h3⟩ := hu.open
    obtain ⟨c, cc, rfl, g1, g2, g3⟩ := hv.open
    have hne : ((l.length : Int) != 1) = true := by simp; omega
    have HF := Lib.hid hfin
    clear hfin hl
    go_enter Try.func23, Try.ntmps23
    go_wp2
    go_ret
    refine ⟨ret_bool ?_, Gr.refl w⟩
    rw [HF.out]
    simp
    omega

theorem wtSS_len {xs : List (List Int)} {n : Nat} (h : wtSS xs ≤ n) : xs.length ≤ n ∧ ∀ r ∈ xs, r.length ≤ n := by
  unfold wtSS at h
  refine ⟨by omega, fun r hr => ?_⟩
  have : r.length ≤ (xs.map List.length).sum := by
    obtain ⟨i, hi, rfl⟩ := List.mem_iff_getElem.1 hr
    have h1 := sum_take_succ xs i hi
    have h2 := sum_take_le xs (i + 1)
    omega
  omega

set_option maxHeartbeats 1000000 in
theorem lawCyclic_any (fp fq : List Nat) (u v : Value) (t : List (List Int)) (l : List Int) (w : World) (hu : SlR fp w u t) (hv : SlR fq w v l) :
    Calls Try.prog 5 #[u, v] w fun e w' => e = .returned (.bool true) ∧ Gr w w' := by
  obtain ⟨c, cc, rfl, g1, g2, g3⟩ := hv.open
  clear g3
  by_cases hl : l.length ≤ 1048576
  · by_cases hn : less 1048576 (wtSS t) < 0
    · have HN := Lib.hid hn
      clear hn
      go_enter Try.func5, Try.ntmps5
      go_wp2_with (go_at_call 19; refine (szIntSS_any fp _ _ _ _ hu (by omega) (by omega)).mono ?_; rintro e w' ⟨rfl, x, rfl⟩; have hn := HN.out)
      go_ret
      exact ⟨rfl, (Gr.refl w).ext _⟩
    · have hw : wtSS t ≤ 1048576 := by unfold less at hn; split at hn <;> omega
      obtain ⟨ht1, ht2⟩ := wtSS_len hw
      have HN := Lib.hid hn
      have HT := Lib.hid ht2
      clear hn ht2
      go_enter Try.func5, Try.ntmps5
      go_wp2_with (go_at_call 19; refine (szIntSS_any fp _ _ _ _ hu (by omega) (by omega)).mono ?_; rintro e w' ⟨rfl, x0, rfl⟩; have hn := HN.out)
      refine (toIntSS_any fp _ _ _ (hu.gr (by repeat (first | exact Gr.refl _ | apply Gr.ext | apply Gr.alloc | apply Gr.drew))) ht1 HT.out).mono ?_
      rintro e w' ⟨v1, f1, rfl, s1, fr1, x1, rfl⟩
      go_wp2_with fail
      refine (toIntS_any fq _ _ _ (hv.gr (by repeat (first | exact Gr.refl _ | apply Gr.ext | apply Gr.alloc | apply Gr.drew))) hl).mono ?_
      rintro e w' ⟨v2, f2, rfl, s2, fr2, x2, rfl⟩
      go_wp2_with fail
      refine (specCyclic_any f1 f2 _ _ _ _ _ (s1.gr (by repeat (first | exact Gr.refl _ | apply Gr.ext | apply Gr.alloc | apply Gr.drew))) s2).mono ?_
      rintro e w' ⟨rfl, x3, rfl⟩
      go_wp2_with fail
      refine (toIntSS_any fp _ _ _ (hu.gr (by repeat (first | exact Gr.refl _ | apply Gr.ext | apply Gr.alloc | apply Gr.drew))) ht1 HT.out).mono ?_
      rintro e w' ⟨v3, f3, rfl, s3, fr3, x4, rfl⟩
      go_wp2_with fail
      refine (toIntS_any fq _ _ _ (hv.gr (by repeat (first | exact Gr.refl _ | apply Gr.ext | apply Gr.alloc | apply Gr.drew))) hl).mono ?_
      rintro e w' ⟨v4, f4, rfl, s4, fr4, x5, rfl⟩
      go_wp2_with fail
      refine (implCyclic_any f3 f4 _ _ _ _ _ (s3.gr (by repeat (first | exact Gr.refl _ | apply Gr.ext | apply Gr.alloc | apply Gr.drew))) s4).mono ?_
      rintro e w' ⟨rfl, x6, rfl⟩
      go_wp2_with fail
      refine (toIntSS_any fp _ _ _ (hu.gr (by repeat (first | exact Gr.refl _ | apply Gr.ext | apply Gr.alloc | apply Gr.drew))) ht1 HT.out).mono ?_
      rintro e w' ⟨v5, f5, rfl, s5, fr5, x7, rfl⟩
      go_wp2_with fail
      refine (eqIntSS_any f3 f5 _ _ _ _ _ (s3.gr (by repeat (first | exact Gr.refl _ | apply Gr.ext | apply Gr.alloc | apply Gr.drew))) s5).mono ?_
      rintro e w' ⟨rfl, x8, rfl⟩
      rw [decide_eq_true rfl]
      go_wp2_with fail
      refine (toIntS_any fq _ _ _ (hv.gr (by repeat (first | exact Gr.refl _ | apply Gr.ext | apply Gr.alloc | apply Gr.drew))) hl).mono ?_
      rintro e w' ⟨v6, f6, rfl, s6, fr6, x9, rfl⟩
      go_wp2_with fail
      refine (eqIntS_any f4 f6 _ _ _ _ _ (s4.gr (by repeat (first | exact Gr.refl _ | apply Gr.ext | apply Gr.alloc | apply Gr.drew))) s6).mono ?_
      rintro e w' ⟨rfl, x10, rfl⟩
      rw [decide_eq_true rfl]
      go_wp2_with fail
      go_ret
      exact ⟨rfl, (by repeat (first | exact Gr.refl _ | apply Gr.ext | apply Gr.alloc | apply Gr.drew))⟩
  · go_enter Try.func5, Try.ntmps5
    go_wp2
    go_ret
    exact ⟨rfl, (by repeat (first | exact Gr.refl _ | apply Gr.ext | apply Gr.alloc | apply Gr.drew))⟩
end Go.Proofs.Ytdebnmambbmebaa
