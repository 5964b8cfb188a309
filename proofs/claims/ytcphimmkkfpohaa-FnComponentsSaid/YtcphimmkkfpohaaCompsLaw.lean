/- The walk of the statement on Components. No condition. -/
import Derived.Test.YtcphimmkkfpohaaCompsI
import Derived.Test.YtcphimmkkfpohaaMarkInts
namespace Go.Proofs.Ytcphimmkkfpohaa
open Go.RowKit

theorem comps_bound (T : List (List Int)) : (compsOf T).length ≤ T.length ∧ ∀ r ∈ compsOf T, r.length ≤ T.length := by
  by_cases h : ∃ L, Run T L ∧ L.length = (parts T).length
  · obtain ⟨L, hR, hL⟩ := h
    rw [compsOf_run hR hL]
    unfold outOfRun
    refine ⟨by rw [List.length_map, hL]; exact parts_le, fun r hr => ?_⟩
    obtain ⟨p, hp, rfl⟩ := List.mem_map.1 hr
    rw [parts_getD (hR.facts.2 p hp)]
    exact parts_size _
  · unfold compsOf
    rw [@dif_neg _ (Classical.propDecidable _) h]
    simp

theorem sum_len_le (xs : List (List Int)) (n : Nat) (h : ∀ r ∈ xs, r.length ≤ n) : (xs.map List.length).sum ≤ xs.length * n := by
  induction xs with
  | nil => simp
  | cons x xs ih =>
    have h1 := h x (by simp)
    have h2 := ih fun r hr => h r (List.mem_cons_of_mem _ hr)
    simp only [List.map_cons, List.sum_cons, List.length_cons, Nat.add_mul, Nat.one_mul]
    omega

theorem markSS_le (xs : List (List Int)) (n : Nat) (hn : n ≤ 1048576) (hl : xs.length ≤ n) (h : ∀ r ∈ xs, r.length ≤ n) : 1 ≤ (markL mIntS 1 xs).2 ∧ (markL mIntS 1 xs).2 ≤ 4398046511104 := by
  have h1 := markK_le mIntS List.length (fun k x => ⟨mIntS_mono k x, by unfold mIntS; rw [mIntS_eq]; omega⟩) xs 1
  have h2 := sum_len_le xs n h
  have h3 : xs.length * n ≤ 1048576 * 1048576 := Nat.mul_le_mul (by omega) hn
  have h4 : (1048576 : Nat) * 1048576 = 1099511627776 := by decide
  rw [h4] at h3
  omega

set_option maxRecDepth 10000 in
set_option maxHeartbeats 4000000 in
theorem lawComps_any (fp : List Nat) (u : Value) (T : List (List Int)) (w : World) (hu : SlR fp w u T) :
    Calls Try.prog 3 #[u] w fun e w' => e = .returned (.bool true) ∧ Gr w w' := by
  have HU := Lib.hid hu
  obtain ⟨aT, cT, rfl, -, -, -⟩ := hu.open
  clear hu
  by_cases hn : less 1048576 (wtSS T) < 0
  · have HN := Lib.hid hn
    clear hn
    go_enter Try.func3, Try.ntmps3
    go_wp2_with fail
    refine (szIntSS_any _ _ T _ _ HU.out (by omega) (by omega)).mono ?_
    rintro e W1 ⟨rfl, g1⟩
    have hn := HN.out
    go_wp2_with fail
    go_ret
    exact ⟨rfl, g1⟩
  · have hw : wtSS T ≤ 1048576 := by unfold less at hn; split at hn <;> omega
    have hlen : T.length ≤ 1048576 := by unfold wtSS wtL at hw; omega
    have hlens : ∀ r ∈ T, r.length ≤ 1048576 := fun r hr => by
      obtain ⟨i, hi, rfl⟩ := List.mem_iff_getElem.1 hr
      have := wtL_at List.length T hi
      unfold wtSS at hw
      omega
    have HLS := Lib.hid hlens
    have hcb := comps_bound T
    have hm0 := markSS_le T 1048576 (by omega) hlen hlens
    have hm1 := markSS_le (compsOf T) T.length hlen hcb.1 hcb.2
    have HCB := Lib.hid hcb
    have HM0 := Lib.hid hm0
    have HM1 := Lib.hid hm1
    have HN := Lib.hid hn
    clear hn hlens hcb hm0 hm1
    go_enter Try.func3, Try.ntmps3
    go_wp2_with fail
    refine (szIntSS_any _ _ T _ _ HU.out (by omega) (by omega)).mono ?_
    rintro e W1 ⟨rfl, g1⟩
    have hn := HN.out
    go_wp2_with fail
    clear hn
    refine (toIntSS_any _ _ T _ (HU.out.gr g1) hlen HLS.out).mono ?_
    rintro e W2 ⟨v2, f2, rfl, s2, fr2, g2⟩
    go_wp2_with fail
    refine (specComps_any _ _ T _ s2 hlen).mono ?_
    rintro e W3 ⟨v3, f3, rfl, s3, g3⟩
    have G3 : Gr w W3 := (g1.trans g2).trans g3
    have hz3 := G3.size
    have HS3 := Lib.hid s3
    clear s2 fr2 g1 g2 g3 s3
    go_wp2_with fail
    refine (toIntSS_any _ _ T _ (HU.out.gr G3) hlen HLS.out).mono ?_
    rintro e W4 ⟨v4, f4, rfl, s4, fr4, g4⟩
    have HS4 := Lib.hid s4
    have HF4 := Lib.hid fr4
    go_wp2_with fail
    refine (implComps_any _ _ T _ s4 hlen HLS.out).mono ?_
    rintro e W5 ⟨v5, f5, rfl, s5, fr5, g5⟩
    have HS5 := Lib.hid s5
    have HF5 := Lib.hid fr5
    have HG4 := Lib.hid g4
    have HG5 := Lib.hid g5
    clear s4 fr4 s5 fr5
    go_wp2_with fail
    refine (eqIntSS_any _ _ _ _ _ _ _ HS5.out (HS3.out.gr (g4.trans g5))).mono ?_
    rintro e W6 ⟨rfl, g6⟩
    rw [decide_eq_true rfl]
    go_wp2_with fail
    refine (toIntSS_any _ _ T _ (HU.out.gr (((G3.trans g4).trans g5).trans g6)) hlen HLS.out).mono ?_
    rintro e W7 ⟨v7, f7, rfl, s7, fr7, g7⟩
    go_wp2_with fail
    refine (eqIntSS_any _ _ _ _ _ _ _ (HS4.out.gr ((g5.trans g6).trans g7)) s7).mono ?_
    rintro e W8 ⟨rfl, g8⟩
    rw [decide_eq_true rfl]
    have g58 : Gr W5 W8 := (g6.trans g7).trans g8
    have HG58 := Lib.hid g58
    clear s7 fr7 g4 g5 g6 g7 g8 g58
    go_wp2_with fail
    refine (markIntSS_any _ _ T _ _ (HS4.out.gr (HG5.out.trans HG58.out)) HF4.out.1 (by omega) HM0.out.2).mono ?_
    rintro e W9 ⟨rfl, -, w9⟩
    have hk9 : ¬ (markL mIntS 1 T).2 < 0 := by have := HM0.out.1; omega
    have s5 := (HS5.out.gr HG58.out).wr w9 (fun b hb hm => by have := HF5.out.2 b hb; have := HS4.out.lt b hm; omega)
    have s3 := (HS3.out.gr ((HG4.out.trans HG5.out).trans HG58.out)).wr w9 (fun b hb hm => by have := HS3.out.lt b hb; have := HF4.out.2 b hm; omega)
    have hdec : decide ((markL mIntS 1 T).2 < 0) = false := decide_eq_false hk9
    have HS5' := Lib.hid s5
    have HS3' := Lib.hid s3
    have HW9 := Lib.hid w9
    have G9 : Gr w W9 := (((G3.trans HG4.out).trans HG5.out).trans HG58.out).wr w9 (fun b hb => by have := HF4.out.2 b hb; have := G3.size; omega)
    have HG9 := Lib.hid G9
    generalize (markL mIntS 1 T).2 = km at hk9 hdec
    clear s5 s3 w9 G9 G3
    go_wp2_with fail
    refine (eqIntSS_any _ _ _ _ _ _ _ HS5'.out HS3'.out).mono ?_
    rintro e W10 ⟨rfl, g10⟩
    rw [decide_eq_true rfl]
    have HG10 := Lib.hid g10
    clear g10
    go_wp2_with fail
    clear hk9 hdec
    refine (markIntSS_any _ _ (compsOf T) _ _ (HS5'.out.gr HG10.out) HF5.out.1 (by omega) HM1.out.2).mono ?_
    rintro e W11 ⟨rfl, s11, w11⟩
    have s3 := (HS3'.out.gr HG10.out).wr w11 (fun b hb hm => by have := HS3.out.lt b hb; have := HF5.out.2 b hm; have := HG4.out.size; omega)
    have G11 : Gr w W11 := (HG9.out.trans HG10.out).wr w11 (fun b hb => by have := HF5.out.2 b hb; have := HG4.out.size; omega)
    have HS11 := Lib.hid s11
    have HS3'' := Lib.hid s3
    have HG11 := Lib.hid G11
    have hk11 := HM1.out.1
    clear s11 w11 s3 G11
    go_wp2_with fail
    refine (heldIntSS_any _ _ (compsOf T) _ _ HS11.out (by omega) HM1.out.2).mono ?_
    rintro e W12 ⟨rfl, g12⟩
    have HG12 := Lib.hid g12
    clear g12
    obtain ⟨km2, hkm2⟩ : ∃ k, k = (markL mIntS 1 (compsOf T)).2 := ⟨_, rfl⟩
    rw [← hkm2] at hk11 ⊢
    have HKM := Lib.hid hkm2
    have hdec2 : decide (km2 < 0) = false := decide_eq_false (by omega)
    clear hkm2
    go_wp2_with fail
    refine (toIntSS_any _ _ T _ (HU.out.gr (HG11.out.trans HG12.out)) hlen HLS.out).mono ?_
    rintro e W13 ⟨v13, f13, rfl, s13, fr13, g13⟩
    go_wp2_with fail
    refine (implComps_any _ _ T _ s13 hlen HLS.out).mono ?_
    rintro e W14 ⟨v14, f14, rfl, s14, fr14, g14⟩
    go_wp2_with fail
    refine (eqIntSS_any _ _ _ _ _ _ _ s14 (HS3''.out.gr ((HG12.out.trans g13).trans g14))).mono ?_
    rintro e W15 ⟨rfl, g15⟩
    rw [decide_eq_true rfl]
    have G15 : Gr W11 W15 := ((HG12.out.trans g13).trans g14).trans g15
    have HG15 := Lib.hid G15
    clear s13 fr13 g13 s14 fr14 g14 g15 G15
    go_wp2_with fail
    refine (heldIntSS_any _ _ (compsOf T) _ _ (HS11.out.gr HG15.out) (by omega) HM1.out.2).mono ?_
    rintro e W16 ⟨rfl, g16⟩
    rw [← HKM.out]
    have HG16 := Lib.hid g16
    clear g16
    go_wp2_with fail
    go_ret
    exact ⟨rfl, (HG11.out.trans HG15.out).trans HG16.out⟩
end Go.Proofs.Ytcphimmkkfpohaa
