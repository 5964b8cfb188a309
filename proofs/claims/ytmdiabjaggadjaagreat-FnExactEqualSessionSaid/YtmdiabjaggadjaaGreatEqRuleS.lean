/- spec.EqualRule. Made by mk_eqrules.py. No condition. -/
import Derived.Test.YtmdiabjaggadjaaGreatEqExS
import Derived.Test.YtmdiabjaggadjaaGreatEqFlat
import Derived.Test.YtmdiabjaggadjaaGreatEqFuncC
import Derived.Test.YtmdiabjaggadjaaGreatFamGram
import Derived.Deep.DeepCutAuto
import Derived.Deep.CutRange
namespace Go.Proofs.YtmdiabjaggadjaaGreat
open Go.RowKit
variable {d : Nat}

set_option maxRecDepth 1000000 in
set_option maxHeartbeats 16000000 in
theorem specEqRule_any (fp fq : List Nat) (cs ds : Array Value) (x y : GRule d) (w : World) (hx : Rd.rd fp w cs.toList x) (hy : Rd.rd fq w ds.toList y) :
    Calls Tryz.prog 30 #[.agg cs, .agg ds] w fun e w' => e = .returned (.bool (decide (x = y))) ∧ Gr w w' := by
  obtain ⟨q0, q1, q2, q3, q4, q5⟩ := x
  obtain ⟨p0, p1, p2, p3, p4, p5⟩ := y
  obtain ⟨vq2, fq2, vq4, fq4, vq5, fq5, rfl, -, -, -, sq2, sq4, sq5⟩ := rdRule_inv q0 q1 q2 q3 q4 q5 hx
  obtain ⟨vp2, fp2, vp4, fp4, vp5, fp5, rfl, -, -, -, sp2, sp4, sp5⟩ := rdRule_inv p0 p1 p2 p3 p4 p5 hy
  have HE : ((q0, q1, q2, q3, q4, q5) : GRule d) = (p0, p1, p2, p3, p4, p5) ↔ q0 = p0 ∧ q1 = p1 ∧ q2 = p2 ∧ q3 = p3 ∧ q4 = p4 ∧ q5 = p5 := by
    simp only [Prod.mk.injEq]
  have HE := Lib.hid HE
  obtain ⟨aq2, cq2, rfl, -, -, -⟩ := sq2.open
  obtain ⟨ap2, cp2, rfl, -, -, -⟩ := sp2.open
  obtain ⟨aq4, cq4, rfl, h1, h2, h3⟩ := sq4.open
  obtain ⟨ap4, cp4, rfl, g1, g2, g3⟩ := sp4.open
  obtain ⟨aq5, cq5, rfl, i1, i2, i3⟩ := sq5.open
  obtain ⟨ap5, cp5, rfl, j1, j2, j3⟩ := sp5.open
  clear hx hy
  by_cases hl4 : q4.length = p4.length
  · have n4 : ((q4.length : Int) != (p4.length : Int)) = false := by simp [hl4]
    have hl4' := Lib.hid hl4
    clear hl4
    by_cases hl5 : q5.length = p5.length
    · have n5 : ((q5.length : Int) != (p5.length : Int)) = false := by simp [hl5]
      have hl5' := Lib.hid hl5
      clear hl5
      go_enter Tryz.func30, Tryz.ntmps30
      go_wp2_with fail
      · skip
        have e0 : q0 = p0 := str_inj (by assumption)
        have e1 : q1 = p1 := str_inj (by assumption)
        have e3 : q3 = p3 := by first | assumption | simpa using (show (q3 == p3) = true by assumption) | simpa using (show (q3 != p3) = false by assumption)
        have E01 := Lib.hid (And.intro e0 (And.intro e1 e3))
        clear e0 e1 e3
        refine (l3Texts_any _ _ _ _ q2 p2 _ (sq2.gr (by repeat (first | exact Gr.refl _ | apply Gr.ext | apply Gr.alloc | apply Gr.drew))) (sp2.gr (by repeat (first | exact Gr.refl _ | apply Gr.ext | apply Gr.alloc | apply Gr.drew)))).mono ?_
        rintro e w3 ⟨rfl, x3, rfl⟩
        by_cases e2 : q2 = p2
        · rw [decide_eq_true e2]
          have E2 := Lib.hid e2
          clear e2
          go_wp2_with fail
          clear n4 n5
          go_loopw [5] (fun s5 wr => ∃ k : Nat, k ≤ q4.length ∧ q4.take k = p4.take k ∧ Gr ((w.alloc (Obj.cells #[.string q0, .string q1, .slice aq2 q2.length cq2, .bool p3, .slice aq4 q4.length cq4, .slice aq5 q5.length cq5] 75)).alloc (Obj.cells #[.string p0, .string p1, .slice ap2 p2.length cp2, .bool p3, .slice ap4 p4.length cp4, .slice ap5 p5.length cp5] 75)) wr ∧ s5 = .int .i64 k) (fun s5 _ => q4.length - (intOf s5).toNat)
          case atStart => exact ⟨0, by omega, rfl, (by repeat (first | exact Gr.refl _ | apply Gr.ext | apply Gr.alloc | apply Gr.drew)), rfl⟩
          case round =>
            obtain ⟨k, hk, ht, ⟨x, rfl⟩, rfl⟩ := hrel
            by_cases hlt : k < q4.length
            · have hlt2 : k < p4.length := by have := hl4'.out; omega
              obtain ⟨b, off, rfl, hb⟩ := h3 k hlt
              obtain ⟨b', off', rfl, hb'⟩ := g3 k hlt2
              obtain ⟨csq, feq, hcq, hrq, -⟩ := sq4.at hlt
              have hrdq := hrq
              generalize hyq : q4[k] = yq at hrq
              obtain ⟨⟨r00, r01⟩, ⟨r10, r11, r12, r13, r14, r15, r16⟩⟩ := yq
              obtain ⟨vr16, fr16, hcsq, -, hr00, hr01, hr10, hr11, hr12, hr13, hr14, hr15, hr16⟩ := rdEquation_inv (cs := csq.toArray) r00 r01 r10 r11 r12 r13 r14 r15 r16 (by simpa using hrq)
              obtain rfl : csq = [.int .i64 r00, .string r01, .int .i64 r10, .int .i64 r11, .int .i64 r12, .int .i64 r13, .string r14, .string r15, vr16] := by have := congrArg Array.toList hcsq; simpa using this
              obtain ⟨csp, fep, hcp, hrp, -⟩ := sp4.at hlt2
              have hrdp := hrp
              generalize hyp : p4[k] = yp at hrp
              obtain ⟨⟨s00, s01⟩, ⟨s10, s11, s12, s13, s14, s15, s16⟩⟩ := yp
              obtain ⟨vs16, fs16, hcsp, -, hs00, hs01, hs10, hs11, hs12, hs13, hs14, hs15, hs16⟩ := rdEquation_inv (cs := csp.toArray) s00 s01 s10 s11 s12 s13 s14 s15 s16 (by simpa using hrp)
              obtain rfl : csp = [.int .i64 s00, .string s01, .int .i64 s10, .int .i64 s11, .int .i64 s12, .int .i64 s13, .string s14, .string s15, vs16] := by have := congrArg Array.toList hcsp; simpa using this
              have hrya1 := (rdExpr_mk r10 r11 r12 r13 r14 r15 r16 hr10 hr11 hr12 hr13 hr14 hr15 hr16 : Rd.rd (α := GExpr d) _ w _ _)
              obtain ⟨ya1, hnya1⟩ : ∃ y : GExpr d, y = (r10, r11, r12, r13, r14, r15, r16) := ⟨_, rfl⟩
              rw [← hnya1] at hrya1
              rw [← hnya1] at hyq
              have hrza1 := (rdExpr_mk s10 s11 s12 s13 s14 s15 s16 hs10 hs11 hs12 hs13 hs14 hs15 hs16 : Rd.rd (α := GExpr d) _ w _ _)
              obtain ⟨za1, hnza1⟩ : ∃ y : GExpr d, y = (s10, s11, s12, s13, s14, s15, s16) := ⟨_, rfl⟩
              rw [← hnza1] at hrza1
              rw [← hnza1] at hyp
              obtain ⟨ar16, cr16, rfl, -, -, -⟩ := hr16.open
              obtain ⟨as16, cs16, rfl, -, -, -⟩ := hs16.open
              have z0 : w.cell? ⟨b, off + k * 9, none⟩ = some (.int .i64 r00) := by simpa [Rd.n] using hcq 0 _ rfl
              have z1 : w.cell? ⟨b, off + k * 9 + 1, none⟩ = some (.string r01) := hcq 1 _ rfl
              have z2 : w.cell? ⟨b, off + k * 9 + 2, none⟩ = some (.int .i64 r10) := hcq 2 _ rfl
              have z3 : w.cell? ⟨b, off + k * 9 + 3, none⟩ = some (.int .i64 r11) := hcq 3 _ rfl
              have z4 : w.cell? ⟨b, off + k * 9 + 4, none⟩ = some (.int .i64 r12) := hcq 4 _ rfl
              have z5 : w.cell? ⟨b, off + k * 9 + 5, none⟩ = some (.int .i64 r13) := hcq 5 _ rfl
              have z6 : w.cell? ⟨b, off + k * 9 + 6, none⟩ = some (.string r14) := hcq 6 _ rfl
              have z7 : w.cell? ⟨b, off + k * 9 + 7, none⟩ = some (.string r15) := hcq 7 _ rfl
              have z8 : w.cell? ⟨b, off + k * 9 + 8, none⟩ = some (.slice ar16 r16.length cr16) := hcq 8 _ rfl
              have zz0 : w.cell? ⟨b', off' + k * 9, none⟩ = some (.int .i64 s00) := by simpa [Rd.n] using hcp 0 _ rfl
              have zz1 : w.cell? ⟨b', off' + k * 9 + 1, none⟩ = some (.string s01) := hcp 1 _ rfl
              have zz2 : w.cell? ⟨b', off' + k * 9 + 2, none⟩ = some (.int .i64 s10) := hcp 2 _ rfl
              have zz3 : w.cell? ⟨b', off' + k * 9 + 3, none⟩ = some (.int .i64 s11) := hcp 3 _ rfl
              have zz4 : w.cell? ⟨b', off' + k * 9 + 4, none⟩ = some (.int .i64 s12) := hcp 4 _ rfl
              have zz5 : w.cell? ⟨b', off' + k * 9 + 5, none⟩ = some (.int .i64 s13) := hcp 5 _ rfl
              have zz6 : w.cell? ⟨b', off' + k * 9 + 6, none⟩ = some (.string s14) := hcp 6 _ rfl
              have zz7 : w.cell? ⟨b', off' + k * 9 + 7, none⟩ = some (.string s15) := hcp 7 _ rfl
              have zz8 : w.cell? ⟨b', off' + k * 9 + 8, none⟩ = some (.slice as16 s16.length cs16) := hcp 8 _ rfl
              have hT := Lib.hid ht
              have HQ := Lib.hid hyq
              have HP := Lib.hid hyp
              clear hyq hyp hnya1 hnza1 h3 g3 ht hcsq hcsp hcq hcp hrq hrp
              have hcase : (r00 = s00 ∧ r01 = s01) ∨ (r00 ≠ s00) ∨ (r00 = s00 ∧ r01.toList ≠ s01.toList) :=
                (Classical.em (r00 = s00)).elim (fun t0 => (Classical.em (r01 = s01)).elim (fun t1 => .inl ⟨t0, t1⟩) (fun t1 => .inr (.inr ⟨t0, (fun e => t1 (str_inj e))⟩))) (fun t0 => .inr (.inl t0))
              rcases hcase with ⟨rfl, rfl⟩ | e | ⟨rfl, e⟩
              · go_wp2_with fail
                refine wp_region_grown (by kernel_rfl) (by kernel_rfl) ?_
                repeat (go_big_quiet_step ((go_at_call 57; refine grown_call (specEqExpr_any _ _ _ _ ya1 za1 _ (Rd.gr hrya1 ?_) (Rd.gr hrza1 ?_)) <;> exact (by repeat (first | exact Gr.refl _ | apply Gr.ext | apply Gr.alloc | apply Gr.drew)))))
                refine wpQuiet_nil ?_
                intro _ hw'
                obtain ⟨nx, hw''⟩ := hw'
                subst hw''
                go_wp2
                · have ht : (!decide (ya1 = za1)) = true := by assumption
                  go_ret
                  refine ⟨ret_bool (decide_eq_false fun hxy => ?_).symm, (by repeat (first | exact Gr.refl _ | apply Gr.ext | apply Gr.alloc | apply Gr.drew))⟩
                  obtain ⟨k0, k1, k2, k3, k4, k5⟩ := HE.out.1 hxy
                  refine dec_ne ht ?_
                  have h := (HQ.out.symm.trans (List.getElem_of_eq k4 hlt)).trans HP.out
                  simp only [Prod.mk.injEq, true_and] at h
                  simp [h]
                · have ht : (!decide (ya1 = za1)) = false := by assumption
                  have e2 := dec_eq ht
                  refine ⟨⟨k + 1, by omega, ?_, (by repeat (first | exact Gr.refl _ | apply Gr.ext | apply Gr.alloc | apply Gr.drew)), by go_num⟩, by simp [intOf]; omega⟩
                  rw [List.take_succ_eq_append_getElem hlt, List.take_succ_eq_append_getElem hlt2, hT.out, HQ.out, HP.out, e2]
              all_goals
              · have E := Lib.hid e
                go_wp2_with fail
                refine wp_region_grown (by kernel_rfl) (by kernel_rfl) ?_
                repeat (go_big_quiet_step (fail))
                refine wpQuiet_nil ?_
                intro _ hw'
                obtain ⟨nx, hw''⟩ := hw'
                subst hw''
                go_wp2
                go_ret
                refine ⟨ret_bool (decide_eq_false fun hxy => ?_).symm, (by repeat (first | exact Gr.refl _ | apply Gr.ext | apply Gr.alloc | apply Gr.drew))⟩
                obtain ⟨k0, k1, k2, k3, k4, k5⟩ := HE.out.1 hxy
                refine E.out ?_
                have h := (HQ.out.symm.trans (List.getElem_of_eq k4 hlt)).trans HP.out
                simp only [Prod.mk.injEq, true_and] at h
                simp [h]
            · have hk2 : k = q4.length := by omega
              subst hk2
              have e : q4 = p4 := by
                have h := ht
                have h' := hl4'.out
                rw [List.take_length, h', List.take_length] at h
                exact h
              have E4 := Lib.hid e
              clear e ht h3 g3
              go_wp2_with fail
              go_loopw [6] (fun s6 wr => ∃ k : Nat, k ≤ q5.length ∧ q5.take k = p5.take k ∧ Gr ((w.alloc (Obj.cells #[.string q0, .string q1, .slice aq2 q2.length cq2, .bool p3, .slice aq4 q4.length cq4, .slice aq5 q5.length cq5] 75)).alloc (Obj.cells #[.string p0, .string p1, .slice ap2 p2.length cp2, .bool p3, .slice ap4 p4.length cp4, .slice ap5 p5.length cp5] 75)) wr ∧ s6 = .int .i64 k) (fun s6 _ => q5.length - (intOf s6).toNat)
              case atStart => exact ⟨0, by omega, rfl, (by repeat (first | exact Gr.refl _ | apply Gr.ext | apply Gr.alloc | apply Gr.drew)), rfl⟩
              case round =>
                obtain ⟨k, hk, ht, ⟨x, rfl⟩, rfl⟩ := hrel
                by_cases hlt : k < q5.length
                · have hlt2 : k < p5.length := by have := hl5'.out; omega
                  obtain ⟨b, off, rfl, hb⟩ := i3 k hlt
                  obtain ⟨b', off', rfl, hb'⟩ := j3 k hlt2
                  obtain ⟨csq, feq, hcq, hrq, -⟩ := sq5.at hlt
                  have hrdq := hrq
                  generalize hyq : q5[k] = yq at hrq
                  obtain ⟨r0, r1, ⟨r20, r21, r22, r23, r24, r25, r26⟩, ⟨r30, r31, r32, r33, r34, r35, r36⟩⟩ := yq
                  obtain ⟨vr26, fr26, vr36, fr36, hcsq, -, hr0, hr1, hr20, hr21, hr22, hr23, hr24, hr25, hr26, hr30, hr31, hr32, hr33, hr34, hr35, hr36⟩ := rdContribution_inv (cs := csq.toArray) r0 r1 r20 r21 r22 r23 r24 r25 r26 r30 r31 r32 r33 r34 r35 r36 (by simpa using hrq)
                  obtain rfl : csq = [.string r0, .string r1, .int .i64 r20, .int .i64 r21, .int .i64 r22, .int .i64 r23, .string r24, .string r25, vr26, .int .i64 r30, .int .i64 r31, .int .i64 r32, .int .i64 r33, .string r34, .string r35, vr36] := by have := congrArg Array.toList hcsq; simpa using this
                  obtain ⟨csp, fep, hcp, hrp, -⟩ := sp5.at hlt2
                  have hrdp := hrp
                  generalize hyp : p5[k] = yp at hrp
                  obtain ⟨s0, s1, ⟨s20, s21, s22, s23, s24, s25, s26⟩, ⟨s30, s31, s32, s33, s34, s35, s36⟩⟩ := yp
                  obtain ⟨vs26, fs26, vs36, fs36, hcsp, -, hs0, hs1, hs20, hs21, hs22, hs23, hs24, hs25, hs26, hs30, hs31, hs32, hs33, hs34, hs35, hs36⟩ := rdContribution_inv (cs := csp.toArray) s0 s1 s20 s21 s22 s23 s24 s25 s26 s30 s31 s32 s33 s34 s35 s36 (by simpa using hrp)
                  obtain rfl : csp = [.string s0, .string s1, .int .i64 s20, .int .i64 s21, .int .i64 s22, .int .i64 s23, .string s24, .string s25, vs26, .int .i64 s30, .int .i64 s31, .int .i64 s32, .int .i64 s33, .string s34, .string s35, vs36] := by have := congrArg Array.toList hcsp; simpa using this
                  have hrya2 := (rdExpr_mk r20 r21 r22 r23 r24 r25 r26 hr20 hr21 hr22 hr23 hr24 hr25 hr26 : Rd.rd (α := GExpr d) _ w _ _)
                  obtain ⟨ya2, hnya2⟩ : ∃ y : GExpr d, y = (r20, r21, r22, r23, r24, r25, r26) := ⟨_, rfl⟩
                  rw [← hnya2] at hrya2
                  rw [← hnya2] at hyq
                  have hrya3 := (rdExpr_mk r30 r31 r32 r33 r34 r35 r36 hr30 hr31 hr32 hr33 hr34 hr35 hr36 : Rd.rd (α := GExpr d) _ w _ _)
                  obtain ⟨ya3, hnya3⟩ : ∃ y : GExpr d, y = (r30, r31, r32, r33, r34, r35, r36) := ⟨_, rfl⟩
                  rw [← hnya3] at hrya3
                  rw [← hnya3] at hyq
                  have hrza2 := (rdExpr_mk s20 s21 s22 s23 s24 s25 s26 hs20 hs21 hs22 hs23 hs24 hs25 hs26 : Rd.rd (α := GExpr d) _ w _ _)
                  obtain ⟨za2, hnza2⟩ : ∃ y : GExpr d, y = (s20, s21, s22, s23, s24, s25, s26) := ⟨_, rfl⟩
                  rw [← hnza2] at hrza2
                  rw [← hnza2] at hyp
                  have hrza3 := (rdExpr_mk s30 s31 s32 s33 s34 s35 s36 hs30 hs31 hs32 hs33 hs34 hs35 hs36 : Rd.rd (α := GExpr d) _ w _ _)
                  obtain ⟨za3, hnza3⟩ : ∃ y : GExpr d, y = (s30, s31, s32, s33, s34, s35, s36) := ⟨_, rfl⟩
                  rw [← hnza3] at hrza3
                  rw [← hnza3] at hyp
                  obtain ⟨ar26, cr26, rfl, -, -, -⟩ := hr26.open
                  obtain ⟨ar36, cr36, rfl, -, -, -⟩ := hr36.open
                  obtain ⟨as26, cs26, rfl, -, -, -⟩ := hs26.open
                  obtain ⟨as36, cs36, rfl, -, -, -⟩ := hs36.open
                  have z0 : w.cell? ⟨b, off + k * 16, none⟩ = some (.string r0) := by simpa [Rd.n] using hcq 0 _ rfl
                  have z1 : w.cell? ⟨b, off + k * 16 + 1, none⟩ = some (.string r1) := hcq 1 _ rfl
                  have z2 : w.cell? ⟨b, off + k * 16 + 2, none⟩ = some (.int .i64 r20) := hcq 2 _ rfl
                  have z3 : w.cell? ⟨b, off + k * 16 + 3, none⟩ = some (.int .i64 r21) := hcq 3 _ rfl
                  have z4 : w.cell? ⟨b, off + k * 16 + 4, none⟩ = some (.int .i64 r22) := hcq 4 _ rfl
                  have z5 : w.cell? ⟨b, off + k * 16 + 5, none⟩ = some (.int .i64 r23) := hcq 5 _ rfl
                  have z6 : w.cell? ⟨b, off + k * 16 + 6, none⟩ = some (.string r24) := hcq 6 _ rfl
                  have z7 : w.cell? ⟨b, off + k * 16 + 7, none⟩ = some (.string r25) := hcq 7 _ rfl
                  have z8 : w.cell? ⟨b, off + k * 16 + 8, none⟩ = some (.slice ar26 r26.length cr26) := hcq 8 _ rfl
                  have z9 : w.cell? ⟨b, off + k * 16 + 9, none⟩ = some (.int .i64 r30) := hcq 9 _ rfl
                  have z10 : w.cell? ⟨b, off + k * 16 + 10, none⟩ = some (.int .i64 r31) := hcq 10 _ rfl
                  have z11 : w.cell? ⟨b, off + k * 16 + 11, none⟩ = some (.int .i64 r32) := hcq 11 _ rfl
                  have z12 : w.cell? ⟨b, off + k * 16 + 12, none⟩ = some (.int .i64 r33) := hcq 12 _ rfl
                  have z13 : w.cell? ⟨b, off + k * 16 + 13, none⟩ = some (.string r34) := hcq 13 _ rfl
                  have z14 : w.cell? ⟨b, off + k * 16 + 14, none⟩ = some (.string r35) := hcq 14 _ rfl
                  have z15 : w.cell? ⟨b, off + k * 16 + 15, none⟩ = some (.slice ar36 r36.length cr36) := hcq 15 _ rfl
                  have zz0 : w.cell? ⟨b', off' + k * 16, none⟩ = some (.string s0) := by simpa [Rd.n] using hcp 0 _ rfl
                  have zz1 : w.cell? ⟨b', off' + k * 16 + 1, none⟩ = some (.string s1) := hcp 1 _ rfl
                  have zz2 : w.cell? ⟨b', off' + k * 16 + 2, none⟩ = some (.int .i64 s20) := hcp 2 _ rfl
                  have zz3 : w.cell? ⟨b', off' + k * 16 + 3, none⟩ = some (.int .i64 s21) := hcp 3 _ rfl
                  have zz4 : w.cell? ⟨b', off' + k * 16 + 4, none⟩ = some (.int .i64 s22) := hcp 4 _ rfl
                  have zz5 : w.cell? ⟨b', off' + k * 16 + 5, none⟩ = some (.int .i64 s23) := hcp 5 _ rfl
                  have zz6 : w.cell? ⟨b', off' + k * 16 + 6, none⟩ = some (.string s24) := hcp 6 _ rfl
                  have zz7 : w.cell? ⟨b', off' + k * 16 + 7, none⟩ = some (.string s25) := hcp 7 _ rfl
                  have zz8 : w.cell? ⟨b', off' + k * 16 + 8, none⟩ = some (.slice as26 s26.length cs26) := hcp 8 _ rfl
                  have zz9 : w.cell? ⟨b', off' + k * 16 + 9, none⟩ = some (.int .i64 s30) := hcp 9 _ rfl
                  have zz10 : w.cell? ⟨b', off' + k * 16 + 10, none⟩ = some (.int .i64 s31) := hcp 10 _ rfl
                  have zz11 : w.cell? ⟨b', off' + k * 16 + 11, none⟩ = some (.int .i64 s32) := hcp 11 _ rfl
                  have zz12 : w.cell? ⟨b', off' + k * 16 + 12, none⟩ = some (.int .i64 s33) := hcp 12 _ rfl
                  have zz13 : w.cell? ⟨b', off' + k * 16 + 13, none⟩ = some (.string s34) := hcp 13 _ rfl
                  have zz14 : w.cell? ⟨b', off' + k * 16 + 14, none⟩ = some (.string s35) := hcp 14 _ rfl
                  have zz15 : w.cell? ⟨b', off' + k * 16 + 15, none⟩ = some (.slice as36 s36.length cs36) := hcp 15 _ rfl
                  have hT := Lib.hid ht
                  have HQ := Lib.hid hyq
                  have HP := Lib.hid hyp
                  clear hyq hyp hnya2 hnya3 hnza2 hnza3 i3 j3 ht hcsq hcsp hcq hcp hrq hrp
                  go_upto_region 11 with fail
                  go_cut [6, 7] from 90 to 134 (fun s6 s7 wr => HeldBox ((w.alloc (Obj.cells #[.string q0, .string q1, .slice aq2 q2.length cq2, .bool p3, .slice aq4 q4.length cq4, .slice (some ⟨b, off, none⟩) q5.length cq5] 75)).alloc (Obj.cells #[.string p0, .string p1, .slice ap2 p2.length cp2, .bool p3, .slice ap4 p4.length cp4, .slice (some ⟨b', off', none⟩) p5.length cp5] 75)) wr [.string r0, .string r1, .int .i64 r20, .int .i64 r21, .int .i64 r22, .int .i64 r23, .string r24, .string r25, .slice ar26 r26.length cr26, .int .i64 r30, .int .i64 r31, .int .i64 r32, .int .i64 r33, .string r34, .string r35, .slice ar36 r36.length cr36] s7 ∧ s6 = .int .i64 k)
                  case first => as_aux_lemma =>
                    go_wp2_with fail
                    go_meet
                    exact ⟨⟨_, rfl, (by repeat (first | exact Gr.refl _ | apply Gr.ext | apply Gr.alloc | apply Gr.drew)), fun i v h => box_cell (by simp) (by simpa using h)⟩, rfl⟩
                  obtain ⟨⟨n8, rfl, ⟨y8, rfl⟩, hn8⟩, rfl⟩ := hcut
                  go_upto_region 12 with fail
                  go_cut [6, 7, 8] from 90 to 134 (fun s6 s7 s8 wr => HeldBox (((w.alloc (Obj.cells #[.string q0, .string q1, .slice aq2 q2.length cq2, .bool p3, .slice aq4 q4.length cq4, .slice (some ⟨b, off, none⟩) q5.length cq5] 75)).alloc (Obj.cells #[.string p0, .string p1, .slice ap2 p2.length cp2, .bool p3, .slice ap4 p4.length cp4, .slice (some ⟨b', off', none⟩) p5.length cp5] 75)).ext y8) wr [.string s0, .string s1, .int .i64 s20, .int .i64 s21, .int .i64 s22, .int .i64 s23, .string s24, .string s25, .slice as26 s26.length cs26, .int .i64 s30, .int .i64 s31, .int .i64 s32, .int .i64 s33, .string s34, .string s35, .slice as36 s36.length cs36] s8 ∧ s6 = .int .i64 k ∧ s7 = .pointer (some ⟨n8, 0, none⟩))
                  case first => as_aux_lemma =>
                    go_wp2_with fail
                    go_meet
                    exact ⟨⟨_, rfl, (by repeat (first | exact Gr.refl _ | apply Gr.ext | apply Gr.alloc | apply Gr.drew)), fun i v h => box_cell (by simp) (by simpa using h)⟩, rfl, rfl⟩
                  obtain ⟨⟨n9, rfl, g9, hn9⟩, rfl, rfl⟩ := hcut
                  have hm8 : ∀ i v, ([.string r0, .string r1, .int .i64 r20, .int .i64 r21, .int .i64 r22, .int .i64 r23, .string r24, .string r25, .slice ar26 r26.length cr26, .int .i64 r30, .int .i64 r31, .int .i64 r32, .int .i64 r33, .string r34, .string r35, .slice ar36 r36.length cr36] : List Value)[i]? = some v → _ := fun i v h => g9.keep (hn8 i v h)
                  obtain ⟨y9, rfl⟩ := g9
                  have u0 : ((((w.alloc (Obj.cells #[.string q0, .string q1, .slice aq2 q2.length cq2, .bool p3, .slice aq4 q4.length cq4, .slice (some ⟨b, off, none⟩) q5.length cq5] 75)).alloc (Obj.cells #[.string p0, .string p1, .slice ap2 p2.length cp2, .bool p3, .slice ap4 p4.length cp4, .slice (some ⟨b', off', none⟩) p5.length cp5] 75)).ext y8).ext y9).cell? ⟨n8, 0, none⟩ = some (.string r0) := hm8 0 _ rfl
                  have u1 : ((((w.alloc (Obj.cells #[.string q0, .string q1, .slice aq2 q2.length cq2, .bool p3, .slice aq4 q4.length cq4, .slice (some ⟨b, off, none⟩) q5.length cq5] 75)).alloc (Obj.cells #[.string p0, .string p1, .slice ap2 p2.length cp2, .bool p3, .slice ap4 p4.length cp4, .slice (some ⟨b', off', none⟩) p5.length cp5] 75)).ext y8).ext y9).cell? ⟨n8, 1, none⟩ = some (.string r1) := hm8 1 _ rfl
                  have u2 : ((((w.alloc (Obj.cells #[.string q0, .string q1, .slice aq2 q2.length cq2, .bool p3, .slice aq4 q4.length cq4, .slice (some ⟨b, off, none⟩) q5.length cq5] 75)).alloc (Obj.cells #[.string p0, .string p1, .slice ap2 p2.length cp2, .bool p3, .slice ap4 p4.length cp4, .slice (some ⟨b', off', none⟩) p5.length cp5] 75)).ext y8).ext y9).cell? ⟨n8, 2, none⟩ = some (.int .i64 r20) := hm8 2 _ rfl
                  have u3 : ((((w.alloc (Obj.cells #[.string q0, .string q1, .slice aq2 q2.length cq2, .bool p3, .slice aq4 q4.length cq4, .slice (some ⟨b, off, none⟩) q5.length cq5] 75)).alloc (Obj.cells #[.string p0, .string p1, .slice ap2 p2.length cp2, .bool p3, .slice ap4 p4.length cp4, .slice (some ⟨b', off', none⟩) p5.length cp5] 75)).ext y8).ext y9).cell? ⟨n8, 3, none⟩ = some (.int .i64 r21) := hm8 3 _ rfl
                  have u4 : ((((w.alloc (Obj.cells #[.string q0, .string q1, .slice aq2 q2.length cq2, .bool p3, .slice aq4 q4.length cq4, .slice (some ⟨b, off, none⟩) q5.length cq5] 75)).alloc (Obj.cells #[.string p0, .string p1, .slice ap2 p2.length cp2, .bool p3, .slice ap4 p4.length cp4, .slice (some ⟨b', off', none⟩) p5.length cp5] 75)).ext y8).ext y9).cell? ⟨n8, 4, none⟩ = some (.int .i64 r22) := hm8 4 _ rfl
                  have u5 : ((((w.alloc (Obj.cells #[.string q0, .string q1, .slice aq2 q2.length cq2, .bool p3, .slice aq4 q4.length cq4, .slice (some ⟨b, off, none⟩) q5.length cq5] 75)).alloc (Obj.cells #[.string p0, .string p1, .slice ap2 p2.length cp2, .bool p3, .slice ap4 p4.length cp4, .slice (some ⟨b', off', none⟩) p5.length cp5] 75)).ext y8).ext y9).cell? ⟨n8, 5, none⟩ = some (.int .i64 r23) := hm8 5 _ rfl
                  have u6 : ((((w.alloc (Obj.cells #[.string q0, .string q1, .slice aq2 q2.length cq2, .bool p3, .slice aq4 q4.length cq4, .slice (some ⟨b, off, none⟩) q5.length cq5] 75)).alloc (Obj.cells #[.string p0, .string p1, .slice ap2 p2.length cp2, .bool p3, .slice ap4 p4.length cp4, .slice (some ⟨b', off', none⟩) p5.length cp5] 75)).ext y8).ext y9).cell? ⟨n8, 6, none⟩ = some (.string r24) := hm8 6 _ rfl
                  have u7 : ((((w.alloc (Obj.cells #[.string q0, .string q1, .slice aq2 q2.length cq2, .bool p3, .slice aq4 q4.length cq4, .slice (some ⟨b, off, none⟩) q5.length cq5] 75)).alloc (Obj.cells #[.string p0, .string p1, .slice ap2 p2.length cp2, .bool p3, .slice ap4 p4.length cp4, .slice (some ⟨b', off', none⟩) p5.length cp5] 75)).ext y8).ext y9).cell? ⟨n8, 7, none⟩ = some (.string r25) := hm8 7 _ rfl
                  have u8 : ((((w.alloc (Obj.cells #[.string q0, .string q1, .slice aq2 q2.length cq2, .bool p3, .slice aq4 q4.length cq4, .slice (some ⟨b, off, none⟩) q5.length cq5] 75)).alloc (Obj.cells #[.string p0, .string p1, .slice ap2 p2.length cp2, .bool p3, .slice ap4 p4.length cp4, .slice (some ⟨b', off', none⟩) p5.length cp5] 75)).ext y8).ext y9).cell? ⟨n8, 8, none⟩ = some (.slice ar26 r26.length cr26) := hm8 8 _ rfl
                  have u9 : ((((w.alloc (Obj.cells #[.string q0, .string q1, .slice aq2 q2.length cq2, .bool p3, .slice aq4 q4.length cq4, .slice (some ⟨b, off, none⟩) q5.length cq5] 75)).alloc (Obj.cells #[.string p0, .string p1, .slice ap2 p2.length cp2, .bool p3, .slice ap4 p4.length cp4, .slice (some ⟨b', off', none⟩) p5.length cp5] 75)).ext y8).ext y9).cell? ⟨n8, 9, none⟩ = some (.int .i64 r30) := hm8 9 _ rfl
                  have u10 : ((((w.alloc (Obj.cells #[.string q0, .string q1, .slice aq2 q2.length cq2, .bool p3, .slice aq4 q4.length cq4, .slice (some ⟨b, off, none⟩) q5.length cq5] 75)).alloc (Obj.cells #[.string p0, .string p1, .slice ap2 p2.length cp2, .bool p3, .slice ap4 p4.length cp4, .slice (some ⟨b', off', none⟩) p5.length cp5] 75)).ext y8).ext y9).cell? ⟨n8, 10, none⟩ = some (.int .i64 r31) := hm8 10 _ rfl
                  have u11 : ((((w.alloc (Obj.cells #[.string q0, .string q1, .slice aq2 q2.length cq2, .bool p3, .slice aq4 q4.length cq4, .slice (some ⟨b, off, none⟩) q5.length cq5] 75)).alloc (Obj.cells #[.string p0, .string p1, .slice ap2 p2.length cp2, .bool p3, .slice ap4 p4.length cp4, .slice (some ⟨b', off', none⟩) p5.length cp5] 75)).ext y8).ext y9).cell? ⟨n8, 11, none⟩ = some (.int .i64 r32) := hm8 11 _ rfl
                  have u12 : ((((w.alloc (Obj.cells #[.string q0, .string q1, .slice aq2 q2.length cq2, .bool p3, .slice aq4 q4.length cq4, .slice (some ⟨b, off, none⟩) q5.length cq5] 75)).alloc (Obj.cells #[.string p0, .string p1, .slice ap2 p2.length cp2, .bool p3, .slice ap4 p4.length cp4, .slice (some ⟨b', off', none⟩) p5.length cp5] 75)).ext y8).ext y9).cell? ⟨n8, 12, none⟩ = some (.int .i64 r33) := hm8 12 _ rfl
                  have u13 : ((((w.alloc (Obj.cells #[.string q0, .string q1, .slice aq2 q2.length cq2, .bool p3, .slice aq4 q4.length cq4, .slice (some ⟨b, off, none⟩) q5.length cq5] 75)).alloc (Obj.cells #[.string p0, .string p1, .slice ap2 p2.length cp2, .bool p3, .slice ap4 p4.length cp4, .slice (some ⟨b', off', none⟩) p5.length cp5] 75)).ext y8).ext y9).cell? ⟨n8, 13, none⟩ = some (.string r34) := hm8 13 _ rfl
                  have u14 : ((((w.alloc (Obj.cells #[.string q0, .string q1, .slice aq2 q2.length cq2, .bool p3, .slice aq4 q4.length cq4, .slice (some ⟨b, off, none⟩) q5.length cq5] 75)).alloc (Obj.cells #[.string p0, .string p1, .slice ap2 p2.length cp2, .bool p3, .slice ap4 p4.length cp4, .slice (some ⟨b', off', none⟩) p5.length cp5] 75)).ext y8).ext y9).cell? ⟨n8, 14, none⟩ = some (.string r35) := hm8 14 _ rfl
                  have u15 : ((((w.alloc (Obj.cells #[.string q0, .string q1, .slice aq2 q2.length cq2, .bool p3, .slice aq4 q4.length cq4, .slice (some ⟨b, off, none⟩) q5.length cq5] 75)).alloc (Obj.cells #[.string p0, .string p1, .slice ap2 p2.length cp2, .bool p3, .slice ap4 p4.length cp4, .slice (some ⟨b', off', none⟩) p5.length cp5] 75)).ext y8).ext y9).cell? ⟨n8, 15, none⟩ = some (.slice ar36 r36.length cr36) := hm8 15 _ rfl
                  have v0 : ((((w.alloc (Obj.cells #[.string q0, .string q1, .slice aq2 q2.length cq2, .bool p3, .slice aq4 q4.length cq4, .slice (some ⟨b, off, none⟩) q5.length cq5] 75)).alloc (Obj.cells #[.string p0, .string p1, .slice ap2 p2.length cp2, .bool p3, .slice ap4 p4.length cp4, .slice (some ⟨b', off', none⟩) p5.length cp5] 75)).ext y8).ext y9).cell? ⟨n9, 0, none⟩ = some (.string s0) := hn9 0 _ rfl
                  have v1 : ((((w.alloc (Obj.cells #[.string q0, .string q1, .slice aq2 q2.length cq2, .bool p3, .slice aq4 q4.length cq4, .slice (some ⟨b, off, none⟩) q5.length cq5] 75)).alloc (Obj.cells #[.string p0, .string p1, .slice ap2 p2.length cp2, .bool p3, .slice ap4 p4.length cp4, .slice (some ⟨b', off', none⟩) p5.length cp5] 75)).ext y8).ext y9).cell? ⟨n9, 1, none⟩ = some (.string s1) := hn9 1 _ rfl
                  have v2 : ((((w.alloc (Obj.cells #[.string q0, .string q1, .slice aq2 q2.length cq2, .bool p3, .slice aq4 q4.length cq4, .slice (some ⟨b, off, none⟩) q5.length cq5] 75)).alloc (Obj.cells #[.string p0, .string p1, .slice ap2 p2.length cp2, .bool p3, .slice ap4 p4.length cp4, .slice (some ⟨b', off', none⟩) p5.length cp5] 75)).ext y8).ext y9).cell? ⟨n9, 2, none⟩ = some (.int .i64 s20) := hn9 2 _ rfl
                  have v3 : ((((w.alloc (Obj.cells #[.string q0, .string q1, .slice aq2 q2.length cq2, .bool p3, .slice aq4 q4.length cq4, .slice (some ⟨b, off, none⟩) q5.length cq5] 75)).alloc (Obj.cells #[.string p0, .string p1, .slice ap2 p2.length cp2, .bool p3, .slice ap4 p4.length cp4, .slice (some ⟨b', off', none⟩) p5.length cp5] 75)).ext y8).ext y9).cell? ⟨n9, 3, none⟩ = some (.int .i64 s21) := hn9 3 _ rfl
                  have v4 : ((((w.alloc (Obj.cells #[.string q0, .string q1, .slice aq2 q2.length cq2, .bool p3, .slice aq4 q4.length cq4, .slice (some ⟨b, off, none⟩) q5.length cq5] 75)).alloc (Obj.cells #[.string p0, .string p1, .slice ap2 p2.length cp2, .bool p3, .slice ap4 p4.length cp4, .slice (some ⟨b', off', none⟩) p5.length cp5] 75)).ext y8).ext y9).cell? ⟨n9, 4, none⟩ = some (.int .i64 s22) := hn9 4 _ rfl
                  have v5 : ((((w.alloc (Obj.cells #[.string q0, .string q1, .slice aq2 q2.length cq2, .bool p3, .slice aq4 q4.length cq4, .slice (some ⟨b, off, none⟩) q5.length cq5] 75)).alloc (Obj.cells #[.string p0, .string p1, .slice ap2 p2.length cp2, .bool p3, .slice ap4 p4.length cp4, .slice (some ⟨b', off', none⟩) p5.length cp5] 75)).ext y8).ext y9).cell? ⟨n9, 5, none⟩ = some (.int .i64 s23) := hn9 5 _ rfl
                  have v6 : ((((w.alloc (Obj.cells #[.string q0, .string q1, .slice aq2 q2.length cq2, .bool p3, .slice aq4 q4.length cq4, .slice (some ⟨b, off, none⟩) q5.length cq5] 75)).alloc (Obj.cells #[.string p0, .string p1, .slice ap2 p2.length cp2, .bool p3, .slice ap4 p4.length cp4, .slice (some ⟨b', off', none⟩) p5.length cp5] 75)).ext y8).ext y9).cell? ⟨n9, 6, none⟩ = some (.string s24) := hn9 6 _ rfl
                  have v7 : ((((w.alloc (Obj.cells #[.string q0, .string q1, .slice aq2 q2.length cq2, .bool p3, .slice aq4 q4.length cq4, .slice (some ⟨b, off, none⟩) q5.length cq5] 75)).alloc (Obj.cells #[.string p0, .string p1, .slice ap2 p2.length cp2, .bool p3, .slice ap4 p4.length cp4, .slice (some ⟨b', off', none⟩) p5.length cp5] 75)).ext y8).ext y9).cell? ⟨n9, 7, none⟩ = some (.string s25) := hn9 7 _ rfl
                  have v8 : ((((w.alloc (Obj.cells #[.string q0, .string q1, .slice aq2 q2.length cq2, .bool p3, .slice aq4 q4.length cq4, .slice (some ⟨b, off, none⟩) q5.length cq5] 75)).alloc (Obj.cells #[.string p0, .string p1, .slice ap2 p2.length cp2, .bool p3, .slice ap4 p4.length cp4, .slice (some ⟨b', off', none⟩) p5.length cp5] 75)).ext y8).ext y9).cell? ⟨n9, 8, none⟩ = some (.slice as26 s26.length cs26) := hn9 8 _ rfl
                  have v9 : ((((w.alloc (Obj.cells #[.string q0, .string q1, .slice aq2 q2.length cq2, .bool p3, .slice aq4 q4.length cq4, .slice (some ⟨b, off, none⟩) q5.length cq5] 75)).alloc (Obj.cells #[.string p0, .string p1, .slice ap2 p2.length cp2, .bool p3, .slice ap4 p4.length cp4, .slice (some ⟨b', off', none⟩) p5.length cp5] 75)).ext y8).ext y9).cell? ⟨n9, 9, none⟩ = some (.int .i64 s30) := hn9 9 _ rfl
                  have v10 : ((((w.alloc (Obj.cells #[.string q0, .string q1, .slice aq2 q2.length cq2, .bool p3, .slice aq4 q4.length cq4, .slice (some ⟨b, off, none⟩) q5.length cq5] 75)).alloc (Obj.cells #[.string p0, .string p1, .slice ap2 p2.length cp2, .bool p3, .slice ap4 p4.length cp4, .slice (some ⟨b', off', none⟩) p5.length cp5] 75)).ext y8).ext y9).cell? ⟨n9, 10, none⟩ = some (.int .i64 s31) := hn9 10 _ rfl
                  have v11 : ((((w.alloc (Obj.cells #[.string q0, .string q1, .slice aq2 q2.length cq2, .bool p3, .slice aq4 q4.length cq4, .slice (some ⟨b, off, none⟩) q5.length cq5] 75)).alloc (Obj.cells #[.string p0, .string p1, .slice ap2 p2.length cp2, .bool p3, .slice ap4 p4.length cp4, .slice (some ⟨b', off', none⟩) p5.length cp5] 75)).ext y8).ext y9).cell? ⟨n9, 11, none⟩ = some (.int .i64 s32) := hn9 11 _ rfl
                  have v12 : ((((w.alloc (Obj.cells #[.string q0, .string q1, .slice aq2 q2.length cq2, .bool p3, .slice aq4 q4.length cq4, .slice (some ⟨b, off, none⟩) q5.length cq5] 75)).alloc (Obj.cells #[.string p0, .string p1, .slice ap2 p2.length cp2, .bool p3, .slice ap4 p4.length cp4, .slice (some ⟨b', off', none⟩) p5.length cp5] 75)).ext y8).ext y9).cell? ⟨n9, 12, none⟩ = some (.int .i64 s33) := hn9 12 _ rfl
                  have v13 : ((((w.alloc (Obj.cells #[.string q0, .string q1, .slice aq2 q2.length cq2, .bool p3, .slice aq4 q4.length cq4, .slice (some ⟨b, off, none⟩) q5.length cq5] 75)).alloc (Obj.cells #[.string p0, .string p1, .slice ap2 p2.length cp2, .bool p3, .slice ap4 p4.length cp4, .slice (some ⟨b', off', none⟩) p5.length cp5] 75)).ext y8).ext y9).cell? ⟨n9, 13, none⟩ = some (.string s34) := hn9 13 _ rfl
                  have v14 : ((((w.alloc (Obj.cells #[.string q0, .string q1, .slice aq2 q2.length cq2, .bool p3, .slice aq4 q4.length cq4, .slice (some ⟨b, off, none⟩) q5.length cq5] 75)).alloc (Obj.cells #[.string p0, .string p1, .slice ap2 p2.length cp2, .bool p3, .slice ap4 p4.length cp4, .slice (some ⟨b', off', none⟩) p5.length cp5] 75)).ext y8).ext y9).cell? ⟨n9, 14, none⟩ = some (.string s35) := hn9 14 _ rfl
                  have v15 : ((((w.alloc (Obj.cells #[.string q0, .string q1, .slice aq2 q2.length cq2, .bool p3, .slice aq4 q4.length cq4, .slice (some ⟨b, off, none⟩) q5.length cq5] 75)).alloc (Obj.cells #[.string p0, .string p1, .slice ap2 p2.length cp2, .bool p3, .slice ap4 p4.length cp4, .slice (some ⟨b', off', none⟩) p5.length cp5] 75)).ext y8).ext y9).cell? ⟨n9, 15, none⟩ = some (.slice as36 s36.length cs36) := hn9 15 _ rfl
                  clear hn8 hm8 hn9 z0 zz0 z1 zz1 z2 zz2 z3 zz3 z4 zz4 z5 zz5 z6 zz6 z7 zz7 z8 zz8 z9 zz9 z10 zz10 z11 zz11 z12 zz12 z13 zz13 z14 zz14 z15 zz15
                  have hb8 := blk u0
                  have hb9 := blk v0
                  have hb8x := hb8
                  have hb9x := hb9
                  try simp at hb8x
                  try simp at hb9x
                  go_wp2_with fail
                  · skip
                    have e0 : r0 = s0 := str_inj (by assumption)
                    have e1 : r1 = s1 := str_inj (by assumption)
                    have F01 := Lib.hid (And.intro e0 e1)
                    clear e0 e1
                    refine (specEqExpr_any _ _ _ _ ya2 za2 _ (Rd.gr hrya2 (by repeat (first | exact Gr.refl _ | apply Gr.ext | apply Gr.alloc | apply Gr.drew))) (Rd.gr hrza2 (by repeat (first | exact Gr.refl _ | apply Gr.ext | apply Gr.alloc | apply Gr.drew)))).mono ?_
                    rintro e w5 ⟨rfl, x5, rfl⟩
                    by_cases e2 : ya2 = za2
                    · rw [decide_eq_true e2]
                      have F2 := Lib.hid e2
                      clear e2
                      go_wp2_with fail
                      refine (specEqExpr_any _ _ _ _ ya3 za3 _ (Rd.gr hrya3 (by repeat (first | exact Gr.refl _ | apply Gr.ext | apply Gr.alloc | apply Gr.drew))) (Rd.gr hrza3 (by repeat (first | exact Gr.refl _ | apply Gr.ext | apply Gr.alloc | apply Gr.drew)))).mono ?_
                      rintro e w6 ⟨rfl, x6, rfl⟩
                      by_cases e3 : ya3 = za3
                      · rw [decide_eq_true e3]
                        have F3 := Lib.hid e3
                        clear e3
                        go_wp2_with fail
                        refine ⟨⟨k + 1, by omega, ?_, (by repeat (first | exact Gr.refl _ | apply Gr.ext | apply Gr.alloc | apply Gr.drew)), by go_num⟩, by simp [intOf]; omega⟩
                        obtain ⟨e0, e1⟩ := F01.out
                        rw [List.take_succ_eq_append_getElem hlt, List.take_succ_eq_append_getElem hlt2, hT.out, HQ.out, HP.out, e0, e1, F2.out, F3.out]
                      · rw [decide_eq_false e3]
                        have F3 := Lib.hid e3
                        clear e3
                        go_wp2_with fail
                        go_ret
                        refine ⟨ret_bool (decide_eq_false fun hxy => ?_).symm, (by repeat (first | exact Gr.refl _ | apply Gr.ext | apply Gr.alloc | apply Gr.drew))⟩
                        obtain ⟨k0, k1, k2, k3, k4, k5⟩ := HE.out.1 hxy
                        have h := (HQ.out.symm.trans (List.getElem_of_eq k5 hlt)).trans HP.out
                        exact F3.out (congrArg (fun z : GContribution d => z.2.2.2) h)
                    · rw [decide_eq_false e2]
                      have F2 := Lib.hid e2
                      clear e2
                      go_wp2_with fail
                      go_ret
                      refine ⟨ret_bool (decide_eq_false fun hxy => ?_).symm, (by repeat (first | exact Gr.refl _ | apply Gr.ext | apply Gr.alloc | apply Gr.drew))⟩
                      obtain ⟨k0, k1, k2, k3, k4, k5⟩ := HE.out.1 hxy
                      have h := (HQ.out.symm.trans (List.getElem_of_eq k5 hlt)).trans HP.out
                      exact F2.out (congrArg (fun z : GContribution d => z.2.2.1) h)
                  all_goals
                  · skip
                    go_ret
                    refine ⟨ret_bool (decide_eq_false fun hxy => ?_).symm, (by repeat (first | exact Gr.refl _ | apply Gr.ext | apply Gr.alloc | apply Gr.drew))⟩
                    obtain ⟨k0, k1, k2, k3, k4, k5⟩ := HE.out.1 hxy
                    have h := (HQ.out.symm.trans (List.getElem_of_eq k5 hlt)).trans HP.out
                    have m0 : r0.toList = s0.toList := congrArg (fun z : GContribution d => z.1.toList) h
                    have m1 : r1.toList = s1.toList := congrArg (fun z : GContribution d => z.2.1.toList) h
                    first
                    | exact absurd m0 (by assumption)
                    | exact absurd m1 (by assumption)
                · have hk2 : k = q5.length := by omega
                  subst hk2
                  have e : q5 = p5 := by
                    have h := ht
                    have h' := hl5'.out
                    rw [List.take_length, h', List.take_length] at h
                    exact h
                  have E5 := Lib.hid e
                  clear e ht
                  go_wp2_with fail
                  go_ret
                  obtain ⟨e0, e1, e3⟩ := E01.out
                  exact ⟨ret_bool (decide_eq_true (HE.out.2 ⟨e0, e1, E2.out, e3, E4.out, E5.out⟩)).symm, (by repeat (first | exact Gr.refl _ | apply Gr.ext | apply Gr.alloc | apply Gr.drew))⟩
        · rw [decide_eq_false e2]
          have E2 := Lib.hid e2
          clear e2
          go_wp2_with fail
          go_ret
          refine ⟨ret_bool (decide_eq_false fun hxy => ?_).symm, (by repeat (first | exact Gr.refl _ | apply Gr.ext | apply Gr.alloc | apply Gr.drew))⟩
          obtain ⟨k0, k1, k2, k3, k4, k5⟩ := HE.out.1 hxy
          exact E2.out k2
      all_goals
      · skip
        go_ret
        refine ⟨ret_bool (decide_eq_false fun hxy => ?_).symm, (by repeat (first | exact Gr.refl _ | apply Gr.ext | apply Gr.alloc | apply Gr.drew))⟩
        obtain ⟨k0, k1, k2, k3, k4, k5⟩ := HE.out.1 hxy
        first
        | exact absurd (congrArg ByteArray.toList k0) (by assumption)
        | exact absurd k0 (by assumption)
        | exact absurd (congrArg ByteArray.toList k1) (by assumption)
        | exact absurd k1 (by assumption)
        | exact absurd k3 (by assumption)
        | exact absurd (by rw [k3]; simp) (show ¬ (q3 == p3) = true by assumption)
    · have n5 : ((q5.length : Int) != (p5.length : Int)) = true := by simp; omega
      have HL := Lib.hid hl5
      clear hl5 h3 g3 i3 j3
      go_enter Tryz.func30, Tryz.ntmps30
      go_wp2_with fail
      · skip
        refine (l3Texts_any _ _ _ _ q2 p2 _ (sq2.gr (by repeat (first | exact Gr.refl _ | apply Gr.ext | apply Gr.alloc | apply Gr.drew))) (sp2.gr (by repeat (first | exact Gr.refl _ | apply Gr.ext | apply Gr.alloc | apply Gr.drew)))).mono ?_
        rintro e w3 ⟨rfl, x3, rfl⟩
        by_cases e2 : q2 = p2
        · rw [decide_eq_true e2]
          go_wp2_with fail
          go_ret
          refine ⟨ret_bool (decide_eq_false fun hxy => ?_).symm, (by repeat (first | exact Gr.refl _ | apply Gr.ext | apply Gr.alloc | apply Gr.drew))⟩
          obtain ⟨k0, k1, k2, k3, k4, k5⟩ := HE.out.1 hxy
          exact HL.out (congrArg List.length k5)
        · rw [decide_eq_false e2]
          have E2 := Lib.hid e2
          clear e2
          go_wp2_with fail
          go_ret
          refine ⟨ret_bool (decide_eq_false fun hxy => ?_).symm, (by repeat (first | exact Gr.refl _ | apply Gr.ext | apply Gr.alloc | apply Gr.drew))⟩
          obtain ⟨k0, k1, k2, k3, k4, k5⟩ := HE.out.1 hxy
          exact E2.out k2
      all_goals
      · skip
        go_ret
        refine ⟨ret_bool (decide_eq_false fun hxy => ?_).symm, (by repeat (first | exact Gr.refl _ | apply Gr.ext | apply Gr.alloc | apply Gr.drew))⟩
        obtain ⟨k0, k1, k2, k3, k4, k5⟩ := HE.out.1 hxy
        first
        | exact absurd (congrArg ByteArray.toList k0) (by assumption)
        | exact absurd k0 (by assumption)
        | exact absurd (congrArg ByteArray.toList k1) (by assumption)
        | exact absurd k1 (by assumption)
        | exact absurd k3 (by assumption)
        | exact absurd (by rw [k3]; simp) (show ¬ (q3 == p3) = true by assumption)
  · have n4 : ((q4.length : Int) != (p4.length : Int)) = true := by simp; omega
    have HL := Lib.hid hl4
    clear hl4 h3 g3 i3 j3
    go_enter Tryz.func30, Tryz.ntmps30
    go_wp2_with fail
    · skip
      refine (l3Texts_any _ _ _ _ q2 p2 _ (sq2.gr (by repeat (first | exact Gr.refl _ | apply Gr.ext | apply Gr.alloc | apply Gr.drew))) (sp2.gr (by repeat (first | exact Gr.refl _ | apply Gr.ext | apply Gr.alloc | apply Gr.drew)))).mono ?_
      rintro e w3 ⟨rfl, x3, rfl⟩
      by_cases e2 : q2 = p2
      · rw [decide_eq_true e2]
        go_wp2_with fail
        go_ret
        refine ⟨ret_bool (decide_eq_false fun hxy => ?_).symm, (by repeat (first | exact Gr.refl _ | apply Gr.ext | apply Gr.alloc | apply Gr.drew))⟩
        obtain ⟨k0, k1, k2, k3, k4, k5⟩ := HE.out.1 hxy
        exact HL.out (congrArg List.length k4)
      · rw [decide_eq_false e2]
        have E2 := Lib.hid e2
        clear e2
        go_wp2_with fail
        go_ret
        refine ⟨ret_bool (decide_eq_false fun hxy => ?_).symm, (by repeat (first | exact Gr.refl _ | apply Gr.ext | apply Gr.alloc | apply Gr.drew))⟩
        obtain ⟨k0, k1, k2, k3, k4, k5⟩ := HE.out.1 hxy
        exact E2.out k2
    all_goals
    · skip
      go_ret
      refine ⟨ret_bool (decide_eq_false fun hxy => ?_).symm, (by repeat (first | exact Gr.refl _ | apply Gr.ext | apply Gr.alloc | apply Gr.drew))⟩
      obtain ⟨k0, k1, k2, k3, k4, k5⟩ := HE.out.1 hxy
      first
      | exact absurd (congrArg ByteArray.toList k0) (by assumption)
      | exact absurd k0 (by assumption)
      | exact absurd (congrArg ByteArray.toList k1) (by assumption)
      | exact absurd k1 (by assumption)
      | exact absurd k3 (by assumption)
      | exact absurd (by rw [k3]; simp) (show ¬ (q3 == p3) = true by assumption)

end Go.Proofs.YtmdiabjaggadjaaGreat
