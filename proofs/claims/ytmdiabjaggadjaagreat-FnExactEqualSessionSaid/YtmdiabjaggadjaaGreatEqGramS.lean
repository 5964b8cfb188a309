/- spec.EqualGrammar. Made by mk_eqgrams.py. No condition. -/
import Derived.Test.YtmdiabjaggadjaaGreatEqRuleS
import Derived.Test.YtmdiabjaggadjaaGreatEqFuncR
namespace Go.Proofs.YtmdiabjaggadjaaGreat
open Go.RowKit
variable {d : Nat}

set_option maxRecDepth 100000 in
set_option maxHeartbeats 16000000 in
theorem specEqGrammar_any (fp fq : List Nat) (cs ds : Array Value) (x y : GGrammar d) (w : World) (hx : Rd.rd fp w cs.toList x) (hy : Rd.rd fq w ds.toList y) :
    Calls Tryz.prog 12 #[.agg cs, .agg ds] w fun e w' => e = .returned (.bool (decide (x = y))) ∧ Gr w w' := by
  obtain ⟨q0, q1⟩ := x
  obtain ⟨p0, p1⟩ := y
  obtain ⟨vq0, fq0, vq1, fq1, rfl, -, sq0, sq1⟩ := rdGrammar_inv q0 q1 hx
  obtain ⟨vp0, fp0, vp1, fp1, rfl, -, sp0, sp1⟩ := rdGrammar_inv p0 p1 hy
  have HE : ((q0, q1) : GGrammar d) = (p0, p1) ↔ q0 = p0 ∧ q1 = p1 := by
    simp only [Prod.mk.injEq]
  have HE := Lib.hid HE
  obtain ⟨aq0, cq0, rfl, h1, h2, h3⟩ := sq0.open
  obtain ⟨ap0, cp0, rfl, g1, g2, g3⟩ := sp0.open
  obtain ⟨aq1, cq1, rfl, i1, i2, i3⟩ := sq1.open
  obtain ⟨ap1, cp1, rfl, j1, j2, j3⟩ := sp1.open
  clear hx hy
  by_cases hl0 : q0.length = p0.length
  · have n0 : ((q0.length : Int) != (p0.length : Int)) = false := by simp [hl0]
    have hl0' := Lib.hid hl0
    clear hl0
    by_cases hl1 : q1.length = p1.length
    · have n1 : ((q1.length : Int) != (p1.length : Int)) = false := by simp [hl1]
      have hl1' := Lib.hid hl1
      clear hl1
      go_enter Tryz.func12, Tryz.ntmps12
      go_wp2_with fail
      clear n0 n1
      go_loopw [5] (fun s5 wr => ∃ k : Nat, k ≤ q0.length ∧ q0.take k = p0.take k ∧ Gr ((w.alloc (Obj.cells #[.slice aq0 q0.length cq0, .slice aq1 q1.length cq1] 40)).alloc (Obj.cells #[.slice ap0 p0.length cp0, .slice ap1 p1.length cp1] 40)) wr ∧ s5 = .int .i64 k) (fun s5 _ => q0.length - (intOf s5).toNat)
      case atStart => exact ⟨0, by omega, rfl, (by repeat (first | exact Gr.refl _ | apply Gr.ext | apply Gr.alloc | apply Gr.drew)), rfl⟩
      case round =>
        obtain ⟨k, hk, ht, ⟨x, rfl⟩, rfl⟩ := hrel
        by_cases hlt : k < q0.length
        · have hlt2 : k < p0.length := by have := hl0'.out; omega
          obtain ⟨b, off, rfl, hb⟩ := h3 k hlt
          obtain ⟨b', off', rfl, hb'⟩ := g3 k hlt2
          obtain ⟨csq, feq, hcq, hrq, -⟩ := sq0.at hlt
          have hrdq := hrq
          generalize hyq : q0[k] = yq at hrq
          obtain ⟨r0, r1⟩ := yq
          obtain ⟨vr1, fr1, hcsq, -, hr0, hr1⟩ := rdSymbol_inv (cs := csq.toArray) r0 r1 (by simpa using hrq)
          obtain rfl : csq = [.string r0, vr1] := by have := congrArg Array.toList hcsq; simpa using this
          obtain ⟨csp, fep, hcp, hrp, -⟩ := sp0.at hlt2
          have hrdp := hrp
          generalize hyp : p0[k] = yp at hrp
          obtain ⟨s0, s1⟩ := yp
          obtain ⟨vs1, fs1, hcsp, -, hs0, hs1⟩ := rdSymbol_inv (cs := csp.toArray) s0 s1 (by simpa using hrp)
          obtain rfl : csp = [.string s0, vs1] := by have := congrArg Array.toList hcsp; simpa using this
          have sr1 := hr1
          have ss1 := hs1
          obtain ⟨ar1, cr1, rfl, -, -, -⟩ := hr1.open
          obtain ⟨as1, cs1, rfl, -, -, -⟩ := hs1.open
          have z0 : w.cell? ⟨b, off + k * 2, none⟩ = some (.string r0) := by simpa [Rd.n] using hcq 0 _ rfl
          have z1 : w.cell? ⟨b, off + k * 2 + 1, none⟩ = some (.slice ar1 r1.length cr1) := hcq 1 _ rfl
          have zz0 : w.cell? ⟨b', off' + k * 2, none⟩ = some (.string s0) := by simpa [Rd.n] using hcp 0 _ rfl
          have zz1 : w.cell? ⟨b', off' + k * 2 + 1, none⟩ = some (.slice as1 s1.length cs1) := hcp 1 _ rfl
          have hT := Lib.hid ht
          have HQ := Lib.hid hyq
          have HP := Lib.hid hyp
          clear hyq hyp h3 g3 ht hcsq hcsp hcq hcp hrq hrp
          have hcase : r0 = s0 ∨ r0.toList ≠ s0.toList := (Classical.em (r0 = s0)).elim .inl (fun t0 => .inr (fun e => t0 (str_inj e)))
          rcases hcase with rfl | e
          · skip
            go_wp2_with fail
            refine wp_region_grown (by kernel_rfl) (by kernel_rfl) ?_
            repeat (go_big_quiet_step ((go_at_call 29; refine grown_call (l10Attributes_any _ _ _ _ r1 s1 _ (sr1.gr ?_) (ss1.gr ?_)) <;> exact (by repeat (first | exact Gr.refl _ | apply Gr.ext | apply Gr.alloc | apply Gr.drew)))))
            refine wpQuiet_nil ?_
            intro _ hw'
            obtain ⟨nx, hw''⟩ := hw'
            subst hw''
            go_wp2
            · have ht : (!decide (r1 = s1)) = true := by assumption
              go_ret
              refine ⟨ret_bool (decide_eq_false fun hxy => ?_).symm, (by repeat (first | exact Gr.refl _ | apply Gr.ext | apply Gr.alloc | apply Gr.drew))⟩
              obtain ⟨k0, k1⟩ := HE.out.1 hxy
              refine dec_ne ht ?_
              have h := (HQ.out.symm.trans (List.getElem_of_eq k0 hlt)).trans HP.out
              exact congrArg (fun z : GSymbol => z.2) h
            · have ht : (!decide (r1 = s1)) = false := by assumption
              have e2 := dec_eq ht
              refine ⟨⟨k + 1, by omega, ?_, (by repeat (first | exact Gr.refl _ | apply Gr.ext | apply Gr.alloc | apply Gr.drew)), by go_num⟩, by simp [intOf]; omega⟩
              rw [List.take_succ_eq_append_getElem hlt, List.take_succ_eq_append_getElem hlt2, hT.out, HQ.out, HP.out, e2]
          · have E := Lib.hid e
            have nb : (r0.toList == s0.toList) = false := beq_eq_false_iff_ne.2 e
            have nc : (!r0.toList == s0.toList) = true := by rw [nb]; rfl
            clear e
            go_wp2_with fail
            refine wp_region_grown (by kernel_rfl) (by kernel_rfl) ?_
            repeat (go_big_quiet_step (fail))
            refine wpQuiet_nil ?_
            intro _ hw'
            obtain ⟨nx, hw''⟩ := hw'
            subst hw''
            go_wp2
            go_ret
            refine ⟨ret_bool (decide_eq_false fun hxy => ?_).symm, (by repeat (first | exact Gr.refl _ | apply Gr.ext | apply Gr.alloc | apply Gr.drew))⟩
            obtain ⟨k0, k1⟩ := HE.out.1 hxy
            refine E.out ?_
            have h := (HQ.out.symm.trans (List.getElem_of_eq k0 hlt)).trans HP.out
            exact congrArg (fun z : GSymbol => z.1.toList) h
        · have hk2 : k = q0.length := by omega
          subst hk2
          have e : q0 = p0 := by
            have h := ht
            have h' := hl0'.out
            rw [List.take_length, h', List.take_length] at h
            exact h
          have E0 := Lib.hid e
          clear e ht h3 g3
          go_wp2_with fail
          go_loopw [6] (fun s6 wr => ∃ k : Nat, k ≤ q1.length ∧ q1.take k = p1.take k ∧ Gr ((w.alloc (Obj.cells #[.slice aq0 q0.length cq0, .slice aq1 q1.length cq1] 40)).alloc (Obj.cells #[.slice ap0 p0.length cp0, .slice ap1 p1.length cp1] 40)) wr ∧ s6 = .int .i64 k) (fun s6 _ => q1.length - (intOf s6).toNat)
          case atStart => exact ⟨0, by omega, rfl, (by repeat (first | exact Gr.refl _ | apply Gr.ext | apply Gr.alloc | apply Gr.drew)), rfl⟩
          case round =>
            obtain ⟨k, hk, ht, ⟨x, rfl⟩, rfl⟩ := hrel
            by_cases hlt : k < q1.length
            · have hlt2 : k < p1.length := by have := hl1'.out; omega
              obtain ⟨b, off, rfl, hb⟩ := i3 k hlt
              obtain ⟨b', off', rfl, hb'⟩ := j3 k hlt2
              obtain ⟨csq, feq, hcq, hrq, -⟩ := sq1.at hlt
              have hrdq := hrq
              generalize hyq : q1[k] = yq at hrq
              obtain ⟨r0, r1, r2, r3, r4, r5⟩ := yq
              obtain ⟨vr2, fr2, vr4, fr4, vr5, fr5, hcsq, -, hr0, hr1, hr2, hr4, hr5⟩ := rdRule_inv (cs := csq.toArray) r0 r1 r2 r3 r4 r5 (by simpa using hrq)
              obtain rfl : csq = [.string r0, .string r1, vr2, .bool r3, vr4, vr5] := by have := congrArg Array.toList hcsq; simpa using this
              obtain ⟨csp, fep, hcp, hrp, -⟩ := sp1.at hlt2
              have hrdp := hrp
              generalize hyp : p1[k] = yp at hrp
              obtain ⟨s0, s1, s2, s3, s4, s5⟩ := yp
              obtain ⟨vs2, fs2, vs4, fs4, vs5, fs5, hcsp, -, hs0, hs1, hs2, hs4, hs5⟩ := rdRule_inv (cs := csp.toArray) s0 s1 s2 s3 s4 s5 (by simpa using hrp)
              obtain rfl : csp = [.string s0, .string s1, vs2, .bool s3, vs4, vs5] := by have := congrArg Array.toList hcsp; simpa using this
              obtain ⟨ar2, cr2, rfl, -, -, -⟩ := hr2.open
              obtain ⟨ar4, cr4, rfl, -, -, -⟩ := hr4.open
              obtain ⟨ar5, cr5, rfl, -, -, -⟩ := hr5.open
              obtain ⟨as2, cs2, rfl, -, -, -⟩ := hs2.open
              obtain ⟨as4, cs4, rfl, -, -, -⟩ := hs4.open
              obtain ⟨as5, cs5, rfl, -, -, -⟩ := hs5.open
              have z0 : w.cell? ⟨b, off + k * 6, none⟩ = some (.string r0) := by simpa [Rd.n] using hcq 0 _ rfl
              have z1 : w.cell? ⟨b, off + k * 6 + 1, none⟩ = some (.string r1) := hcq 1 _ rfl
              have z2 : w.cell? ⟨b, off + k * 6 + 2, none⟩ = some (.slice ar2 r2.length cr2) := hcq 2 _ rfl
              have z3 : w.cell? ⟨b, off + k * 6 + 3, none⟩ = some (.bool r3) := hcq 3 _ rfl
              have z4 : w.cell? ⟨b, off + k * 6 + 4, none⟩ = some (.slice ar4 r4.length cr4) := hcq 4 _ rfl
              have z5 : w.cell? ⟨b, off + k * 6 + 5, none⟩ = some (.slice ar5 r5.length cr5) := hcq 5 _ rfl
              have zz0 : w.cell? ⟨b', off' + k * 6, none⟩ = some (.string s0) := by simpa [Rd.n] using hcp 0 _ rfl
              have zz1 : w.cell? ⟨b', off' + k * 6 + 1, none⟩ = some (.string s1) := hcp 1 _ rfl
              have zz2 : w.cell? ⟨b', off' + k * 6 + 2, none⟩ = some (.slice as2 s2.length cs2) := hcp 2 _ rfl
              have zz3 : w.cell? ⟨b', off' + k * 6 + 3, none⟩ = some (.bool s3) := hcp 3 _ rfl
              have zz4 : w.cell? ⟨b', off' + k * 6 + 4, none⟩ = some (.slice as4 s4.length cs4) := hcp 4 _ rfl
              have zz5 : w.cell? ⟨b', off' + k * 6 + 5, none⟩ = some (.slice as5 s5.length cs5) := hcp 5 _ rfl
              have hT := Lib.hid ht
              have HQ := Lib.hid hyq
              have HP := Lib.hid hyp
              clear hyq hyp i3 j3 ht hcsq hcsp hcq hcp hrq hrp
              go_wp2_with fail
              refine wp_region_grown (by kernel_rfl) (by kernel_rfl) ?_
              repeat (go_big_quiet_step ((go_at_call 30; refine grown_call (specEqRule_any _ _ _ _ q1[k] p1[k] _ (Rd.gr hrdq ?_) (Rd.gr hrdp ?_)) <;> exact (by repeat (first | exact Gr.refl _ | apply Gr.ext | apply Gr.alloc | apply Gr.drew)))))
              refine wpQuiet_nil ?_
              intro _ hw'
              obtain ⟨nx, hw''⟩ := hw'
              subst hw''
              go_wp2
              · have ht : (!decide (q1[k] = p1[k])) = true := by assumption
                go_ret
                refine ⟨ret_bool (decide_eq_false fun hxy => ?_).symm, (by repeat (first | exact Gr.refl _ | apply Gr.ext | apply Gr.alloc | apply Gr.drew))⟩
                obtain ⟨k0, k1⟩ := HE.out.1 hxy
                exact dec_ne ht (List.getElem_of_eq k1 hlt)
              · have ht : (!decide (q1[k] = p1[k])) = false := by assumption
                have e2 := dec_eq ht
                refine ⟨⟨k + 1, by omega, ?_, (by repeat (first | exact Gr.refl _ | apply Gr.ext | apply Gr.alloc | apply Gr.drew)), by go_num⟩, by simp [intOf]; omega⟩
                rw [List.take_succ_eq_append_getElem hlt, List.take_succ_eq_append_getElem hlt2, hT.out, e2]
            · have hk2 : k = q1.length := by omega
              subst hk2
              have e : q1 = p1 := by
                have h := ht
                have h' := hl1'.out
                rw [List.take_length, h', List.take_length] at h
                exact h
              have E1 := Lib.hid e
              clear e ht
              go_wp2_with fail
              go_ret
              exact ⟨ret_bool (decide_eq_true (HE.out.2 ⟨E0.out, E1.out⟩)).symm, (by repeat (first | exact Gr.refl _ | apply Gr.ext | apply Gr.alloc | apply Gr.drew))⟩
    · have n1 : ((q1.length : Int) != (p1.length : Int)) = true := by simp; omega
      have HL := Lib.hid hl1
      clear hl1 h3 g3 i3 j3
      go_enter Tryz.func12, Tryz.ntmps12
      go_wp2_with fail
      go_ret
      refine ⟨ret_bool (decide_eq_false fun hxy => ?_).symm, (by repeat (first | exact Gr.refl _ | apply Gr.ext | apply Gr.alloc | apply Gr.drew))⟩
      obtain ⟨k0, k1⟩ := HE.out.1 hxy
      exact HL.out (congrArg List.length k1)
  · have n0 : ((q0.length : Int) != (p0.length : Int)) = true := by simp; omega
    have HL := Lib.hid hl0
    clear hl0 h3 g3 i3 j3
    go_enter Tryz.func12, Tryz.ntmps12
    go_wp2_with fail
    go_ret
    refine ⟨ret_bool (decide_eq_false fun hxy => ?_).symm, (by repeat (first | exact Gr.refl _ | apply Gr.ext | apply Gr.alloc | apply Gr.drew))⟩
    obtain ⟨k0, k1⟩ := HE.out.1 hxy
    exact HL.out (congrArg List.length k0)

end Go.Proofs.YtmdiabjaggadjaaGreat
