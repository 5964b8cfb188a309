/- spec.EqualExpr. Made by mk_eqspec.py. No condition. -/
import Derived.Test.YtmdiabjaggadjaaGreatEqExI
namespace Go.Proofs.YtmdiabjaggadjaaGreat
open Go.RowKit
variable {d : Nat}

set_option maxRecDepth 10000 in
set_option maxHeartbeats 8000000 in
theorem specEqExpr_of (hE : ∀ (fp fq : List Nat) (cs ds : Array Value) (x y : GE d) (w : World), Rd.rd fp w cs.toList x → Rd.rd fq w ds.toList y → Calls Tryz.prog 57 #[.agg cs, .agg ds] w fun e w' => e = .returned (.bool (decide (x = y))) ∧ Gr w w') (fp fq : List Nat) (cs ds : Array Value) (x y : GExpr d) (w : World) (hx : Rd.rd fp w cs.toList x) (hy : Rd.rd fq w ds.toList y) :
    Calls Tryz.prog 57 #[.agg cs, .agg ds] w fun e w' => e = .returned (.bool (decide (x = y))) ∧ Gr w w' := by
  have HH := Lib.hid hE
  clear hE
  obtain ⟨q0, q1, q2, q3, q4, q5, q6⟩ := x
  obtain ⟨p0, p1, p2, p3, p4, p5, p6⟩ := y
  obtain ⟨vq6, fq6, rfl, -, -, -, -, -, -, -, hq6⟩ := rdExpr_inv q0 q1 q2 q3 q4 q5 q6 hx
  obtain ⟨vp6, fp6, rfl, -, -, -, -, -, -, -, hp6⟩ := rdExpr_inv p0 p1 p2 p3 p4 p5 p6 hy
  obtain ⟨a, ca, rfl, h1, h2, h3⟩ := hq6.open
  obtain ⟨c, cc, rfl, g1, g2, g3⟩ := hp6.open
  have HE : ((q0, q1, q2, q3, q4, q5, q6) : GExpr d) = (p0, p1, p2, p3, p4, p5, p6) ↔ q0 = p0 ∧ q1 = p1 ∧ q2 = p2 ∧ q3 = p3 ∧ q4 = p4 ∧ q5 = p5 ∧ q6 = p6 := by
    simp only [Prod.mk.injEq]
  have HE := Lib.hid HE
  clear hx hy
  by_cases hl : q6.length = p6.length
  · have hl' := Lib.hid hl
    have hne : ((q6.length : Int) != (p6.length : Int)) = false := by simp [hl]
    clear hl
    go_enter Tryz.func57, Tryz.ntmps57
    go_wp2_with fail
    · skip
      have e0 : q0 = p0 := by assumption
      have e1 : q1 = p1 := by assumption
      have e2 : q2 = p2 := by assumption
      have e3 : q3 = p3 := by assumption
      have e4 : q4 = p4 := str_inj (by assumption)
      have e5 : q5 = p5 := str_inj (by assumption)
      have E05 := Lib.hid (And.intro e0 (And.intro e1 (And.intro e2 (And.intro e3 (And.intro e4 e5)))))
      clear e0 e1 e2 e3 e4 e5
      clear hne
      go_loopw [5] (fun s5 wr => ∃ k : Nat, k ≤ q6.length ∧ q6.take k = p6.take k ∧ Gr ((w.alloc (Obj.cells #[.int .i64 p0, .int .i64 p1, .int .i64 p2, .int .i64 p3, .string q4, .string q5, .slice a q6.length ca] 118)).alloc (Obj.cells #[.int .i64 p0, .int .i64 p1, .int .i64 p2, .int .i64 p3, .string p4, .string p5, .slice c p6.length cc] 118)) wr ∧ s5 = .int .i64 k) (fun s5 _ => q6.length - (intOf s5).toNat)
      case atStart => exact ⟨0, by omega, rfl, Gr.refl _, rfl⟩
      case round =>
        obtain ⟨k, hk, ht, ⟨x, rfl⟩, rfl⟩ := hrel
        by_cases hlt : k < q6.length
        · have hlt2 : k < p6.length := by have := hl'.out; omega
          obtain ⟨b, off, rfl, hb⟩ := h3 k hlt
          obtain ⟨b', off', rfl, hb'⟩ := g3 k hlt2
          obtain ⟨d1, rfl⟩ : ∃ e, d = e + 1 := by
            cases d with
            | zero => exact PEmpty.elim (q6[k])
            | succ e => exact ⟨e, rfl⟩
          obtain ⟨csq, feq, hcq, hrq, -⟩ := hq6.at hlt
          have hrdq := hrq
          generalize q6[k] = yq at hrq
          obtain ⟨r0, r1, r2, r3, r4, r5, r6⟩ := yq
          obtain ⟨vr6, fr6, hcsq, -, hr0, hr1, hr2, hr3, hr4, hr5, hr6⟩ := rdExpr_inv (cs := csq.toArray) r0 r1 r2 r3 r4 r5 r6 (show Rd.rd (α := GExpr d1) feq w csq.toArray.toList _ from hrq)
          obtain rfl : csq = [.int .i64 r0, .int .i64 r1, .int .i64 r2, .int .i64 r3, .string r4, .string r5, vr6] := by have := congrArg Array.toList hcsq; simpa using this
          obtain ⟨csp, fep, hcp, hrp, -⟩ := hp6.at hlt2
          have hrdp := hrp
          generalize p6[k] = yp at hrp
          obtain ⟨s0, s1, s2, s3, s4, s5, s6⟩ := yp
          obtain ⟨vs6, fs6, hcsp, -, hs0, hs1, hs2, hs3, hs4, hs5, hs6⟩ := rdExpr_inv (cs := csp.toArray) s0 s1 s2 s3 s4 s5 s6 (show Rd.rd (α := GExpr d1) fep w csp.toArray.toList _ from hrp)
          obtain rfl : csp = [.int .i64 s0, .int .i64 s1, .int .i64 s2, .int .i64 s3, .string s4, .string s5, vs6] := by have := congrArg Array.toList hcsp; simpa using this
          obtain ⟨ar6, cr6, rfl, -, -, -⟩ := hr6.open
          obtain ⟨as6, cs6, rfl, -, -, -⟩ := hs6.open
          have z0 : w.cell? ⟨b, off + k * 7, none⟩ = some (.int .i64 r0) := hcq 0 _ rfl
          have z1 : w.cell? ⟨b, off + k * 7 + 1, none⟩ = some (.int .i64 r1) := hcq 1 _ rfl
          have z2 : w.cell? ⟨b, off + k * 7 + 2, none⟩ = some (.int .i64 r2) := hcq 2 _ rfl
          have z3 : w.cell? ⟨b, off + k * 7 + 3, none⟩ = some (.int .i64 r3) := hcq 3 _ rfl
          have z4 : w.cell? ⟨b, off + k * 7 + 4, none⟩ = some (.string r4) := hcq 4 _ rfl
          have z5 : w.cell? ⟨b, off + k * 7 + 5, none⟩ = some (.string r5) := hcq 5 _ rfl
          have z6 : w.cell? ⟨b, off + k * 7 + 6, none⟩ = some (.slice ar6 r6.length cr6) := hcq 6 _ rfl
          have zz0 : w.cell? ⟨b', off' + k * 7, none⟩ = some (.int .i64 s0) := hcp 0 _ rfl
          have zz1 : w.cell? ⟨b', off' + k * 7 + 1, none⟩ = some (.int .i64 s1) := hcp 1 _ rfl
          have zz2 : w.cell? ⟨b', off' + k * 7 + 2, none⟩ = some (.int .i64 s2) := hcp 2 _ rfl
          have zz3 : w.cell? ⟨b', off' + k * 7 + 3, none⟩ = some (.int .i64 s3) := hcp 3 _ rfl
          have zz4 : w.cell? ⟨b', off' + k * 7 + 4, none⟩ = some (.string s4) := hcp 4 _ rfl
          have zz5 : w.cell? ⟨b', off' + k * 7 + 5, none⟩ = some (.string s5) := hcp 5 _ rfl
          have zz6 : w.cell? ⟨b', off' + k * 7 + 6, none⟩ = some (.slice as6 s6.length cs6) := hcp 6 _ rfl
          have hT := Lib.hid ht
          clear h3 g3 ht hcsq hcsp hcq hcp hrq hrp
          go_wp2_with fail
          refine wp_region_grown (by kernel_rfl) (by kernel_rfl) ?_
          repeat (go_big_quiet_step ((go_at_call 57; refine grown_call (HH.out _ _ _ _ q6[k] p6[k] _ (Rd.gr hrdq ?_) (Rd.gr hrdp ?_)) <;> exact (by repeat (first | exact Gr.refl _ | apply Gr.ext | apply Gr.alloc | apply Gr.drew)))))
          refine wpQuiet_nil ?_
          intro _ hw'
          obtain ⟨nx, hw''⟩ := hw'
          subst hw''
          go_wp2
          · have ht : (!decide (q6[k] = p6[k])) = true := by assumption
            go_ret
            refine ⟨ret_bool (decide_eq_false fun hxy => ?_).symm, (by repeat (first | exact Gr.refl _ | apply Gr.ext | apply Gr.alloc | apply Gr.drew))⟩
            obtain ⟨k0, k1, k2, k3, k4, k5, k6⟩ := HE.out.1 hxy
            exact dec_ne ht (List.getElem_of_eq k6 hlt)
          · have ht : (!decide (q6[k] = p6[k])) = false := by assumption
            have e2 := dec_eq ht
            refine ⟨⟨k + 1, by omega, ?_, (by repeat (first | exact Gr.refl _ | apply Gr.ext | apply Gr.alloc | apply Gr.drew)), by go_num⟩, by simp [intOf]; omega⟩
            rw [List.take_succ_eq_append_getElem hlt, List.take_succ_eq_append_getElem hlt2, hT.out, e2]
        · have hk2 : k = q6.length := by omega
          subst hk2
          have e : q6 = p6 := by
            have h := ht
            have h' := hl'.out
            rw [List.take_length, h', List.take_length] at h
            exact h
          have E := Lib.hid e
          clear e ht
          go_wp2
          go_ret
          obtain ⟨e0, e1, e2, e3, e4, e5⟩ := E05.out
          exact ⟨ret_bool (decide_eq_true (HE.out.2 ⟨e0, e1, e2, e3, e4, e5, E.out⟩)).symm, (by repeat (first | exact Gr.refl _ | apply Gr.ext | apply Gr.alloc | apply Gr.drew))⟩
    all_goals
    · skip
      go_ret
      refine ⟨ret_bool (decide_eq_false fun hxy => ?_).symm, (by repeat (first | exact Gr.refl _ | apply Gr.ext | apply Gr.alloc | apply Gr.drew))⟩
      obtain ⟨k0, k1, k2, k3, k4, k5, k6⟩ := HE.out.1 hxy
      first
      | exact absurd (congrArg ByteArray.toList k0) (by assumption)
      | exact absurd k0 (by assumption)
      | exact absurd (congrArg ByteArray.toList k1) (by assumption)
      | exact absurd k1 (by assumption)
      | exact absurd (congrArg ByteArray.toList k2) (by assumption)
      | exact absurd k2 (by assumption)
      | exact absurd (congrArg ByteArray.toList k3) (by assumption)
      | exact absurd k3 (by assumption)
      | exact absurd (congrArg ByteArray.toList k4) (by assumption)
      | exact absurd k4 (by assumption)
      | exact absurd (congrArg ByteArray.toList k5) (by assumption)
      | exact absurd k5 (by assumption)
  · have hne : ((q6.length : Int) != (p6.length : Int)) = true := by simp; omega
    have HL := Lib.hid hl
    clear hl
    go_enter Tryz.func57, Tryz.ntmps57
    go_wp2_with fail
    all_goals
    · skip
      go_ret
      refine ⟨ret_bool (decide_eq_false fun hxy => HL.out ?_).symm, (by repeat (first | exact Gr.refl _ | apply Gr.ext | apply Gr.alloc | apply Gr.drew))⟩
      obtain ⟨k0, k1, k2, k3, k4, k5, k6⟩ := HE.out.1 hxy
      exact congrArg List.length k6

theorem specEqE_all : (d : Nat) → ∀ (fp fq : List Nat) (cs ds : Array Value) (x y : GE d) (w : World), Rd.rd fp w cs.toList x → Rd.rd fq w ds.toList y → Calls Tryz.prog 57 #[.agg cs, .agg ds] w fun e w' => e = .returned (.bool (decide (x = y))) ∧ Gr w w'
  | 0 => by intro fp fq cs ds x; exact PEmpty.elim x
  | d + 1 => specEqExpr_of (specEqE_all d)

theorem specEqExpr_any (fp fq : List Nat) (cs ds : Array Value) (x y : GExpr d) (w : World) (hx : Rd.rd fp w cs.toList x) (hy : Rd.rd fq w ds.toList y) :
    Calls Tryz.prog 57 #[.agg cs, .agg ds] w fun e w' => e = .returned (.bool (decide (x = y))) ∧ Gr w w' := specEqExpr_of (specEqE_all d) fp fq cs ds x y w hx hy

end Go.Proofs.YtmdiabjaggadjaaGreat
