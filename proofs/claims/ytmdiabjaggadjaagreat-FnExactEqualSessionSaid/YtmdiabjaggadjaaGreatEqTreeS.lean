/- spec.l13Same with identities, spec.EqualTree. Made by mk_eqspec.py. No condition. -/
import Derived.Test.YtmdiabjaggadjaaGreatEqFunc
import Derived.Test.YtmdiabjaggadjaaGreatInts
namespace Go.Proofs.YtmdiabjaggadjaaGreat
open Go.RowKit

set_option maxRecDepth 10000 in
set_option maxHeartbeats 8000000 in
theorem l13Same_any (fp fq : List Nat) (cs ds : Array Value) (x y : GTree) (w : World) (hx : Rd.rd fp w cs.toList x) (hy : Rd.rd fq w ds.toList y) :
    Calls Tryz.prog 31 #[.agg cs, .agg ds, .bool true] w fun e w' => e = .returned (.bool (decide (x = y))) ∧ Gr w w' := by
  obtain ⟨v0, f0, rfl, -, hu⟩ := rdTree_inv x hx
  obtain ⟨v1, f1, rfl, -, hv⟩ := rdTree_inv y hy
  clear hx hy
  obtain ⟨xs, hxs⟩ : ∃ t : List GNode, t = x := ⟨x, rfl⟩
  obtain ⟨ys, hys⟩ : ∃ t : List GNode, t = y := ⟨y, rfl⟩
  subst hxs
  subst hys
  obtain ⟨a, ca, rfl, h1, h2, h3⟩ := hu.open
  obtain ⟨c, cc, rfl, g1, g2, g3⟩ := hv.open
  by_cases hl : xs.length = ys.length
  · have hl' := Lib.hid hl
    have hne : ((xs.length : Int) != (ys.length : Int)) = false := by simp [hl]
    clear hl
    go_enter Tryz.func31, Tryz.ntmps31
    go_wp2_with fail
    go_loopw [7] (fun s7 wr => ∃ k : Nat, k ≤ xs.length ∧ xs.take k = ys.take k ∧ Gr ((w.alloc (Obj.cells #[.slice a xs.length ca] 43)).alloc (Obj.cells #[.slice c ys.length cc] 43)) wr ∧ s7 = .int .i64 k) (fun s7 _ => xs.length - (intOf s7).toNat)
    case atStart => exact ⟨0, by omega, rfl, Gr.refl _, rfl⟩
    case round =>
      obtain ⟨k, hk, ht, ⟨x, rfl⟩, rfl⟩ := hrel
      by_cases hlt : k < xs.length
      · have hlt2 : k < ys.length := by have := hl'.out; omega
        obtain ⟨b, off, rfl, hb⟩ := h3 k hlt
        obtain ⟨b', off', rfl, hb'⟩ := g3 k hlt2
        obtain ⟨csq, feq, hcq, hrq, -⟩ := hu.at hlt
        have hrdq := hrq
        generalize hyq : xs[k] = yq at hrq
        obtain ⟨q0, q1, q2, q3, q4, q5⟩ := yq
        obtain ⟨vq5, fq5, hcsq, -, hq0, hq1, hq2, hq3, hq4, hq5⟩ := rdNode_inv (cs := csq.toArray) q0 q1 q2 q3 q4 q5 (by simpa using hrq)
        obtain rfl : csq = [.int .i64 q0, .int .i64 q1, .int .i64 q2, .int .i64 q3, .string q4, vq5] := by have := congrArg Array.toList hcsq; simpa using this
        obtain ⟨csp, fep, hcp, hrp, -⟩ := hv.at hlt2
        have hrdp := hrp
        generalize hyp : ys[k] = yp at hrp
        obtain ⟨p0, p1, p2, p3, p4, p5⟩ := yp
        obtain ⟨vp5, fp5, hcsp, -, hp0, hp1, hp2, hp3, hp4, hp5⟩ := rdNode_inv (cs := csp.toArray) p0 p1 p2 p3 p4 p5 (by simpa using hrp)
        obtain rfl : csp = [.int .i64 p0, .int .i64 p1, .int .i64 p2, .int .i64 p3, .string p4, vp5] := by have := congrArg Array.toList hcsp; simpa using this
        have sq5 := hq5
        have sp5 := hp5
        obtain ⟨aq5, cq5, rfl, -, -, -⟩ := hq5.open
        obtain ⟨ap5, cp5, rfl, -, -, -⟩ := hp5.open
        have z0 : w.cell? ⟨b, off + k * 6, none⟩ = some (.int .i64 q0) := by simpa [Rd.n] using hcq 0 _ rfl
        have z1 : w.cell? ⟨b, off + k * 6 + 1, none⟩ = some (.int .i64 q1) := hcq 1 _ rfl
        have z2 : w.cell? ⟨b, off + k * 6 + 2, none⟩ = some (.int .i64 q2) := hcq 2 _ rfl
        have z3 : w.cell? ⟨b, off + k * 6 + 3, none⟩ = some (.int .i64 q3) := hcq 3 _ rfl
        have z4 : w.cell? ⟨b, off + k * 6 + 4, none⟩ = some (.string q4) := hcq 4 _ rfl
        have z5 : w.cell? ⟨b, off + k * 6 + 5, none⟩ = some (.slice aq5 q5.length cq5) := hcq 5 _ rfl
        have zz0 : w.cell? ⟨b', off' + k * 6, none⟩ = some (.int .i64 p0) := by simpa [Rd.n] using hcp 0 _ rfl
        have zz1 : w.cell? ⟨b', off' + k * 6 + 1, none⟩ = some (.int .i64 p1) := hcp 1 _ rfl
        have zz2 : w.cell? ⟨b', off' + k * 6 + 2, none⟩ = some (.int .i64 p2) := hcp 2 _ rfl
        have zz3 : w.cell? ⟨b', off' + k * 6 + 3, none⟩ = some (.int .i64 p3) := hcp 3 _ rfl
        have zz4 : w.cell? ⟨b', off' + k * 6 + 4, none⟩ = some (.string p4) := hcp 4 _ rfl
        have zz5 : w.cell? ⟨b', off' + k * 6 + 5, none⟩ = some (.slice ap5 p5.length cp5) := hcp 5 _ rfl
        have hT := Lib.hid ht
        have HQ := Lib.hid hyq
        have HP := Lib.hid hyp
        clear hyq hyp h3 g3 ht hcsq hcsp hcq hcp hrq hrp
        go_wp2_with fail
        · skip
          have e0 : q0 = p0 := by assumption
          have e1 : q1 = p1 := by assumption
          have e2 : q2 = p2 := by assumption
          have e3 : q3 = p3 := by assumption
          have e4 : q4 = p4 := str_inj (by assumption)
          have E04 := Lib.hid (And.intro e0 (And.intro e1 (And.intro e2 (And.intro e3 e4))))
          clear e0 e1 e2 e3 e4
          refine (l1Ints_any _ _ _ _ q5 p5 _ (sq5.gr (by repeat (first | exact Gr.refl _ | apply Gr.ext | apply Gr.alloc | apply Gr.drew))) (sp5.gr (by repeat (first | exact Gr.refl _ | apply Gr.ext | apply Gr.alloc | apply Gr.drew)))).mono ?_
          rintro e w3 ⟨rfl, x3, rfl⟩
          by_cases e5 : q5 = p5
          · rw [decide_eq_true e5]
            have E5 := Lib.hid e5
            clear e5
            go_wp2_with fail
            refine ⟨⟨k + 1, by omega, ?_, (by repeat (first | exact Gr.refl _ | apply Gr.ext | apply Gr.alloc | apply Gr.drew)), by go_num⟩, by simp [intOf]; omega⟩
            obtain ⟨e0, e1, e2, e3, e4⟩ := E04.out
            rw [List.take_succ_eq_append_getElem hlt, List.take_succ_eq_append_getElem hlt2, hT.out, HQ.out, HP.out, e0, e1, e2, e3, e4, E5.out]
          · rw [decide_eq_false e5]
            have E5 := Lib.hid e5
            clear e5
            go_wp2_with fail
            go_ret
            refine ⟨ret_bool (decide_eq_false fun hxy => ?_).symm, (by repeat (first | exact Gr.refl _ | apply Gr.ext | apply Gr.alloc | apply Gr.drew))⟩
            have hxy2 : xs = ys := hxy
            subst hxy2
            have h := HQ.out.symm.trans HP.out
            simp only [Prod.mk.injEq] at h
            obtain ⟨k0, k1, k2, k3, k4, k5⟩ := h
            exact E5.out k5
        all_goals
        · skip
          go_ret
          refine ⟨ret_bool (decide_eq_false fun hxy => ?_).symm, (by repeat (first | exact Gr.refl _ | apply Gr.ext | apply Gr.alloc | apply Gr.drew))⟩
          have hxy2 : xs = ys := hxy
          subst hxy2
          have h := HQ.out.symm.trans HP.out
          simp only [Prod.mk.injEq] at h
          obtain ⟨k0, k1, k2, k3, k4, k5⟩ := h
          first
          | exact absurd (congrArg ByteArray.toList k0) (by assumption)
          | exact absurd k0 (by assumption)
          | exact absurd (congrArg ByteArray.toList k1) (by assumption)
          | exact absurd k1 (by assumption)
          | exact absurd (congrArg ByteArray.toList k2) (by assumption)
          | exact absurd k2 (by assumption)
          | exact absurd (congrArg ByteArray.toList k3) (by assumption)
          | exact absurd k3 (by assumption)
          | exact absurd (congrArg ByteArray.toList k4) (by assumption)
          | exact absurd k4 (by assumption)
      · have hk2 : k = xs.length := by omega
        subst hk2
        have e : xs = ys := by
          have h := ht
          have h' := hl'.out
          rw [List.take_length, h', List.take_length] at h
          exact h
        have E := Lib.hid e
        clear e ht
        go_wp2
        go_ret
        exact ⟨ret_bool (decide_eq_true E.out).symm, (by repeat (first | exact Gr.refl _ | apply Gr.ext | apply Gr.alloc | apply Gr.drew))⟩
  · have hne : ((xs.length : Int) != (ys.length : Int)) = true := by simp; omega
    have HL := Lib.hid hl
    clear hl
    go_enter Tryz.func31, Tryz.ntmps31
    go_wp2_with fail
    go_ret
    exact ⟨ret_bool (decide_eq_false fun hxy => HL.out (congrArg (fun z : List GNode => z.length) hxy)).symm, (by repeat (first | exact Gr.refl _ | apply Gr.ext | apply Gr.alloc | apply Gr.drew))⟩

theorem specEqTree_any (fp fq : List Nat) (cs ds : Array Value) (x y : GTree) (w : World) (hx : Rd.rd fp w cs.toList x) (hy : Rd.rd fq w ds.toList y) :
    Calls Tryz.prog 13 #[.agg cs, .agg ds] w fun e w' => e = .returned (.bool (decide (x = y))) ∧ Gr w w' := by
  have HX := Lib.hid hx
  have HY := Lib.hid hy
  obtain ⟨v0, f0, rfl, -, hu⟩ := rdTree_inv x hx
  obtain ⟨v1, f1, rfl, -, hv⟩ := rdTree_inv y hy
  obtain ⟨a0, c0, rfl, -, -, -⟩ := hu.open
  obtain ⟨a1, c1, rfl, -, -, -⟩ := hv.open
  clear hx hy hu hv
  go_enter Tryz.func13, Tryz.ntmps13
  go_wp2_with fail
  refine (l13Same_any _ _ _ _ x y _ (Rd.gr HX.out (by repeat (first | exact Gr.refl _ | apply Gr.ext | apply Gr.alloc | apply Gr.drew))) (Rd.gr HY.out (by repeat (first | exact Gr.refl _ | apply Gr.ext | apply Gr.alloc | apply Gr.drew)))).mono ?_
  rintro e w3 ⟨rfl, x3, rfl⟩
  go_wp2_with fail
  go_ret
  exact ⟨rfl, (by repeat (first | exact Gr.refl _ | apply Gr.ext | apply Gr.alloc | apply Gr.drew))⟩

end Go.Proofs.YtmdiabjaggadjaaGreat
