/- EqualMemo of the program and of the reference. Made by mk_memod.py. No condition. -/
import Derived.Test.YtmdiabjaggadjaaGreatMemoC
namespace Go.Proofs.YtmdiabjaggadjaaGreat
open Go.RowKit

set_option maxHeartbeats 2000000 in
theorem implEqMemo_any (fp fq : List Nat) (cs ds : Array Value) (x y : GMemo) (w : World) (hx : Rd.rd fp w cs.toList x) (hy : Rd.rd fq w ds.toList y) :
    Calls Tryz.prog 20 #[.agg cs, .agg ds] w fun e w' => e = .returned (.bool (decide (x = y))) ∧ Gr w w' := by
  obtain ⟨x1, x2⟩ := x
  obtain ⟨y1, y2⟩ := y
  have hrx := hx
  have hry := hy
  obtain ⟨v0, f0, v1, f1, rfl, -, hu0, hu1⟩ := rdMemo_inv x1 x2 hx
  obtain ⟨v2, f2, v3, f3, rfl, -, hv0, hv1⟩ := rdMemo_inv y1 y2 hy
  obtain ⟨a0, c0, rfl, op1, op2, op3⟩ := hu0.open
  obtain ⟨a1, c1, rfl, oq1, oq2, oq3⟩ := hu1.open
  obtain ⟨b0, d0, rfl, or1, or2, or3⟩ := hv0.open
  obtain ⟨b1, d1, rfl, os1, os2, os3⟩ := hv1.open
  clear hx hy
  by_cases hr : x1 = y1
  · have HR := Lib.hid hr
    clear hr
    go_enter Tryz.func20, Tryz.ntmps20
    go_wp2_with fail
    refine (implSameRes_any _ _ _ _ (x1, x2) (y1, y2) _ (Rd.gr hrx (by repeat (first | exact Gr.refl _ | apply Gr.ext | apply Gr.alloc | apply Gr.drew))) (Rd.gr hry (by repeat (first | exact Gr.refl _ | apply Gr.ext | apply Gr.alloc | apply Gr.drew)))).mono ?_
    rintro e w3 ⟨rfl, x3, rfl⟩
    rw [show decide ((x1, x2).1 = (y1, y2).1) = true from decide_eq_true HR.out]
    go_wp2_with fail
    refine (slicesEqualInstance_any _ _ _ _ x2 y2 _ (hu1.gr (by repeat (first | exact Gr.refl _ | apply Gr.ext | apply Gr.alloc | apply Gr.drew))) (hv1.gr (by repeat (first | exact Gr.refl _ | apply Gr.ext | apply Gr.alloc | apply Gr.drew)))).mono ?_
    rintro e w4 ⟨rfl, x4, rfl⟩
    go_wp2_with fail
    go_ret
    refine ⟨ret_bool ?_, (by repeat (first | exact Gr.refl _ | apply Gr.ext | apply Gr.alloc | apply Gr.drew))⟩
    rw [decide_eq_decide, Prod.mk.injEq]
    exact ⟨fun h => ⟨HR.out, h⟩, fun h => h.2⟩
  · have HR := Lib.hid hr
    clear hr
    go_enter Tryz.func20, Tryz.ntmps20
    go_wp2_with fail
    refine (implSameRes_any _ _ _ _ (x1, x2) (y1, y2) _ (Rd.gr hrx (by repeat (first | exact Gr.refl _ | apply Gr.ext | apply Gr.alloc | apply Gr.drew))) (Rd.gr hry (by repeat (first | exact Gr.refl _ | apply Gr.ext | apply Gr.alloc | apply Gr.drew)))).mono ?_
    rintro e w3 ⟨rfl, x3, rfl⟩
    rw [show decide ((x1, x2).1 = (y1, y2).1) = false from decide_eq_false HR.out]
    go_wp2_with fail
    go_ret
    exact ⟨ret_bool (decide_eq_false fun h => HR.out (Prod.mk.inj h).1).symm, (by repeat (first | exact Gr.refl _ | apply Gr.ext | apply Gr.alloc | apply Gr.drew))⟩

set_option maxRecDepth 10000 in
set_option maxHeartbeats 8000000 in
theorem specEqMemo_any (fp fq : List Nat) (cs ds : Array Value) (x y : GMemo) (w : World) (hx : Rd.rd fp w cs.toList x) (hy : Rd.rd fq w ds.toList y) :
    Calls Tryz.prog 14 #[.agg cs, .agg ds] w fun e w' => e = .returned (.bool (decide (x = y))) ∧ Gr w w' := by
  obtain ⟨x1, x2⟩ := x
  obtain ⟨y1, y2⟩ := y
  have hrx := hx
  have hry := hy
  obtain ⟨v0, f0, v1, f1, rfl, -, hu0, hu1⟩ := rdMemo_inv x1 x2 hx
  obtain ⟨v2, f2, v3, f3, rfl, -, hv0, hv1⟩ := rdMemo_inv y1 y2 hy
  obtain ⟨a0, c0, rfl, op1, op2, op3⟩ := hu0.open
  obtain ⟨a1, c1, rfl, oq1, oq2, oq3⟩ := hu1.open
  obtain ⟨b0, d0, rfl, or1, or2, or3⟩ := hv0.open
  obtain ⟨b1, d1, rfl, os1, os2, os3⟩ := hv1.open
  clear hx hy
  by_cases hl : x2.length = y2.length
  · have hl' := Lib.hid hl
    have hne : ((x2.length : Int) != (y2.length : Int)) = false := by simp [hl]
    clear hl
    go_enter Tryz.func14, Tryz.ntmps14
    go_wp2_with fail
    go_loopw [5] (fun s5 wr => ∃ k : Nat, k ≤ x2.length ∧ x2.take k = y2.take k ∧ Gr ((w.alloc (Obj.cells #[.slice a0 x1.length c0, .slice a1 x2.length c1] 47)).alloc (Obj.cells #[.slice b0 y1.length d0, .slice b1 y2.length d1] 47)) wr ∧ s5 = .int .i64 k) (fun s5 _ => x2.length - (intOf s5).toNat)
    case atStart => exact ⟨0, by omega, rfl, Gr.refl _, rfl⟩
    case round =>
      obtain ⟨k, hk, ht, ⟨x, rfl⟩, rfl⟩ := hrel
      by_cases hlt : k < x2.length
      · have hlt2 : k < y2.length := by have := hl'.out; omega
        obtain ⟨b, off, rfl, hb⟩ := oq3 k hlt
        obtain ⟨b', off', rfl, hb'⟩ := os3 k hlt2
        obtain ⟨csq, feq, hcq, hrq, -⟩ := hu1.at hlt
        obtain ⟨csp, fep, hcp, hrp, -⟩ := hv1.at hlt2
        generalize hyq : x2[k] = yq at hrq
        generalize hyp : y2[k] = yp at hrp
        obtain ⟨q0, q1⟩ := yq
        obtain ⟨p0, p1⟩ := yp
        obtain ⟨hcsq, -, -⟩ := rdInstance_inv (cs := csq.toArray) q0 q1 (by simpa using hrq)
        obtain rfl : csq = [.int .i64 q0, .string q1] := by have := congrArg Array.toList hcsq; simpa using this
        obtain ⟨hcsp, -, -⟩ := rdInstance_inv (cs := csp.toArray) p0 p1 (by simpa using hrp)
        obtain rfl : csp = [.int .i64 p0, .string p1] := by have := congrArg Array.toList hcsp; simpa using this
        have z0 : w.cell? ⟨b, off + k * 2, none⟩ = some (.int .i64 q0) := by simpa [Rd.n] using hcq 0 _ rfl
        have y0 : w.cell? ⟨b', off' + k * 2, none⟩ = some (.int .i64 p0) := by simpa [Rd.n] using hcp 0 _ rfl
        have z1 : w.cell? ⟨b, off + k * 2 + 1, none⟩ = some (.string q1) := hcq 1 _ rfl
        have y1 : w.cell? ⟨b', off' + k * 2 + 1, none⟩ = some (.string p1) := hcp 1 _ rfl
        have hT := Lib.hid ht
        have HQ := Lib.hid hyq
        have HP := Lib.hid hyp
        clear oq3 os3 op3 or3 ht hcq hcp hrq hrp hcsq hcsp hyq hyp
        have hcase : (q0 = p0 ∧ q1 = p1) ∨ (q0 ≠ p0) ∨ (q0 = p0 ∧ q1.toList ≠ p1.toList) :=
          (Classical.em (q0 = p0)).elim (fun t0 => (Classical.em (q1 = p1)).elim (fun t1 => .inl ⟨t0, t1⟩) (fun t1 => .inr (.inr ⟨t0, (fun e => t1 (str_inj e))⟩))) (fun t0 => .inr (.inl (t0)))
        rcases hcase with ⟨rfl, rfl⟩ | e | ⟨rfl, e⟩
        · go_wp2_with fail
          refine wp_region_grown (by kernel_rfl) (by kernel_rfl) ?_
          repeat (go_big_quiet_step (fail))
          refine wpQuiet_nil ?_
          intro _ hw'
          obtain ⟨nx, hw''⟩ := hw'
          subst hw''
          go_wp2_with fail
          refine ⟨⟨k + 1, by omega, ?_, (by repeat (first | exact Gr.refl _ | apply Gr.ext | apply Gr.alloc | apply Gr.drew)), by go_num⟩, by simp [intOf]; omega⟩
          rw [List.take_succ_eq_append_getElem hlt, List.take_succ_eq_append_getElem hlt2, hT.out, HQ.out, HP.out]
        all_goals
        · have E := Lib.hid e
          go_wp2_with fail
          refine wp_region_grown (by kernel_rfl) (by kernel_rfl) ?_
          repeat (go_big_quiet_step (fail))
          refine wpQuiet_nil ?_
          intro _ hw'
          obtain ⟨nx, hw''⟩ := hw'
          subst hw''
          go_wp2_with fail
          go_ret
          refine ⟨ret_bool (decide_eq_false fun hxy => E.out ?_).symm, (by repeat (first | exact Gr.refl _ | apply Gr.ext | apply Gr.alloc | apply Gr.drew))⟩
          have hxy2 := (Prod.mk.inj hxy).2
          subst hxy2
          have h := HQ.out.symm.trans HP.out
          simp only [Prod.mk.injEq, true_and] at h
          simp [h]
      · have hk2 : k = x2.length := by omega
        subst hk2
        have e : x2 = y2 := by
          have h := ht
          have h' := hl'.out
          rw [List.take_length, h', List.take_length] at h
          exact h
        have E := Lib.hid e
        clear e ht
        go_wp2_with fail
        refine (specSameRes_any _ _ _ _ (x1, x2) (y1, y2) _ (Rd.gr hrx (by repeat (first | exact Gr.refl _ | apply Gr.ext | apply Gr.alloc | apply Gr.drew))) (Rd.gr hry (by repeat (first | exact Gr.refl _ | apply Gr.ext | apply Gr.alloc | apply Gr.drew)))).mono ?_
        rintro e w3 ⟨rfl, x3, rfl⟩
        go_wp2_with fail
        go_ret
        refine ⟨ret_bool ?_, (by repeat (first | exact Gr.refl _ | apply Gr.ext | apply Gr.alloc | apply Gr.drew))⟩
        rw [decide_eq_decide, Prod.mk.injEq]
        exact ⟨fun h => ⟨h, E.out⟩, fun h => h.1⟩
  · have hne : ((x2.length : Int) != (y2.length : Int)) = true := by simp; omega
    have e : x2 ≠ y2 := fun e => hl (by rw [e])
    have E := Lib.hid e
    clear e hl
    go_enter Tryz.func14, Tryz.ntmps14
    go_wp2_with fail
    go_ret
    exact ⟨ret_bool (by rw [decide_eq_false E.out, Bool.and_false]), (by repeat (first | exact Gr.refl _ | apply Gr.ext | apply Gr.alloc | apply Gr.drew))⟩
end Go.Proofs.YtmdiabjaggadjaaGreat
