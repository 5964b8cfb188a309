/- Slices of readings and of instances compared. Made by mk_memo.py. No condition. -/
import Derived.Test.YtmdiabjaggadjaaGreatSame
import Derived.Test.YtmdiabjaggadjaaGreatFamEntry
namespace Go.Proofs.YtmdiabjaggadjaaGreat
open Go.RowKit

set_option maxHeartbeats 4000000 in
theorem l37Readings_any (fp fq : List Nat) (u v : Value) (xs ys : List GReading) (w : World) (hu : SlR fp w u xs) (hv : SlR fq w v ys) :
    Calls Tryz.prog 60 #[u, v] w fun e w' => e = .returned (.bool (decide (xs = ys))) ∧ Gr w w' := by
  obtain ⟨a, ca, rfl, h1, h2, h3⟩ := hu.open
  obtain ⟨c, cc, rfl, g1, g2, g3⟩ := hv.open
  by_cases hl : xs.length = ys.length
  · have hl' := Lib.hid hl
    have hne : ((xs.length : Int) != (ys.length : Int)) = false := by simp [hl]
    clear hl
    go_enter Tryz.func60, Tryz.ntmps60
    go_wp2
    go_loopw [5] (fun s5 wr => ∃ k : Nat, k ≤ xs.length ∧ xs.take k = ys.take k ∧ Gr w wr ∧ s5 = .int .i64 k) (fun s5 _ => xs.length - (intOf s5).toNat)
    case atStart => exact ⟨0, by omega, rfl, Gr.refl w, rfl⟩
    case round =>
      obtain ⟨k, hk, ht, ⟨x, rfl⟩, rfl⟩ := hrel
      by_cases hlt : k < xs.length
      · have hlt2 : k < ys.length := by have := hl'.out; omega
        obtain ⟨b, off, rfl, hb⟩ := h3 k hlt
        obtain ⟨b', off', rfl, hb'⟩ := g3 k hlt2
        obtain ⟨csq, feq, hcq, hrq, -⟩ := hu.at hlt
        obtain ⟨csp, fep, hcp, hrp, -⟩ := hv.at hlt2
        generalize hyq : xs[k] = yq at hrq
        generalize hyp : ys[k] = yp at hrp
        obtain ⟨⟨q00, q01⟩, q1, q2⟩ := yq
        obtain ⟨⟨p00, p01⟩, p1, p2⟩ := yp
        obtain ⟨hcsq, -, -⟩ := rdReading_inv (cs := csq.toArray) q00 q01 q1 q2 (by simpa using hrq)
        obtain rfl : csq = [.int .i64 q00, .string q01, .int .i64 q1, .string q2] := by have := congrArg Array.toList hcsq; simpa using this
        obtain ⟨hcsp, -, -⟩ := rdReading_inv (cs := csp.toArray) p00 p01 p1 p2 (by simpa using hrp)
        obtain rfl : csp = [.int .i64 p00, .string p01, .int .i64 p1, .string p2] := by have := congrArg Array.toList hcsp; simpa using this
        have z0 : w.cell? ⟨b, off + k * 4, none⟩ = some (.int .i64 q00) := by simpa [Rd.n] using hcq 0 _ rfl
        have y0 : w.cell? ⟨b', off' + k * 4, none⟩ = some (.int .i64 p00) := by simpa [Rd.n] using hcp 0 _ rfl
        have z1 : w.cell? ⟨b, off + k * 4 + 1, none⟩ = some (.string q01) := hcq 1 _ rfl
        have y1 : w.cell? ⟨b', off' + k * 4 + 1, none⟩ = some (.string p01) := hcp 1 _ rfl
        have z2 : w.cell? ⟨b, off + k * 4 + 2, none⟩ = some (.int .i64 q1) := hcq 2 _ rfl
        have y2 : w.cell? ⟨b', off' + k * 4 + 2, none⟩ = some (.int .i64 p1) := hcp 2 _ rfl
        have z3 : w.cell? ⟨b, off + k * 4 + 3, none⟩ = some (.string q2) := hcq 3 _ rfl
        have y3 : w.cell? ⟨b', off' + k * 4 + 3, none⟩ = some (.string p2) := hcp 3 _ rfl
        have hT := Lib.hid ht
        have HQ := Lib.hid hyq
        have HP := Lib.hid hyp
        clear h3 g3 ht hcq hcp hrq hrp hcsq hcsp hyq hyp
        have hcase : (q00 = p00 ∧ q01 = p01 ∧ q1 = p1 ∧ q2 = p2) ∨ (q00 ≠ p00) ∨ (q00 = p00 ∧ q01.toList ≠ p01.toList) ∨ (q00 = p00 ∧ q01 = p01 ∧ q1 ≠ p1) ∨ (q00 = p00 ∧ q01 = p01 ∧ q1 = p1 ∧ q2.toList ≠ p2.toList) := by
          exact (Classical.em (q00 = p00)).elim (fun t0 => (Classical.em (q01 = p01)).elim (fun t1 => (Classical.em (q1 = p1)).elim (fun t2 => (Classical.em (q2 = p2)).elim (fun t3 => .inl ⟨t0, t1, t2, t3⟩) (fun t3 => .inr (.inr (.inr (.inr (⟨t0, t1, t2, (fun e => t3 (str_inj e))⟩)))))) (fun t2 => .inr (.inr (.inr (.inl (⟨t0, t1, t2⟩)))))) (fun t1 => .inr (.inr (.inl (⟨t0, (fun e => t1 (str_inj e))⟩))))) (fun t0 => .inr (.inl (t0)))
        rcases hcase with ⟨rfl, rfl, rfl, rfl⟩ | e | ⟨rfl, e⟩ | ⟨rfl, rfl, e⟩ | ⟨rfl, rfl, rfl, e⟩
        · go_wp2_with fail
          refine wp_region_grown (by kernel_rfl) (by kernel_rfl) ?_
          repeat (go_big_quiet_step (fail))
          refine wpQuiet_nil ?_
          intro _ hw'
          obtain ⟨nx, hw''⟩ := hw'
          subst hw''
          go_wp2
          refine ⟨⟨k + 1, by omega, ?_, ((Gr.refl w).ext _).ext _, by go_num⟩, by simp [intOf]; omega⟩
          rw [List.take_succ_eq_append_getElem hlt, List.take_succ_eq_append_getElem hlt2, hT.out, HQ.out, HP.out]
        all_goals
        · have E := Lib.hid e
          go_wp2_with fail
          refine wp_region_grown (by kernel_rfl) (by kernel_rfl) ?_
          repeat (go_big_quiet_step (fail))
          refine wpQuiet_nil ?_
          intro _ hw'
          obtain ⟨nx, hw''⟩ := hw'
          subst hw''
          go_wp2
          go_ret
          refine ⟨ret_bool (decide_eq_false fun hxy => E.out ?_).symm, ((Gr.refl w).ext _).ext _⟩
          subst hxy
          have h := HQ.out.symm.trans HP.out
          simp only [Prod.mk.injEq, true_and] at h
          simp [h]
      · have hk2 : k = xs.length := by omega
        subst hk2
        have e : xs = ys := by
          have h := ht
          have h' := hl'.out
          rw [List.take_length, h', List.take_length] at h
          exact h
        have E := Lib.hid e
        clear e ht
        go_wp2
        go_ret
        exact ⟨ret_bool (decide_eq_true E.out).symm, (Gr.refl w).ext _⟩
  · have hne : ((xs.length : Int) != (ys.length : Int)) = true := by simp; omega
    have e : xs ≠ ys := fun e => hl (by rw [e])
    have E := Lib.hid e
    clear e hl
    go_enter Tryz.func60, Tryz.ntmps60
    go_wp2
    go_ret
    exact ⟨ret_bool (decide_eq_false E.out).symm, Gr.refl w⟩

set_option maxHeartbeats 4000000 in
theorem slicesEqualReading_any (fp fq : List Nat) (u v : Value) (xs ys : List GReading) (w : World) (hu : SlR fp w u xs) (hv : SlR fq w v ys) :
    Calls Tryz.prog 78 #[u, v] w fun e w' => e = .returned (.bool (decide (xs = ys))) ∧ Gr w w' := by
  obtain ⟨a, ca, rfl, h1, h2, h3⟩ := hu.open
  obtain ⟨c, cc, rfl, g1, g2, g3⟩ := hv.open
  by_cases hl : xs.length = ys.length
  · have hl' := Lib.hid hl
    have hne : ((xs.length : Int) != (ys.length : Int)) = false := by simp [hl]
    clear hl
    go_enter Tryz.func78, Tryz.ntmps78
    go_wp2
    go_loopw [13, 5] (fun s13 s5 wr => ∃ k : Nat, k ≤ xs.length ∧ xs.take k = ys.take k ∧ Gr w wr ∧ s13 = .int .i64 k) (fun s13 s5 _ => xs.length - (intOf s13).toNat)
    case atStart => exact ⟨0, by omega, rfl, Gr.refl w, rfl⟩
    case round =>
      obtain ⟨k, hk, ht, ⟨x, rfl⟩, rfl⟩ := hrel
      by_cases hlt : k < xs.length
      · have hlt2 : k < ys.length := by have := hl'.out; omega
        obtain ⟨b, off, rfl, hb⟩ := h3 k hlt
        obtain ⟨b', off', rfl, hb'⟩ := g3 k hlt2
        obtain ⟨csq, feq, hcq, hrq, -⟩ := hu.at hlt
        obtain ⟨csp, fep, hcp, hrp, -⟩ := hv.at hlt2
        generalize hyq : xs[k] = yq at hrq
        generalize hyp : ys[k] = yp at hrp
        obtain ⟨⟨q00, q01⟩, q1, q2⟩ := yq
        obtain ⟨⟨p00, p01⟩, p1, p2⟩ := yp
        obtain ⟨hcsq, -, -⟩ := rdReading_inv (cs := csq.toArray) q00 q01 q1 q2 (by simpa using hrq)
        obtain rfl : csq = [.int .i64 q00, .string q01, .int .i64 q1, .string q2] := by have := congrArg Array.toList hcsq; simpa using this
        obtain ⟨hcsp, -, -⟩ := rdReading_inv (cs := csp.toArray) p00 p01 p1 p2 (by simpa using hrp)
        obtain rfl : csp = [.int .i64 p00, .string p01, .int .i64 p1, .string p2] := by have := congrArg Array.toList hcsp; simpa using this
        have z0 : w.cell? ⟨b, off + k * 4, none⟩ = some (.int .i64 q00) := by simpa [Rd.n] using hcq 0 _ rfl
        have y0 : w.cell? ⟨b', off' + k * 4, none⟩ = some (.int .i64 p00) := by simpa [Rd.n] using hcp 0 _ rfl
        have z1 : w.cell? ⟨b, off + k * 4 + 1, none⟩ = some (.string q01) := hcq 1 _ rfl
        have y1 : w.cell? ⟨b', off' + k * 4 + 1, none⟩ = some (.string p01) := hcp 1 _ rfl
        have z2 : w.cell? ⟨b, off + k * 4 + 2, none⟩ = some (.int .i64 q1) := hcq 2 _ rfl
        have y2 : w.cell? ⟨b', off' + k * 4 + 2, none⟩ = some (.int .i64 p1) := hcp 2 _ rfl
        have z3 : w.cell? ⟨b, off + k * 4 + 3, none⟩ = some (.string q2) := hcq 3 _ rfl
        have y3 : w.cell? ⟨b', off' + k * 4 + 3, none⟩ = some (.string p2) := hcp 3 _ rfl
        have hT := Lib.hid ht
        have HQ := Lib.hid hyq
        have HP := Lib.hid hyp
        clear h3 g3 ht hcq hcp hrq hrp hcsq hcsp hyq hyp
        have hcase : (q00 = p00 ∧ q01 = p01 ∧ q1 = p1 ∧ q2 = p2) ∨ (q00 ≠ p00) ∨ (q00 = p00 ∧ q01.toList ≠ p01.toList) ∨ (q00 = p00 ∧ q01 = p01 ∧ q1 ≠ p1) ∨ (q00 = p00 ∧ q01 = p01 ∧ q1 = p1 ∧ q2.toList ≠ p2.toList) := by
          exact (Classical.em (q00 = p00)).elim (fun t0 => (Classical.em (q01 = p01)).elim (fun t1 => (Classical.em (q1 = p1)).elim (fun t2 => (Classical.em (q2 = p2)).elim (fun t3 => .inl ⟨t0, t1, t2, t3⟩) (fun t3 => .inr (.inr (.inr (.inr (⟨t0, t1, t2, (fun e => t3 (str_inj e))⟩)))))) (fun t2 => .inr (.inr (.inr (.inl (⟨t0, t1, t2⟩)))))) (fun t1 => .inr (.inr (.inl (⟨t0, (fun e => t1 (str_inj e))⟩))))) (fun t0 => .inr (.inl (t0)))
        rcases hcase with ⟨rfl, rfl, rfl, rfl⟩ | e | ⟨rfl, e⟩ | ⟨rfl, rfl, e⟩ | ⟨rfl, rfl, rfl, e⟩
        · go_wp2_with fail
          refine wp_region_grown (by kernel_rfl) (by kernel_rfl) ?_
          repeat (go_big_quiet_step (fail))
          refine wpQuiet_nil ?_
          intro _ hw'
          obtain ⟨nx, hw''⟩ := hw'
          subst hw''
          go_wp2
          refine ⟨⟨k + 1, by omega, ?_, ((Gr.refl w).ext _).ext _, by go_num⟩, by simp [intOf]; omega⟩
          rw [List.take_succ_eq_append_getElem hlt, List.take_succ_eq_append_getElem hlt2, hT.out, HQ.out, HP.out]
        all_goals
        · have E := Lib.hid e
          go_wp2_with fail
          refine wp_region_grown (by kernel_rfl) (by kernel_rfl) ?_
          repeat (go_big_quiet_step (fail))
          refine wpQuiet_nil ?_
          intro _ hw'
          obtain ⟨nx, hw''⟩ := hw'
          subst hw''
          go_wp2
          go_ret
          refine ⟨ret_bool (decide_eq_false fun hxy => E.out ?_).symm, ((Gr.refl w).ext _).ext _⟩
          subst hxy
          have h := HQ.out.symm.trans HP.out
          simp only [Prod.mk.injEq, true_and] at h
          simp [h]
      · have hk2 : k = xs.length := by omega
        subst hk2
        have e : xs = ys := by
          have h := ht
          have h' := hl'.out
          rw [List.take_length, h', List.take_length] at h
          exact h
        have E := Lib.hid e
        clear e ht
        go_wp2
        go_ret
        exact ⟨ret_bool (decide_eq_true E.out).symm, (Gr.refl w).ext _⟩
  · have hne : ((xs.length : Int) != (ys.length : Int)) = true := by simp; omega
    have e : xs ≠ ys := fun e => hl (by rw [e])
    have E := Lib.hid e
    clear e hl
    go_enter Tryz.func78, Tryz.ntmps78
    go_wp2
    go_ret
    exact ⟨ret_bool (decide_eq_false E.out).symm, Gr.refl w⟩

set_option maxHeartbeats 4000000 in
theorem slicesEqualInstance_any (fp fq : List Nat) (u v : Value) (xs ys : List GInstance) (w : World) (hu : SlR fp w u xs) (hv : SlR fq w v ys) :
    Calls Tryz.prog 45 #[u, v] w fun e w' => e = .returned (.bool (decide (xs = ys))) ∧ Gr w w' := by
  obtain ⟨a, ca, rfl, h1, h2, h3⟩ := hu.open
  obtain ⟨c, cc, rfl, g1, g2, g3⟩ := hv.open
  by_cases hl : xs.length = ys.length
  · have hl' := Lib.hid hl
    have hne : ((xs.length : Int) != (ys.length : Int)) = false := by simp [hl]
    clear hl
    go_enter Tryz.func45, Tryz.ntmps45
    go_wp2
    go_loopw [13, 5] (fun s13 s5 wr => ∃ k : Nat, k ≤ xs.length ∧ xs.take k = ys.take k ∧ Gr w wr ∧ s13 = .int .i64 k) (fun s13 s5 _ => xs.length - (intOf s13).toNat)
    case atStart => exact ⟨0, by omega, rfl, Gr.refl w, rfl⟩
    case round =>
      obtain ⟨k, hk, ht, ⟨x, rfl⟩, rfl⟩ := hrel
      by_cases hlt : k < xs.length
      · have hlt2 : k < ys.length := by have := hl'.out; omega
        obtain ⟨b, off, rfl, hb⟩ := h3 k hlt
        obtain ⟨b', off', rfl, hb'⟩ := g3 k hlt2
        obtain ⟨csq, feq, hcq, hrq, -⟩ := hu.at hlt
        obtain ⟨csp, fep, hcp, hrp, -⟩ := hv.at hlt2
        generalize hyq : xs[k] = yq at hrq
        generalize hyp : ys[k] = yp at hrp
        obtain ⟨q0, q1⟩ := yq
        obtain ⟨p0, p1⟩ := yp
        obtain ⟨hcsq, -, -⟩ := rdInstance_inv (cs := csq.toArray) q0 q1 (by simpa using hrq)
        obtain rfl : csq = [.int .i64 q0, .string q1] := by have := congrArg Array.toList hcsq; simpa using this
        obtain ⟨hcsp, -, -⟩ := rdInstance_inv (cs := csp.toArray) p0 p1 (by simpa using hrp)
        obtain rfl : csp = [.int .i64 p0, .string p1] := by have := congrArg Array.toList hcsp; simpa using this
        have z0 : w.cell? ⟨b, off + k * 2, none⟩ = some (.int .i64 q0) := by simpa [Rd.n] using hcq 0 _ rfl
        have y0 : w.cell? ⟨b', off' + k * 2, none⟩ = some (.int .i64 p0) := by simpa [Rd.n] using hcp 0 _ rfl
        have z1 : w.cell? ⟨b, off + k * 2 + 1, none⟩ = some (.string q1) := hcq 1 _ rfl
        have y1 : w.cell? ⟨b', off' + k * 2 + 1, none⟩ = some (.string p1) := hcp 1 _ rfl
        have hT := Lib.hid ht
        have HQ := Lib.hid hyq
        have HP := Lib.hid hyp
        clear h3 g3 ht hcq hcp hrq hrp hcsq hcsp hyq hyp
        have hcase : (q0 = p0 ∧ q1 = p1) ∨ (q0 ≠ p0) ∨ (q0 = p0 ∧ q1.toList ≠ p1.toList) := by
          exact (Classical.em (q0 = p0)).elim (fun t0 => (Classical.em (q1 = p1)).elim (fun t1 => .inl ⟨t0, t1⟩) (fun t1 => .inr (.inr (⟨t0, (fun e => t1 (str_inj e))⟩)))) (fun t0 => .inr (.inl (t0)))
        rcases hcase with ⟨rfl, rfl⟩ | e | ⟨rfl, e⟩
        · go_wp2_with fail
          refine wp_region_grown (by kernel_rfl) (by kernel_rfl) ?_
          repeat (go_big_quiet_step (fail))
          refine wpQuiet_nil ?_
          intro _ hw'
          obtain ⟨nx, hw''⟩ := hw'
          subst hw''
          go_wp2
          refine ⟨⟨k + 1, by omega, ?_, ((Gr.refl w).ext _).ext _, by go_num⟩, by simp [intOf]; omega⟩
          rw [List.take_succ_eq_append_getElem hlt, List.take_succ_eq_append_getElem hlt2, hT.out, HQ.out, HP.out]
        all_goals
        · have E := Lib.hid e
          go_wp2_with fail
          refine wp_region_grown (by kernel_rfl) (by kernel_rfl) ?_
          repeat (go_big_quiet_step (fail))
          refine wpQuiet_nil ?_
          intro _ hw'
          obtain ⟨nx, hw''⟩ := hw'
          subst hw''
          go_wp2
          go_ret
          refine ⟨ret_bool (decide_eq_false fun hxy => E.out ?_).symm, ((Gr.refl w).ext _).ext _⟩
          subst hxy
          have h := HQ.out.symm.trans HP.out
          simp only [Prod.mk.injEq, true_and] at h
          simp [h]
      · have hk2 : k = xs.length := by omega
        subst hk2
        have e : xs = ys := by
          have h := ht
          have h' := hl'.out
          rw [List.take_length, h', List.take_length] at h
          exact h
        have E := Lib.hid e
        clear e ht
        go_wp2
        go_ret
        exact ⟨ret_bool (decide_eq_true E.out).symm, (Gr.refl w).ext _⟩
  · have hne : ((xs.length : Int) != (ys.length : Int)) = true := by simp; omega
    have e : xs ≠ ys := fun e => hl (by rw [e])
    have E := Lib.hid e
    clear e hl
    go_enter Tryz.func45, Tryz.ntmps45
    go_wp2
    go_ret
    exact ⟨ret_bool (decide_eq_false E.out).symm, Gr.refl w⟩

end Go.Proofs.YtmdiabjaggadjaaGreat
