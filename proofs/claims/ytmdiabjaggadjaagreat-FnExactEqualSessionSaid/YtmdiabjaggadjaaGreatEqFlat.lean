/- Slices of attributes and of strings compared. Made by mk_eqflat.py. No condition. -/
import Derived.Test.YtmdiabjaggadjaaGreatEqFunc
namespace Go.Proofs.YtmdiabjaggadjaaGreat
open Go.RowKit

set_option maxHeartbeats 4000000 in
theorem l10Attributes_any (fp fq : List Nat) (u v : Value) (xs ys : List GAttribute) (w : World) (hu : SlR fp w u xs) (hv : SlR fq w v ys) :
    Calls Tryz.prog 29 #[u, v] w fun e w' => e = .returned (.bool (decide (xs = ys))) ∧ Gr w w' := by
  obtain ⟨a, ca, rfl, h1, h2, h3⟩ := hu.open
  obtain ⟨c, cc, rfl, g1, g2, g3⟩ := hv.open
  by_cases hl : xs.length = ys.length
  · have hl' := Lib.hid hl
    have hne : ((xs.length : Int) != (ys.length : Int)) = false := by simp [hl]
    clear hl
    go_enter Tryz.func29, Tryz.ntmps29
    go_wp2
    go_loopw [5] (fun s5 wr => ∃ k : Nat, k ≤ xs.length ∧ xs.take k = ys.take k ∧ Gr w wr ∧ s5 = .int .i64 k) (fun s5 _ => xs.length - (intOf s5).toNat)
    case atStart => exact ⟨0, by omega, rfl, Gr.refl w, rfl⟩
    case round =>
      obtain ⟨k, hk, ht, ⟨x, rfl⟩, rfl⟩ := hrel
      by_cases hlt : k < xs.length
      · have hlt2 : k < ys.length := by have := hl'.out; omega
        obtain ⟨b, off, rfl, hb⟩ := h3 k hlt
        obtain ⟨b', off', rfl, hb'⟩ := g3 k hlt2
        obtain ⟨csq, feq, hcq, hrq, -⟩ := hu.at hlt
        obtain ⟨csp, fep, hcp, hrp, -⟩ := hv.at hlt2
        generalize hyq : xs[k] = yq at hrq
        generalize hyp : ys[k] = yp at hrp
        obtain ⟨q0, q1, q2, q3⟩ := yq
        obtain ⟨p0, p1, p2, p3⟩ := yp
        obtain ⟨hcsq, -, -⟩ := rdAttribute_inv (cs := csq.toArray) q0 q1 q2 q3 (by simpa using hrq)
        obtain rfl : csq = [.string q0, .int .i64 q1, .int .i64 q2, .bool q3] := by have := congrArg Array.toList hcsq; simpa using this
        obtain ⟨hcsp, -, -⟩ := rdAttribute_inv (cs := csp.toArray) p0 p1 p2 p3 (by simpa using hrp)
        obtain rfl : csp = [.string p0, .int .i64 p1, .int .i64 p2, .bool p3] := by have := congrArg Array.toList hcsp; simpa using this
        have z0 : w.cell? ⟨b, off + k * 4, none⟩ = some (.string q0) := by simpa [Rd.n] using hcq 0 _ rfl
        have y0 : w.cell? ⟨b', off' + k * 4, none⟩ = some (.string p0) := by simpa [Rd.n] using hcp 0 _ rfl
        have z1 : w.cell? ⟨b, off + k * 4 + 1, none⟩ = some (.int .i64 q1) := hcq 1 _ rfl
        have y1 : w.cell? ⟨b', off' + k * 4 + 1, none⟩ = some (.int .i64 p1) := hcp 1 _ rfl
        have z2 : w.cell? ⟨b, off + k * 4 + 2, none⟩ = some (.int .i64 q2) := hcq 2 _ rfl
        have y2 : w.cell? ⟨b', off' + k * 4 + 2, none⟩ = some (.int .i64 p2) := hcp 2 _ rfl
        have z3 : w.cell? ⟨b, off + k * 4 + 3, none⟩ = some (.bool q3) := hcq 3 _ rfl
        have y3 : w.cell? ⟨b', off' + k * 4 + 3, none⟩ = some (.bool p3) := hcp 3 _ rfl
        have hT := Lib.hid ht
        have HQ := Lib.hid hyq
        have HP := Lib.hid hyp
        clear h3 g3 ht hcq hcp hrq hrp hcsq hcsp hyq hyp
        have hcase : (q0 = p0 ∧ q1 = p1 ∧ q2 = p2 ∧ q3 = p3) ∨ (q0.toList ≠ p0.toList) ∨ (q0 = p0 ∧ q1 ≠ p1) ∨ (q0 = p0 ∧ q1 = p1 ∧ q2 ≠ p2) ∨ (q0 = p0 ∧ q1 = p1 ∧ q2 = p2 ∧ q3 ≠ p3) := by
          exact (Classical.em (q0 = p0)).elim (fun t0 => (Classical.em (q1 = p1)).elim (fun t1 => (Classical.em (q2 = p2)).elim (fun t2 => (Classical.em (q3 = p3)).elim (fun t3 => .inl ⟨t0, t1, t2, t3⟩) (fun t3 => .inr (.inr (.inr (.inr (⟨t0, t1, t2, t3⟩)))))) (fun t2 => .inr (.inr (.inr (.inl (⟨t0, t1, t2⟩)))))) (fun t1 => .inr (.inr (.inl (⟨t0, t1⟩))))) (fun t0 => .inr (.inl ((fun e => t0 (str_inj e)))))
        rcases hcase with ⟨rfl, rfl, rfl, rfl⟩ | e | ⟨rfl, e⟩ | ⟨rfl, rfl, e⟩ | ⟨rfl, rfl, rfl, e⟩
        · go_wp2_with fail
          refine wp_region_grown (by kernel_rfl) (by kernel_rfl) ?_
          repeat (go_big_quiet_step (fail))
          refine wpQuiet_nil ?_
          intro _ hw'
          obtain ⟨nx, hw''⟩ := hw'
          subst hw''
          go_wp2
          refine ⟨⟨k + 1, by omega, ?_, ((Gr.refl w).ext _).ext _, by go_num⟩, by simp [intOf]; omega⟩
          rw [List.take_succ_eq_append_getElem hlt, List.take_succ_eq_append_getElem hlt2, hT.out, HQ.out, HP.out]
        all_goals
        · have E := Lib.hid e
          go_wp2_with fail
          refine wp_region_grown (by kernel_rfl) (by kernel_rfl) ?_
          repeat (go_big_quiet_step (fail))
          refine wpQuiet_nil ?_
          intro _ hw'
          obtain ⟨nx, hw''⟩ := hw'
          subst hw''
          go_wp2
          go_ret
          refine ⟨ret_bool (decide_eq_false fun hxy => E.out ?_).symm, ((Gr.refl w).ext _).ext _⟩
          subst hxy
          have h := HQ.out.symm.trans HP.out
          simp only [Prod.mk.injEq, true_and] at h
          simp [h]
      · have hk2 : k = xs.length := by omega
        subst hk2
        have e : xs = ys := by
          have h := ht
          have h' := hl'.out
          rw [List.take_length, h', List.take_length] at h
          exact h
        have E := Lib.hid e
        clear e ht
        go_wp2
        go_ret
        exact ⟨ret_bool (decide_eq_true E.out).symm, (Gr.refl w).ext _⟩
  · have hne : ((xs.length : Int) != (ys.length : Int)) = true := by simp; omega
    have e : xs ≠ ys := fun e => hl (by rw [e])
    have E := Lib.hid e
    clear e hl
    go_enter Tryz.func29, Tryz.ntmps29
    go_wp2
    go_ret
    exact ⟨ret_bool (decide_eq_false E.out).symm, Gr.refl w⟩

set_option maxHeartbeats 4000000 in
theorem slicesEqualAttribute_any (fp fq : List Nat) (u v : Value) (xs ys : List GAttribute) (w : World) (hu : SlR fp w u xs) (hv : SlR fq w v ys) :
    Calls Tryz.prog 40 #[u, v] w fun e w' => e = .returned (.bool (decide (xs = ys))) ∧ Gr w w' := by
  obtain ⟨a, ca, rfl, h1, h2, h3⟩ := hu.open
  obtain ⟨c, cc, rfl, g1, g2, g3⟩ := hv.open
  by_cases hl : xs.length = ys.length
  · have hl' := Lib.hid hl
    have hne : ((xs.length : Int) != (ys.length : Int)) = false := by simp [hl]
    clear hl
    go_enter Tryz.func40, Tryz.ntmps40
    go_wp2
    go_loopw [13, 5] (fun s13 s5 wr => ∃ k : Nat, k ≤ xs.length ∧ xs.take k = ys.take k ∧ Gr w wr ∧ s13 = .int .i64 k) (fun s13 s5 _ => xs.length - (intOf s13).toNat)
    case atStart => exact ⟨0, by omega, rfl, Gr.refl w, rfl⟩
    case round =>
      obtain ⟨k, hk, ht, ⟨x, rfl⟩, rfl⟩ := hrel
      by_cases hlt : k < xs.length
      · have hlt2 : k < ys.length := by have := hl'.out; omega
        obtain ⟨b, off, rfl, hb⟩ := h3 k hlt
        obtain ⟨b', off', rfl, hb'⟩ := g3 k hlt2
        obtain ⟨csq, feq, hcq, hrq, -⟩ := hu.at hlt
        obtain ⟨csp, fep, hcp, hrp, -⟩ := hv.at hlt2
        generalize hyq : xs[k] = yq at hrq
        generalize hyp : ys[k] = yp at hrp
        obtain ⟨q0, q1, q2, q3⟩ := yq
        obtain ⟨p0, p1, p2, p3⟩ := yp
        obtain ⟨hcsq, -, -⟩ := rdAttribute_inv (cs := csq.toArray) q0 q1 q2 q3 (by simpa using hrq)
        obtain rfl : csq = [.string q0, .int .i64 q1, .int .i64 q2, .bool q3] := by have := congrArg Array.toList hcsq; simpa using this
        obtain ⟨hcsp, -, -⟩ := rdAttribute_inv (cs := csp.toArray) p0 p1 p2 p3 (by simpa using hrp)
        obtain rfl : csp = [.string p0, .int .i64 p1, .int .i64 p2, .bool p3] := by have := congrArg Array.toList hcsp; simpa using this
        have z0 : w.cell? ⟨b, off + k * 4, none⟩ = some (.string q0) := by simpa [Rd.n] using hcq 0 _ rfl
        have y0 : w.cell? ⟨b', off' + k * 4, none⟩ = some (.string p0) := by simpa [Rd.n] using hcp 0 _ rfl
        have z1 : w.cell? ⟨b, off + k * 4 + 1, none⟩ = some (.int .i64 q1) := hcq 1 _ rfl
        have y1 : w.cell? ⟨b', off' + k * 4 + 1, none⟩ = some (.int .i64 p1) := hcp 1 _ rfl
        have z2 : w.cell? ⟨b, off + k * 4 + 2, none⟩ = some (.int .i64 q2) := hcq 2 _ rfl
        have y2 : w.cell? ⟨b', off' + k * 4 + 2, none⟩ = some (.int .i64 p2) := hcp 2 _ rfl
        have z3 : w.cell? ⟨b, off + k * 4 + 3, none⟩ = some (.bool q3) := hcq 3 _ rfl
        have y3 : w.cell? ⟨b', off' + k * 4 + 3, none⟩ = some (.bool p3) := hcp 3 _ rfl
        have hT := Lib.hid ht
        have HQ := Lib.hid hyq
        have HP := Lib.hid hyp
        clear h3 g3 ht hcq hcp hrq hrp hcsq hcsp hyq hyp
        have hcase : (q0 = p0 ∧ q1 = p1 ∧ q2 = p2 ∧ q3 = p3) ∨ (q0.toList ≠ p0.toList) ∨ (q0 = p0 ∧ q1 ≠ p1) ∨ (q0 = p0 ∧ q1 = p1 ∧ q2 ≠ p2) ∨ (q0 = p0 ∧ q1 = p1 ∧ q2 = p2 ∧ q3 ≠ p3) := by
          exact (Classical.em (q0 = p0)).elim (fun t0 => (Classical.em (q1 = p1)).elim (fun t1 => (Classical.em (q2 = p2)).elim (fun t2 => (Classical.em (q3 = p3)).elim (fun t3 => .inl ⟨t0, t1, t2, t3⟩) (fun t3 => .inr (.inr (.inr (.inr (⟨t0, t1, t2, t3⟩)))))) (fun t2 => .inr (.inr (.inr (.inl (⟨t0, t1, t2⟩)))))) (fun t1 => .inr (.inr (.inl (⟨t0, t1⟩))))) (fun t0 => .inr (.inl ((fun e => t0 (str_inj e)))))
        rcases hcase with ⟨rfl, rfl, rfl, rfl⟩ | e | ⟨rfl, e⟩ | ⟨rfl, rfl, e⟩ | ⟨rfl, rfl, rfl, e⟩
        · go_wp2_with fail
          refine wp_region_grown (by kernel_rfl) (by kernel_rfl) ?_
          repeat (go_big_quiet_step (fail))
          refine wpQuiet_nil ?_
          intro _ hw'
          obtain ⟨nx, hw''⟩ := hw'
          subst hw''
          go_wp2
          refine ⟨⟨k + 1, by omega, ?_, ((Gr.refl w).ext _).ext _, by go_num⟩, by simp [intOf]; omega⟩
          rw [List.take_succ_eq_append_getElem hlt, List.take_succ_eq_append_getElem hlt2, hT.out, HQ.out, HP.out]
        all_goals
        · have E := Lib.hid e
          go_wp2_with fail
          refine wp_region_grown (by kernel_rfl) (by kernel_rfl) ?_
          repeat (go_big_quiet_step (fail))
          refine wpQuiet_nil ?_
          intro _ hw'
          obtain ⟨nx, hw''⟩ := hw'
          subst hw''
          go_wp2
          go_ret
          refine ⟨ret_bool (decide_eq_false fun hxy => E.out ?_).symm, ((Gr.refl w).ext _).ext _⟩
          subst hxy
          have h := HQ.out.symm.trans HP.out
          simp only [Prod.mk.injEq, true_and] at h
          simp [h]
      · have hk2 : k = xs.length := by omega
        subst hk2
        have e : xs = ys := by
          have h := ht
          have h' := hl'.out
          rw [List.take_length, h', List.take_length] at h
          exact h
        have E := Lib.hid e
        clear e ht
        go_wp2
        go_ret
        exact ⟨ret_bool (decide_eq_true E.out).symm, (Gr.refl w).ext _⟩
  · have hne : ((xs.length : Int) != (ys.length : Int)) = true := by simp; omega
    have e : xs ≠ ys := fun e => hl (by rw [e])
    have E := Lib.hid e
    clear e hl
    go_enter Tryz.func40, Tryz.ntmps40
    go_wp2
    go_ret
    exact ⟨ret_bool (decide_eq_false E.out).symm, Gr.refl w⟩

set_option maxHeartbeats 4000000 in
theorem l3Texts_any (fp fq : List Nat) (u v : Value) (xs ys : List ByteArray) (w : World) (hu : SlR fp w u xs) (hv : SlR fq w v ys) :
    Calls Tryz.prog 56 #[u, v] w fun e w' => e = .returned (.bool (decide (xs = ys))) ∧ Gr w w' := by
  obtain ⟨a, ca, rfl, h1, h2, h3⟩ := hu.open
  obtain ⟨c, cc, rfl, g1, g2, g3⟩ := hv.open
  by_cases hl : xs.length = ys.length
  · have hl' := Lib.hid hl
    have hne : ((xs.length : Int) != (ys.length : Int)) = false := by simp [hl]
    clear hl
    go_enter Tryz.func56, Tryz.ntmps56
    go_wp2
    go_loopw [5] (fun s5 wr => ∃ k : Nat, k ≤ xs.length ∧ xs.take k = ys.take k ∧ Gr w wr ∧ s5 = .int .i64 k) (fun s5 _ => xs.length - (intOf s5).toNat)
    case atStart => exact ⟨0, by omega, rfl, Gr.refl w, rfl⟩
    case round =>
      obtain ⟨k, hk, ht, ⟨x, rfl⟩, rfl⟩ := hrel
      by_cases hlt : k < xs.length
      · have hlt2 : k < ys.length := by have := hl'.out; omega
        obtain ⟨b, off, rfl, hb⟩ := h3 k hlt
        obtain ⟨b', off', rfl, hb'⟩ := g3 k hlt2
        have x1 := (hu.str_at hlt).1
        have x2 := (hv.str_at hlt2).1
        have z1 := blk x1
        have z2 := blk x2
        have hT := Lib.hid ht
        clear h3 g3 ht
        go_wp2_with fail
        refine wp_region_grown (by kernel_rfl) (by kernel_rfl) ?_
        repeat (go_big_quiet_step (fail))
        refine wpQuiet_nil ?_
        intro _ hw'
        obtain ⟨nx, hw''⟩ := hw'
        subst hw''
        go_wp2
        · rename_i hx
          go_ret
          have hx2 : xs[k] ≠ ys[k] := str_ne (by simpa using hx)
          have E : xs ≠ ys := fun e => hx2 (by subst e; rfl)
          exact ⟨ret_bool (decide_eq_false E).symm, ((Gr.refl w).ext _).ext _⟩
        · rename_i hx
          have hx2 : xs[k] = ys[k] := str_inj (by simpa using hx)
          refine ⟨⟨k + 1, by omega, ?_, ((Gr.refl w).ext _).ext _, by go_num⟩, by simp [intOf]; omega⟩
          rw [List.take_succ_eq_append_getElem hlt, List.take_succ_eq_append_getElem hlt2, hT.out, hx2]
      · have hk2 : k = xs.length := by omega
        subst hk2
        have e : xs = ys := by
          have h := ht
          have h' := hl'.out
          rw [List.take_length, h', List.take_length] at h
          exact h
        have E := Lib.hid e
        clear e ht
        go_wp2
        go_ret
        exact ⟨ret_bool (decide_eq_true E.out).symm, (Gr.refl w).ext _⟩
  · have hne : ((xs.length : Int) != (ys.length : Int)) = true := by simp; omega
    have e : xs ≠ ys := fun e => hl (by rw [e])
    have E := Lib.hid e
    clear e hl
    go_enter Tryz.func56, Tryz.ntmps56
    go_wp2
    go_ret
    exact ⟨ret_bool (decide_eq_false E.out).symm, Gr.refl w⟩

set_option maxHeartbeats 4000000 in
theorem slicesEqualString_any (fp fq : List Nat) (u v : Value) (xs ys : List ByteArray) (w : World) (hu : SlR fp w u xs) (hv : SlR fq w v ys) :
    Calls Tryz.prog 66 #[u, v] w fun e w' => e = .returned (.bool (decide (xs = ys))) ∧ Gr w w' := by
  obtain ⟨a, ca, rfl, h1, h2, h3⟩ := hu.open
  obtain ⟨c, cc, rfl, g1, g2, g3⟩ := hv.open
  by_cases hl : xs.length = ys.length
  · have hl' := Lib.hid hl
    have hne : ((xs.length : Int) != (ys.length : Int)) = false := by simp [hl]
    clear hl
    go_enter Tryz.func66, Tryz.ntmps66
    go_wp2
    go_loopw [13, 5] (fun s13 s5 wr => ∃ k : Nat, k ≤ xs.length ∧ xs.take k = ys.take k ∧ Gr w wr ∧ s13 = .int .i64 k) (fun s13 s5 _ => xs.length - (intOf s13).toNat)
    case atStart => exact ⟨0, by omega, rfl, Gr.refl w, rfl⟩
    case round =>
      obtain ⟨k, hk, ht, ⟨x, rfl⟩, rfl⟩ := hrel
      by_cases hlt : k < xs.length
      · have hlt2 : k < ys.length := by have := hl'.out; omega
        obtain ⟨b, off, rfl, hb⟩ := h3 k hlt
        obtain ⟨b', off', rfl, hb'⟩ := g3 k hlt2
        have x1 := (hu.str_at hlt).1
        have x2 := (hv.str_at hlt2).1
        have z1 := blk x1
        have z2 := blk x2
        have hT := Lib.hid ht
        clear h3 g3 ht
        go_wp2_with fail
        refine wp_region_grown (by kernel_rfl) (by kernel_rfl) ?_
        repeat (go_big_quiet_step (fail))
        refine wpQuiet_nil ?_
        intro _ hw'
        obtain ⟨nx, hw''⟩ := hw'
        subst hw''
        go_wp2
        · rename_i hx
          go_ret
          have hx2 : xs[k] ≠ ys[k] := str_ne (by simpa using hx)
          have E : xs ≠ ys := fun e => hx2 (by subst e; rfl)
          exact ⟨ret_bool (decide_eq_false E).symm, ((Gr.refl w).ext _).ext _⟩
        · rename_i hx
          have hx2 : xs[k] = ys[k] := str_inj (by simpa using hx)
          refine ⟨⟨k + 1, by omega, ?_, ((Gr.refl w).ext _).ext _, by go_num⟩, by simp [intOf]; omega⟩
          rw [List.take_succ_eq_append_getElem hlt, List.take_succ_eq_append_getElem hlt2, hT.out, hx2]
      · have hk2 : k = xs.length := by omega
        subst hk2
        have e : xs = ys := by
          have h := ht
          have h' := hl'.out
          rw [List.take_length, h', List.take_length] at h
          exact h
        have E := Lib.hid e
        clear e ht
        go_wp2
        go_ret
        exact ⟨ret_bool (decide_eq_true E.out).symm, (Gr.refl w).ext _⟩
  · have hne : ((xs.length : Int) != (ys.length : Int)) = true := by simp; omega
    have e : xs ≠ ys := fun e => hl (by rw [e])
    have E := Lib.hid e
    clear e hl
    go_enter Tryz.func66, Tryz.ntmps66
    go_wp2
    go_ret
    exact ⟨ret_bool (decide_eq_false E.out).symm, Gr.refl w⟩

end Go.Proofs.YtmdiabjaggadjaaGreat
