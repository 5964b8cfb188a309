/- slices.EqualFunc at struct elements. Made by mk_equal.py. No condition. -/
import Derived.Test.YtmdiabjaggadjaaGreatFamGram
import Derived.Test.YtmdiabjaggadjaaGreatFamTree
namespace Go.Proofs.YtmdiabjaggadjaaGreat
open Go.RowKit
variable {d : Nat}

/-- A function value whose body is a function of the text compares elements. -/
structure TestEq {α : Type} [Rd α] [DecidableEq α] (w : World) (fid : Nat) (xs ys : List α) : Prop where
  fn : ∀ args W, (callFunc fid args).run Tryz.prog W = .ok (.enter fid args) W
  calls : ∀ x ∈ xs, ∀ y ∈ ys, ∀ (W : World) (fp fq : List Nat) (cs ds : Array Value), Gr w W → Rd.rd fp W cs.toList x → Rd.rd fq W ds.toList y → Calls Tryz.prog fid #[.agg cs, .agg ds] W fun e w' => e = .returned (.bool (decide (x = y))) ∧ Gr W w'

set_option maxHeartbeats 4000000 in
theorem equalFuncNode_any (fp fq : List Nat) (u v : Value) (xs ys : List GNode) (fid : Nat) (w : World) (hu : SlR fp w u xs) (hv : SlR fq w v ys) (hf : TestEq w fid xs ys) :
    Calls Tryz.prog 72 #[u, v, .func (.func fid) #[] #[]] w fun e w' => e = .returned (.bool (decide (xs = ys))) ∧ Gr w w' := by
  obtain ⟨hfn, hcalls⟩ := hf
  have HC := Lib.hid hcalls
  clear hcalls
  obtain ⟨a, ca, rfl, h1, h2, h3⟩ := hu.open
  obtain ⟨c, cc, rfl, g1, g2, g3⟩ := hv.open
  by_cases hl : xs.length = ys.length
  · have hl' := Lib.hid hl
    have hne : ((xs.length : Int) != (ys.length : Int)) = false := by simp [hl]
    clear hl
    go_enter Tryz.func72, Tryz.ntmps72
    go_wp2
    go_loopw [17, 7] (fun s17 s7 wr => ∃ k : Nat, k ≤ xs.length ∧ xs.take k = ys.take k ∧ Gr w wr ∧ s17 = .int .i64 k) (fun s17 s7 _ => xs.length - (intOf s17).toNat)
    case atStart => exact ⟨0, by omega, rfl, Gr.refl w, rfl⟩
    case round =>
      obtain ⟨k, hk, ht, ⟨x, rfl⟩, rfl⟩ := hrel
      by_cases hlt : k < xs.length
      · have hlt2 : k < ys.length := by have := hl'.out; omega
        obtain ⟨b, off, rfl, hb⟩ := h3 k hlt
        obtain ⟨b', off', rfl, hb'⟩ := g3 k hlt2
        obtain ⟨csq, feq, hcq, hrq, -⟩ := hu.at hlt
        have hrdq := hrq
        generalize xs[k] = yq at hrq
        obtain ⟨q0, q1, q2, q3, q4, q5⟩ := yq
        obtain ⟨vq5, fq5, hcsq, -, hq0, hq1, hq2, hq3, hq4, hq5⟩ := rdNode_inv (cs := csq.toArray) q0 q1 q2 q3 q4 q5 (by simpa using hrq)
        obtain rfl : csq = [.int .i64 q0, .int .i64 q1, .int .i64 q2, .int .i64 q3, .string q4, vq5] := by have := congrArg Array.toList hcsq; simpa using this
        obtain ⟨csp, fep, hcp, hrp, -⟩ := hv.at hlt2
        have hrdp := hrp
        generalize ys[k] = yp at hrp
        obtain ⟨p0, p1, p2, p3, p4, p5⟩ := yp
        obtain ⟨vp5, fp5, hcsp, -, hp0, hp1, hp2, hp3, hp4, hp5⟩ := rdNode_inv (cs := csp.toArray) p0 p1 p2 p3 p4 p5 (by simpa using hrp)
        obtain rfl : csp = [.int .i64 p0, .int .i64 p1, .int .i64 p2, .int .i64 p3, .string p4, vp5] := by have := congrArg Array.toList hcsp; simpa using this
        obtain ⟨aq5, cq5, rfl, -, -, -⟩ := hq5.open
        obtain ⟨ap5, cp5, rfl, -, -, -⟩ := hp5.open
        have z0 : w.cell? ⟨b, off + k * 6, none⟩ = some (.int .i64 q0) := by simpa [Rd.n] using hcq 0 _ rfl
        have z1 : w.cell? ⟨b, off + k * 6 + 1, none⟩ = some (.int .i64 q1) := hcq 1 _ rfl
        have z2 : w.cell? ⟨b, off + k * 6 + 2, none⟩ = some (.int .i64 q2) := hcq 2 _ rfl
        have z3 : w.cell? ⟨b, off + k * 6 + 3, none⟩ = some (.int .i64 q3) := hcq 3 _ rfl
        have z4 : w.cell? ⟨b, off + k * 6 + 4, none⟩ = some (.string q4) := hcq 4 _ rfl
        have z5 : w.cell? ⟨b, off + k * 6 + 5, none⟩ = some (.slice aq5 q5.length cq5) := hcq 5 _ rfl
        have zz0 : w.cell? ⟨b', off' + k * 6, none⟩ = some (.int .i64 p0) := by simpa [Rd.n] using hcp 0 _ rfl
        have zz1 : w.cell? ⟨b', off' + k * 6 + 1, none⟩ = some (.int .i64 p1) := hcp 1 _ rfl
        have zz2 : w.cell? ⟨b', off' + k * 6 + 2, none⟩ = some (.int .i64 p2) := hcp 2 _ rfl
        have zz3 : w.cell? ⟨b', off' + k * 6 + 3, none⟩ = some (.int .i64 p3) := hcp 3 _ rfl
        have zz4 : w.cell? ⟨b', off' + k * 6 + 4, none⟩ = some (.string p4) := hcp 4 _ rfl
        have zz5 : w.cell? ⟨b', off' + k * 6 + 5, none⟩ = some (.slice ap5 p5.length cp5) := hcp 5 _ rfl
        have hT := Lib.hid ht
        clear h3 g3 ht hcsq hcsp hcq hcp hrq hrp
        go_wp2_with fail
        refine (HC.out _ (List.getElem_mem hlt) _ (List.getElem_mem hlt2) _ _ _ _ _ (by repeat (first | exact Gr.refl _ | apply Gr.ext | apply Gr.alloc | apply Gr.drew)) (Rd.gr hrdq (by repeat (first | exact Gr.refl _ | apply Gr.ext | apply Gr.alloc | apply Gr.drew))) (Rd.gr hrdp (by repeat (first | exact Gr.refl _ | apply Gr.ext | apply Gr.alloc | apply Gr.drew)))).mono ?_
        rintro e w3 ⟨rfl, x3, rfl⟩
        go_wp2
        · have ht : (!decide (xs[k] = ys[k])) = true := by assumption
          go_ret
          have E : xs ≠ ys := fun e => dec_ne ht (by subst e; rfl)
          exact ⟨ret_bool (decide_eq_false E).symm, (by repeat (first | exact Gr.refl _ | apply Gr.ext | apply Gr.alloc | apply Gr.drew))⟩
        · have ht : (!decide (xs[k] = ys[k])) = false := by assumption
          have e2 := dec_eq ht
          refine ⟨⟨k + 1, by omega, ?_, (by repeat (first | exact Gr.refl _ | apply Gr.ext | apply Gr.alloc | apply Gr.drew)), by go_num⟩, by simp [intOf]; omega⟩
          rw [List.take_succ_eq_append_getElem hlt, List.take_succ_eq_append_getElem hlt2, hT.out, e2]
      · have hk2 : k = xs.length := by omega
        subst hk2
        have e : xs = ys := by
          have h := ht
          have h' := hl'.out
          rw [List.take_length, h', List.take_length] at h
          exact h
        have E := Lib.hid e
        clear e ht
        go_wp2
        go_ret
        exact ⟨ret_bool (decide_eq_true E.out).symm, (by repeat (first | exact Gr.refl _ | apply Gr.ext | apply Gr.alloc | apply Gr.drew))⟩
  · have hne : ((xs.length : Int) != (ys.length : Int)) = true := by simp; omega
    have e : xs ≠ ys := fun e => hl (by rw [e])
    have E := Lib.hid e
    clear e hl
    go_enter Tryz.func72, Tryz.ntmps72
    go_wp2
    go_ret
    exact ⟨ret_bool (decide_eq_false E.out).symm, Gr.refl w⟩

set_option maxHeartbeats 4000000 in
theorem equalFuncSymbol_any (fp fq : List Nat) (u v : Value) (xs ys : List GSymbol) (fid : Nat) (w : World) (hu : SlR fp w u xs) (hv : SlR fq w v ys) (hf : TestEq w fid xs ys) :
    Calls Tryz.prog 38 #[u, v, .func (.func fid) #[] #[]] w fun e w' => e = .returned (.bool (decide (xs = ys))) ∧ Gr w w' := by
  obtain ⟨hfn, hcalls⟩ := hf
  have HC := Lib.hid hcalls
  clear hcalls
  obtain ⟨a, ca, rfl, h1, h2, h3⟩ := hu.open
  obtain ⟨c, cc, rfl, g1, g2, g3⟩ := hv.open
  by_cases hl : xs.length = ys.length
  · have hl' := Lib.hid hl
    have hne : ((xs.length : Int) != (ys.length : Int)) = false := by simp [hl]
    clear hl
    go_enter Tryz.func38, Tryz.ntmps38
    go_wp2
    go_loopw [17, 7] (fun s17 s7 wr => ∃ k : Nat, k ≤ xs.length ∧ xs.take k = ys.take k ∧ Gr w wr ∧ s17 = .int .i64 k) (fun s17 s7 _ => xs.length - (intOf s17).toNat)
    case atStart => exact ⟨0, by omega, rfl, Gr.refl w, rfl⟩
    case round =>
      obtain ⟨k, hk, ht, ⟨x, rfl⟩, rfl⟩ := hrel
      by_cases hlt : k < xs.length
      · have hlt2 : k < ys.length := by have := hl'.out; omega
        obtain ⟨b, off, rfl, hb⟩ := h3 k hlt
        obtain ⟨b', off', rfl, hb'⟩ := g3 k hlt2
        obtain ⟨csq, feq, hcq, hrq, -⟩ := hu.at hlt
        have hrdq := hrq
        generalize xs[k] = yq at hrq
        obtain ⟨q0, q1⟩ := yq
        obtain ⟨vq1, fq1, hcsq, -, hq0, hq1⟩ := rdSymbol_inv (cs := csq.toArray) q0 q1 (by simpa using hrq)
        obtain rfl : csq = [.string q0, vq1] := by have := congrArg Array.toList hcsq; simpa using this
        obtain ⟨csp, fep, hcp, hrp, -⟩ := hv.at hlt2
        have hrdp := hrp
        generalize ys[k] = yp at hrp
        obtain ⟨p0, p1⟩ := yp
        obtain ⟨vp1, fp1, hcsp, -, hp0, hp1⟩ := rdSymbol_inv (cs := csp.toArray) p0 p1 (by simpa using hrp)
        obtain rfl : csp = [.string p0, vp1] := by have := congrArg Array.toList hcsp; simpa using this
        obtain ⟨aq1, cq1, rfl, -, -, -⟩ := hq1.open
        obtain ⟨ap1, cp1, rfl, -, -, -⟩ := hp1.open
        have z0 : w.cell? ⟨b, off + k * 2, none⟩ = some (.string q0) := by simpa [Rd.n] using hcq 0 _ rfl
        have z1 : w.cell? ⟨b, off + k * 2 + 1, none⟩ = some (.slice aq1 q1.length cq1) := hcq 1 _ rfl
        have zz0 : w.cell? ⟨b', off' + k * 2, none⟩ = some (.string p0) := by simpa [Rd.n] using hcp 0 _ rfl
        have zz1 : w.cell? ⟨b', off' + k * 2 + 1, none⟩ = some (.slice ap1 p1.length cp1) := hcp 1 _ rfl
        have hT := Lib.hid ht
        clear h3 g3 ht hcsq hcsp hcq hcp hrq hrp
        go_wp2_with fail
        refine (HC.out _ (List.getElem_mem hlt) _ (List.getElem_mem hlt2) _ _ _ _ _ (by repeat (first | exact Gr.refl _ | apply Gr.ext | apply Gr.alloc | apply Gr.drew)) (Rd.gr hrdq (by repeat (first | exact Gr.refl _ | apply Gr.ext | apply Gr.alloc | apply Gr.drew))) (Rd.gr hrdp (by repeat (first | exact Gr.refl _ | apply Gr.ext | apply Gr.alloc | apply Gr.drew)))).mono ?_
        rintro e w3 ⟨rfl, x3, rfl⟩
        go_wp2
        · have ht : (!decide (xs[k] = ys[k])) = true := by assumption
          go_ret
          have E : xs ≠ ys := fun e => dec_ne ht (by subst e; rfl)
          exact ⟨ret_bool (decide_eq_false E).symm, (by repeat (first | exact Gr.refl _ | apply Gr.ext | apply Gr.alloc | apply Gr.drew))⟩
        · have ht : (!decide (xs[k] = ys[k])) = false := by assumption
          have e2 := dec_eq ht
          refine ⟨⟨k + 1, by omega, ?_, (by repeat (first | exact Gr.refl _ | apply Gr.ext | apply Gr.alloc | apply Gr.drew)), by go_num⟩, by simp [intOf]; omega⟩
          rw [List.take_succ_eq_append_getElem hlt, List.take_succ_eq_append_getElem hlt2, hT.out, e2]
      · have hk2 : k = xs.length := by omega
        subst hk2
        have e : xs = ys := by
          have h := ht
          have h' := hl'.out
          rw [List.take_length, h', List.take_length] at h
          exact h
        have E := Lib.hid e
        clear e ht
        go_wp2
        go_ret
        exact ⟨ret_bool (decide_eq_true E.out).symm, (by repeat (first | exact Gr.refl _ | apply Gr.ext | apply Gr.alloc | apply Gr.drew))⟩
  · have hne : ((xs.length : Int) != (ys.length : Int)) = true := by simp; omega
    have e : xs ≠ ys := fun e => hl (by rw [e])
    have E := Lib.hid e
    clear e hl
    go_enter Tryz.func38, Tryz.ntmps38
    go_wp2
    go_ret
    exact ⟨ret_bool (decide_eq_false E.out).symm, Gr.refl w⟩

set_option maxHeartbeats 4000000 in
theorem equalFuncExpr_any (fp fq : List Nat) (u v : Value) (xs ys : List (GE d)) (fid : Nat) (w : World) (hu : SlR fp w u xs) (hv : SlR fq w v ys) (hf : TestEq w fid xs ys) :
    Calls Tryz.prog 97 #[u, v, .func (.func fid) #[] #[]] w fun e w' => e = .returned (.bool (decide (xs = ys))) ∧ Gr w w' := by
  obtain ⟨hfn, hcalls⟩ := hf
  have HC := Lib.hid hcalls
  clear hcalls
  obtain ⟨a, ca, rfl, h1, h2, h3⟩ := hu.open
  obtain ⟨c, cc, rfl, g1, g2, g3⟩ := hv.open
  by_cases hl : xs.length = ys.length
  · have hl' := Lib.hid hl
    have hne : ((xs.length : Int) != (ys.length : Int)) = false := by simp [hl]
    clear hl
    go_enter Tryz.func97, Tryz.ntmps97
    go_wp2
    go_loopw [17, 7] (fun s17 s7 wr => ∃ k : Nat, k ≤ xs.length ∧ xs.take k = ys.take k ∧ Gr w wr ∧ s17 = .int .i64 k) (fun s17 s7 _ => xs.length - (intOf s17).toNat)
    case atStart => exact ⟨0, by omega, rfl, Gr.refl w, rfl⟩
    case round =>
      obtain ⟨k, hk, ht, ⟨x, rfl⟩, rfl⟩ := hrel
      by_cases hlt : k < xs.length
      · have hlt2 : k < ys.length := by have := hl'.out; omega
        obtain ⟨b, off, rfl, hb⟩ := h3 k hlt
        obtain ⟨b', off', rfl, hb'⟩ := g3 k hlt2
        obtain ⟨d1, rfl⟩ : ∃ e, d = e + 1 := by
          cases d with
          | zero => exact PEmpty.elim (xs[k])
          | succ e => exact ⟨e, rfl⟩
        obtain ⟨csq, feq, hcq, hrq, -⟩ := hu.at hlt
        have hrdq := hrq
        generalize xs[k] = yq at hrq
        obtain ⟨q0, q1, q2, q3, q4, q5, q6⟩ := yq
        obtain ⟨vq6, fq6, hcsq, -, hq0, hq1, hq2, hq3, hq4, hq5, hq6⟩ := rdExpr_inv (cs := csq.toArray) q0 q1 q2 q3 q4 q5 q6 (show Rd.rd (α := GExpr d1) feq w csq.toArray.toList _ from hrq)
        obtain rfl : csq = [.int .i64 q0, .int .i64 q1, .int .i64 q2, .int .i64 q3, .string q4, .string q5, vq6] := by have := congrArg Array.toList hcsq; simpa using this
        obtain ⟨csp, fep, hcp, hrp, -⟩ := hv.at hlt2
        have hrdp := hrp
        generalize ys[k] = yp at hrp
        obtain ⟨p0, p1, p2, p3, p4, p5, p6⟩ := yp
        obtain ⟨vp6, fp6, hcsp, -, hp0, hp1, hp2, hp3, hp4, hp5, hp6⟩ := rdExpr_inv (cs := csp.toArray) p0 p1 p2 p3 p4 p5 p6 (show Rd.rd (α := GExpr d1) fep w csp.toArray.toList _ from hrp)
        obtain rfl : csp = [.int .i64 p0, .int .i64 p1, .int .i64 p2, .int .i64 p3, .string p4, .string p5, vp6] := by have := congrArg Array.toList hcsp; simpa using this
        obtain ⟨aq6, cq6, rfl, -, -, -⟩ := hq6.open
        obtain ⟨ap6, cp6, rfl, -, -, -⟩ := hp6.open
        have z0 : w.cell? ⟨b, off + k * 7, none⟩ = some (.int .i64 q0) := hcq 0 _ rfl
        have z1 : w.cell? ⟨b, off + k * 7 + 1, none⟩ = some (.int .i64 q1) := hcq 1 _ rfl
        have z2 : w.cell? ⟨b, off + k * 7 + 2, none⟩ = some (.int .i64 q2) := hcq 2 _ rfl
        have z3 : w.cell? ⟨b, off + k * 7 + 3, none⟩ = some (.int .i64 q3) := hcq 3 _ rfl
        have z4 : w.cell? ⟨b, off + k * 7 + 4, none⟩ = some (.string q4) := hcq 4 _ rfl
        have z5 : w.cell? ⟨b, off + k * 7 + 5, none⟩ = some (.string q5) := hcq 5 _ rfl
        have z6 : w.cell? ⟨b, off + k * 7 + 6, none⟩ = some (.slice aq6 q6.length cq6) := hcq 6 _ rfl
        have zz0 : w.cell? ⟨b', off' + k * 7, none⟩ = some (.int .i64 p0) := hcp 0 _ rfl
        have zz1 : w.cell? ⟨b', off' + k * 7 + 1, none⟩ = some (.int .i64 p1) := hcp 1 _ rfl
        have zz2 : w.cell? ⟨b', off' + k * 7 + 2, none⟩ = some (.int .i64 p2) := hcp 2 _ rfl
        have zz3 : w.cell? ⟨b', off' + k * 7 + 3, none⟩ = some (.int .i64 p3) := hcp 3 _ rfl
        have zz4 : w.cell? ⟨b', off' + k * 7 + 4, none⟩ = some (.string p4) := hcp 4 _ rfl
        have zz5 : w.cell? ⟨b', off' + k * 7 + 5, none⟩ = some (.string p5) := hcp 5 _ rfl
        have zz6 : w.cell? ⟨b', off' + k * 7 + 6, none⟩ = some (.slice ap6 p6.length cp6) := hcp 6 _ rfl
        have hT := Lib.hid ht
        clear h3 g3 ht hcsq hcsp hcq hcp hrq hrp
        go_wp2_with fail
        refine (HC.out _ (List.getElem_mem hlt) _ (List.getElem_mem hlt2) _ _ _ _ _ (by repeat (first | exact Gr.refl _ | apply Gr.ext | apply Gr.alloc | apply Gr.drew)) (Rd.gr hrdq (by repeat (first | exact Gr.refl _ | apply Gr.ext | apply Gr.alloc | apply Gr.drew))) (Rd.gr hrdp (by repeat (first | exact Gr.refl _ | apply Gr.ext | apply Gr.alloc | apply Gr.drew)))).mono ?_
        rintro e w3 ⟨rfl, x3, rfl⟩
        go_wp2
        · have ht : (!decide (xs[k] = ys[k])) = true := by assumption
          go_ret
          have E : xs ≠ ys := fun e => dec_ne ht (by subst e; rfl)
          exact ⟨ret_bool (decide_eq_false E).symm, (by repeat (first | exact Gr.refl _ | apply Gr.ext | apply Gr.alloc | apply Gr.drew))⟩
        · have ht : (!decide (xs[k] = ys[k])) = false := by assumption
          have e2 := dec_eq ht
          refine ⟨⟨k + 1, by omega, ?_, (by repeat (first | exact Gr.refl _ | apply Gr.ext | apply Gr.alloc | apply Gr.drew)), by go_num⟩, by simp [intOf]; omega⟩
          rw [List.take_succ_eq_append_getElem hlt, List.take_succ_eq_append_getElem hlt2, hT.out, e2]
      · have hk2 : k = xs.length := by omega
        subst hk2
        have e : xs = ys := by
          have h := ht
          have h' := hl'.out
          rw [List.take_length, h', List.take_length] at h
          exact h
        have E := Lib.hid e
        clear e ht
        go_wp2
        go_ret
        exact ⟨ret_bool (decide_eq_true E.out).symm, (by repeat (first | exact Gr.refl _ | apply Gr.ext | apply Gr.alloc | apply Gr.drew))⟩
  · have hne : ((xs.length : Int) != (ys.length : Int)) = true := by simp; omega
    have e : xs ≠ ys := fun e => hl (by rw [e])
    have E := Lib.hid e
    clear e hl
    go_enter Tryz.func97, Tryz.ntmps97
    go_wp2
    go_ret
    exact ⟨ret_bool (decide_eq_false E.out).symm, Gr.refl w⟩

set_option maxHeartbeats 4000000 in
theorem equalFuncEquation_any (fp fq : List Nat) (u v : Value) (xs ys : List (GEquation d)) (fid : Nat) (w : World) (hu : SlR fp w u xs) (hv : SlR fq w v ys) (hf : TestEq w fid xs ys) :
    Calls Tryz.prog 67 #[u, v, .func (.func fid) #[] #[]] w fun e w' => e = .returned (.bool (decide (xs = ys))) ∧ Gr w w' := by
  obtain ⟨hfn, hcalls⟩ := hf
  have HC := Lib.hid hcalls
  clear hcalls
  obtain ⟨a, ca, rfl, h1, h2, h3⟩ := hu.open
  obtain ⟨c, cc, rfl, g1, g2, g3⟩ := hv.open
  by_cases hl : xs.length = ys.length
  · have hl' := Lib.hid hl
    have hne : ((xs.length : Int) != (ys.length : Int)) = false := by simp [hl]
    clear hl
    go_enter Tryz.func67, Tryz.ntmps67
    go_wp2
    go_loopw [17, 7] (fun s17 s7 wr => ∃ k : Nat, k ≤ xs.length ∧ xs.take k = ys.take k ∧ Gr w wr ∧ s17 = .int .i64 k) (fun s17 s7 _ => xs.length - (intOf s17).toNat)
    case atStart => exact ⟨0, by omega, rfl, Gr.refl w, rfl⟩
    case round =>
      obtain ⟨k, hk, ht, ⟨x, rfl⟩, rfl⟩ := hrel
      by_cases hlt : k < xs.length
      · have hlt2 : k < ys.length := by have := hl'.out; omega
        obtain ⟨b, off, rfl, hb⟩ := h3 k hlt
        obtain ⟨b', off', rfl, hb'⟩ := g3 k hlt2
        obtain ⟨csq, feq, hcq, hrq, -⟩ := hu.at hlt
        have hrdq := hrq
        generalize xs[k] = yq at hrq
        obtain ⟨⟨q00, q01⟩, ⟨q10, q11, q12, q13, q14, q15, q16⟩⟩ := yq
        obtain ⟨vq16, fq16, hcsq, -, hq00, hq01, hq10, hq11, hq12, hq13, hq14, hq15, hq16⟩ := rdEquation_inv (cs := csq.toArray) q00 q01 q10 q11 q12 q13 q14 q15 q16 (by simpa using hrq)
        obtain rfl : csq = [.int .i64 q00, .string q01, .int .i64 q10, .int .i64 q11, .int .i64 q12, .int .i64 q13, .string q14, .string q15, vq16] := by have := congrArg Array.toList hcsq; simpa using this
        obtain ⟨csp, fep, hcp, hrp, -⟩ := hv.at hlt2
        have hrdp := hrp
        generalize ys[k] = yp at hrp
        obtain ⟨⟨p00, p01⟩, ⟨p10, p11, p12, p13, p14, p15, p16⟩⟩ := yp
        obtain ⟨vp16, fp16, hcsp, -, hp00, hp01, hp10, hp11, hp12, hp13, hp14, hp15, hp16⟩ := rdEquation_inv (cs := csp.toArray) p00 p01 p10 p11 p12 p13 p14 p15 p16 (by simpa using hrp)
        obtain rfl : csp = [.int .i64 p00, .string p01, .int .i64 p10, .int .i64 p11, .int .i64 p12, .int .i64 p13, .string p14, .string p15, vp16] := by have := congrArg Array.toList hcsp; simpa using this
        obtain ⟨aq16, cq16, rfl, -, -, -⟩ := hq16.open
        obtain ⟨ap16, cp16, rfl, -, -, -⟩ := hp16.open
        have z0 : w.cell? ⟨b, off + k * 9, none⟩ = some (.int .i64 q00) := by simpa [Rd.n] using hcq 0 _ rfl
        have z1 : w.cell? ⟨b, off + k * 9 + 1, none⟩ = some (.string q01) := hcq 1 _ rfl
        have z2 : w.cell? ⟨b, off + k * 9 + 2, none⟩ = some (.int .i64 q10) := hcq 2 _ rfl
        have z3 : w.cell? ⟨b, off + k * 9 + 3, none⟩ = some (.int .i64 q11) := hcq 3 _ rfl
        have z4 : w.cell? ⟨b, off + k * 9 + 4, none⟩ = some (.int .i64 q12) := hcq 4 _ rfl
        have z5 : w.cell? ⟨b, off + k * 9 + 5, none⟩ = some (.int .i64 q13) := hcq 5 _ rfl
        have z6 : w.cell? ⟨b, off + k * 9 + 6, none⟩ = some (.string q14) := hcq 6 _ rfl
        have z7 : w.cell? ⟨b, off + k * 9 + 7, none⟩ = some (.string q15) := hcq 7 _ rfl
        have z8 : w.cell? ⟨b, off + k * 9 + 8, none⟩ = some (.slice aq16 q16.length cq16) := hcq 8 _ rfl
        have zz0 : w.cell? ⟨b', off' + k * 9, none⟩ = some (.int .i64 p00) := by simpa [Rd.n] using hcp 0 _ rfl
        have zz1 : w.cell? ⟨b', off' + k * 9 + 1, none⟩ = some (.string p01) := hcp 1 _ rfl
        have zz2 : w.cell? ⟨b', off' + k * 9 + 2, none⟩ = some (.int .i64 p10) := hcp 2 _ rfl
        have zz3 : w.cell? ⟨b', off' + k * 9 + 3, none⟩ = some (.int .i64 p11) := hcp 3 _ rfl
        have zz4 : w.cell? ⟨b', off' + k * 9 + 4, none⟩ = some (.int .i64 p12) := hcp 4 _ rfl
        have zz5 : w.cell? ⟨b', off' + k * 9 + 5, none⟩ = some (.int .i64 p13) := hcp 5 _ rfl
        have zz6 : w.cell? ⟨b', off' + k * 9 + 6, none⟩ = some (.string p14) := hcp 6 _ rfl
        have zz7 : w.cell? ⟨b', off' + k * 9 + 7, none⟩ = some (.string p15) := hcp 7 _ rfl
        have zz8 : w.cell? ⟨b', off' + k * 9 + 8, none⟩ = some (.slice ap16 p16.length cp16) := hcp 8 _ rfl
        have hT := Lib.hid ht
        clear h3 g3 ht hcsq hcsp hcq hcp hrq hrp
        go_wp2_with fail
        refine (HC.out _ (List.getElem_mem hlt) _ (List.getElem_mem hlt2) _ _ _ _ _ (by repeat (first | exact Gr.refl _ | apply Gr.ext | apply Gr.alloc | apply Gr.drew)) (Rd.gr hrdq (by repeat (first | exact Gr.refl _ | apply Gr.ext | apply Gr.alloc | apply Gr.drew))) (Rd.gr hrdp (by repeat (first | exact Gr.refl _ | apply Gr.ext | apply Gr.alloc | apply Gr.drew)))).mono ?_
        rintro e w3 ⟨rfl, x3, rfl⟩
        go_wp2
        · have ht : (!decide (xs[k] = ys[k])) = true := by assumption
          go_ret
          have E : xs ≠ ys := fun e => dec_ne ht (by subst e; rfl)
          exact ⟨ret_bool (decide_eq_false E).symm, (by repeat (first | exact Gr.refl _ | apply Gr.ext | apply Gr.alloc | apply Gr.drew))⟩
        · have ht : (!decide (xs[k] = ys[k])) = false := by assumption
          have e2 := dec_eq ht
          refine ⟨⟨k + 1, by omega, ?_, (by repeat (first | exact Gr.refl _ | apply Gr.ext | apply Gr.alloc | apply Gr.drew)), by go_num⟩, by simp [intOf]; omega⟩
          rw [List.take_succ_eq_append_getElem hlt, List.take_succ_eq_append_getElem hlt2, hT.out, e2]
      · have hk2 : k = xs.length := by omega
        subst hk2
        have e : xs = ys := by
          have h := ht
          have h' := hl'.out
          rw [List.take_length, h', List.take_length] at h
          exact h
        have E := Lib.hid e
        clear e ht
        go_wp2
        go_ret
        exact ⟨ret_bool (decide_eq_true E.out).symm, (by repeat (first | exact Gr.refl _ | apply Gr.ext | apply Gr.alloc | apply Gr.drew))⟩
  · have hne : ((xs.length : Int) != (ys.length : Int)) = true := by simp; omega
    have e : xs ≠ ys := fun e => hl (by rw [e])
    have E := Lib.hid e
    clear e hl
    go_enter Tryz.func67, Tryz.ntmps67
    go_wp2
    go_ret
    exact ⟨ret_bool (decide_eq_false E.out).symm, Gr.refl w⟩

end Go.Proofs.YtmdiabjaggadjaaGreat
