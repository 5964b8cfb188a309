/- Contracts of the functions that measure, compare and copy: Expr. Made by mk_fam.py. No condition. -/
import Derived.Test.YtbfmeiooeaaibaaGreatFamGramA
namespace Go.Proofs.YtbfmeiooeaaibaaGreat
open Go.RowKit
set_option linter.unusedVariables false

/-- Expressions of a depth of at most d. -/
def GE : Nat → Type
  | 0 => PEmpty
  | d + 1 => Int × Int × Int × Int × ByteArray × ByteArray × List (GE d)

instance rdGE : (d : Nat) → Rd (GE d)
  | 0 => { n := 7, pos := by omega, rd := fun _ _ _ x => PEmpty.elim x, len := fun {_ _ _ x} _ => PEmpty.elim x, lt := fun {_ _ _ x} _ => PEmpty.elim x, mono := fun {_ _ _ _ x} _ _ => PEmpty.elim x, one := fun {_ _ _ x} _ => PEmpty.elim x }
  | d + 1 => have := rdGE d; (inferInstance : Rd (Int × Int × Int × Int × ByteArray × ByteArray × List (GE d)))

instance decGE : (d : Nat) → DecidableEq (GE d)
  | 0 => fun x => PEmpty.elim x
  | d + 1 => have := decGE d; @instDecidableEqProd _ _ _ (@instDecidableEqProd _ _ _ (@instDecidableEqProd _ _ _ (@instDecidableEqProd _ _ _ (@instDecidableEqProd _ _ _ (@instDecidableEqProd _ _ _ (inferInstance))))))

variable {d : Nat}

abbrev GExpr (d : Nat) := Int × Int × Int × Int × ByteArray × ByteArray × List (GE d)

def wtE : (d : Nat) → GE d → Nat
  | 0, x => PEmpty.elim x
  | d + 1, x => (fun y : GExpr d => y.2.2.2.2.1.size + y.2.2.2.2.2.1.size + wtL (wtE d) y.2.2.2.2.2.2) x
def wtExprS (xs : List (GE d)) : Nat := wtL (wtE d) xs
def wtExpr (x : (GExpr d)) : Nat := x.2.2.2.2.1.size + x.2.2.2.2.2.1.size + wtExprS x.2.2.2.2.2.2
instance decExpr : DecidableEq (GExpr d) := @instDecidableEqProd _ _ _ (@instDecidableEqProd _ _ _ (@instDecidableEqProd _ _ _ (@instDecidableEqProd _ _ _ (@instDecidableEqProd _ _ _ (@instDecidableEqProd _ _ _ (inferInstance))))))

theorem rdExpr_inv {fp : List Nat} {w : World} {cs : Array Value} (q0 : Int) (q1 : Int) (q2 : Int) (q3 : Int) (q4 : ByteArray) (q5 : ByteArray) (q6 : List (GE d)) (h : Rd.rd (α := (GExpr d)) fp w cs.toList (q0, q1, q2, q3, q4, q5, q6)) :
    ∃ vq6 fq6, cs = #[.int .i64 q0, .int .i64 q1, .int .i64 q2, .int .i64 q3, .string q4, .string q5, vq6] ∧ fp = ([] ++ ([] ++ ([] ++ ([] ++ ([] ++ ([] ++ fq6)))))) ∧ (Lit.int .i64 q0).wf = true ∧ (Lit.int .i64 q1).wf = true ∧ (Lit.int .i64 q2).wf = true ∧ (Lit.int .i64 q3).wf = true ∧ q4.size ≤ maxLen ∧ q5.size ≤ maxLen ∧ SlR fq6 w vq6 q6 := by
  generalize hcs : cs.toList = l at h
  obtain ⟨_, _, _, _, rfl, rfl, ⟨rfl, rfl, hq0⟩, ⟨_, _, _, _, rfl, rfl, ⟨rfl, rfl, hq1⟩, ⟨_, _, _, _, rfl, rfl, ⟨rfl, rfl, hq2⟩, ⟨_, _, _, _, rfl, rfl, ⟨rfl, rfl, hq3⟩, ⟨_, _, _, _, rfl, rfl, ⟨rfl, rfl, hq4⟩, ⟨_, _, _, _, rfl, rfl, ⟨rfl, rfl, hq5⟩, ⟨vq6, rfl, hq6⟩⟩⟩⟩⟩⟩⟩ := h
  exact ⟨_, _, Array.toList_inj.1 (by simpa using hcs), rfl, hq0, hq1, hq2, hq3, hq4, hq5, hq6⟩

theorem rdExpr_shape {fp : List Nat} {w : World} {cs : Array Value} {x : (GExpr d)} (h : Rd.rd (α := (GExpr d)) fp w cs.toList x) :
    ∃ q0 q1 q2 q3 q4 q5 aq6 lq6 cq6, cs = #[.int .i64 q0, .int .i64 q1, .int .i64 q2, .int .i64 q3, .string q4, .string q5, .slice aq6 lq6 cq6] := by
  obtain ⟨q0, q1, q2, q3, q4, q5, q6⟩ := x
  obtain ⟨vq6, fq6, rfl, -, -, -, -, -, -, -, hq6⟩ := rdExpr_inv q0 q1 q2 q3 q4 q5 q6 h
  obtain ⟨aq6, cq6, rfl, -, -, -⟩ := hq6.open
  exact ⟨_, _, _, _, _, _, _, _, _, rfl⟩

theorem rdExpr_mk {w : World} (q0 : Int) (q1 : Int) (q2 : Int) (q3 : Int) (q4 : ByteArray) (q5 : ByteArray) (q6 : List (GE d)) {vq6 : Value} {fq6 : List Nat} (hq0 : (Lit.int .i64 q0).wf = true) (hq1 : (Lit.int .i64 q1).wf = true) (hq2 : (Lit.int .i64 q2).wf = true) (hq3 : (Lit.int .i64 q3).wf = true) (hq4 : q4.size ≤ maxLen) (hq5 : q5.size ≤ maxLen) (hq6 : SlR fq6 w vq6 q6) :
    Rd.rd (α := (GExpr d)) (([] ++ ([] ++ ([] ++ ([] ++ ([] ++ ([] ++ fq6))))))) w [.int .i64 q0, .int .i64 q1, .int .i64 q2, .int .i64 q3, .string q4, .string q5, vq6] (q0, q1, q2, q3, q4, q5, q6) := ⟨_, _, _, _, rfl, rfl, ⟨rfl, rfl, hq0⟩, ⟨_, _, _, _, rfl, rfl, ⟨rfl, rfl, hq1⟩, ⟨_, _, _, _, rfl, rfl, ⟨rfl, rfl, hq2⟩, ⟨_, _, _, _, rfl, rfl, ⟨rfl, rfl, hq3⟩, ⟨_, _, _, _, rfl, rfl, ⟨rfl, rfl, hq4⟩, ⟨_, _, _, _, rfl, rfl, ⟨rfl, rfl, hq5⟩, ⟨_, rfl, hq6⟩⟩⟩⟩⟩⟩⟩

set_option maxHeartbeats 1000000 in
theorem szExpr_of (hS : ∀ (fp : List Nat) (u : Value) (xs : List (GE d)) (left : Int) (w : World) (hu : SlR fp w u xs) (h0 : 0 ≤ left) (h1 : left ≤ 1048576), Calls Tryz.prog 153 #[u, .int .i64 left] w fun e w' => e = .returned (.int .i64 (less left (wtExprS xs))) ∧ Gr w w') (fp : List Nat) (cs : Array Value) (x : (GExpr d)) (left : Int) (w : World) (hx : Rd.rd fp w cs.toList x) (h0 : 0 ≤ left) (h1 : left ≤ 1048576) :
    Calls Tryz.prog 148 #[.agg cs, .int .i64 left] w fun e w' => e = .returned (.int .i64 (less left (wtExpr x))) ∧ Gr w w' := by
  obtain ⟨q0, q1, q2, q3, q4, q5, q6⟩ := x
  obtain ⟨vq6, fq6, rfl, -, hq0, hq1, hq2, hq3, hq4, hq5, hq6⟩ := rdExpr_inv q0 q1 q2 q3 q4 q5 q6 hx
  unfold maxLen at hq4
  unfold maxLen at hq5
  obtain ⟨aq6, cq6, rfl, bq6, dq6, -⟩ := hq6.open
  have hwt : wtExpr (q0, q1, q2, q3, q4, q5, q6) = (q4.size) + (q5.size) + (wtExprS q6) := by rfl
  have HW := Lib.hid hwt
  clear hwt hx
  go_enter Tryz.func148, Tryz.ntmps148
  go_wp2_with fail
  · go_ret
    refine ⟨ret_int ?_, (by repeat (first | exact Gr.refl _ | apply Gr.ext | apply Gr.alloc | apply Gr.drew))⟩
    have := less_cases left (wtExpr (q0, q1, q2, q3, q4, q5, q6))
    have := HW.out
    omega
  · go_ret
    refine ⟨ret_int ?_, (by repeat (first | exact Gr.refl _ | apply Gr.ext | apply Gr.alloc | apply Gr.drew))⟩
    have := less_cases left (wtExpr (q0, q1, q2, q3, q4, q5, q6))
    have := HW.out
    omega
  · skip
    refine (hS fq6 _ _ _ _ (hq6.gr (by repeat (first | exact Gr.refl _ | apply Gr.ext | apply Gr.alloc | apply Gr.drew))) (by omega) (by omega)).mono ?_
    rintro e w6 ⟨rfl, x6, rfl⟩
    have hb6 := less_le (left - ↑q4.size - ↑q5.size) (wtExprS q6) (by omega)
    go_wp2_with fail
    · go_ret
      refine ⟨ret_int ?_, (by repeat (first | exact Gr.refl _ | apply Gr.ext | apply Gr.alloc | apply Gr.drew))⟩
      have := less_cases left (wtExpr (q0, q1, q2, q3, q4, q5, q6))
      have := HW.out
      have := less_cases (left - ↑q4.size - ↑q5.size) (wtExprS q6)
      omega
    · skip
      go_ret
      refine ⟨ret_int ?_, (by repeat (first | exact Gr.refl _ | apply Gr.ext | apply Gr.alloc | apply Gr.drew))⟩
      have := less_cases left (wtExpr (q0, q1, q2, q3, q4, q5, q6))
      have := HW.out
      have := less_cases (left - ↑q4.size - ↑q5.size) (wtExprS q6)
      omega

theorem Expr_ext (q0 : Int) (q1 : Int) (q2 : Int) (q3 : Int) (q4 : ByteArray) (q5 : ByteArray) (q6 : List (GE d)) (p0 : Int) (p1 : Int) (p2 : Int) (p3 : Int) (p4 : ByteArray) (p5 : ByteArray) (p6 : List (GE d)) (e0 : q0 = p0) (e1 : q1 = p1) (e2 : q2 = p2) (e3 : q3 = p3) (e4 : q4 = p4) (e5 : q5 = p5) (e6 : q6 = p6) : ((q0, q1, q2, q3, q4, q5, q6) : (GExpr d)) = (p0, p1, p2, p3, p4, p5, p6) := by
  exact Prod.ext_iff.2 ⟨e0, Prod.ext_iff.2 ⟨e1, Prod.ext_iff.2 ⟨e2, Prod.ext_iff.2 ⟨e3, Prod.ext_iff.2 ⟨e4, Prod.ext_iff.2 ⟨e5, e6⟩⟩⟩⟩⟩⟩

set_option maxHeartbeats 1000000 in
theorem eqExpr_of (hS : ∀ (fp fq : List Nat) (u v : Value) (xs ys : List (GE d)) (w : World) (hu : SlR fp w u xs) (hv : SlR fq w v ys), Calls Tryz.prog 155 #[u, v] w fun e w' => e = .returned (.bool (decide (xs = ys))) ∧ Gr w w') (fp fq : List Nat) (cs ds : Array Value) (x y : (GExpr d)) (w : World) (hx : Rd.rd fp w cs.toList x) (hy : Rd.rd fq w ds.toList y) :
    Calls Tryz.prog 152 #[.agg cs, .agg ds] w fun e w' => e = .returned (.bool (decide (x = y))) ∧ Gr w w' := by
  obtain ⟨q0, q1, q2, q3, q4, q5, q6⟩ := x
  obtain ⟨p0, p1, p2, p3, p4, p5, p6⟩ := y
  obtain ⟨vq6, fq6, rfl, -, hq0, hq1, hq2, hq3, hq4, hq5, hq6⟩ := rdExpr_inv q0 q1 q2 q3 q4 q5 q6 hx
  obtain ⟨vp6, fp6, rfl, -, hp0, hp1, hp2, hp3, hp4, hp5, hp6⟩ := rdExpr_inv p0 p1 p2 p3 p4 p5 p6 hy
  obtain ⟨aq6, cq6, rfl, -, -, -⟩ := hq6.open
  obtain ⟨ap6, cp6, rfl, -, -, -⟩ := hp6.open
  clear hx hy
  go_enter Tryz.func152, Tryz.ntmps152
  go_wp2_with fail
  · have ht : (q0 != p0) = true := by assumption
    go_ret
    exact ⟨ret_bool (decide_eq_false fun e => int_ne ht (congrArg (fun z : (GExpr d) => z.1) e)).symm, (by repeat (first | exact Gr.refl _ | apply Gr.ext | apply Gr.alloc | apply Gr.drew))⟩
  · have ht : (q1 != p1) = true := by assumption
    go_ret
    exact ⟨ret_bool (decide_eq_false fun e => int_ne ht (congrArg (fun z : (GExpr d) => z.2.1) e)).symm, (by repeat (first | exact Gr.refl _ | apply Gr.ext | apply Gr.alloc | apply Gr.drew))⟩
  · have ht : (q2 != p2) = true := by assumption
    go_ret
    exact ⟨ret_bool (decide_eq_false fun e => int_ne ht (congrArg (fun z : (GExpr d) => z.2.2.1) e)).symm, (by repeat (first | exact Gr.refl _ | apply Gr.ext | apply Gr.alloc | apply Gr.drew))⟩
  · have ht : (q3 != p3) = true := by assumption
    go_ret
    exact ⟨ret_bool (decide_eq_false fun e => int_ne ht (congrArg (fun z : (GExpr d) => z.2.2.2.1) e)).symm, (by repeat (first | exact Gr.refl _ | apply Gr.ext | apply Gr.alloc | apply Gr.drew))⟩
  · have ht : (!q4.toList == p4.toList) = true := by assumption
    go_ret
    exact ⟨ret_bool (decide_eq_false fun e => str_ne ht (congrArg (fun z : (GExpr d) => z.2.2.2.2.1) e)).symm, (by repeat (first | exact Gr.refl _ | apply Gr.ext | apply Gr.alloc | apply Gr.drew))⟩
  · have ht : (!q5.toList == p5.toList) = true := by assumption
    go_ret
    exact ⟨ret_bool (decide_eq_false fun e => str_ne ht (congrArg (fun z : (GExpr d) => z.2.2.2.2.2.1) e)).symm, (by repeat (first | exact Gr.refl _ | apply Gr.ext | apply Gr.alloc | apply Gr.drew))⟩
  · skip
    have e0 := Lib.hid (int_eq (show (q0 != p0) = false by assumption))
    have e1 := Lib.hid (int_eq (show (q1 != p1) = false by assumption))
    have e2 := Lib.hid (int_eq (show (q2 != p2) = false by assumption))
    have e3 := Lib.hid (int_eq (show (q3 != p3) = false by assumption))
    have e4 := Lib.hid (str_eq (show (!q4.toList == p4.toList) = false by assumption))
    have e5 := Lib.hid (str_eq (show (!q5.toList == p5.toList) = false by assumption))
    refine (hS fq6 fp6 _ _ q6 p6 _ (hq6.gr (by repeat (first | exact Gr.refl _ | apply Gr.ext | apply Gr.alloc | apply Gr.drew))) (hp6.gr (by repeat (first | exact Gr.refl _ | apply Gr.ext | apply Gr.alloc | apply Gr.drew)))).mono ?_
    rintro e w6 ⟨rfl, x6, rfl⟩
    go_wp2_with fail
    · have ht : (!decide (q6 = p6)) = true := by assumption
      go_ret
      exact ⟨ret_bool (decide_eq_false fun e => dec_ne ht (congrArg (fun z : (GExpr d) => z.2.2.2.2.2.2) e)).symm, (by repeat (first | exact Gr.refl _ | apply Gr.ext | apply Gr.alloc | apply Gr.drew))⟩
    · skip
      have e6 := Lib.hid (dec_eq (show (!decide (q6 = p6)) = false by assumption))
      go_ret
      exact ⟨ret_bool (decide_eq_true (Expr_ext q0 q1 q2 q3 q4 q5 q6 p0 p1 p2 p3 p4 p5 p6 e0.out e1.out e2.out e3.out e4.out e5.out e6.out)).symm, (by repeat (first | exact Gr.refl _ | apply Gr.ext | apply Gr.alloc | apply Gr.drew))⟩

set_option maxHeartbeats 1000000 in
theorem toExpr_of (hS : ∀ (fp : List Nat) (u : Value) (xs : List (GE d)) (w : World) (hu : SlR fp w u xs) (hlen : wtExprS xs ≤ 1048576), Calls Tryz.prog 154 #[u] w fun e w' => ∃ v fq, e = .returned v ∧ SlR fq w' v xs ∧ Fresh w fq ∧ Gr w w') (fp : List Nat) (cs : Array Value) (x : (GExpr d)) (w : World) (hx : Rd.rd fp w cs.toList x) (hl : wtExpr x ≤ 1048576) :
    Calls Tryz.prog 150 #[.agg cs] w fun e w' => ∃ ds fq, e = .returned (.agg ds) ∧ Rd.rd fq w' ds.toList x ∧ Fresh w fq ∧ Gr w w' := by
  obtain ⟨q0, q1, q2, q3, q4, q5, q6⟩ := x
  obtain ⟨vq6, fq6, rfl, -, hq0, hq1, hq2, hq3, hq4, hq5, hq6⟩ := rdExpr_inv q0 q1 q2 q3 q4 q5 q6 hx
  obtain ⟨aq6, cq6, rfl, -, -, -⟩ := hq6.open
  have hwt : wtExpr (q0, q1, q2, q3, q4, q5, q6) = (q4.size) + (q5.size) + (wtExprS q6) := by rfl
  have HW := Lib.hid hwt
  clear hwt hx
  go_enter Tryz.func150, Tryz.ntmps150
  go_wp2_with fail
  refine (hS fq6 _ _ _ (hq6.gr (by repeat (first | exact Gr.refl _ | apply Gr.ext | apply Gr.alloc | apply Gr.drew))) (by have := HW.out; omega)).mono ?_
  rintro e w6 ⟨u6, g6, rfl, s6, fr6, x6, rfl⟩
  obtain ⟨aa6, cc6, rfl, -, -, -⟩ := s6.open
  go_wp2_with fail
  have hfresh : Fresh w g6 := by
    exact (Fresh.of_le fr6 (by simp <;> omega))
  exact bodyPost_ret (v := .agg #[.int .i64 q0, .int .i64 q1, .int .i64 q2, .int .i64 q3, .string q4, .string q5, .slice aa6 q6.length cc6]) (by simp [results, Tryz.results150, go_sem]) rfl
    ⟨_, _, rfl, rdExpr_mk q0 q1 q2 q3 q4 q5 q6 hq0 hq1 hq2 hq3 hq4 hq5 (SlR.moved s6 fr6 (by repeat (first | exact Gr.refl _ | apply Gr.ext | apply Gr.alloc | apply Gr.drew)) (by simp)), hfresh, (by repeat (first | exact Gr.refl _ | apply Gr.ext | apply Gr.alloc | apply Gr.drew))⟩

set_option maxHeartbeats 1000000 in
theorem szExprS_of (hE : ∀ (fp : List Nat) (cs : Array Value) (x : (GE d)) (left : Int) (w : World) (hx : Rd.rd fp w cs.toList x) (h0 : 0 ≤ left) (h1 : left ≤ 1048576), Calls Tryz.prog 148 #[.agg cs, .int .i64 left] w fun e w' => e = .returned (.int .i64 (less left (wtE d x))) ∧ Gr w w') (fp : List Nat) (u : Value) (xs : List (GE d)) (left : Int) (w : World) (hu : SlR fp w u xs) (h0 : 0 ≤ left) (h1 : left ≤ 1048576) :
    Calls Tryz.prog 153 #[u, .int .i64 left] w fun e w' => e = .returned (.int .i64 (less left (wtExprS xs))) ∧ Gr w w' := by
  obtain ⟨a, ca, rfl, g1, g2, g3⟩ := hu.open
  by_cases hneg : left - xs.length < 0
  · have hle : less left (wtExprS xs) = -1 := by unfold less wtExprS wtL; rw [if_pos (by omega)]
    have HL := Lib.hid hle
    clear hle
    go_enter Tryz.func153, Tryz.ntmps153
    go_wp2
    go_ret
    exact ⟨ret_int HL.out.symm, Gr.refl w⟩
  · have hl0 : less left xs.length = left - xs.length := by unfold less; rw [if_neg hneg]
    have HL0 := Lib.hid hl0
    clear hl0
    go_enter Tryz.func153, Tryz.ntmps153
    go_wp2
    go_loopw [5, 1] (fun s5 s1 wr => ∃ (k : Nat) (m : Int), k ≤ xs.length ∧ 0 ≤ m ∧ m ≤ 1048576 ∧ Hid (m = less left (xs.length + ((xs.take k).map (wtE _)).sum)) ∧ Gr w wr ∧ s5 = .int .i64 k ∧ s1 = .int .i64 m) (fun s5 _ _ => xs.length - (intOf s5).toNat)
    case atStart => exact ⟨0, _, by omega, by omega, by omega, Lib.hid (by simp [HL0.out]), Gr.refl w, rfl, rfl⟩
    case round =>
      obtain ⟨k, m, hk, hm0, hm1, hm, ⟨x, rfl⟩, rfl, rfl⟩ := hrel
      by_cases hlt : k < xs.length
      · obtain ⟨b, off, rfl, hb⟩ := g3 k hlt
        have hsum := Lib.hid (sum_take_succ (wtE _) xs k hlt)
        obtain ⟨d1, rfl⟩ : ∃ e, d = e + 1 := by
          cases d with
          | zero => exact PEmpty.elim (xs[k])
          | succ e => exact ⟨e, rfl⟩
        obtain ⟨csq, feq, hcq, hrq, -⟩ := hu.at hlt
        have hrdq := hrq
        generalize xs[k] = yq at hrq
        obtain ⟨q0, q1, q2, q3, q4, q5, q6⟩ := yq
        obtain ⟨vq6, fq6, hcsq, -, hq0, hq1, hq2, hq3, hq4, hq5, hq6⟩ := rdExpr_inv (cs := csq.toArray) q0 q1 q2 q3 q4 q5 q6 (show Rd.rd (α := GExpr d1) feq w csq.toArray.toList _ from hrq)
        obtain rfl : csq = [.int .i64 q0, .int .i64 q1, .int .i64 q2, .int .i64 q3, .string q4, .string q5, vq6] := by have := congrArg Array.toList hcsq; simpa using this
        have z0 : w.cell? ⟨b, off + k * 7, none⟩ = some (.int .i64 q0) := hcq 0 _ rfl
        have z1 : w.cell? ⟨b, off + k * 7 + 1, none⟩ = some (.int .i64 q1) := hcq 1 _ rfl
        have z2 : w.cell? ⟨b, off + k * 7 + 2, none⟩ = some (.int .i64 q2) := hcq 2 _ rfl
        have z3 : w.cell? ⟨b, off + k * 7 + 3, none⟩ = some (.int .i64 q3) := hcq 3 _ rfl
        have z4 : w.cell? ⟨b, off + k * 7 + 4, none⟩ = some (.string q4) := hcq 4 _ rfl
        have z5 : w.cell? ⟨b, off + k * 7 + 5, none⟩ = some (.string q5) := hcq 5 _ rfl
        have z6 : w.cell? ⟨b, off + k * 7 + 6, none⟩ = some (vq6) := hcq 6 _ rfl
        have hmono := less_le m ((wtE _) xs[k]) (by omega)
        clear g3 hcsq hcq hrq
        go_wp2_with (go_at_call 148; refine (hE _ _ xs[k] _ _ (Rd.gr hrdq ((Gr.refl w).ext _)) (by omega) (by omega)).mono ?_; rintro e w1 ⟨rfl, y, rfl⟩)
        · have hx : less m ((wtE _) xs[k]) < 0 := by assumption
          go_ret
          refine ⟨ret_int ?_, (by repeat (first | exact Gr.refl _ | apply Gr.ext | apply Gr.alloc | apply Gr.drew))⟩
          have e := hm.out
          subst e
          rw [less_less, Nat.add_assoc, ← hsum.out] at hx
          exact (less_mono hx (Nat.add_le_add_left (sum_take_le (wtE _) xs (k + 1)) _) h0).symm
        · have hx : 0 ≤ less m ((wtE _) xs[k]) := by assumption
          refine ⟨⟨k + 1, _, by omega, hx, by omega, Lib.hid ?_, (by repeat (first | exact Gr.refl _ | apply Gr.ext | apply Gr.alloc | apply Gr.drew)), by go_num, rfl⟩, by simp [intOf]; omega⟩
          rw [hsum.out, hm.out, less_less, Nat.add_assoc]
      · have hk2 : k = xs.length := by omega
        subst hk2
        have hm2 := hm.out
        rw [List.take_length] at hm2
        have HM := Lib.hid hm2
        clear hm2 hm
        go_wp2
        go_ret
        exact ⟨ret_int HM.out, (by repeat (first | exact Gr.refl _ | apply Gr.ext | apply Gr.alloc | apply Gr.drew))⟩

set_option maxHeartbeats 1000000 in
theorem eqExprS_of (hE : ∀ (fp fq : List Nat) (cs ds : Array Value) (x y : (GE d)) (w : World) (hx : Rd.rd fp w cs.toList x) (hy : Rd.rd fq w ds.toList y), Calls Tryz.prog 152 #[.agg cs, .agg ds] w fun e w' => e = .returned (.bool (decide (x = y))) ∧ Gr w w') (fp fq : List Nat) (u v : Value) (xs ys : List (GE d)) (w : World) (hu : SlR fp w u xs) (hv : SlR fq w v ys) :
    Calls Tryz.prog 155 #[u, v] w fun e w' => e = .returned (.bool (decide (xs = ys))) ∧ Gr w w' := by
  obtain ⟨a, ca, rfl, h1, h2, h3⟩ := hu.open
  obtain ⟨c, cc, rfl, g1, g2, g3⟩ := hv.open
  by_cases hl : xs.length = ys.length
  · have hl' := Lib.hid hl
    have hne : ((xs.length : Int) != (ys.length : Int)) = false := by simp [hl]
    clear hl
    go_enter Tryz.func155, Tryz.ntmps155
    go_wp2
    go_loopw [5] (fun s5 wr => ∃ k : Nat, k ≤ xs.length ∧ xs.take k = ys.take k ∧ Gr w wr ∧ s5 = .int .i64 k) (fun s5 _ => xs.length - (intOf s5).toNat)
    case atStart => exact ⟨0, by omega, rfl, Gr.refl w, rfl⟩
    case round =>
      obtain ⟨k, hk, ht, ⟨x, rfl⟩, rfl⟩ := hrel
      by_cases hlt : k < xs.length
      · have hlt2 : k < ys.length := by have := hl'.out; omega
        obtain ⟨b, off, rfl, hb⟩ := h3 k hlt
        obtain ⟨b', off', rfl, hb'⟩ := g3 k hlt2
        obtain ⟨d1, rfl⟩ : ∃ e, d = e + 1 := by
          cases d with
          | zero => exact PEmpty.elim (xs[k])
          | succ e => exact ⟨e, rfl⟩
        obtain ⟨csq, feq, hcq, hrq, -⟩ := hu.at hlt
        have hrdq := hrq
        generalize xs[k] = yq at hrq
        obtain ⟨q0, q1, q2, q3, q4, q5, q6⟩ := yq
        obtain ⟨vq6, fq6, hcsq, -, hq0, hq1, hq2, hq3, hq4, hq5, hq6⟩ := rdExpr_inv (cs := csq.toArray) q0 q1 q2 q3 q4 q5 q6 (show Rd.rd (α := GExpr d1) feq w csq.toArray.toList _ from hrq)
        obtain rfl : csq = [.int .i64 q0, .int .i64 q1, .int .i64 q2, .int .i64 q3, .string q4, .string q5, vq6] := by have := congrArg Array.toList hcsq; simpa using this
        obtain ⟨csp, fep, hcp, hrp, -⟩ := hv.at hlt2
        have hrdp := hrp
        generalize ys[k] = yp at hrp
        obtain ⟨p0, p1, p2, p3, p4, p5, p6⟩ := yp
        obtain ⟨vp6, fp6, hcsp, -, hp0, hp1, hp2, hp3, hp4, hp5, hp6⟩ := rdExpr_inv (cs := csp.toArray) p0 p1 p2 p3 p4 p5 p6 (show Rd.rd (α := GExpr d1) fep w csp.toArray.toList _ from hrp)
        obtain rfl : csp = [.int .i64 p0, .int .i64 p1, .int .i64 p2, .int .i64 p3, .string p4, .string p5, vp6] := by have := congrArg Array.toList hcsp; simpa using this
        have z0 : w.cell? ⟨b, off + k * 7, none⟩ = some (.int .i64 q0) := hcq 0 _ rfl
        have z1 : w.cell? ⟨b, off + k * 7 + 1, none⟩ = some (.int .i64 q1) := hcq 1 _ rfl
        have z2 : w.cell? ⟨b, off + k * 7 + 2, none⟩ = some (.int .i64 q2) := hcq 2 _ rfl
        have z3 : w.cell? ⟨b, off + k * 7 + 3, none⟩ = some (.int .i64 q3) := hcq 3 _ rfl
        have z4 : w.cell? ⟨b, off + k * 7 + 4, none⟩ = some (.string q4) := hcq 4 _ rfl
        have z5 : w.cell? ⟨b, off + k * 7 + 5, none⟩ = some (.string q5) := hcq 5 _ rfl
        have z6 : w.cell? ⟨b, off + k * 7 + 6, none⟩ = some (vq6) := hcq 6 _ rfl
        have zz0 : w.cell? ⟨b', off' + k * 7, none⟩ = some (.int .i64 p0) := hcp 0 _ rfl
        have zz1 : w.cell? ⟨b', off' + k * 7 + 1, none⟩ = some (.int .i64 p1) := hcp 1 _ rfl
        have zz2 : w.cell? ⟨b', off' + k * 7 + 2, none⟩ = some (.int .i64 p2) := hcp 2 _ rfl
        have zz3 : w.cell? ⟨b', off' + k * 7 + 3, none⟩ = some (.int .i64 p3) := hcp 3 _ rfl
        have zz4 : w.cell? ⟨b', off' + k * 7 + 4, none⟩ = some (.string p4) := hcp 4 _ rfl
        have zz5 : w.cell? ⟨b', off' + k * 7 + 5, none⟩ = some (.string p5) := hcp 5 _ rfl
        have zz6 : w.cell? ⟨b', off' + k * 7 + 6, none⟩ = some (vp6) := hcp 6 _ rfl
        have hT := Lib.hid ht
        clear h3 g3 ht hcsq hcsp hcq hcp hrq hrp
        go_wp2_with fail
        refine wp_region_grown (by kernel_rfl) (by kernel_rfl) ?_
        repeat (go_big_quiet_step ((go_at_call 152; refine grown_call (hE _ _ _ _ xs[k] ys[k] _ (Rd.gr hrdq ?_) (Rd.gr hrdp ?_)) <;> exact ((Gr.refl w).ext _).ext _)))
        refine wpQuiet_nil ?_
        intro _ hw'
        obtain ⟨nx, hw''⟩ := hw'
        subst hw''
        go_wp2
        · have ht : (!decide (xs[k] = ys[k])) = true := by assumption
          go_ret
          have E : xs ≠ ys := fun e => dec_ne ht (by subst e; rfl)
          exact ⟨ret_bool (decide_eq_false E).symm, (by repeat (first | exact Gr.refl _ | apply Gr.ext | apply Gr.alloc | apply Gr.drew))⟩
        · have ht : (!decide (xs[k] = ys[k])) = false := by assumption
          have e2 := dec_eq ht
          refine ⟨⟨k + 1, by omega, ?_, (by repeat (first | exact Gr.refl _ | apply Gr.ext | apply Gr.alloc | apply Gr.drew)), by go_num⟩, by simp [intOf]; omega⟩
          rw [List.take_succ_eq_append_getElem hlt, List.take_succ_eq_append_getElem hlt2, hT.out, e2]
      · have hk2 : k = xs.length := by omega
        subst hk2
        have e : xs = ys := by
          have h := ht
          have h' := hl'.out
          rw [List.take_length, h', List.take_length] at h
          exact h
        have E := Lib.hid e
        clear e ht
        go_wp2
        go_ret
        exact ⟨ret_bool (decide_eq_true E.out).symm, (by repeat (first | exact Gr.refl _ | apply Gr.ext | apply Gr.alloc | apply Gr.drew))⟩
  · have hne : ((xs.length : Int) != (ys.length : Int)) = true := by simp; omega
    have e : xs ≠ ys := fun e => hl (by rw [e])
    have E := Lib.hid e
    clear e hl
    go_enter Tryz.func155, Tryz.ntmps155
    go_wp2
    go_ret
    exact ⟨ret_bool (decide_eq_false E.out).symm, Gr.refl w⟩

theorem Tryz.infoExpr : (Tryz.prog.info? 87).map (fun i => (i.zero, i.size, i.bytes)) = some (some (.agg #[.int .i64 0, .int .i64 0, .int .i64 0, .int .i64 0, .string ByteArray.empty, .string ByteArray.empty, .slice none 0 0]), 7, 88) := by kernel_rfl

set_option maxHeartbeats 4000000 in
theorem toExprS_of (hE : ∀ (fp : List Nat) (cs : Array Value) (x : (GE d)) (w : World) (hx : Rd.rd fp w cs.toList x) (hl : wtE d x ≤ 1048576), Calls Tryz.prog 150 #[.agg cs] w fun e w' => ∃ ds fq, e = .returned (.agg ds) ∧ Rd.rd fq w' ds.toList x ∧ Fresh w fq ∧ Gr w w') (fp : List Nat) (u : Value) (xs : List (GE d)) (w : World) (hu : SlR fp w u xs) (hlen : wtExprS xs ≤ 1048576) :
    Calls Tryz.prog 154 #[u] w fun e w' => ∃ v fq, e = .returned v ∧ SlR fq w' v xs ∧ Fresh w fq ∧ Gr w w' := by
  obtain ⟨a, ca, rfl, h1, h2, h3⟩ := hu.open
  have hll : xs.length ≤ 1048576 := Nat.le_trans (wtL_len (wtE _) xs) hlen
  obtain ⟨i0, hi, hz0, hz1, hz2⟩ := info_parts Tryz.infoExpr
  have hmk := fun (W : World) => run_make (P := Tryz.prog) W 85 87 i0 (.agg #[.int .i64 0, .int .i64 0, .int .i64 0, .int .i64 0, .string ByteArray.empty, .string ByteArray.empty, .slice none 0 0]) Tryz.underlying85 hi hz0 .i64 .i64 xs.length xs.length (by omega) (by omega) (by rw [hz2]; omega) (by omega)
  rw [hz1] at hmk
  clear hi hz0 hz1 hz2
  simp only [Int.toNat_natCast] at hmk
  have hms := size_madeCells (Value.agg #[.int .i64 0, .int .i64 0, .int .i64 0, .int .i64 0, .string ByteArray.empty, .string ByteArray.empty, .slice none 0 0]).cells (xs.length * 7)
  generalize madeCells (Value.agg #[.int .i64 0, .int .i64 0, .int .i64 0, .int .i64 0, .string ByteArray.empty, .string ByteArray.empty, .slice none 0 0]).cells (xs.length * 7) = C0 at hmk hms
  have HS := Lib.hid hms
  have HLS := Lib.hid hlen
  clear hms hlen
  go_enter Tryz.func154, Tryz.ntmps154
  go_wp2
  go_loopw [4] (fun s4 wr => ∃ (k : Nat) (C : Array Value) (x : Ext) (fps : List (List Nat)), C.size = xs.length * 7 ∧ PartR w w.heap.size wr C k fps xs ∧ wr = (w.alloc (.cells C 87)).ext x ∧ s4 = .int .i64 k) (fun s4 _ => xs.length - (intOf s4).toNat)
  case atStart => exact ⟨0, C0, ⟨#[], 0⟩, [], HS.out, PartR.start _ _ (Nat.le_refl _) (by simp), (ext_zero _).symm, rfl⟩
  case round =>
    obtain ⟨k, C, x, fps, hC, hp, rfl, rfl⟩ := hrel
    have hCs := Lib.hid hC
    have hk := hp.le
    by_cases hlt : k < xs.length
    · obtain ⟨b, off, rfl, hb⟩ := h3 k hlt
      have hwk := wtL_at (wtE _) xs hlt
      obtain ⟨d1, rfl⟩ : ∃ e, d = e + 1 := by
        cases d with
        | zero => exact PEmpty.elim (xs[k])
        | succ e => exact ⟨e, rfl⟩
      obtain ⟨csq, feq, hcq, hrq, -⟩ := hu.at hlt
      have hrdq := hrq
      generalize xs[k] = yq at hrq
      obtain ⟨q0, q1, q2, q3, q4, q5, q6⟩ := yq
      obtain ⟨vq6, fq6, hcsq, -, hq0, hq1, hq2, hq3, hq4, hq5, hq6⟩ := rdExpr_inv (cs := csq.toArray) q0 q1 q2 q3 q4 q5 q6 (show Rd.rd (α := GExpr d1) feq w csq.toArray.toList _ from hrq)
      obtain rfl : csq = [.int .i64 q0, .int .i64 q1, .int .i64 q2, .int .i64 q3, .string q4, .string q5, vq6] := by have := congrArg Array.toList hcsq; simpa using this
      have z0 : w.cell? ⟨b, off + k * 7, none⟩ = some (.int .i64 q0) := hcq 0 _ rfl
      have z1 : w.cell? ⟨b, off + k * 7 + 1, none⟩ = some (.int .i64 q1) := hcq 1 _ rfl
      have z2 : w.cell? ⟨b, off + k * 7 + 2, none⟩ = some (.int .i64 q2) := hcq 2 _ rfl
      have z3 : w.cell? ⟨b, off + k * 7 + 3, none⟩ = some (.int .i64 q3) := hcq 3 _ rfl
      have z4 : w.cell? ⟨b, off + k * 7 + 4, none⟩ = some (.string q4) := hcq 4 _ rfl
      have z5 : w.cell? ⟨b, off + k * 7 + 5, none⟩ = some (.string q5) := hcq 5 _ rfl
      have z6 : w.cell? ⟨b, off + k * 7 + 6, none⟩ = some (vq6) := hcq 6 _ rfl
      have y0 : k * 7 < C.size := by omega
      have y1 : k * 7 + 1 < C.size := by omega
      have y2 : k * 7 + 2 < C.size := by omega
      have y3 : k * 7 + 3 < C.size := by omega
      have y4 : k * 7 + 4 < C.size := by omega
      have y5 : k * 7 + 5 < C.size := by omega
      have y6 : k * 7 + 6 < C.size := by omega
      have hwl : (wtE _) xs[k] ≤ 1048576 := Nat.le_trans hwk HLS.out
      have hd0 : k * 7 + 7 ≤ C.size := by omega
      have HD := Lib.hid hd0
      clear hC h3 hcsq hcq hrq hwk hd0
      go_wp2_with (go_at_call 150; refine (hE _ _ xs[k] _ (Rd.gr hrdq (by repeat (first | exact Gr.refl _ | apply Gr.ext | apply Gr.alloc | apply Gr.drew))) (by omega)).mono ?_; rintro e w1 ⟨ds, fq, rfl, hs, hf, y, rfl⟩; have hs2 := hs; generalize xs[k] = yr at hs2; obtain ⟨r0, r1, r2, r3, r4, r5, r6⟩ := yr; obtain ⟨vr6, fr6, rfl, hfq, kr0, kr1, kr2, kr3, kr4, kr5, kr6⟩ := rdExpr_inv r0 r1 r2 r3 r4 r5 r6 hs2; obtain ⟨aar6, ccr6, rfl, -, -, -⟩ := kr6.open; clear hfq)
      rw [ext_ext, ← setRow_7]
      refine ⟨⟨k + 1, setRow C (k * 7) [.int .i64 r0, .int .i64 r1, .int .i64 r2, .int .i64 r3, .string r4, .string r5, .slice aar6 r6.length ccr6], x.comp y, fps ++ [fq], ?_, ?_, rfl, by go_num⟩, by simp [intOf]; omega⟩
      · rw [setRow_size]; exact hCs.out
      · refine hp.step_own hlt (C' := setRow C (k * 7) [.int .i64 r0, .int .i64 r1, .int .i64 r2, .int .i64 r3, .string r4, .string r5, .slice aar6 r6.length ccr6]) (cs := [.int .i64 r0, .int .i64 r1, .int .i64 r2, .int .i64 r3, .string r4, .string r5, .slice aar6 r6.length ccr6]) ?_ hf (fun j hj => setRow_lt _ _ _ _ hj) (setRow_get _ _ _ HD.out)
        exact hs
    · have hk2 : k = xs.length := by omega
      subst hk2
      obtain ⟨fq, hs, hf⟩ := hp.done (heap_own_self _ x) (cap := xs.length) (Nat.le_refl _) (by unfold reachLen; omega)
      have HF := Lib.hid hs
      clear hs hC
      go_wp2
      go_ret
      exact ⟨_, fq, rfl, HF.out, hf, (by repeat (first | exact Gr.refl _ | apply Gr.ext | apply Gr.alloc | apply Gr.drew))⟩

theorem szExprS_all : (d : Nat) → ∀ (fp : List Nat) (u : Value) (xs : List (GE d)) (left : Int) (w : World) (hu : SlR fp w u xs) (h0 : 0 ≤ left) (h1 : left ≤ 1048576), Calls Tryz.prog 153 #[u, .int .i64 left] w fun e w' => e = .returned (.int .i64 (less left (wtExprS xs))) ∧ Gr w w'
  | 0 => szExprS_of (by intro fp cs x; exact PEmpty.elim x)
  | d + 1 => szExprS_of (szExpr_of (szExprS_all d))
theorem szExprS_any (fp : List Nat) (u : Value) (xs : List (GE d)) (left : Int) (w : World) (hu : SlR fp w u xs) (h0 : 0 ≤ left) (h1 : left ≤ 1048576) :
    Calls Tryz.prog 153 #[u, .int .i64 left] w fun e w' => e = .returned (.int .i64 (less left (wtExprS xs))) ∧ Gr w w' := szExprS_all d fp u xs left w hu h0 h1
theorem szExpr_any (fp : List Nat) (cs : Array Value) (x : (GExpr d)) (left : Int) (w : World) (hx : Rd.rd fp w cs.toList x) (h0 : 0 ≤ left) (h1 : left ≤ 1048576) :
    Calls Tryz.prog 148 #[.agg cs, .int .i64 left] w fun e w' => e = .returned (.int .i64 (less left (wtExpr x))) ∧ Gr w w' := szExpr_of (szExprS_all d) fp cs x left w hx h0 h1

theorem eqExprS_all : (d : Nat) → ∀ (fp fq : List Nat) (u v : Value) (xs ys : List (GE d)) (w : World) (hu : SlR fp w u xs) (hv : SlR fq w v ys), Calls Tryz.prog 155 #[u, v] w fun e w' => e = .returned (.bool (decide (xs = ys))) ∧ Gr w w'
  | 0 => eqExprS_of (by intro fp fq cs ds x; exact PEmpty.elim x)
  | d + 1 => eqExprS_of (eqExpr_of (eqExprS_all d))
theorem eqExprS_any (fp fq : List Nat) (u v : Value) (xs ys : List (GE d)) (w : World) (hu : SlR fp w u xs) (hv : SlR fq w v ys) :
    Calls Tryz.prog 155 #[u, v] w fun e w' => e = .returned (.bool (decide (xs = ys))) ∧ Gr w w' := eqExprS_all d fp fq u v xs ys w hu hv
theorem eqExpr_any (fp fq : List Nat) (cs ds : Array Value) (x y : (GExpr d)) (w : World) (hx : Rd.rd fp w cs.toList x) (hy : Rd.rd fq w ds.toList y) :
    Calls Tryz.prog 152 #[.agg cs, .agg ds] w fun e w' => e = .returned (.bool (decide (x = y))) ∧ Gr w w' := eqExpr_of (eqExprS_all d) fp fq cs ds x y w hx hy

theorem toExprS_all : (d : Nat) → ∀ (fp : List Nat) (u : Value) (xs : List (GE d)) (w : World) (hu : SlR fp w u xs) (hlen : wtExprS xs ≤ 1048576), Calls Tryz.prog 154 #[u] w fun e w' => ∃ v fq, e = .returned v ∧ SlR fq w' v xs ∧ Fresh w fq ∧ Gr w w'
  | 0 => toExprS_of (by intro fp cs x; exact PEmpty.elim x)
  | d + 1 => toExprS_of (toExpr_of (toExprS_all d))
theorem toExprS_any (fp : List Nat) (u : Value) (xs : List (GE d)) (w : World) (hu : SlR fp w u xs) (hlen : wtExprS xs ≤ 1048576) :
    Calls Tryz.prog 154 #[u] w fun e w' => ∃ v fq, e = .returned v ∧ SlR fq w' v xs ∧ Fresh w fq ∧ Gr w w' := toExprS_all d fp u xs w hu hlen
theorem toExpr_any (fp : List Nat) (cs : Array Value) (x : (GExpr d)) (w : World) (hx : Rd.rd fp w cs.toList x) (hl : wtExpr x ≤ 1048576) :
    Calls Tryz.prog 150 #[.agg cs] w fun e w' => ∃ ds fq, e = .returned (.agg ds) ∧ Rd.rd fq w' ds.toList x ∧ Fresh w fq ∧ Gr w w' := toExpr_of (toExprS_all d) fp cs x w hx hl

end Go.Proofs.YtbfmeiooeaaibaaGreat
