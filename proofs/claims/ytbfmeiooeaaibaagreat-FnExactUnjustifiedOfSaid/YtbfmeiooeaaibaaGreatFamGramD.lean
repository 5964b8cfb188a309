/- Contracts of the functions that measure, compare and copy: Contribution, Contribution*. Made by mk_fam.py. No condition. -/
import Derived.Test.YtbfmeiooeaaibaaGreatFamGramB
namespace Go.Proofs.YtbfmeiooeaaibaaGreat
open Go.RowKit
variable {d : Nat}

abbrev GContribution (d : Nat) := ByteArray × ByteArray × (GExpr d) × (GExpr d)
def wtContribution (x : (GContribution d)) : Nat := x.1.size + x.2.1.size + wtExpr x.2.2.1 + wtExpr x.2.2.2
instance decContribution : DecidableEq (GContribution d) := @instDecidableEqProd _ _ _ (@instDecidableEqProd _ _ _ (@instDecidableEqProd _ _ _ (inferInstance)))

theorem rdContribution_inv {fp : List Nat} {w : World} {cs : Array Value} (q0 : ByteArray) (q1 : ByteArray) (q20 : Int) (q21 : Int) (q22 : Int) (q23 : Int) (q24 : ByteArray) (q25 : ByteArray) (q26 : List (GE d)) (q30 : Int) (q31 : Int) (q32 : Int) (q33 : Int) (q34 : ByteArray) (q35 : ByteArray) (q36 : List (GE d)) (h : Rd.rd (α := (GContribution d)) fp w cs.toList (q0, q1, (q20, q21, q22, q23, q24, q25, q26), (q30, q31, q32, q33, q34, q35, q36))) :
    ∃ vq26 fq26 vq36 fq36, cs = #[.string q0, .string q1, .int .i64 q20, .int .i64 q21, .int .i64 q22, .int .i64 q23, .string q24, .string q25, vq26, .int .i64 q30, .int .i64 q31, .int .i64 q32, .int .i64 q33, .string q34, .string q35, vq36] ∧ fp = ([] ++ ([] ++ (([] ++ ([] ++ ([] ++ ([] ++ ([] ++ ([] ++ fq26)))))) ++ ([] ++ ([] ++ ([] ++ ([] ++ ([] ++ ([] ++ fq36))))))))) ∧ q0.size ≤ maxLen ∧ q1.size ≤ maxLen ∧ (Lit.int .i64 q20).wf = true ∧ (Lit.int .i64 q21).wf = true ∧ (Lit.int .i64 q22).wf = true ∧ (Lit.int .i64 q23).wf = true ∧ q24.size ≤ maxLen ∧ q25.size ≤ maxLen ∧ SlR fq26 w vq26 q26 ∧ (Lit.int .i64 q30).wf = true ∧ (Lit.int .i64 q31).wf = true ∧ (Lit.int .i64 q32).wf = true ∧ (Lit.int .i64 q33).wf = true ∧ q34.size ≤ maxLen ∧ q35.size ≤ maxLen ∧ SlR fq36 w vq36 q36 := by
  generalize hcs : cs.toList = l at h
  obtain ⟨_, _, _, _, rfl, rfl, ⟨rfl, rfl, hq0⟩, ⟨_, _, _, _, rfl, rfl, ⟨rfl, rfl, hq1⟩, ⟨cq2, cq3, gq2, gq3, rfl, rfl, Nq2, Nq3⟩⟩⟩ := h
  obtain ⟨vvq26, ffq26, hcN2, hfN2, hq20, hq21, hq22, hq23, hq24, hq25, hq26⟩ := rdExpr_inv (cs := cq2.toArray) q20 q21 q22 q23 q24 q25 q26 (by rw [List.toList_toArray]; exact Nq2)
  have eN2 : cq2 = [.int .i64 q20, .int .i64 q21, .int .i64 q22, .int .i64 q23, .string q24, .string q25, vvq26] := by have := congrArg Array.toList hcN2; simpa using this
  rw [eN2] at hcs
  obtain ⟨vvq36, ffq36, hcN3, hfN3, hq30, hq31, hq32, hq33, hq34, hq35, hq36⟩ := rdExpr_inv (cs := cq3.toArray) q30 q31 q32 q33 q34 q35 q36 (by rw [List.toList_toArray]; exact Nq3)
  have eN3 : cq3 = [.int .i64 q30, .int .i64 q31, .int .i64 q32, .int .i64 q33, .string q34, .string q35, vvq36] := by have := congrArg Array.toList hcN3; simpa using this
  rw [eN3] at hcs
  exact ⟨_, _, _, _, Array.toList_inj.1 (by simpa using hcs), (by rw [hfN2, hfN3]), hq0, hq1, hq20, hq21, hq22, hq23, hq24, hq25, hq26, hq30, hq31, hq32, hq33, hq34, hq35, hq36⟩

theorem rdContribution_shape {fp : List Nat} {w : World} {cs : Array Value} {x : (GContribution d)} (h : Rd.rd (α := (GContribution d)) fp w cs.toList x) :
    ∃ q0 q1 q20 q21 q22 q23 q24 q25 aq26 lq26 cq26 q30 q31 q32 q33 q34 q35 aq36 lq36 cq36, cs = #[.string q0, .string q1, .int .i64 q20, .int .i64 q21, .int .i64 q22, .int .i64 q23, .string q24, .string q25, .slice aq26 lq26 cq26, .int .i64 q30, .int .i64 q31, .int .i64 q32, .int .i64 q33, .string q34, .string q35, .slice aq36 lq36 cq36] := by
  obtain ⟨q0, q1, ⟨q20, q21, q22, q23, q24, q25, q26⟩, ⟨q30, q31, q32, q33, q34, q35, q36⟩⟩ := x
  obtain ⟨vq26, fq26, vq36, fq36, rfl, -, -, -, -, -, -, -, -, -, hq26, -, -, -, -, -, -, hq36⟩ := rdContribution_inv q0 q1 q20 q21 q22 q23 q24 q25 q26 q30 q31 q32 q33 q34 q35 q36 h
  obtain ⟨aq26, cq26, rfl, -, -, -⟩ := hq26.open
  obtain ⟨aq36, cq36, rfl, -, -, -⟩ := hq36.open
  exact ⟨_, _, _, _, _, _, _, _, _, _, _, _, _, _, _, _, _, _, _, _, rfl⟩

theorem rdContribution_mk {w : World} (q0 : ByteArray) (q1 : ByteArray) (q20 : Int) (q21 : Int) (q22 : Int) (q23 : Int) (q24 : ByteArray) (q25 : ByteArray) (q26 : List (GE d)) (q30 : Int) (q31 : Int) (q32 : Int) (q33 : Int) (q34 : ByteArray) (q35 : ByteArray) (q36 : List (GE d)) {vq26 : Value} {fq26 : List Nat} {vq36 : Value} {fq36 : List Nat} (hq0 : q0.size ≤ maxLen) (hq1 : q1.size ≤ maxLen) (hq20 : (Lit.int .i64 q20).wf = true) (hq21 : (Lit.int .i64 q21).wf = true) (hq22 : (Lit.int .i64 q22).wf = true) (hq23 : (Lit.int .i64 q23).wf = true) (hq24 : q24.size ≤ maxLen) (hq25 : q25.size ≤ maxLen) (hq26 : SlR fq26 w vq26 q26) (hq30 : (Lit.int .i64 q30).wf = true) (hq31 : (Lit.int .i64 q31).wf = true) (hq32 : (Lit.int .i64 q32).wf = true) (hq33 : (Lit.int .i64 q33).wf = true) (hq34 : q34.size ≤ maxLen) (hq35 : q35.size ≤ maxLen) (hq36 : SlR fq36 w vq36 q36) :
    Rd.rd (α := (GContribution d)) (([] ++ ([] ++ (([] ++ ([] ++ ([] ++ ([] ++ ([] ++ ([] ++ fq26)))))) ++ ([] ++ ([] ++ ([] ++ ([] ++ ([] ++ ([] ++ fq36)))))))))) w [.string q0, .string q1, .int .i64 q20, .int .i64 q21, .int .i64 q22, .int .i64 q23, .string q24, .string q25, vq26, .int .i64 q30, .int .i64 q31, .int .i64 q32, .int .i64 q33, .string q34, .string q35, vq36] (q0, q1, (q20, q21, q22, q23, q24, q25, q26), (q30, q31, q32, q33, q34, q35, q36)) := ⟨_, _, _, _, rfl, rfl, ⟨rfl, rfl, hq0⟩, ⟨_, _, _, _, rfl, rfl, ⟨rfl, rfl, hq1⟩, ⟨_, _, _, _, rfl, rfl, ⟨_, _, _, _, rfl, rfl, ⟨rfl, rfl, hq20⟩, ⟨_, _, _, _, rfl, rfl, ⟨rfl, rfl, hq21⟩, ⟨_, _, _, _, rfl, rfl, ⟨rfl, rfl, hq22⟩, ⟨_, _, _, _, rfl, rfl, ⟨rfl, rfl, hq23⟩, ⟨_, _, _, _, rfl, rfl, ⟨rfl, rfl, hq24⟩, ⟨_, _, _, _, rfl, rfl, ⟨rfl, rfl, hq25⟩, ⟨_, rfl, hq26⟩⟩⟩⟩⟩⟩⟩, ⟨_, _, _, _, rfl, rfl, ⟨rfl, rfl, hq30⟩, ⟨_, _, _, _, rfl, rfl, ⟨rfl, rfl, hq31⟩, ⟨_, _, _, _, rfl, rfl, ⟨rfl, rfl, hq32⟩, ⟨_, _, _, _, rfl, rfl, ⟨rfl, rfl, hq33⟩, ⟨_, _, _, _, rfl, rfl, ⟨rfl, rfl, hq34⟩, ⟨_, _, _, _, rfl, rfl, ⟨rfl, rfl, hq35⟩, ⟨_, rfl, hq36⟩⟩⟩⟩⟩⟩⟩⟩⟩⟩

set_option maxHeartbeats 1000000 in
theorem szContribution_any (fp : List Nat) (cs : Array Value) (x : (GContribution d)) (left : Int) (w : World) (hx : Rd.rd fp w cs.toList x) (h0 : 0 ≤ left) (h1 : left ≤ 1048576) :
    Calls Tryz.prog 138 #[.agg cs, .int .i64 left] w fun e w' => e = .returned (.int .i64 (less left (wtContribution x))) ∧ Gr w w' := by
  obtain ⟨q0, q1, ⟨q20, q21, q22, q23, q24, q25, q26⟩, ⟨q30, q31, q32, q33, q34, q35, q36⟩⟩ := x
  obtain ⟨vq26, fq26, vq36, fq36, rfl, -, hq0, hq1, hq20, hq21, hq22, hq23, hq24, hq25, hq26, hq30, hq31, hq32, hq33, hq34, hq35, hq36⟩ := rdContribution_inv q0 q1 q20 q21 q22 q23 q24 q25 q26 q30 q31 q32 q33 q34 q35 q36 hx
  have hry2 := (rdExpr_mk q20 q21 q22 q23 q24 q25 q26 hq20 hq21 hq22 hq23 hq24 hq25 hq26 : Rd.rd (α := (GExpr d)) _ w _ _)
  obtain ⟨y2, hny2⟩ : ∃ y : (GExpr d), y = (q20, q21, q22, q23, q24, q25, q26) := ⟨_, rfl⟩
  rw [← hny2] at hry2
  have HNy2 := Lib.hid hny2
  clear hny2
  have hry3 := (rdExpr_mk q30 q31 q32 q33 q34 q35 q36 hq30 hq31 hq32 hq33 hq34 hq35 hq36 : Rd.rd (α := (GExpr d)) _ w _ _)
  obtain ⟨y3, hny3⟩ : ∃ y : (GExpr d), y = (q30, q31, q32, q33, q34, q35, q36) := ⟨_, rfl⟩
  rw [← hny3] at hry3
  have HNy3 := Lib.hid hny3
  clear hny3
  unfold maxLen at hq0
  unfold maxLen at hq1
  unfold maxLen at hq24
  unfold maxLen at hq25
  unfold maxLen at hq34
  unfold maxLen at hq35
  obtain ⟨aq26, cq26, rfl, bq26, dq26, -⟩ := hq26.open
  obtain ⟨aq36, cq36, rfl, bq36, dq36, -⟩ := hq36.open
  have hwt : wtContribution (q0, q1, (q20, q21, q22, q23, q24, q25, q26), (q30, q31, q32, q33, q34, q35, q36)) = (q0.size) + (q1.size) + (wtExpr y2) + (wtExpr y3) := by rw [HNy2.out]; rw [HNy3.out]; rfl
  have HW := Lib.hid hwt
  clear hwt hx
  go_enter Tryz.func138, Tryz.ntmps138
  go_wp2_with fail
  · go_ret
    refine ⟨ret_int ?_, (by repeat (first | exact Gr.refl _ | apply Gr.ext | apply Gr.alloc | apply Gr.drew))⟩
    have := less_cases left (wtContribution (q0, q1, (q20, q21, q22, q23, q24, q25, q26), (q30, q31, q32, q33, q34, q35, q36)))
    have := HW.out
    omega
  · go_ret
    refine ⟨ret_int ?_, (by repeat (first | exact Gr.refl _ | apply Gr.ext | apply Gr.alloc | apply Gr.drew))⟩
    have := less_cases left (wtContribution (q0, q1, (q20, q21, q22, q23, q24, q25, q26), (q30, q31, q32, q33, q34, q35, q36)))
    have := HW.out
    omega
  · skip
    refine (szExpr_any _ _ y2 _ _ (Rd.gr hry2 (by repeat (first | exact Gr.refl _ | apply Gr.ext | apply Gr.alloc | apply Gr.drew))) (by omega) (by omega)).mono ?_
    rintro e w2 ⟨rfl, x2, rfl⟩
    have hb2 := less_le (left - ↑q0.size - ↑q1.size) (wtExpr y2) (by omega)
    go_wp2_with fail
    · go_ret
      refine ⟨ret_int ?_, (by repeat (first | exact Gr.refl _ | apply Gr.ext | apply Gr.alloc | apply Gr.drew))⟩
      have := less_cases left (wtContribution (q0, q1, (q20, q21, q22, q23, q24, q25, q26), (q30, q31, q32, q33, q34, q35, q36)))
      have := HW.out
      have := less_cases (left - ↑q0.size - ↑q1.size) (wtExpr y2)
      omega
    · skip
      refine (szExpr_any _ _ y3 _ _ (Rd.gr hry3 (by repeat (first | exact Gr.refl _ | apply Gr.ext | apply Gr.alloc | apply Gr.drew))) (by have := less_cases (left - ↑q0.size - ↑q1.size) (wtExpr y2); omega) (by have := less_cases (left - ↑q0.size - ↑q1.size) (wtExpr y2); omega)).mono ?_
      rintro e w3 ⟨rfl, x3, rfl⟩
      have hb3 := less_le (less (left - ↑q0.size - ↑q1.size) (wtExpr y2)) (wtExpr y3) (by have := less_cases (left - ↑q0.size - ↑q1.size) (wtExpr y2); omega)
      go_wp2_with fail
      · go_ret
        refine ⟨ret_int ?_, (by repeat (first | exact Gr.refl _ | apply Gr.ext | apply Gr.alloc | apply Gr.drew))⟩
        have := less_cases left (wtContribution (q0, q1, (q20, q21, q22, q23, q24, q25, q26), (q30, q31, q32, q33, q34, q35, q36)))
        have := HW.out
        have := less_cases (left - ↑q0.size - ↑q1.size) (wtExpr y2)
        have := less_cases (less (left - ↑q0.size - ↑q1.size) (wtExpr y2)) (wtExpr y3)
        omega
      · skip
        go_ret
        refine ⟨ret_int ?_, (by repeat (first | exact Gr.refl _ | apply Gr.ext | apply Gr.alloc | apply Gr.drew))⟩
        have := less_cases left (wtContribution (q0, q1, (q20, q21, q22, q23, q24, q25, q26), (q30, q31, q32, q33, q34, q35, q36)))
        have := HW.out
        have := less_cases (left - ↑q0.size - ↑q1.size) (wtExpr y2)
        have := less_cases (less (left - ↑q0.size - ↑q1.size) (wtExpr y2)) (wtExpr y3)
        omega

theorem Contribution_ext (q0 : ByteArray) (q1 : ByteArray) (q20 : Int) (q21 : Int) (q22 : Int) (q23 : Int) (q24 : ByteArray) (q25 : ByteArray) (q26 : List (GE d)) (q30 : Int) (q31 : Int) (q32 : Int) (q33 : Int) (q34 : ByteArray) (q35 : ByteArray) (q36 : List (GE d)) (p0 : ByteArray) (p1 : ByteArray) (p20 : Int) (p21 : Int) (p22 : Int) (p23 : Int) (p24 : ByteArray) (p25 : ByteArray) (p26 : List (GE d)) (p30 : Int) (p31 : Int) (p32 : Int) (p33 : Int) (p34 : ByteArray) (p35 : ByteArray) (p36 : List (GE d)) (e0 : q0 = p0) (e1 : q1 = p1) (e2 : (q20, q21, q22, q23, q24, q25, q26) = (p20, p21, p22, p23, p24, p25, p26)) (e3 : (q30, q31, q32, q33, q34, q35, q36) = (p30, p31, p32, p33, p34, p35, p36)) : ((q0, q1, (q20, q21, q22, q23, q24, q25, q26), (q30, q31, q32, q33, q34, q35, q36)) : (GContribution d)) = (p0, p1, (p20, p21, p22, p23, p24, p25, p26), (p30, p31, p32, p33, p34, p35, p36)) := by
  exact Prod.ext_iff.2 ⟨e0, Prod.ext_iff.2 ⟨e1, Prod.ext_iff.2 ⟨e2, e3⟩⟩⟩

set_option maxHeartbeats 1000000 in
theorem eqContribution_any (fp fq : List Nat) (cs ds : Array Value) (x y : (GContribution d)) (w : World) (hx : Rd.rd fp w cs.toList x) (hy : Rd.rd fq w ds.toList y) :
    Calls Tryz.prog 144 #[.agg cs, .agg ds] w fun e w' => e = .returned (.bool (decide (x = y))) ∧ Gr w w' := by
  obtain ⟨q0, q1, ⟨q20, q21, q22, q23, q24, q25, q26⟩, ⟨q30, q31, q32, q33, q34, q35, q36⟩⟩ := x
  obtain ⟨p0, p1, ⟨p20, p21, p22, p23, p24, p25, p26⟩, ⟨p30, p31, p32, p33, p34, p35, p36⟩⟩ := y
  obtain ⟨vq26, fq26, vq36, fq36, rfl, -, hq0, hq1, hq20, hq21, hq22, hq23, hq24, hq25, hq26, hq30, hq31, hq32, hq33, hq34, hq35, hq36⟩ := rdContribution_inv q0 q1 q20 q21 q22 q23 q24 q25 q26 q30 q31 q32 q33 q34 q35 q36 hx
  obtain ⟨vp26, fp26, vp36, fp36, rfl, -, hp0, hp1, hp20, hp21, hp22, hp23, hp24, hp25, hp26, hp30, hp31, hp32, hp33, hp34, hp35, hp36⟩ := rdContribution_inv p0 p1 p20 p21 p22 p23 p24 p25 p26 p30 p31 p32 p33 p34 p35 p36 hy
  have hry2 := (rdExpr_mk q20 q21 q22 q23 q24 q25 q26 hq20 hq21 hq22 hq23 hq24 hq25 hq26 : Rd.rd (α := (GExpr d)) _ w _ _)
  obtain ⟨y2, hny2⟩ : ∃ y : (GExpr d), y = (q20, q21, q22, q23, q24, q25, q26) := ⟨_, rfl⟩
  rw [← hny2] at hry2
  have HNy2 := Lib.hid hny2
  clear hny2
  have hry3 := (rdExpr_mk q30 q31 q32 q33 q34 q35 q36 hq30 hq31 hq32 hq33 hq34 hq35 hq36 : Rd.rd (α := (GExpr d)) _ w _ _)
  obtain ⟨y3, hny3⟩ : ∃ y : (GExpr d), y = (q30, q31, q32, q33, q34, q35, q36) := ⟨_, rfl⟩
  rw [← hny3] at hry3
  have HNy3 := Lib.hid hny3
  clear hny3
  have hrz2 := (rdExpr_mk p20 p21 p22 p23 p24 p25 p26 hp20 hp21 hp22 hp23 hp24 hp25 hp26 : Rd.rd (α := (GExpr d)) _ w _ _)
  obtain ⟨z2, hnz2⟩ : ∃ y : (GExpr d), y = (p20, p21, p22, p23, p24, p25, p26) := ⟨_, rfl⟩
  rw [← hnz2] at hrz2
  have HNz2 := Lib.hid hnz2
  clear hnz2
  have hrz3 := (rdExpr_mk p30 p31 p32 p33 p34 p35 p36 hp30 hp31 hp32 hp33 hp34 hp35 hp36 : Rd.rd (α := (GExpr d)) _ w _ _)
  obtain ⟨z3, hnz3⟩ : ∃ y : (GExpr d), y = (p30, p31, p32, p33, p34, p35, p36) := ⟨_, rfl⟩
  rw [← hnz3] at hrz3
  have HNz3 := Lib.hid hnz3
  clear hnz3
  obtain ⟨aq26, cq26, rfl, -, -, -⟩ := hq26.open
  obtain ⟨aq36, cq36, rfl, -, -, -⟩ := hq36.open
  obtain ⟨ap26, cp26, rfl, -, -, -⟩ := hp26.open
  obtain ⟨ap36, cp36, rfl, -, -, -⟩ := hp36.open
  clear hx hy
  go_enter Tryz.func144, Tryz.ntmps144
  go_wp2_with fail
  · have ht : (!q0.toList == p0.toList) = true := by assumption
    go_ret
    exact ⟨ret_bool (decide_eq_false fun e => str_ne ht (congrArg (fun z : (GContribution d) => z.1) e)).symm, (by repeat (first | exact Gr.refl _ | apply Gr.ext | apply Gr.alloc | apply Gr.drew))⟩
  · have ht : (!q1.toList == p1.toList) = true := by assumption
    go_ret
    exact ⟨ret_bool (decide_eq_false fun e => str_ne ht (congrArg (fun z : (GContribution d) => z.2.1) e)).symm, (by repeat (first | exact Gr.refl _ | apply Gr.ext | apply Gr.alloc | apply Gr.drew))⟩
  · skip
    have e0 := Lib.hid (str_eq (show (!q0.toList == p0.toList) = false by assumption))
    have e1 := Lib.hid (str_eq (show (!q1.toList == p1.toList) = false by assumption))
    refine (eqExpr_any _ _ _ _ y2 z2 _ (Rd.gr hry2 (by repeat (first | exact Gr.refl _ | apply Gr.ext | apply Gr.alloc | apply Gr.drew))) (Rd.gr hrz2 (by repeat (first | exact Gr.refl _ | apply Gr.ext | apply Gr.alloc | apply Gr.drew)))).mono ?_
    rintro e w2 ⟨rfl, x2, rfl⟩
    go_wp2_with fail
    · have ht : (!decide (y2 = z2)) = true := by assumption
      go_ret
      exact ⟨ret_bool (decide_eq_false fun e => dec_ne ht (HNy2.out.trans ((congrArg (fun z : (GContribution d) => z.2.2.1) e).trans HNz2.out.symm))).symm, (by repeat (first | exact Gr.refl _ | apply Gr.ext | apply Gr.alloc | apply Gr.drew))⟩
    · skip
      have e2 := Lib.hid (dec_eq (show (!decide (y2 = z2)) = false by assumption))
      refine (eqExpr_any _ _ _ _ y3 z3 _ (Rd.gr hry3 (by repeat (first | exact Gr.refl _ | apply Gr.ext | apply Gr.alloc | apply Gr.drew))) (Rd.gr hrz3 (by repeat (first | exact Gr.refl _ | apply Gr.ext | apply Gr.alloc | apply Gr.drew)))).mono ?_
      rintro e w3 ⟨rfl, x3, rfl⟩
      go_wp2_with fail
      · have ht : (!decide (y3 = z3)) = true := by assumption
        go_ret
        exact ⟨ret_bool (decide_eq_false fun e => dec_ne ht (HNy3.out.trans ((congrArg (fun z : (GContribution d) => z.2.2.2) e).trans HNz3.out.symm))).symm, (by repeat (first | exact Gr.refl _ | apply Gr.ext | apply Gr.alloc | apply Gr.drew))⟩
      · skip
        have e3 := Lib.hid (dec_eq (show (!decide (y3 = z3)) = false by assumption))
        go_ret
        exact ⟨ret_bool (decide_eq_true (Contribution_ext q0 q1 q20 q21 q22 q23 q24 q25 q26 q30 q31 q32 q33 q34 q35 q36 p0 p1 p20 p21 p22 p23 p24 p25 p26 p30 p31 p32 p33 p34 p35 p36 e0.out e1.out (HNy2.out.symm.trans (e2.out.trans HNz2.out)) (HNy3.out.symm.trans (e3.out.trans HNz3.out)))).symm, (by repeat (first | exact Gr.refl _ | apply Gr.ext | apply Gr.alloc | apply Gr.drew))⟩

set_option maxHeartbeats 1000000 in
theorem toContribution_any (fp : List Nat) (cs : Array Value) (x : (GContribution d)) (w : World) (hx : Rd.rd fp w cs.toList x) (hl : wtContribution x ≤ 1048576) :
    Calls Tryz.prog 141 #[.agg cs] w fun e w' => ∃ ds fq, e = .returned (.agg ds) ∧ Rd.rd fq w' ds.toList x ∧ Fresh w fq ∧ Gr w w' := by
  obtain ⟨q0, q1, ⟨q20, q21, q22, q23, q24, q25, q26⟩, ⟨q30, q31, q32, q33, q34, q35, q36⟩⟩ := x
  obtain ⟨vq26, fq26, vq36, fq36, rfl, -, hq0, hq1, hq20, hq21, hq22, hq23, hq24, hq25, hq26, hq30, hq31, hq32, hq33, hq34, hq35, hq36⟩ := rdContribution_inv q0 q1 q20 q21 q22 q23 q24 q25 q26 q30 q31 q32 q33 q34 q35 q36 hx
  have hry2 := (rdExpr_mk q20 q21 q22 q23 q24 q25 q26 hq20 hq21 hq22 hq23 hq24 hq25 hq26 : Rd.rd (α := (GExpr d)) _ w _ _)
  obtain ⟨y2, hny2⟩ : ∃ y : (GExpr d), y = (q20, q21, q22, q23, q24, q25, q26) := ⟨_, rfl⟩
  rw [← hny2] at hry2
  have HNy2 := Lib.hid hny2
  clear hny2
  have hry3 := (rdExpr_mk q30 q31 q32 q33 q34 q35 q36 hq30 hq31 hq32 hq33 hq34 hq35 hq36 : Rd.rd (α := (GExpr d)) _ w _ _)
  obtain ⟨y3, hny3⟩ : ∃ y : (GExpr d), y = (q30, q31, q32, q33, q34, q35, q36) := ⟨_, rfl⟩
  rw [← hny3] at hry3
  have HNy3 := Lib.hid hny3
  clear hny3
  obtain ⟨aq26, cq26, rfl, -, -, -⟩ := hq26.open
  obtain ⟨aq36, cq36, rfl, -, -, -⟩ := hq36.open
  have hwt : wtContribution (q0, q1, (q20, q21, q22, q23, q24, q25, q26), (q30, q31, q32, q33, q34, q35, q36)) = (q0.size) + (q1.size) + (wtExpr y2) + (wtExpr y3) := by rw [HNy2.out]; rw [HNy3.out]; rfl
  have HW := Lib.hid hwt
  clear hwt hx
  go_enter Tryz.func141, Tryz.ntmps141
  go_wp2_with fail
  refine (toExpr_any _ _ y2 _ (Rd.gr hry2 (by repeat (first | exact Gr.refl _ | apply Gr.ext | apply Gr.alloc | apply Gr.drew))) (by have := HW.out; omega)).mono ?_
  rintro e w2 ⟨ds2, g2, rfl, s2, fr2, x2, rfl⟩
  rw [HNy2.out] at s2
  obtain ⟨uq26, gq26, rfl, hg2, -, -, -, -, -, -, kq26⟩ := rdExpr_inv q20 q21 q22 q23 q24 q25 q26 s2
  rw [hg2] at fr2
  clear hg2
  obtain ⟨aaq26, ccq26, rfl, -, -, -⟩ := kq26.open
  go_wp2_with fail
  refine (toExpr_any _ _ y3 _ (Rd.gr hry3 (by repeat (first | exact Gr.refl _ | apply Gr.ext | apply Gr.alloc | apply Gr.drew))) (by have := HW.out; omega)).mono ?_
  rintro e w3 ⟨ds3, g3, rfl, s3, fr3, x3, rfl⟩
  rw [HNy3.out] at s3
  obtain ⟨uq36, gq36, rfl, hg3, -, -, -, -, -, -, kq36⟩ := rdExpr_inv q30 q31 q32 q33 q34 q35 q36 s3
  rw [hg3] at fr3
  clear hg3
  obtain ⟨aaq36, ccq36, rfl, -, -, -⟩ := kq36.open
  go_wp2_with fail
  have hfresh : Fresh w (gq26 ++ gq36) := by
    exact (Fresh.app (Fresh.of_le fr2 (by simp <;> omega)) (SlR.lt kq26) fr3 (by simp <;> omega) (by simp <;> omega))
  exact bodyPost_ret (v := .agg #[.string q0, .string q1, .int .i64 q20, .int .i64 q21, .int .i64 q22, .int .i64 q23, .string q24, .string q25, .slice aaq26 q26.length ccq26, .int .i64 q30, .int .i64 q31, .int .i64 q32, .int .i64 q33, .string q34, .string q35, .slice aaq36 q36.length ccq36]) (by simp [results, Tryz.results141, go_sem]) rfl
    ⟨_, _, rfl, rdContribution_mk q0 q1 q20 q21 q22 q23 q24 q25 q26 q30 q31 q32 q33 q34 q35 q36 hq0 hq1 hq20 hq21 hq22 hq23 hq24 hq25 (SlR.moved kq26 fr2 (by repeat (first | exact Gr.refl _ | apply Gr.ext | apply Gr.alloc | apply Gr.drew)) (by simp)) hq30 hq31 hq32 hq33 hq34 hq35 (SlR.moved kq36 fr3 (by repeat (first | exact Gr.refl _ | apply Gr.ext | apply Gr.alloc | apply Gr.drew)) (by simp)), hfresh, (by repeat (first | exact Gr.refl _ | apply Gr.ext | apply Gr.alloc | apply Gr.drew))⟩

def wtContributionS (xs : List (GContribution d)) : Nat := wtL wtContribution xs

set_option maxHeartbeats 1000000 in
theorem szContributionS_any (fp : List Nat) (u : Value) (xs : List (GContribution d)) (left : Int) (w : World) (hu : SlR fp w u xs) (h0 : 0 ≤ left) (h1 : left ≤ 1048576) :
    Calls Tryz.prog 115 #[u, .int .i64 left] w fun e w' => e = .returned (.int .i64 (less left (wtContributionS xs))) ∧ Gr w w' := by
  obtain ⟨a, ca, rfl, g1, g2, g3⟩ := hu.open
  by_cases hneg : left - xs.length < 0
  · have hle : less left (wtContributionS xs) = -1 := by unfold less wtContributionS wtL; rw [if_pos (by omega)]
    have HL := Lib.hid hle
    clear hle
    go_enter Tryz.func115, Tryz.ntmps115
    go_wp2
    go_ret
    exact ⟨ret_int HL.out.symm, Gr.refl w⟩
  · have hl0 : less left xs.length = left - xs.length := by unfold less; rw [if_neg hneg]
    have HL0 := Lib.hid hl0
    clear hl0
    go_enter Tryz.func115, Tryz.ntmps115
    go_wp2
    go_loopw [5, 1] (fun s5 s1 wr => ∃ (k : Nat) (m : Int), k ≤ xs.length ∧ 0 ≤ m ∧ m ≤ 1048576 ∧ Hid (m = less left (xs.length + ((xs.take k).map wtContribution).sum)) ∧ Gr w wr ∧ s5 = .int .i64 k ∧ s1 = .int .i64 m) (fun s5 _ _ => xs.length - (intOf s5).toNat)
    case atStart => exact ⟨0, _, by omega, by omega, by omega, Lib.hid (by simp [HL0.out]), Gr.refl w, rfl, rfl⟩
    case round =>
      obtain ⟨k, m, hk, hm0, hm1, hm, ⟨x, rfl⟩, rfl, rfl⟩ := hrel
      by_cases hlt : k < xs.length
      · obtain ⟨b, off, rfl, hb⟩ := g3 k hlt
        have hsum := Lib.hid (sum_take_succ wtContribution xs k hlt)
        obtain ⟨csq, feq, hcq, hrq, -⟩ := hu.at hlt
        have hrdq := hrq
        generalize xs[k] = yq at hrq
        obtain ⟨q0, q1, ⟨q20, q21, q22, q23, q24, q25, q26⟩, ⟨q30, q31, q32, q33, q34, q35, q36⟩⟩ := yq
        obtain ⟨vq26, fq26, vq36, fq36, hcsq, -, hq0, hq1, hq20, hq21, hq22, hq23, hq24, hq25, hq26, hq30, hq31, hq32, hq33, hq34, hq35, hq36⟩ := rdContribution_inv (cs := csq.toArray) q0 q1 q20 q21 q22 q23 q24 q25 q26 q30 q31 q32 q33 q34 q35 q36 (by simpa using hrq)
        obtain rfl : csq = [.string q0, .string q1, .int .i64 q20, .int .i64 q21, .int .i64 q22, .int .i64 q23, .string q24, .string q25, vq26, .int .i64 q30, .int .i64 q31, .int .i64 q32, .int .i64 q33, .string q34, .string q35, vq36] := by have := congrArg Array.toList hcsq; simpa using this
        have z0 : w.cell? ⟨b, off + k * 16, none⟩ = some (.string q0) := by simpa [Rd.n] using hcq 0 _ rfl
        have z1 : w.cell? ⟨b, off + k * 16 + 1, none⟩ = some (.string q1) := hcq 1 _ rfl
        have z2 : w.cell? ⟨b, off + k * 16 + 2, none⟩ = some (.int .i64 q20) := hcq 2 _ rfl
        have z3 : w.cell? ⟨b, off + k * 16 + 3, none⟩ = some (.int .i64 q21) := hcq 3 _ rfl
        have z4 : w.cell? ⟨b, off + k * 16 + 4, none⟩ = some (.int .i64 q22) := hcq 4 _ rfl
        have z5 : w.cell? ⟨b, off + k * 16 + 5, none⟩ = some (.int .i64 q23) := hcq 5 _ rfl
        have z6 : w.cell? ⟨b, off + k * 16 + 6, none⟩ = some (.string q24) := hcq 6 _ rfl
        have z7 : w.cell? ⟨b, off + k * 16 + 7, none⟩ = some (.string q25) := hcq 7 _ rfl
        have z8 : w.cell? ⟨b, off + k * 16 + 8, none⟩ = some (vq26) := hcq 8 _ rfl
        have z9 : w.cell? ⟨b, off + k * 16 + 9, none⟩ = some (.int .i64 q30) := hcq 9 _ rfl
        have z10 : w.cell? ⟨b, off + k * 16 + 10, none⟩ = some (.int .i64 q31) := hcq 10 _ rfl
        have z11 : w.cell? ⟨b, off + k * 16 + 11, none⟩ = some (.int .i64 q32) := hcq 11 _ rfl
        have z12 : w.cell? ⟨b, off + k * 16 + 12, none⟩ = some (.int .i64 q33) := hcq 12 _ rfl
        have z13 : w.cell? ⟨b, off + k * 16 + 13, none⟩ = some (.string q34) := hcq 13 _ rfl
        have z14 : w.cell? ⟨b, off + k * 16 + 14, none⟩ = some (.string q35) := hcq 14 _ rfl
        have z15 : w.cell? ⟨b, off + k * 16 + 15, none⟩ = some (vq36) := hcq 15 _ rfl
        have hmono := less_le m (wtContribution xs[k]) (by omega)
        clear g3 hcsq hcq hrq
        go_wp2_with (go_at_call 138; refine (szContribution_any _ _ xs[k] _ _ (Rd.gr hrdq ((Gr.refl w).ext _)) (by omega) (by omega)).mono ?_; rintro e w1 ⟨rfl, y, rfl⟩)
        · have hx : less m (wtContribution xs[k]) < 0 := by assumption
          go_ret
          refine ⟨ret_int ?_, (by repeat (first | exact Gr.refl _ | apply Gr.ext | apply Gr.alloc | apply Gr.drew))⟩
          have e := hm.out
          subst e
          rw [less_less, Nat.add_assoc, ← hsum.out] at hx
          exact (less_mono hx (Nat.add_le_add_left (sum_take_le wtContribution xs (k + 1)) _) h0).symm
        · have hx : 0 ≤ less m (wtContribution xs[k]) := by assumption
          refine ⟨⟨k + 1, _, by omega, hx, by omega, Lib.hid ?_, (by repeat (first | exact Gr.refl _ | apply Gr.ext | apply Gr.alloc | apply Gr.drew)), by go_num, rfl⟩, by simp [intOf]; omega⟩
          rw [hsum.out, hm.out, less_less, Nat.add_assoc]
      · have hk2 : k = xs.length := by omega
        subst hk2
        have hm2 := hm.out
        rw [List.take_length] at hm2
        have HM := Lib.hid hm2
        clear hm2 hm
        go_wp2
        go_ret
        exact ⟨ret_int HM.out, (by repeat (first | exact Gr.refl _ | apply Gr.ext | apply Gr.alloc | apply Gr.drew))⟩

set_option maxHeartbeats 1000000 in
theorem eqContributionS_any (fp fq : List Nat) (u v : Value) (xs ys : List (GContribution d)) (w : World) (hu : SlR fp w u xs) (hv : SlR fq w v ys) :
    Calls Tryz.prog 132 #[u, v] w fun e w' => e = .returned (.bool (decide (xs = ys))) ∧ Gr w w' := by
  obtain ⟨a, ca, rfl, h1, h2, h3⟩ := hu.open
  obtain ⟨c, cc, rfl, g1, g2, g3⟩ := hv.open
  by_cases hl : xs.length = ys.length
  · have hl' := Lib.hid hl
    have hne : ((xs.length : Int) != (ys.length : Int)) = false := by simp [hl]
    clear hl
    go_enter Tryz.func132, Tryz.ntmps132
    go_wp2
    go_loopw [5] (fun s5 wr => ∃ k : Nat, k ≤ xs.length ∧ xs.take k = ys.take k ∧ Gr w wr ∧ s5 = .int .i64 k) (fun s5 _ => xs.length - (intOf s5).toNat)
    case atStart => exact ⟨0, by omega, rfl, Gr.refl w, rfl⟩
    case round =>
      obtain ⟨k, hk, ht, ⟨x, rfl⟩, rfl⟩ := hrel
      by_cases hlt : k < xs.length
      · have hlt2 : k < ys.length := by have := hl'.out; omega
        obtain ⟨b, off, rfl, hb⟩ := h3 k hlt
        obtain ⟨b', off', rfl, hb'⟩ := g3 k hlt2
        obtain ⟨csq, feq, hcq, hrq, -⟩ := hu.at hlt
        have hrdq := hrq
        generalize xs[k] = yq at hrq
        obtain ⟨q0, q1, ⟨q20, q21, q22, q23, q24, q25, q26⟩, ⟨q30, q31, q32, q33, q34, q35, q36⟩⟩ := yq
        obtain ⟨vq26, fq26, vq36, fq36, hcsq, -, hq0, hq1, hq20, hq21, hq22, hq23, hq24, hq25, hq26, hq30, hq31, hq32, hq33, hq34, hq35, hq36⟩ := rdContribution_inv (cs := csq.toArray) q0 q1 q20 q21 q22 q23 q24 q25 q26 q30 q31 q32 q33 q34 q35 q36 (by simpa using hrq)
        obtain rfl : csq = [.string q0, .string q1, .int .i64 q20, .int .i64 q21, .int .i64 q22, .int .i64 q23, .string q24, .string q25, vq26, .int .i64 q30, .int .i64 q31, .int .i64 q32, .int .i64 q33, .string q34, .string q35, vq36] := by have := congrArg Array.toList hcsq; simpa using this
        obtain ⟨csp, fep, hcp, hrp, -⟩ := hv.at hlt2
        have hrdp := hrp
        generalize ys[k] = yp at hrp
        obtain ⟨p0, p1, ⟨p20, p21, p22, p23, p24, p25, p26⟩, ⟨p30, p31, p32, p33, p34, p35, p36⟩⟩ := yp
        obtain ⟨vp26, fp26, vp36, fp36, hcsp, -, hp0, hp1, hp20, hp21, hp22, hp23, hp24, hp25, hp26, hp30, hp31, hp32, hp33, hp34, hp35, hp36⟩ := rdContribution_inv (cs := csp.toArray) p0 p1 p20 p21 p22 p23 p24 p25 p26 p30 p31 p32 p33 p34 p35 p36 (by simpa using hrp)
        obtain rfl : csp = [.string p0, .string p1, .int .i64 p20, .int .i64 p21, .int .i64 p22, .int .i64 p23, .string p24, .string p25, vp26, .int .i64 p30, .int .i64 p31, .int .i64 p32, .int .i64 p33, .string p34, .string p35, vp36] := by have := congrArg Array.toList hcsp; simpa using this
        have z0 : w.cell? ⟨b, off + k * 16, none⟩ = some (.string q0) := by simpa [Rd.n] using hcq 0 _ rfl
        have z1 : w.cell? ⟨b, off + k * 16 + 1, none⟩ = some (.string q1) := hcq 1 _ rfl
        have z2 : w.cell? ⟨b, off + k * 16 + 2, none⟩ = some (.int .i64 q20) := hcq 2 _ rfl
        have z3 : w.cell? ⟨b, off + k * 16 + 3, none⟩ = some (.int .i64 q21) := hcq 3 _ rfl
        have z4 : w.cell? ⟨b, off + k * 16 + 4, none⟩ = some (.int .i64 q22) := hcq 4 _ rfl
        have z5 : w.cell? ⟨b, off + k * 16 + 5, none⟩ = some (.int .i64 q23) := hcq 5 _ rfl
        have z6 : w.cell? ⟨b, off + k * 16 + 6, none⟩ = some (.string q24) := hcq 6 _ rfl
        have z7 : w.cell? ⟨b, off + k * 16 + 7, none⟩ = some (.string q25) := hcq 7 _ rfl
        have z8 : w.cell? ⟨b, off + k * 16 + 8, none⟩ = some (vq26) := hcq 8 _ rfl
        have z9 : w.cell? ⟨b, off + k * 16 + 9, none⟩ = some (.int .i64 q30) := hcq 9 _ rfl
        have z10 : w.cell? ⟨b, off + k * 16 + 10, none⟩ = some (.int .i64 q31) := hcq 10 _ rfl
        have z11 : w.cell? ⟨b, off + k * 16 + 11, none⟩ = some (.int .i64 q32) := hcq 11 _ rfl
        have z12 : w.cell? ⟨b, off + k * 16 + 12, none⟩ = some (.int .i64 q33) := hcq 12 _ rfl
        have z13 : w.cell? ⟨b, off + k * 16 + 13, none⟩ = some (.string q34) := hcq 13 _ rfl
        have z14 : w.cell? ⟨b, off + k * 16 + 14, none⟩ = some (.string q35) := hcq 14 _ rfl
        have z15 : w.cell? ⟨b, off + k * 16 + 15, none⟩ = some (vq36) := hcq 15 _ rfl
        have zz0 : w.cell? ⟨b', off' + k * 16, none⟩ = some (.string p0) := by simpa [Rd.n] using hcp 0 _ rfl
        have zz1 : w.cell? ⟨b', off' + k * 16 + 1, none⟩ = some (.string p1) := hcp 1 _ rfl
        have zz2 : w.cell? ⟨b', off' + k * 16 + 2, none⟩ = some (.int .i64 p20) := hcp 2 _ rfl
        have zz3 : w.cell? ⟨b', off' + k * 16 + 3, none⟩ = some (.int .i64 p21) := hcp 3 _ rfl
        have zz4 : w.cell? ⟨b', off' + k * 16 + 4, none⟩ = some (.int .i64 p22) := hcp 4 _ rfl
        have zz5 : w.cell? ⟨b', off' + k * 16 + 5, none⟩ = some (.int .i64 p23) := hcp 5 _ rfl
        have zz6 : w.cell? ⟨b', off' + k * 16 + 6, none⟩ = some (.string p24) := hcp 6 _ rfl
        have zz7 : w.cell? ⟨b', off' + k * 16 + 7, none⟩ = some (.string p25) := hcp 7 _ rfl
        have zz8 : w.cell? ⟨b', off' + k * 16 + 8, none⟩ = some (vp26) := hcp 8 _ rfl
        have zz9 : w.cell? ⟨b', off' + k * 16 + 9, none⟩ = some (.int .i64 p30) := hcp 9 _ rfl
        have zz10 : w.cell? ⟨b', off' + k * 16 + 10, none⟩ = some (.int .i64 p31) := hcp 10 _ rfl
        have zz11 : w.cell? ⟨b', off' + k * 16 + 11, none⟩ = some (.int .i64 p32) := hcp 11 _ rfl
        have zz12 : w.cell? ⟨b', off' + k * 16 + 12, none⟩ = some (.int .i64 p33) := hcp 12 _ rfl
        have zz13 : w.cell? ⟨b', off' + k * 16 + 13, none⟩ = some (.string p34) := hcp 13 _ rfl
        have zz14 : w.cell? ⟨b', off' + k * 16 + 14, none⟩ = some (.string p35) := hcp 14 _ rfl
        have zz15 : w.cell? ⟨b', off' + k * 16 + 15, none⟩ = some (vp36) := hcp 15 _ rfl
        have hT := Lib.hid ht
        clear h3 g3 ht hcsq hcsp hcq hcp hrq hrp
        go_wp2_with fail
        refine wp_region_grown (by kernel_rfl) (by kernel_rfl) ?_
        repeat (go_big_quiet_step ((go_at_call 144; refine grown_call (eqContribution_any _ _ _ _ xs[k] ys[k] _ (Rd.gr hrdq ?_) (Rd.gr hrdp ?_)) <;> exact ((Gr.refl w).ext _).ext _)))
        refine wpQuiet_nil ?_
        intro _ hw'
        obtain ⟨nx, hw''⟩ := hw'
        subst hw''
        go_wp2
        · have ht : (!decide (xs[k] = ys[k])) = true := by assumption
          go_ret
          have E : xs ≠ ys := fun e => dec_ne ht (by subst e; rfl)
          exact ⟨ret_bool (decide_eq_false E).symm, (by repeat (first | exact Gr.refl _ | apply Gr.ext | apply Gr.alloc | apply Gr.drew))⟩
        · have ht : (!decide (xs[k] = ys[k])) = false := by assumption
          have e2 := dec_eq ht
          refine ⟨⟨k + 1, by omega, ?_, (by repeat (first | exact Gr.refl _ | apply Gr.ext | apply Gr.alloc | apply Gr.drew)), by go_num⟩, by simp [intOf]; omega⟩
          rw [List.take_succ_eq_append_getElem hlt, List.take_succ_eq_append_getElem hlt2, hT.out, e2]
      · have hk2 : k = xs.length := by omega
        subst hk2
        have e : xs = ys := by
          have h := ht
          have h' := hl'.out
          rw [List.take_length, h', List.take_length] at h
          exact h
        have E := Lib.hid e
        clear e ht
        go_wp2
        go_ret
        exact ⟨ret_bool (decide_eq_true E.out).symm, (by repeat (first | exact Gr.refl _ | apply Gr.ext | apply Gr.alloc | apply Gr.drew))⟩
  · have hne : ((xs.length : Int) != (ys.length : Int)) = true := by simp; omega
    have e : xs ≠ ys := fun e => hl (by rw [e])
    have E := Lib.hid e
    clear e hl
    go_enter Tryz.func132, Tryz.ntmps132
    go_wp2
    go_ret
    exact ⟨ret_bool (decide_eq_false E.out).symm, Gr.refl w⟩

theorem Tryz.infoContribution : (Tryz.prog.info? 197).map (fun i => (i.zero, i.size, i.bytes)) = some (some (.agg #[.string ByteArray.empty, .string ByteArray.empty, .int .i64 0, .int .i64 0, .int .i64 0, .int .i64 0, .string ByteArray.empty, .string ByteArray.empty, .slice none 0 0, .int .i64 0, .int .i64 0, .int .i64 0, .int .i64 0, .string ByteArray.empty, .string ByteArray.empty, .slice none 0 0]), 16, 208) := by kernel_rfl

set_option maxHeartbeats 4000000 in
theorem toContributionS_any (fp : List Nat) (u : Value) (xs : List (GContribution d)) (w : World) (hu : SlR fp w u xs) (hlen : wtContributionS xs ≤ 1048576) :
    Calls Tryz.prog 123 #[u] w fun e w' => ∃ v fq, e = .returned v ∧ SlR fq w' v xs ∧ Fresh w fq ∧ Gr w w' := by
  obtain ⟨a, ca, rfl, h1, h2, h3⟩ := hu.open
  have hll : xs.length ≤ 1048576 := Nat.le_trans (wtL_len wtContribution xs) hlen
  obtain ⟨i0, hi, hz0, hz1, hz2⟩ := info_parts Tryz.infoContribution
  have hmk := fun (W : World) => run_make (P := Tryz.prog) W 99 197 i0 (.agg #[.string ByteArray.empty, .string ByteArray.empty, .int .i64 0, .int .i64 0, .int .i64 0, .int .i64 0, .string ByteArray.empty, .string ByteArray.empty, .slice none 0 0, .int .i64 0, .int .i64 0, .int .i64 0, .int .i64 0, .string ByteArray.empty, .string ByteArray.empty, .slice none 0 0]) Tryz.underlying99 hi hz0 .i64 .i64 xs.length xs.length (by omega) (by omega) (by rw [hz2]; omega) (by omega)
  rw [hz1] at hmk
  clear hi hz0 hz1 hz2
  simp only [Int.toNat_natCast] at hmk
  have hms := size_madeCells (Value.agg #[.string ByteArray.empty, .string ByteArray.empty, .int .i64 0, .int .i64 0, .int .i64 0, .int .i64 0, .string ByteArray.empty, .string ByteArray.empty, .slice none 0 0, .int .i64 0, .int .i64 0, .int .i64 0, .int .i64 0, .string ByteArray.empty, .string ByteArray.empty, .slice none 0 0]).cells (xs.length * 16)
  generalize madeCells (Value.agg #[.string ByteArray.empty, .string ByteArray.empty, .int .i64 0, .int .i64 0, .int .i64 0, .int .i64 0, .string ByteArray.empty, .string ByteArray.empty, .slice none 0 0, .int .i64 0, .int .i64 0, .int .i64 0, .int .i64 0, .string ByteArray.empty, .string ByteArray.empty, .slice none 0 0]).cells (xs.length * 16) = C0 at hmk hms
  have HS := Lib.hid hms
  have HLS := Lib.hid hlen
  clear hms hlen
  go_enter Tryz.func123, Tryz.ntmps123
  go_wp2
  go_loopw [4] (fun s4 wr => ∃ (k : Nat) (C : Array Value) (x : Ext) (fps : List (List Nat)), C.size = xs.length * 16 ∧ PartR w w.heap.size wr C k fps xs ∧ wr = (w.alloc (.cells C 197)).ext x ∧ s4 = .int .i64 k) (fun s4 _ => xs.length - (intOf s4).toNat)
  case atStart => exact ⟨0, C0, ⟨#[], 0⟩, [], HS.out, PartR.start _ _ (Nat.le_refl _) (by simp), (ext_zero _).symm, rfl⟩
  case round =>
    obtain ⟨k, C, x, fps, hC, hp, rfl, rfl⟩ := hrel
    have hCs := Lib.hid hC
    have hk := hp.le
    by_cases hlt : k < xs.length
    · obtain ⟨b, off, rfl, hb⟩ := h3 k hlt
      have hwk := wtL_at wtContribution xs hlt
      obtain ⟨csq, feq, hcq, hrq, -⟩ := hu.at hlt
      have hrdq := hrq
      generalize xs[k] = yq at hrq
      obtain ⟨q0, q1, ⟨q20, q21, q22, q23, q24, q25, q26⟩, ⟨q30, q31, q32, q33, q34, q35, q36⟩⟩ := yq
      obtain ⟨vq26, fq26, vq36, fq36, hcsq, -, hq0, hq1, hq20, hq21, hq22, hq23, hq24, hq25, hq26, hq30, hq31, hq32, hq33, hq34, hq35, hq36⟩ := rdContribution_inv (cs := csq.toArray) q0 q1 q20 q21 q22 q23 q24 q25 q26 q30 q31 q32 q33 q34 q35 q36 (by simpa using hrq)
      obtain rfl : csq = [.string q0, .string q1, .int .i64 q20, .int .i64 q21, .int .i64 q22, .int .i64 q23, .string q24, .string q25, vq26, .int .i64 q30, .int .i64 q31, .int .i64 q32, .int .i64 q33, .string q34, .string q35, vq36] := by have := congrArg Array.toList hcsq; simpa using this
      have z0 : w.cell? ⟨b, off + k * 16, none⟩ = some (.string q0) := by simpa [Rd.n] using hcq 0 _ rfl
      have z1 : w.cell? ⟨b, off + k * 16 + 1, none⟩ = some (.string q1) := hcq 1 _ rfl
      have z2 : w.cell? ⟨b, off + k * 16 + 2, none⟩ = some (.int .i64 q20) := hcq 2 _ rfl
      have z3 : w.cell? ⟨b, off + k * 16 + 3, none⟩ = some (.int .i64 q21) := hcq 3 _ rfl
      have z4 : w.cell? ⟨b, off + k * 16 + 4, none⟩ = some (.int .i64 q22) := hcq 4 _ rfl
      have z5 : w.cell? ⟨b, off + k * 16 + 5, none⟩ = some (.int .i64 q23) := hcq 5 _ rfl
      have z6 : w.cell? ⟨b, off + k * 16 + 6, none⟩ = some (.string q24) := hcq 6 _ rfl
      have z7 : w.cell? ⟨b, off + k * 16 + 7, none⟩ = some (.string q25) := hcq 7 _ rfl
      have z8 : w.cell? ⟨b, off + k * 16 + 8, none⟩ = some (vq26) := hcq 8 _ rfl
      have z9 : w.cell? ⟨b, off + k * 16 + 9, none⟩ = some (.int .i64 q30) := hcq 9 _ rfl
      have z10 : w.cell? ⟨b, off + k * 16 + 10, none⟩ = some (.int .i64 q31) := hcq 10 _ rfl
      have z11 : w.cell? ⟨b, off + k * 16 + 11, none⟩ = some (.int .i64 q32) := hcq 11 _ rfl
      have z12 : w.cell? ⟨b, off + k * 16 + 12, none⟩ = some (.int .i64 q33) := hcq 12 _ rfl
      have z13 : w.cell? ⟨b, off + k * 16 + 13, none⟩ = some (.string q34) := hcq 13 _ rfl
      have z14 : w.cell? ⟨b, off + k * 16 + 14, none⟩ = some (.string q35) := hcq 14 _ rfl
      have z15 : w.cell? ⟨b, off + k * 16 + 15, none⟩ = some (vq36) := hcq 15 _ rfl
      have y0 : k * 16 < C.size := by omega
      have y1 : k * 16 + 1 < C.size := by omega
      have y2 : k * 16 + 2 < C.size := by omega
      have y3 : k * 16 + 3 < C.size := by omega
      have y4 : k * 16 + 4 < C.size := by omega
      have y5 : k * 16 + 5 < C.size := by omega
      have y6 : k * 16 + 6 < C.size := by omega
      have y7 : k * 16 + 7 < C.size := by omega
      have y8 : k * 16 + 8 < C.size := by omega
      have y9 : k * 16 + 9 < C.size := by omega
      have y10 : k * 16 + 10 < C.size := by omega
      have y11 : k * 16 + 11 < C.size := by omega
      have y12 : k * 16 + 12 < C.size := by omega
      have y13 : k * 16 + 13 < C.size := by omega
      have y14 : k * 16 + 14 < C.size := by omega
      have y15 : k * 16 + 15 < C.size := by omega
      have hwl : wtContribution xs[k] ≤ 1048576 := Nat.le_trans hwk HLS.out
      have hd0 : k * 16 + 16 ≤ C.size := by omega
      have HD := Lib.hid hd0
      clear hC h3 hcsq hcq hrq hwk hd0
      go_wp2_with (go_at_call 141; refine (toContribution_any _ _ xs[k] _ (Rd.gr hrdq (by repeat (first | exact Gr.refl _ | apply Gr.ext | apply Gr.alloc | apply Gr.drew))) (by omega)).mono ?_; rintro e w1 ⟨ds, fq, rfl, hs, hf, y, rfl⟩; have hs2 := hs; generalize xs[k] = yr at hs2; obtain ⟨r0, r1, ⟨r20, r21, r22, r23, r24, r25, r26⟩, ⟨r30, r31, r32, r33, r34, r35, r36⟩⟩ := yr; obtain ⟨vr26, fr26, vr36, fr36, rfl, hfq, kr0, kr1, kr20, kr21, kr22, kr23, kr24, kr25, kr26, kr30, kr31, kr32, kr33, kr34, kr35, kr36⟩ := rdContribution_inv r0 r1 r20 r21 r22 r23 r24 r25 r26 r30 r31 r32 r33 r34 r35 r36 hs2; obtain ⟨aar26, ccr26, rfl, -, -, -⟩ := kr26.open; obtain ⟨aar36, ccr36, rfl, -, -, -⟩ := kr36.open; clear hfq)
      rw [ext_ext, ← setRow_16]
      refine ⟨⟨k + 1, setRow C (k * 16) [.string r0, .string r1, .int .i64 r20, .int .i64 r21, .int .i64 r22, .int .i64 r23, .string r24, .string r25, .slice aar26 r26.length ccr26, .int .i64 r30, .int .i64 r31, .int .i64 r32, .int .i64 r33, .string r34, .string r35, .slice aar36 r36.length ccr36], x.comp y, fps ++ [fq], ?_, ?_, rfl, by go_num⟩, by simp [intOf]; omega⟩
      · rw [setRow_size]; exact hCs.out
      · refine hp.step_own hlt (C' := setRow C (k * 16) [.string r0, .string r1, .int .i64 r20, .int .i64 r21, .int .i64 r22, .int .i64 r23, .string r24, .string r25, .slice aar26 r26.length ccr26, .int .i64 r30, .int .i64 r31, .int .i64 r32, .int .i64 r33, .string r34, .string r35, .slice aar36 r36.length ccr36]) (cs := [.string r0, .string r1, .int .i64 r20, .int .i64 r21, .int .i64 r22, .int .i64 r23, .string r24, .string r25, .slice aar26 r26.length ccr26, .int .i64 r30, .int .i64 r31, .int .i64 r32, .int .i64 r33, .string r34, .string r35, .slice aar36 r36.length ccr36]) ?_ hf (fun j hj => setRow_lt _ _ _ _ hj) (setRow_get _ _ _ HD.out)
        exact hs
    · have hk2 : k = xs.length := by omega
      subst hk2
      obtain ⟨fq, hs, hf⟩ := hp.done (heap_own_self _ x) (cap := xs.length) (Nat.le_refl _) (by unfold reachLen; omega)
      have HF := Lib.hid hs
      clear hs hC
      go_wp2
      go_ret
      exact ⟨_, fq, rfl, HF.out, hf, (by repeat (first | exact Gr.refl _ | apply Gr.ext | apply Gr.alloc | apply Gr.drew))⟩

end Go.Proofs.YtbfmeiooeaaibaaGreat
