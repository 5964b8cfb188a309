/- Contracts of the functions that measure, compare and copy: Rule, Rule*, Grammar. Made by mk_fam.py. No condition. -/
import Derived.Test.YtbfmeiooeaaibaaGreatFamGramC
import Derived.Test.YtbfmeiooeaaibaaGreatFamGramD
namespace Go.Proofs.YtbfmeiooeaaibaaGreat
open Go.RowKit
variable {d : Nat}

abbrev GRule (d : Nat) := ByteArray × ByteArray × List ByteArray × Bool × List (GEquation d) × List (GContribution d)
def wtRule (x : (GRule d)) : Nat := x.1.size + x.2.1.size + wtStringS x.2.2.1 + wtEquationS x.2.2.2.2.1 + wtContributionS x.2.2.2.2.2
instance decRule : DecidableEq (GRule d) := @instDecidableEqProd _ _ _ (@instDecidableEqProd _ _ _ (@instDecidableEqProd _ _ _ (@instDecidableEqProd _ _ _ (@instDecidableEqProd _ _ _ (inferInstance)))))

theorem rdRule_inv {fp : List Nat} {w : World} {cs : Array Value} (q0 : ByteArray) (q1 : ByteArray) (q2 : List ByteArray) (q3 : Bool) (q4 : List (GEquation d)) (q5 : List (GContribution d)) (h : Rd.rd (α := (GRule d)) fp w cs.toList (q0, q1, q2, q3, q4, q5)) :
    ∃ vq2 fq2 vq4 fq4 vq5 fq5, cs = #[.string q0, .string q1, vq2, .bool q3, vq4, vq5] ∧ fp = ([] ++ ([] ++ (fq2 ++ ([] ++ (fq4 ++ fq5))))) ∧ q0.size ≤ maxLen ∧ q1.size ≤ maxLen ∧ SlR fq2 w vq2 q2 ∧ SlR fq4 w vq4 q4 ∧ SlR fq5 w vq5 q5 := by
  generalize hcs : cs.toList = l at h
  obtain ⟨_, _, _, _, rfl, rfl, ⟨rfl, rfl, hq0⟩, ⟨_, _, _, _, rfl, rfl, ⟨rfl, rfl, hq1⟩, ⟨_, _, _, _, rfl, rfl, ⟨vq2, rfl, hq2⟩, ⟨_, _, _, _, rfl, rfl, ⟨rfl, rfl⟩, ⟨_, _, _, _, rfl, rfl, ⟨vq4, rfl, hq4⟩, ⟨vq5, rfl, hq5⟩⟩⟩⟩⟩⟩ := h
  exact ⟨_, _, _, _, _, _, Array.toList_inj.1 (by simpa using hcs), rfl, hq0, hq1, hq2, hq4, hq5⟩

theorem rdRule_shape {fp : List Nat} {w : World} {cs : Array Value} {x : (GRule d)} (h : Rd.rd (α := (GRule d)) fp w cs.toList x) :
    ∃ q0 q1 aq2 lq2 cq2 q3 aq4 lq4 cq4 aq5 lq5 cq5, cs = #[.string q0, .string q1, .slice aq2 lq2 cq2, .bool q3, .slice aq4 lq4 cq4, .slice aq5 lq5 cq5] := by
  obtain ⟨q0, q1, q2, q3, q4, q5⟩ := x
  obtain ⟨vq2, fq2, vq4, fq4, vq5, fq5, rfl, -, -, -, hq2, hq4, hq5⟩ := rdRule_inv q0 q1 q2 q3 q4 q5 h
  obtain ⟨aq2, cq2, rfl, -, -, -⟩ := hq2.open
  obtain ⟨aq4, cq4, rfl, -, -, -⟩ := hq4.open
  obtain ⟨aq5, cq5, rfl, -, -, -⟩ := hq5.open
  exact ⟨_, _, _, _, _, _, _, _, _, _, _, _, rfl⟩

theorem rdRule_mk {w : World} (q0 : ByteArray) (q1 : ByteArray) (q2 : List ByteArray) (q3 : Bool) (q4 : List (GEquation d)) (q5 : List (GContribution d)) {vq2 : Value} {fq2 : List Nat} {vq4 : Value} {fq4 : List Nat} {vq5 : Value} {fq5 : List Nat} (hq0 : q0.size ≤ maxLen) (hq1 : q1.size ≤ maxLen) (hq2 : SlR fq2 w vq2 q2) (hq4 : SlR fq4 w vq4 q4) (hq5 : SlR fq5 w vq5 q5) :
    Rd.rd (α := (GRule d)) (([] ++ ([] ++ (fq2 ++ ([] ++ (fq4 ++ fq5)))))) w [.string q0, .string q1, vq2, .bool q3, vq4, vq5] (q0, q1, q2, q3, q4, q5) := ⟨_, _, _, _, rfl, rfl, ⟨rfl, rfl, hq0⟩, ⟨_, _, _, _, rfl, rfl, ⟨rfl, rfl, hq1⟩, ⟨_, _, _, _, rfl, rfl, ⟨_, rfl, hq2⟩, ⟨_, _, _, _, rfl, rfl, ⟨rfl, rfl⟩, ⟨_, _, _, _, rfl, rfl, ⟨_, rfl, hq4⟩, ⟨_, rfl, hq5⟩⟩⟩⟩⟩⟩

set_option maxHeartbeats 1000000 in
theorem szRule_any (fp : List Nat) (cs : Array Value) (x : (GRule d)) (left : Int) (w : World) (hx : Rd.rd fp w cs.toList x) (h0 : 0 ≤ left) (h1 : left ≤ 1048576) :
    Calls Tryz.prog 80 #[.agg cs, .int .i64 left] w fun e w' => e = .returned (.int .i64 (less left (wtRule x))) ∧ Gr w w' := by
  obtain ⟨q0, q1, q2, q3, q4, q5⟩ := x
  obtain ⟨vq2, fq2, vq4, fq4, vq5, fq5, rfl, -, hq0, hq1, hq2, hq4, hq5⟩ := rdRule_inv q0 q1 q2 q3 q4 q5 hx
  unfold maxLen at hq0
  unfold maxLen at hq1
  obtain ⟨aq2, cq2, rfl, bq2, dq2, -⟩ := hq2.open
  obtain ⟨aq4, cq4, rfl, bq4, dq4, -⟩ := hq4.open
  obtain ⟨aq5, cq5, rfl, bq5, dq5, -⟩ := hq5.open
  have hwt : wtRule (q0, q1, q2, q3, q4, q5) = (q0.size) + (q1.size) + (wtStringS q2) + (wtEquationS q4) + (wtContributionS q5) := by rfl
  have HW := Lib.hid hwt
  clear hwt hx
  go_enter Tryz.func80, Tryz.ntmps80
  go_wp2_with fail
  · go_ret
    refine ⟨ret_int ?_, (by repeat (first | exact Gr.refl _ | apply Gr.ext | apply Gr.alloc | apply Gr.drew))⟩
    have := less_cases left (wtRule (q0, q1, q2, q3, q4, q5))
    have := HW.out
    omega
  · go_ret
    refine ⟨ret_int ?_, (by repeat (first | exact Gr.refl _ | apply Gr.ext | apply Gr.alloc | apply Gr.drew))⟩
    have := less_cases left (wtRule (q0, q1, q2, q3, q4, q5))
    have := HW.out
    omega
  · skip
    refine (szStringS_any fq2 _ _ _ _ (hq2.gr (by repeat (first | exact Gr.refl _ | apply Gr.ext | apply Gr.alloc | apply Gr.drew))) (by omega) (by omega)).mono ?_
    rintro e w2 ⟨rfl, x2, rfl⟩
    have hb2 := less_le (left - ↑q0.size - ↑q1.size) (wtStringS q2) (by omega)
    go_wp2_with fail
    · go_ret
      refine ⟨ret_int ?_, (by repeat (first | exact Gr.refl _ | apply Gr.ext | apply Gr.alloc | apply Gr.drew))⟩
      have := less_cases left (wtRule (q0, q1, q2, q3, q4, q5))
      have := HW.out
      have := less_cases (left - ↑q0.size - ↑q1.size) (wtStringS q2)
      omega
    · skip
      refine (szEquationS_any fq4 _ _ _ _ (hq4.gr (by repeat (first | exact Gr.refl _ | apply Gr.ext | apply Gr.alloc | apply Gr.drew))) (by have := less_cases (left - ↑q0.size - ↑q1.size) (wtStringS q2); omega) (by have := less_cases (left - ↑q0.size - ↑q1.size) (wtStringS q2); omega)).mono ?_
      rintro e w4 ⟨rfl, x4, rfl⟩
      have hb4 := less_le (less (left - ↑q0.size - ↑q1.size) (wtStringS q2)) (wtEquationS q4) (by have := less_cases (left - ↑q0.size - ↑q1.size) (wtStringS q2); omega)
      go_wp2_with fail
      · go_ret
        refine ⟨ret_int ?_, (by repeat (first | exact Gr.refl _ | apply Gr.ext | apply Gr.alloc | apply Gr.drew))⟩
        have := less_cases left (wtRule (q0, q1, q2, q3, q4, q5))
        have := HW.out
        have := less_cases (left - ↑q0.size - ↑q1.size) (wtStringS q2)
        have := less_cases (less (left - ↑q0.size - ↑q1.size) (wtStringS q2)) (wtEquationS q4)
        omega
      · skip
        refine (szContributionS_any fq5 _ _ _ _ (hq5.gr (by repeat (first | exact Gr.refl _ | apply Gr.ext | apply Gr.alloc | apply Gr.drew))) (by have := less_cases (left - ↑q0.size - ↑q1.size) (wtStringS q2); have := less_cases (less (left - ↑q0.size - ↑q1.size) (wtStringS q2)) (wtEquationS q4); omega) (by have := less_cases (left - ↑q0.size - ↑q1.size) (wtStringS q2); have := less_cases (less (left - ↑q0.size - ↑q1.size) (wtStringS q2)) (wtEquationS q4); omega)).mono ?_
        rintro e w5 ⟨rfl, x5, rfl⟩
        have hb5 := less_le (less (less (left - ↑q0.size - ↑q1.size) (wtStringS q2)) (wtEquationS q4)) (wtContributionS q5) (by have := less_cases (left - ↑q0.size - ↑q1.size) (wtStringS q2); have := less_cases (less (left - ↑q0.size - ↑q1.size) (wtStringS q2)) (wtEquationS q4); omega)
        go_wp2_with fail
        · go_ret
          refine ⟨ret_int ?_, (by repeat (first | exact Gr.refl _ | apply Gr.ext | apply Gr.alloc | apply Gr.drew))⟩
          have := less_cases left (wtRule (q0, q1, q2, q3, q4, q5))
          have := HW.out
          have := less_cases (left - ↑q0.size - ↑q1.size) (wtStringS q2)
          have := less_cases (less (left - ↑q0.size - ↑q1.size) (wtStringS q2)) (wtEquationS q4)
          have := less_cases (less (less (left - ↑q0.size - ↑q1.size) (wtStringS q2)) (wtEquationS q4)) (wtContributionS q5)
          omega
        · skip
          go_ret
          refine ⟨ret_int ?_, (by repeat (first | exact Gr.refl _ | apply Gr.ext | apply Gr.alloc | apply Gr.drew))⟩
          have := less_cases left (wtRule (q0, q1, q2, q3, q4, q5))
          have := HW.out
          have := less_cases (left - ↑q0.size - ↑q1.size) (wtStringS q2)
          have := less_cases (less (left - ↑q0.size - ↑q1.size) (wtStringS q2)) (wtEquationS q4)
          have := less_cases (less (less (left - ↑q0.size - ↑q1.size) (wtStringS q2)) (wtEquationS q4)) (wtContributionS q5)
          omega

theorem Rule_ext (q0 : ByteArray) (q1 : ByteArray) (q2 : List ByteArray) (q3 : Bool) (q4 : List (GEquation d)) (q5 : List (GContribution d)) (p0 : ByteArray) (p1 : ByteArray) (p2 : List ByteArray) (p3 : Bool) (p4 : List (GEquation d)) (p5 : List (GContribution d)) (e0 : q0 = p0) (e1 : q1 = p1) (e2 : q2 = p2) (e3 : q3 = p3) (e4 : q4 = p4) (e5 : q5 = p5) : ((q0, q1, q2, q3, q4, q5) : (GRule d)) = (p0, p1, p2, p3, p4, p5) := by
  exact Prod.ext_iff.2 ⟨e0, Prod.ext_iff.2 ⟨e1, Prod.ext_iff.2 ⟨e2, Prod.ext_iff.2 ⟨e3, Prod.ext_iff.2 ⟨e4, e5⟩⟩⟩⟩⟩

set_option maxHeartbeats 1000000 in
theorem eqRule_any (fp fq : List Nat) (cs ds : Array Value) (x y : (GRule d)) (w : World) (hx : Rd.rd fp w cs.toList x) (hy : Rd.rd fq w ds.toList y) :
    Calls Tryz.prog 99 #[.agg cs, .agg ds] w fun e w' => e = .returned (.bool (decide (x = y))) ∧ Gr w w' := by
  obtain ⟨q0, q1, q2, q3, q4, q5⟩ := x
  obtain ⟨p0, p1, p2, p3, p4, p5⟩ := y
  obtain ⟨vq2, fq2, vq4, fq4, vq5, fq5, rfl, -, hq0, hq1, hq2, hq4, hq5⟩ := rdRule_inv q0 q1 q2 q3 q4 q5 hx
  obtain ⟨vp2, fp2, vp4, fp4, vp5, fp5, rfl, -, hp0, hp1, hp2, hp4, hp5⟩ := rdRule_inv p0 p1 p2 p3 p4 p5 hy
  obtain ⟨aq2, cq2, rfl, -, -, -⟩ := hq2.open
  obtain ⟨aq4, cq4, rfl, -, -, -⟩ := hq4.open
  obtain ⟨aq5, cq5, rfl, -, -, -⟩ := hq5.open
  obtain ⟨ap2, cp2, rfl, -, -, -⟩ := hp2.open
  obtain ⟨ap4, cp4, rfl, -, -, -⟩ := hp4.open
  obtain ⟨ap5, cp5, rfl, -, -, -⟩ := hp5.open
  clear hx hy
  go_enter Tryz.func99, Tryz.ntmps99
  go_wp2_with fail
  · have ht : (!q0.toList == p0.toList) = true := by assumption
    go_ret
    exact ⟨ret_bool (decide_eq_false fun e => str_ne ht (congrArg (fun z : (GRule d) => z.1) e)).symm, (by repeat (first | exact Gr.refl _ | apply Gr.ext | apply Gr.alloc | apply Gr.drew))⟩
  · have ht : (!q1.toList == p1.toList) = true := by assumption
    go_ret
    exact ⟨ret_bool (decide_eq_false fun e => str_ne ht (congrArg (fun z : (GRule d) => z.2.1) e)).symm, (by repeat (first | exact Gr.refl _ | apply Gr.ext | apply Gr.alloc | apply Gr.drew))⟩
  · skip
    have e0 := Lib.hid (str_eq (show (!q0.toList == p0.toList) = false by assumption))
    have e1 := Lib.hid (str_eq (show (!q1.toList == p1.toList) = false by assumption))
    refine (eqStringS_any fq2 fp2 _ _ q2 p2 _ (hq2.gr (by repeat (first | exact Gr.refl _ | apply Gr.ext | apply Gr.alloc | apply Gr.drew))) (hp2.gr (by repeat (first | exact Gr.refl _ | apply Gr.ext | apply Gr.alloc | apply Gr.drew)))).mono ?_
    rintro e w2 ⟨rfl, x2, rfl⟩
    go_wp2_with fail
    · have ht : (!decide (q2 = p2)) = true := by assumption
      go_ret
      exact ⟨ret_bool (decide_eq_false fun e => dec_ne ht (congrArg (fun z : (GRule d) => z.2.2.1) e)).symm, (by repeat (first | exact Gr.refl _ | apply Gr.ext | apply Gr.alloc | apply Gr.drew))⟩
    · have ht : (q3 != p3) = true := by assumption
      go_ret
      exact ⟨ret_bool (decide_eq_false fun e => bool_ne ht (congrArg (fun z : (GRule d) => z.2.2.2.1) e)).symm, (by repeat (first | exact Gr.refl _ | apply Gr.ext | apply Gr.alloc | apply Gr.drew))⟩
    · skip
      have e2 := Lib.hid (dec_eq (show (!decide (q2 = p2)) = false by assumption))
      have e3 := Lib.hid (bool_eq (show (q3 != p3) = false by assumption))
      refine (eqEquationS_any fq4 fp4 _ _ q4 p4 _ (hq4.gr (by repeat (first | exact Gr.refl _ | apply Gr.ext | apply Gr.alloc | apply Gr.drew))) (hp4.gr (by repeat (first | exact Gr.refl _ | apply Gr.ext | apply Gr.alloc | apply Gr.drew)))).mono ?_
      rintro e w4 ⟨rfl, x4, rfl⟩
      go_wp2_with fail
      · have ht : (!decide (q4 = p4)) = true := by assumption
        go_ret
        exact ⟨ret_bool (decide_eq_false fun e => dec_ne ht (congrArg (fun z : (GRule d) => z.2.2.2.2.1) e)).symm, (by repeat (first | exact Gr.refl _ | apply Gr.ext | apply Gr.alloc | apply Gr.drew))⟩
      · skip
        have e4 := Lib.hid (dec_eq (show (!decide (q4 = p4)) = false by assumption))
        refine (eqContributionS_any fq5 fp5 _ _ q5 p5 _ (hq5.gr (by repeat (first | exact Gr.refl _ | apply Gr.ext | apply Gr.alloc | apply Gr.drew))) (hp5.gr (by repeat (first | exact Gr.refl _ | apply Gr.ext | apply Gr.alloc | apply Gr.drew)))).mono ?_
        rintro e w5 ⟨rfl, x5, rfl⟩
        go_wp2_with fail
        · have ht : (!decide (q5 = p5)) = true := by assumption
          go_ret
          exact ⟨ret_bool (decide_eq_false fun e => dec_ne ht (congrArg (fun z : (GRule d) => z.2.2.2.2.2) e)).symm, (by repeat (first | exact Gr.refl _ | apply Gr.ext | apply Gr.alloc | apply Gr.drew))⟩
        · skip
          have e5 := Lib.hid (dec_eq (show (!decide (q5 = p5)) = false by assumption))
          go_ret
          exact ⟨ret_bool (decide_eq_true (Rule_ext q0 q1 q2 q3 q4 q5 p0 p1 p2 p3 p4 p5 e0.out e1.out e2.out e3.out e4.out e5.out)).symm, (by repeat (first | exact Gr.refl _ | apply Gr.ext | apply Gr.alloc | apply Gr.drew))⟩

set_option maxHeartbeats 1000000 in
theorem toRule_any (fp : List Nat) (cs : Array Value) (x : (GRule d)) (w : World) (hx : Rd.rd fp w cs.toList x) (hl : wtRule x ≤ 1048576) :
    Calls Tryz.prog 88 #[.agg cs] w fun e w' => ∃ ds fq, e = .returned (.agg ds) ∧ Rd.rd fq w' ds.toList x ∧ Fresh w fq ∧ Gr w w' := by
  obtain ⟨q0, q1, q2, q3, q4, q5⟩ := x
  obtain ⟨vq2, fq2, vq4, fq4, vq5, fq5, rfl, -, hq0, hq1, hq2, hq4, hq5⟩ := rdRule_inv q0 q1 q2 q3 q4 q5 hx
  obtain ⟨aq2, cq2, rfl, -, -, -⟩ := hq2.open
  obtain ⟨aq4, cq4, rfl, -, -, -⟩ := hq4.open
  obtain ⟨aq5, cq5, rfl, -, -, -⟩ := hq5.open
  have hwt : wtRule (q0, q1, q2, q3, q4, q5) = (q0.size) + (q1.size) + (wtStringS q2) + (wtEquationS q4) + (wtContributionS q5) := by rfl
  have HW := Lib.hid hwt
  clear hwt hx
  go_enter Tryz.func88, Tryz.ntmps88
  go_wp2_with fail
  refine (toStringS_any fq2 _ _ _ (hq2.gr (by repeat (first | exact Gr.refl _ | apply Gr.ext | apply Gr.alloc | apply Gr.drew))) (by have := HW.out; have h2 : q2.length ≤ wtStringS q2 := wtL_len ByteArray.size q2; omega)).mono ?_
  rintro e w2 ⟨u2, g2, rfl, s2, fr2, x2, rfl⟩
  obtain ⟨aa2, cc2, rfl, -, -, -⟩ := s2.open
  go_wp2_with fail
  refine (toEquationS_any fq4 _ _ _ (hq4.gr (by repeat (first | exact Gr.refl _ | apply Gr.ext | apply Gr.alloc | apply Gr.drew))) (by have := HW.out; omega)).mono ?_
  rintro e w4 ⟨u4, g4, rfl, s4, fr4, x4, rfl⟩
  obtain ⟨aa4, cc4, rfl, -, -, -⟩ := s4.open
  go_wp2_with fail
  refine (toContributionS_any fq5 _ _ _ (hq5.gr (by repeat (first | exact Gr.refl _ | apply Gr.ext | apply Gr.alloc | apply Gr.drew))) (by have := HW.out; omega)).mono ?_
  rintro e w5 ⟨u5, g5, rfl, s5, fr5, x5, rfl⟩
  obtain ⟨aa5, cc5, rfl, -, -, -⟩ := s5.open
  go_wp2_with fail
  have hfresh : Fresh w (g2 ++ (g4 ++ g5)) := by
    exact (Fresh.app (Fresh.of_le fr2 (by simp <;> omega)) (SlR.lt s2) (Fresh.app fr4 (SlR.lt s4) fr5 (by simp <;> omega) (by simp <;> omega)) (by simp <;> omega) (by simp <;> omega))
  exact bodyPost_ret (v := .agg #[.string q0, .string q1, .slice aa2 q2.length cc2, .bool q3, .slice aa4 q4.length cc4, .slice aa5 q5.length cc5]) (by simp [results, Tryz.results88, go_sem]) rfl
    ⟨_, _, rfl, rdRule_mk q0 q1 q2 q3 q4 q5 hq0 hq1 (SlR.moved s2 fr2 (by repeat (first | exact Gr.refl _ | apply Gr.ext | apply Gr.alloc | apply Gr.drew)) (by simp)) (SlR.moved s4 fr4 (by repeat (first | exact Gr.refl _ | apply Gr.ext | apply Gr.alloc | apply Gr.drew)) (by simp)) (SlR.moved s5 fr5 (by repeat (first | exact Gr.refl _ | apply Gr.ext | apply Gr.alloc | apply Gr.drew)) (by simp)), hfresh, (by repeat (first | exact Gr.refl _ | apply Gr.ext | apply Gr.alloc | apply Gr.drew))⟩

def wtRuleS (xs : List (GRule d)) : Nat := wtL wtRule xs

set_option maxHeartbeats 1000000 in
theorem szRuleS_any (fp : List Nat) (u : Value) (xs : List (GRule d)) (left : Int) (w : World) (hu : SlR fp w u xs) (h0 : 0 ≤ left) (h1 : left ≤ 1048576) :
    Calls Tryz.prog 33 #[u, .int .i64 left] w fun e w' => e = .returned (.int .i64 (less left (wtRuleS xs))) ∧ Gr w w' := by
  obtain ⟨a, ca, rfl, g1, g2, g3⟩ := hu.open
  by_cases hneg : left - xs.length < 0
  · have hle : less left (wtRuleS xs) = -1 := by unfold less wtRuleS wtL; rw [if_pos (by omega)]
    have HL := Lib.hid hle
    clear hle
    go_enter Tryz.func33, Tryz.ntmps33
    go_wp2
    go_ret
    exact ⟨ret_int HL.out.symm, Gr.refl w⟩
  · have hl0 : less left xs.length = left - xs.length := by unfold less; rw [if_neg hneg]
    have HL0 := Lib.hid hl0
    clear hl0
    go_enter Tryz.func33, Tryz.ntmps33
    go_wp2
    go_loopw [5, 1] (fun s5 s1 wr => ∃ (k : Nat) (m : Int), k ≤ xs.length ∧ 0 ≤ m ∧ m ≤ 1048576 ∧ Hid (m = less left (xs.length + ((xs.take k).map wtRule).sum)) ∧ Gr w wr ∧ s5 = .int .i64 k ∧ s1 = .int .i64 m) (fun s5 _ _ => xs.length - (intOf s5).toNat)
    case atStart => exact ⟨0, _, by omega, by omega, by omega, Lib.hid (by simp [HL0.out]), Gr.refl w, rfl, rfl⟩
    case round =>
      obtain ⟨k, m, hk, hm0, hm1, hm, ⟨x, rfl⟩, rfl, rfl⟩ := hrel
      by_cases hlt : k < xs.length
      · obtain ⟨b, off, rfl, hb⟩ := g3 k hlt
        have hsum := Lib.hid (sum_take_succ wtRule xs k hlt)
        obtain ⟨csq, feq, hcq, hrq, -⟩ := hu.at hlt
        have hrdq := hrq
        generalize xs[k] = yq at hrq
        obtain ⟨q0, q1, q2, q3, q4, q5⟩ := yq
        obtain ⟨vq2, fq2, vq4, fq4, vq5, fq5, hcsq, -, hq0, hq1, hq2, hq4, hq5⟩ := rdRule_inv (cs := csq.toArray) q0 q1 q2 q3 q4 q5 (by simpa using hrq)
        obtain rfl : csq = [.string q0, .string q1, vq2, .bool q3, vq4, vq5] := by have := congrArg Array.toList hcsq; simpa using this
        have z0 : w.cell? ⟨b, off + k * 6, none⟩ = some (.string q0) := by simpa [Rd.n] using hcq 0 _ rfl
        have z1 : w.cell? ⟨b, off + k * 6 + 1, none⟩ = some (.string q1) := hcq 1 _ rfl
        have z2 : w.cell? ⟨b, off + k * 6 + 2, none⟩ = some (vq2) := hcq 2 _ rfl
        have z3 : w.cell? ⟨b, off + k * 6 + 3, none⟩ = some (.bool q3) := hcq 3 _ rfl
        have z4 : w.cell? ⟨b, off + k * 6 + 4, none⟩ = some (vq4) := hcq 4 _ rfl
        have z5 : w.cell? ⟨b, off + k * 6 + 5, none⟩ = some (vq5) := hcq 5 _ rfl
        have hmono := less_le m (wtRule xs[k]) (by omega)
        clear g3 hcsq hcq hrq
        go_wp2_with (go_at_call 80; refine (szRule_any _ _ xs[k] _ _ (Rd.gr hrdq ((Gr.refl w).ext _)) (by omega) (by omega)).mono ?_; rintro e w1 ⟨rfl, y, rfl⟩)
        · have hx : less m (wtRule xs[k]) < 0 := by assumption
          go_ret
          refine ⟨ret_int ?_, (by repeat (first | exact Gr.refl _ | apply Gr.ext | apply Gr.alloc | apply Gr.drew))⟩
          have e := hm.out
          subst e
          rw [less_less, Nat.add_assoc, ← hsum.out] at hx
          exact (less_mono hx (Nat.add_le_add_left (sum_take_le wtRule xs (k + 1)) _) h0).symm
        · have hx : 0 ≤ less m (wtRule xs[k]) := by assumption
          refine ⟨⟨k + 1, _, by omega, hx, by omega, Lib.hid ?_, (by repeat (first | exact Gr.refl _ | apply Gr.ext | apply Gr.alloc | apply Gr.drew)), by go_num, rfl⟩, by simp [intOf]; omega⟩
          rw [hsum.out, hm.out, less_less, Nat.add_assoc]
      · have hk2 : k = xs.length := by omega
        subst hk2
        have hm2 := hm.out
        rw [List.take_length] at hm2
        have HM := Lib.hid hm2
        clear hm2 hm
        go_wp2
        go_ret
        exact ⟨ret_int HM.out, (by repeat (first | exact Gr.refl _ | apply Gr.ext | apply Gr.alloc | apply Gr.drew))⟩

set_option maxHeartbeats 1000000 in
theorem eqRuleS_any (fp fq : List Nat) (u v : Value) (xs ys : List (GRule d)) (w : World) (hu : SlR fp w u xs) (hv : SlR fq w v ys) :
    Calls Tryz.prog 51 #[u, v] w fun e w' => e = .returned (.bool (decide (xs = ys))) ∧ Gr w w' := by
  obtain ⟨a, ca, rfl, h1, h2, h3⟩ := hu.open
  obtain ⟨c, cc, rfl, g1, g2, g3⟩ := hv.open
  by_cases hl : xs.length = ys.length
  · have hl' := Lib.hid hl
    have hne : ((xs.length : Int) != (ys.length : Int)) = false := by simp [hl]
    clear hl
    go_enter Tryz.func51, Tryz.ntmps51
    go_wp2
    go_loopw [5] (fun s5 wr => ∃ k : Nat, k ≤ xs.length ∧ xs.take k = ys.take k ∧ Gr w wr ∧ s5 = .int .i64 k) (fun s5 _ => xs.length - (intOf s5).toNat)
    case atStart => exact ⟨0, by omega, rfl, Gr.refl w, rfl⟩
    case round =>
      obtain ⟨k, hk, ht, ⟨x, rfl⟩, rfl⟩ := hrel
      by_cases hlt : k < xs.length
      · have hlt2 : k < ys.length := by have := hl'.out; omega
        obtain ⟨b, off, rfl, hb⟩ := h3 k hlt
        obtain ⟨b', off', rfl, hb'⟩ := g3 k hlt2
        obtain ⟨csq, feq, hcq, hrq, -⟩ := hu.at hlt
        have hrdq := hrq
        generalize xs[k] = yq at hrq
        obtain ⟨q0, q1, q2, q3, q4, q5⟩ := yq
        obtain ⟨vq2, fq2, vq4, fq4, vq5, fq5, hcsq, -, hq0, hq1, hq2, hq4, hq5⟩ := rdRule_inv (cs := csq.toArray) q0 q1 q2 q3 q4 q5 (by simpa using hrq)
        obtain rfl : csq = [.string q0, .string q1, vq2, .bool q3, vq4, vq5] := by have := congrArg Array.toList hcsq; simpa using this
        obtain ⟨csp, fep, hcp, hrp, -⟩ := hv.at hlt2
        have hrdp := hrp
        generalize ys[k] = yp at hrp
        obtain ⟨p0, p1, p2, p3, p4, p5⟩ := yp
        obtain ⟨vp2, fp2, vp4, fp4, vp5, fp5, hcsp, -, hp0, hp1, hp2, hp4, hp5⟩ := rdRule_inv (cs := csp.toArray) p0 p1 p2 p3 p4 p5 (by simpa using hrp)
        obtain rfl : csp = [.string p0, .string p1, vp2, .bool p3, vp4, vp5] := by have := congrArg Array.toList hcsp; simpa using this
        have z0 : w.cell? ⟨b, off + k * 6, none⟩ = some (.string q0) := by simpa [Rd.n] using hcq 0 _ rfl
        have z1 : w.cell? ⟨b, off + k * 6 + 1, none⟩ = some (.string q1) := hcq 1 _ rfl
        have z2 : w.cell? ⟨b, off + k * 6 + 2, none⟩ = some (vq2) := hcq 2 _ rfl
        have z3 : w.cell? ⟨b, off + k * 6 + 3, none⟩ = some (.bool q3) := hcq 3 _ rfl
        have z4 : w.cell? ⟨b, off + k * 6 + 4, none⟩ = some (vq4) := hcq 4 _ rfl
        have z5 : w.cell? ⟨b, off + k * 6 + 5, none⟩ = some (vq5) := hcq 5 _ rfl
        have zz0 : w.cell? ⟨b', off' + k * 6, none⟩ = some (.string p0) := by simpa [Rd.n] using hcp 0 _ rfl
        have zz1 : w.cell? ⟨b', off' + k * 6 + 1, none⟩ = some (.string p1) := hcp 1 _ rfl
        have zz2 : w.cell? ⟨b', off' + k * 6 + 2, none⟩ = some (vp2) := hcp 2 _ rfl
        have zz3 : w.cell? ⟨b', off' + k * 6 + 3, none⟩ = some (.bool p3) := hcp 3 _ rfl
        have zz4 : w.cell? ⟨b', off' + k * 6 + 4, none⟩ = some (vp4) := hcp 4 _ rfl
        have zz5 : w.cell? ⟨b', off' + k * 6 + 5, none⟩ = some (vp5) := hcp 5 _ rfl
        have hT := Lib.hid ht
        clear h3 g3 ht hcsq hcsp hcq hcp hrq hrp
        go_wp2_with fail
        refine wp_region_grown (by kernel_rfl) (by kernel_rfl) ?_
        repeat (go_big_quiet_step ((go_at_call 99; refine grown_call (eqRule_any _ _ _ _ xs[k] ys[k] _ (Rd.gr hrdq ?_) (Rd.gr hrdp ?_)) <;> exact ((Gr.refl w).ext _).ext _)))
        refine wpQuiet_nil ?_
        intro _ hw'
        obtain ⟨nx, hw''⟩ := hw'
        subst hw''
        go_wp2
        · have ht : (!decide (xs[k] = ys[k])) = true := by assumption
          go_ret
          have E : xs ≠ ys := fun e => dec_ne ht (by subst e; rfl)
          exact ⟨ret_bool (decide_eq_false E).symm, (by repeat (first | exact Gr.refl _ | apply Gr.ext | apply Gr.alloc | apply Gr.drew))⟩
        · have ht : (!decide (xs[k] = ys[k])) = false := by assumption
          have e2 := dec_eq ht
          refine ⟨⟨k + 1, by omega, ?_, (by repeat (first | exact Gr.refl _ | apply Gr.ext | apply Gr.alloc | apply Gr.drew)), by go_num⟩, by simp [intOf]; omega⟩
          rw [List.take_succ_eq_append_getElem hlt, List.take_succ_eq_append_getElem hlt2, hT.out, e2]
      · have hk2 : k = xs.length := by omega
        subst hk2
        have e : xs = ys := by
          have h := ht
          have h' := hl'.out
          rw [List.take_length, h', List.take_length] at h
          exact h
        have E := Lib.hid e
        clear e ht
        go_wp2
        go_ret
        exact ⟨ret_bool (decide_eq_true E.out).symm, (by repeat (first | exact Gr.refl _ | apply Gr.ext | apply Gr.alloc | apply Gr.drew))⟩
  · have hne : ((xs.length : Int) != (ys.length : Int)) = true := by simp; omega
    have e : xs ≠ ys := fun e => hl (by rw [e])
    have E := Lib.hid e
    clear e hl
    go_enter Tryz.func51, Tryz.ntmps51
    go_wp2
    go_ret
    exact ⟨ret_bool (decide_eq_false E.out).symm, Gr.refl w⟩

theorem Tryz.infoRule : (Tryz.prog.info? 101).map (fun i => (i.zero, i.size, i.bytes)) = some (some (.agg #[.string ByteArray.empty, .string ByteArray.empty, .slice none 0 0, .bool false, .slice none 0 0, .slice none 0 0]), 6, 112) := by kernel_rfl

set_option maxHeartbeats 4000000 in
theorem toRuleS_any (fp : List Nat) (u : Value) (xs : List (GRule d)) (w : World) (hu : SlR fp w u xs) (hlen : wtRuleS xs ≤ 1048576) :
    Calls Tryz.prog 40 #[u] w fun e w' => ∃ v fq, e = .returned v ∧ SlR fq w' v xs ∧ Fresh w fq ∧ Gr w w' := by
  obtain ⟨a, ca, rfl, h1, h2, h3⟩ := hu.open
  have hll : xs.length ≤ 1048576 := Nat.le_trans (wtL_len wtRule xs) hlen
  obtain ⟨i0, hi, hz0, hz1, hz2⟩ := info_parts Tryz.infoRule
  have hmk := fun (W : World) => run_make (P := Tryz.prog) W 41 101 i0 (.agg #[.string ByteArray.empty, .string ByteArray.empty, .slice none 0 0, .bool false, .slice none 0 0, .slice none 0 0]) Tryz.underlying41 hi hz0 .i64 .i64 xs.length xs.length (by omega) (by omega) (by rw [hz2]; omega) (by omega)
  rw [hz1] at hmk
  clear hi hz0 hz1 hz2
  simp only [Int.toNat_natCast] at hmk
  have hms := size_madeCells (Value.agg #[.string ByteArray.empty, .string ByteArray.empty, .slice none 0 0, .bool false, .slice none 0 0, .slice none 0 0]).cells (xs.length * 6)
  generalize madeCells (Value.agg #[.string ByteArray.empty, .string ByteArray.empty, .slice none 0 0, .bool false, .slice none 0 0, .slice none 0 0]).cells (xs.length * 6) = C0 at hmk hms
  have HS := Lib.hid hms
  have HLS := Lib.hid hlen
  clear hms hlen
  go_enter Tryz.func40, Tryz.ntmps40
  go_wp2
  go_loopw [4] (fun s4 wr => ∃ (k : Nat) (C : Array Value) (x : Ext) (fps : List (List Nat)), C.size = xs.length * 6 ∧ PartR w w.heap.size wr C k fps xs ∧ wr = (w.alloc (.cells C 101)).ext x ∧ s4 = .int .i64 k) (fun s4 _ => xs.length - (intOf s4).toNat)
  case atStart => exact ⟨0, C0, ⟨#[], 0⟩, [], HS.out, PartR.start _ _ (Nat.le_refl _) (by simp), (ext_zero _).symm, rfl⟩
  case round =>
    obtain ⟨k, C, x, fps, hC, hp, rfl, rfl⟩ := hrel
    have hCs := Lib.hid hC
    have hk := hp.le
    by_cases hlt : k < xs.length
    · obtain ⟨b, off, rfl, hb⟩ := h3 k hlt
      have hwk := wtL_at wtRule xs hlt
      obtain ⟨csq, feq, hcq, hrq, -⟩ := hu.at hlt
      have hrdq := hrq
      generalize xs[k] = yq at hrq
      obtain ⟨q0, q1, q2, q3, q4, q5⟩ := yq
      obtain ⟨vq2, fq2, vq4, fq4, vq5, fq5, hcsq, -, hq0, hq1, hq2, hq4, hq5⟩ := rdRule_inv (cs := csq.toArray) q0 q1 q2 q3 q4 q5 (by simpa using hrq)
      obtain rfl : csq = [.string q0, .string q1, vq2, .bool q3, vq4, vq5] := by have := congrArg Array.toList hcsq; simpa using this
      have z0 : w.cell? ⟨b, off + k * 6, none⟩ = some (.string q0) := by simpa [Rd.n] using hcq 0 _ rfl
      have z1 : w.cell? ⟨b, off + k * 6 + 1, none⟩ = some (.string q1) := hcq 1 _ rfl
      have z2 : w.cell? ⟨b, off + k * 6 + 2, none⟩ = some (vq2) := hcq 2 _ rfl
      have z3 : w.cell? ⟨b, off + k * 6 + 3, none⟩ = some (.bool q3) := hcq 3 _ rfl
      have z4 : w.cell? ⟨b, off + k * 6 + 4, none⟩ = some (vq4) := hcq 4 _ rfl
      have z5 : w.cell? ⟨b, off + k * 6 + 5, none⟩ = some (vq5) := hcq 5 _ rfl
      have y0 : k * 6 < C.size := by omega
      have y1 : k * 6 + 1 < C.size := by omega
      have y2 : k * 6 + 2 < C.size := by omega
      have y3 : k * 6 + 3 < C.size := by omega
      have y4 : k * 6 + 4 < C.size := by omega
      have y5 : k * 6 + 5 < C.size := by omega
      have hwl : wtRule xs[k] ≤ 1048576 := Nat.le_trans hwk HLS.out
      have hd0 : k * 6 + 6 ≤ C.size := by omega
      have HD := Lib.hid hd0
      clear hC h3 hcsq hcq hrq hwk hd0
      go_wp2_with (go_at_call 88; refine (toRule_any _ _ xs[k] _ (Rd.gr hrdq (by repeat (first | exact Gr.refl _ | apply Gr.ext | apply Gr.alloc | apply Gr.drew))) (by omega)).mono ?_; rintro e w1 ⟨ds, fq, rfl, hs, hf, y, rfl⟩; have hs2 := hs; generalize xs[k] = yr at hs2; obtain ⟨r0, r1, r2, r3, r4, r5⟩ := yr; obtain ⟨vr2, fr2, vr4, fr4, vr5, fr5, rfl, hfq, kr0, kr1, kr2, kr4, kr5⟩ := rdRule_inv r0 r1 r2 r3 r4 r5 hs2; obtain ⟨aar2, ccr2, rfl, -, -, -⟩ := kr2.open; obtain ⟨aar4, ccr4, rfl, -, -, -⟩ := kr4.open; obtain ⟨aar5, ccr5, rfl, -, -, -⟩ := kr5.open; clear hfq)
      rw [ext_ext, ← setRow_6]
      refine ⟨⟨k + 1, setRow C (k * 6) [.string r0, .string r1, .slice aar2 r2.length ccr2, .bool r3, .slice aar4 r4.length ccr4, .slice aar5 r5.length ccr5], x.comp y, fps ++ [fq], ?_, ?_, rfl, by go_num⟩, by simp [intOf]; omega⟩
      · rw [setRow_size]; exact hCs.out
      · refine hp.step_own hlt (C' := setRow C (k * 6) [.string r0, .string r1, .slice aar2 r2.length ccr2, .bool r3, .slice aar4 r4.length ccr4, .slice aar5 r5.length ccr5]) (cs := [.string r0, .string r1, .slice aar2 r2.length ccr2, .bool r3, .slice aar4 r4.length ccr4, .slice aar5 r5.length ccr5]) ?_ hf (fun j hj => setRow_lt _ _ _ _ hj) (setRow_get _ _ _ HD.out)
        exact hs
    · have hk2 : k = xs.length := by omega
      subst hk2
      obtain ⟨fq, hs, hf⟩ := hp.done (heap_own_self _ x) (cap := xs.length) (Nat.le_refl _) (by unfold reachLen; omega)
      have HF := Lib.hid hs
      clear hs hC
      go_wp2
      go_ret
      exact ⟨_, fq, rfl, HF.out, hf, (by repeat (first | exact Gr.refl _ | apply Gr.ext | apply Gr.alloc | apply Gr.drew))⟩

abbrev GGrammar (d : Nat) := List GSymbol × List (GRule d)
def wtGrammar (x : (GGrammar d)) : Nat := wtSymbolS x.1 + wtRuleS x.2

theorem rdGrammar_inv {fp : List Nat} {w : World} {cs : Array Value} (q0 : List GSymbol) (q1 : List (GRule d)) (h : Rd.rd (α := (GGrammar d)) fp w cs.toList (q0, q1)) :
    ∃ vq0 fq0 vq1 fq1, cs = #[vq0, vq1] ∧ fp = (fq0 ++ fq1) ∧ SlR fq0 w vq0 q0 ∧ SlR fq1 w vq1 q1 := by
  generalize hcs : cs.toList = l at h
  obtain ⟨_, _, _, _, rfl, rfl, ⟨vq0, rfl, hq0⟩, ⟨vq1, rfl, hq1⟩⟩ := h
  exact ⟨_, _, _, _, Array.toList_inj.1 (by simpa using hcs), rfl, hq0, hq1⟩

theorem rdGrammar_shape {fp : List Nat} {w : World} {cs : Array Value} {x : (GGrammar d)} (h : Rd.rd (α := (GGrammar d)) fp w cs.toList x) :
    ∃ aq0 lq0 cq0 aq1 lq1 cq1, cs = #[.slice aq0 lq0 cq0, .slice aq1 lq1 cq1] := by
  obtain ⟨q0, q1⟩ := x
  obtain ⟨vq0, fq0, vq1, fq1, rfl, -, hq0, hq1⟩ := rdGrammar_inv q0 q1 h
  obtain ⟨aq0, cq0, rfl, -, -, -⟩ := hq0.open
  obtain ⟨aq1, cq1, rfl, -, -, -⟩ := hq1.open
  exact ⟨_, _, _, _, _, _, rfl⟩

theorem rdGrammar_mk {w : World} (q0 : List GSymbol) (q1 : List (GRule d)) {vq0 : Value} {fq0 : List Nat} {vq1 : Value} {fq1 : List Nat} (hq0 : SlR fq0 w vq0 q0) (hq1 : SlR fq1 w vq1 q1) :
    Rd.rd (α := (GGrammar d)) ((fq0 ++ fq1)) w [vq0, vq1] (q0, q1) := ⟨_, _, _, _, rfl, rfl, ⟨_, rfl, hq0⟩, ⟨_, rfl, hq1⟩⟩

set_option maxHeartbeats 1000000 in
theorem szGrammar_any (fp : List Nat) (cs : Array Value) (x : (GGrammar d)) (left : Int) (w : World) (hx : Rd.rd fp w cs.toList x) (h0 : 0 ≤ left) (h1 : left ≤ 1048576) :
    Calls Tryz.prog 6 #[.agg cs, .int .i64 left] w fun e w' => e = .returned (.int .i64 (less left (wtGrammar x))) ∧ Gr w w' := by
  obtain ⟨q0, q1⟩ := x
  obtain ⟨vq0, fq0, vq1, fq1, rfl, -, hq0, hq1⟩ := rdGrammar_inv q0 q1 hx
  obtain ⟨aq0, cq0, rfl, bq0, dq0, -⟩ := hq0.open
  obtain ⟨aq1, cq1, rfl, bq1, dq1, -⟩ := hq1.open
  have hwt : wtGrammar (q0, q1) = (wtSymbolS q0) + (wtRuleS q1) := by rfl
  have HW := Lib.hid hwt
  clear hwt hx
  go_enter Tryz.func6, Tryz.ntmps6
  go_wp2_with fail
  refine (szSymbolS_any fq0 _ _ _ _ (hq0.gr (by repeat (first | exact Gr.refl _ | apply Gr.ext | apply Gr.alloc | apply Gr.drew))) (by omega) (by omega)).mono ?_
  rintro e w0 ⟨rfl, x0, rfl⟩
  have hb0 := less_le (left) (wtSymbolS q0) (by omega)
  go_wp2_with fail
  · go_ret
    refine ⟨ret_int ?_, (by repeat (first | exact Gr.refl _ | apply Gr.ext | apply Gr.alloc | apply Gr.drew))⟩
    have := less_cases left (wtGrammar (q0, q1))
    have := HW.out
    have := less_cases (left) (wtSymbolS q0)
    omega
  · skip
    refine (szRuleS_any fq1 _ _ _ _ (hq1.gr (by repeat (first | exact Gr.refl _ | apply Gr.ext | apply Gr.alloc | apply Gr.drew))) (by have := less_cases (left) (wtSymbolS q0); omega) (by have := less_cases (left) (wtSymbolS q0); omega)).mono ?_
    rintro e w1 ⟨rfl, x1, rfl⟩
    have hb1 := less_le (less (left) (wtSymbolS q0)) (wtRuleS q1) (by have := less_cases (left) (wtSymbolS q0); omega)
    go_wp2_with fail
    · go_ret
      refine ⟨ret_int ?_, (by repeat (first | exact Gr.refl _ | apply Gr.ext | apply Gr.alloc | apply Gr.drew))⟩
      have := less_cases left (wtGrammar (q0, q1))
      have := HW.out
      have := less_cases (left) (wtSymbolS q0)
      have := less_cases (less (left) (wtSymbolS q0)) (wtRuleS q1)
      omega
    · skip
      go_ret
      refine ⟨ret_int ?_, (by repeat (first | exact Gr.refl _ | apply Gr.ext | apply Gr.alloc | apply Gr.drew))⟩
      have := less_cases left (wtGrammar (q0, q1))
      have := HW.out
      have := less_cases (left) (wtSymbolS q0)
      have := less_cases (less (left) (wtSymbolS q0)) (wtRuleS q1)
      omega

theorem Grammar_ext (q0 : List GSymbol) (q1 : List (GRule d)) (p0 : List GSymbol) (p1 : List (GRule d)) (e0 : q0 = p0) (e1 : q1 = p1) : ((q0, q1) : (GGrammar d)) = (p0, p1) := by
  exact Prod.ext_iff.2 ⟨e0, e1⟩

set_option maxHeartbeats 1000000 in
theorem eqGrammar_any (fp fq : List Nat) (cs ds : Array Value) (x y : (GGrammar d)) (w : World) (hx : Rd.rd fp w cs.toList x) (hy : Rd.rd fq w ds.toList y) :
    Calls Tryz.prog 15 #[.agg cs, .agg ds] w fun e w' => e = .returned (.bool (decide (x = y))) ∧ Gr w w' := by
  obtain ⟨q0, q1⟩ := x
  obtain ⟨p0, p1⟩ := y
  obtain ⟨vq0, fq0, vq1, fq1, rfl, -, hq0, hq1⟩ := rdGrammar_inv q0 q1 hx
  obtain ⟨vp0, fp0, vp1, fp1, rfl, -, hp0, hp1⟩ := rdGrammar_inv p0 p1 hy
  obtain ⟨aq0, cq0, rfl, -, -, -⟩ := hq0.open
  obtain ⟨aq1, cq1, rfl, -, -, -⟩ := hq1.open
  obtain ⟨ap0, cp0, rfl, -, -, -⟩ := hp0.open
  obtain ⟨ap1, cp1, rfl, -, -, -⟩ := hp1.open
  clear hx hy
  go_enter Tryz.func15, Tryz.ntmps15
  go_wp2_with fail
  refine (eqSymbolS_any fq0 fp0 _ _ q0 p0 _ (hq0.gr (by repeat (first | exact Gr.refl _ | apply Gr.ext | apply Gr.alloc | apply Gr.drew))) (hp0.gr (by repeat (first | exact Gr.refl _ | apply Gr.ext | apply Gr.alloc | apply Gr.drew)))).mono ?_
  rintro e w0 ⟨rfl, x0, rfl⟩
  go_wp2_with fail
  · have ht : (!decide (q0 = p0)) = true := by assumption
    go_ret
    exact ⟨ret_bool (decide_eq_false fun e => dec_ne ht (congrArg (fun z : (GGrammar d) => z.1) e)).symm, (by repeat (first | exact Gr.refl _ | apply Gr.ext | apply Gr.alloc | apply Gr.drew))⟩
  · skip
    have e0 := Lib.hid (dec_eq (show (!decide (q0 = p0)) = false by assumption))
    refine (eqRuleS_any fq1 fp1 _ _ q1 p1 _ (hq1.gr (by repeat (first | exact Gr.refl _ | apply Gr.ext | apply Gr.alloc | apply Gr.drew))) (hp1.gr (by repeat (first | exact Gr.refl _ | apply Gr.ext | apply Gr.alloc | apply Gr.drew)))).mono ?_
    rintro e w1 ⟨rfl, x1, rfl⟩
    go_wp2_with fail
    · have ht : (!decide (q1 = p1)) = true := by assumption
      go_ret
      exact ⟨ret_bool (decide_eq_false fun e => dec_ne ht (congrArg (fun z : (GGrammar d) => z.2) e)).symm, (by repeat (first | exact Gr.refl _ | apply Gr.ext | apply Gr.alloc | apply Gr.drew))⟩
    · skip
      have e1 := Lib.hid (dec_eq (show (!decide (q1 = p1)) = false by assumption))
      go_ret
      exact ⟨ret_bool (decide_eq_true (Grammar_ext q0 q1 p0 p1 e0.out e1.out)).symm, (by repeat (first | exact Gr.refl _ | apply Gr.ext | apply Gr.alloc | apply Gr.drew))⟩

set_option maxHeartbeats 1000000 in
theorem toGrammar_any (fp : List Nat) (cs : Array Value) (x : (GGrammar d)) (w : World) (hx : Rd.rd fp w cs.toList x) (hl : wtGrammar x ≤ 1048576) :
    Calls Tryz.prog 10 #[.agg cs] w fun e w' => ∃ ds fq, e = .returned (.agg ds) ∧ Rd.rd fq w' ds.toList x ∧ Fresh w fq ∧ Gr w w' := by
  obtain ⟨q0, q1⟩ := x
  obtain ⟨vq0, fq0, vq1, fq1, rfl, -, hq0, hq1⟩ := rdGrammar_inv q0 q1 hx
  obtain ⟨aq0, cq0, rfl, -, -, -⟩ := hq0.open
  obtain ⟨aq1, cq1, rfl, -, -, -⟩ := hq1.open
  have hwt : wtGrammar (q0, q1) = (wtSymbolS q0) + (wtRuleS q1) := by rfl
  have HW := Lib.hid hwt
  clear hwt hx
  go_enter Tryz.func10, Tryz.ntmps10
  go_wp2_with fail
  refine (toSymbolS_any fq0 _ _ _ (hq0.gr (by repeat (first | exact Gr.refl _ | apply Gr.ext | apply Gr.alloc | apply Gr.drew))) (by have := HW.out; omega)).mono ?_
  rintro e w0 ⟨u0, g0, rfl, s0, fr0, x0, rfl⟩
  obtain ⟨aa0, cc0, rfl, -, -, -⟩ := s0.open
  go_wp2_with fail
  refine (toRuleS_any fq1 _ _ _ (hq1.gr (by repeat (first | exact Gr.refl _ | apply Gr.ext | apply Gr.alloc | apply Gr.drew))) (by have := HW.out; omega)).mono ?_
  rintro e w1 ⟨u1, g1, rfl, s1, fr1, x1, rfl⟩
  obtain ⟨aa1, cc1, rfl, -, -, -⟩ := s1.open
  go_wp2_with fail
  have hfresh : Fresh w (g0 ++ g1) := by
    exact (Fresh.app (Fresh.of_le fr0 (by simp <;> omega)) (SlR.lt s0) fr1 (by simp <;> omega) (by simp <;> omega))
  exact bodyPost_ret (v := .agg #[.slice aa0 q0.length cc0, .slice aa1 q1.length cc1]) (by simp [results, Tryz.results10, go_sem]) rfl
    ⟨_, _, rfl, rdGrammar_mk q0 q1 (SlR.moved s0 fr0 (by repeat (first | exact Gr.refl _ | apply Gr.ext | apply Gr.alloc | apply Gr.drew)) (by simp)) (SlR.moved s1 fr1 (by repeat (first | exact Gr.refl _ | apply Gr.ext | apply Gr.alloc | apply Gr.drew)) (by simp)), hfresh, (by repeat (first | exact Gr.refl _ | apply Gr.ext | apply Gr.alloc | apply Gr.drew))⟩

end Go.Proofs.YtbfmeiooeaaibaaGreat
