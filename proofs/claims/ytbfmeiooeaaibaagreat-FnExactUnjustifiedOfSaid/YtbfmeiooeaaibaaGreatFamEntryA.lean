/- Contracts of the functions that measure, compare and copy: Entry. Made by mk_fam.py. No condition. -/
import Derived.Test.YtbfmeiooeaaibaaGreatFamRead
namespace Go.Proofs.YtbfmeiooeaaibaaGreat
open Go.RowKit

abbrev GEntry := GInstance × Int × Int × Int × ByteArray × List Int × List Int × List GReading
def wtEntry (x : GEntry) : Nat := wtInstance x.1 + x.2.2.2.2.1.size + x.2.2.2.2.2.1.length + x.2.2.2.2.2.2.1.length + wtReadingS x.2.2.2.2.2.2.2
instance decEntry : DecidableEq GEntry := @instDecidableEqProd _ _ _ (@instDecidableEqProd _ _ _ (@instDecidableEqProd _ _ _ (@instDecidableEqProd _ _ _ (@instDecidableEqProd _ _ _ (@instDecidableEqProd _ _ _ (@instDecidableEqProd _ _ _ (inferInstance)))))))

theorem rdEntry_inv {fp : List Nat} {w : World} {cs : Array Value} (q00 : Int) (q01 : ByteArray) (q1 : Int) (q2 : Int) (q3 : Int) (q4 : ByteArray) (q5 : List Int) (q6 : List Int) (q7 : List GReading) (h : Rd.rd (α := GEntry) fp w cs.toList ((q00, q01), q1, q2, q3, q4, q5, q6, q7)) :
    ∃ vq5 fq5 vq6 fq6 vq7 fq7, cs = #[.int .i64 q00, .string q01, .int .i64 q1, .int .i64 q2, .int .i64 q3, .string q4, vq5, vq6, vq7] ∧ fp = (([] ++ []) ++ ([] ++ ([] ++ ([] ++ ([] ++ (fq5 ++ (fq6 ++ fq7))))))) ∧ (Lit.int .i64 q00).wf = true ∧ q01.size ≤ maxLen ∧ (Lit.int .i64 q1).wf = true ∧ (Lit.int .i64 q2).wf = true ∧ (Lit.int .i64 q3).wf = true ∧ q4.size ≤ maxLen ∧ SlR fq5 w vq5 q5 ∧ SlR fq6 w vq6 q6 ∧ SlR fq7 w vq7 q7 := by
  generalize hcs : cs.toList = l at h
  obtain ⟨_, _, _, _, rfl, rfl, ⟨_, _, _, _, rfl, rfl, ⟨rfl, rfl, hq00⟩, ⟨rfl, rfl, hq01⟩⟩, ⟨_, _, _, _, rfl, rfl, ⟨rfl, rfl, hq1⟩, ⟨_, _, _, _, rfl, rfl, ⟨rfl, rfl, hq2⟩, ⟨_, _, _, _, rfl, rfl, ⟨rfl, rfl, hq3⟩, ⟨_, _, _, _, rfl, rfl, ⟨rfl, rfl, hq4⟩, ⟨_, _, _, _, rfl, rfl, ⟨vq5, rfl, hq5⟩, ⟨_, _, _, _, rfl, rfl, ⟨vq6, rfl, hq6⟩, ⟨vq7, rfl, hq7⟩⟩⟩⟩⟩⟩⟩⟩ := h
  exact ⟨_, _, _, _, _, _, Array.toList_inj.1 (by simpa using hcs), rfl, hq00, hq01, hq1, hq2, hq3, hq4, hq5, hq6, hq7⟩

theorem rdEntry_shape {fp : List Nat} {w : World} {cs : Array Value} {x : GEntry} (h : Rd.rd (α := GEntry) fp w cs.toList x) :
    ∃ q00 q01 q1 q2 q3 q4 aq5 lq5 cq5 aq6 lq6 cq6 aq7 lq7 cq7, cs = #[.int .i64 q00, .string q01, .int .i64 q1, .int .i64 q2, .int .i64 q3, .string q4, .slice aq5 lq5 cq5, .slice aq6 lq6 cq6, .slice aq7 lq7 cq7] := by
  obtain ⟨⟨q00, q01⟩, q1, q2, q3, q4, q5, q6, q7⟩ := x
  obtain ⟨vq5, fq5, vq6, fq6, vq7, fq7, rfl, -, -, -, -, -, -, -, hq5, hq6, hq7⟩ := rdEntry_inv q00 q01 q1 q2 q3 q4 q5 q6 q7 h
  obtain ⟨aq5, cq5, rfl, -, -, -⟩ := hq5.open
  obtain ⟨aq6, cq6, rfl, -, -, -⟩ := hq6.open
  obtain ⟨aq7, cq7, rfl, -, -, -⟩ := hq7.open
  exact ⟨_, _, _, _, _, _, _, _, _, _, _, _, _, _, _, rfl⟩

theorem rdEntry_mk {w : World} (q00 : Int) (q01 : ByteArray) (q1 : Int) (q2 : Int) (q3 : Int) (q4 : ByteArray) (q5 : List Int) (q6 : List Int) (q7 : List GReading) {vq5 : Value} {fq5 : List Nat} {vq6 : Value} {fq6 : List Nat} {vq7 : Value} {fq7 : List Nat} (hq00 : (Lit.int .i64 q00).wf = true) (hq01 : q01.size ≤ maxLen) (hq1 : (Lit.int .i64 q1).wf = true) (hq2 : (Lit.int .i64 q2).wf = true) (hq3 : (Lit.int .i64 q3).wf = true) (hq4 : q4.size ≤ maxLen) (hq5 : SlR fq5 w vq5 q5) (hq6 : SlR fq6 w vq6 q6) (hq7 : SlR fq7 w vq7 q7) :
    Rd.rd (α := GEntry) ((([] ++ []) ++ ([] ++ ([] ++ ([] ++ ([] ++ (fq5 ++ (fq6 ++ fq7)))))))) w [.int .i64 q00, .string q01, .int .i64 q1, .int .i64 q2, .int .i64 q3, .string q4, vq5, vq6, vq7] ((q00, q01), q1, q2, q3, q4, q5, q6, q7) := ⟨_, _, _, _, rfl, rfl, ⟨_, _, _, _, rfl, rfl, ⟨rfl, rfl, hq00⟩, ⟨rfl, rfl, hq01⟩⟩, ⟨_, _, _, _, rfl, rfl, ⟨rfl, rfl, hq1⟩, ⟨_, _, _, _, rfl, rfl, ⟨rfl, rfl, hq2⟩, ⟨_, _, _, _, rfl, rfl, ⟨rfl, rfl, hq3⟩, ⟨_, _, _, _, rfl, rfl, ⟨rfl, rfl, hq4⟩, ⟨_, _, _, _, rfl, rfl, ⟨_, rfl, hq5⟩, ⟨_, _, _, _, rfl, rfl, ⟨_, rfl, hq6⟩, ⟨_, rfl, hq7⟩⟩⟩⟩⟩⟩⟩⟩

set_option maxHeartbeats 1000000 in
theorem szEntry_any (fp : List Nat) (cs : Array Value) (x : GEntry) (left : Int) (w : World) (hx : Rd.rd fp w cs.toList x) (h0 : 0 ≤ left) (h1 : left ≤ 1048576) :
    Calls Tryz.prog 105 #[.agg cs, .int .i64 left] w fun e w' => e = .returned (.int .i64 (less left (wtEntry x))) ∧ Gr w w' := by
  obtain ⟨⟨q00, q01⟩, q1, q2, q3, q4, q5, q6, q7⟩ := x
  obtain ⟨vq5, fq5, vq6, fq6, vq7, fq7, rfl, -, hq00, hq01, hq1, hq2, hq3, hq4, hq5, hq6, hq7⟩ := rdEntry_inv q00 q01 q1 q2 q3 q4 q5 q6 q7 hx
  have hry0 := (rdInstance_mk q00 q01 hq00 hq01 : Rd.rd (α := GInstance) _ w _ _)
  obtain ⟨y0, hny0⟩ : ∃ y : GInstance, y = (q00, q01) := ⟨_, rfl⟩
  rw [← hny0] at hry0
  have HNy0 := Lib.hid hny0
  clear hny0
  unfold maxLen at hq01
  unfold maxLen at hq4
  obtain ⟨aq5, cq5, rfl, bq5, dq5, -⟩ := hq5.open
  obtain ⟨aq6, cq6, rfl, bq6, dq6, -⟩ := hq6.open
  obtain ⟨aq7, cq7, rfl, bq7, dq7, -⟩ := hq7.open
  have hwt : wtEntry ((q00, q01), q1, q2, q3, q4, q5, q6, q7) = (wtInstance y0) + (q4.size) + (q5.length) + (q6.length) + (wtReadingS q7) := by rw [HNy0.out]; rfl
  have HW := Lib.hid hwt
  clear hwt hx
  go_enter Tryz.func105, Tryz.ntmps105
  go_wp2_with fail
  refine (szInstance_any _ _ y0 _ _ (Rd.gr hry0 (by repeat (first | exact Gr.refl _ | apply Gr.ext | apply Gr.alloc | apply Gr.drew))) (by omega) (by omega)).mono ?_
  rintro e w0 ⟨rfl, x0, rfl⟩
  have hb0 := less_le (left) (wtInstance y0) (by omega)
  go_wp2_with fail
  · go_ret
    refine ⟨ret_int ?_, (by repeat (first | exact Gr.refl _ | apply Gr.ext | apply Gr.alloc | apply Gr.drew))⟩
    have := less_cases left (wtEntry ((q00, q01), q1, q2, q3, q4, q5, q6, q7))
    have := HW.out
    have := less_cases (left) (wtInstance y0)
    omega
  · go_ret
    refine ⟨ret_int ?_, (by repeat (first | exact Gr.refl _ | apply Gr.ext | apply Gr.alloc | apply Gr.drew))⟩
    have := less_cases left (wtEntry ((q00, q01), q1, q2, q3, q4, q5, q6, q7))
    have := HW.out
    have := less_cases (left) (wtInstance y0)
    omega
  · skip
    refine (szIntS_gr fq5 _ _ _ _ (hq5.gr (by repeat (first | exact Gr.refl _ | apply Gr.ext | apply Gr.alloc | apply Gr.drew))) (by have := less_cases (left) (wtInstance y0); omega) (by have := less_cases (left) (wtInstance y0); omega)).mono ?_
    rintro e w5 ⟨rfl, x5, rfl⟩
    have hb5 := less_le (less (left) (wtInstance y0) - ↑q4.size) (q5.length) (by have := less_cases (left) (wtInstance y0); omega)
    go_wp2_with fail
    · go_ret
      refine ⟨ret_int ?_, (by repeat (first | exact Gr.refl _ | apply Gr.ext | apply Gr.alloc | apply Gr.drew))⟩
      have := less_cases left (wtEntry ((q00, q01), q1, q2, q3, q4, q5, q6, q7))
      have := HW.out
      have := less_cases (left) (wtInstance y0)
      have := less_cases (less (left) (wtInstance y0) - ↑q4.size) (q5.length)
      omega
    · skip
      refine (szIntS_gr fq6 _ _ _ _ (hq6.gr (by repeat (first | exact Gr.refl _ | apply Gr.ext | apply Gr.alloc | apply Gr.drew))) (by have := less_cases (left) (wtInstance y0); have := less_cases (less (left) (wtInstance y0) - ↑q4.size) (q5.length); omega) (by have := less_cases (left) (wtInstance y0); have := less_cases (less (left) (wtInstance y0) - ↑q4.size) (q5.length); omega)).mono ?_
      rintro e w6 ⟨rfl, x6, rfl⟩
      have hb6 := less_le (less (less (left) (wtInstance y0) - ↑q4.size) (q5.length)) (q6.length) (by have := less_cases (left) (wtInstance y0); have := less_cases (less (left) (wtInstance y0) - ↑q4.size) (q5.length); omega)
      go_wp2_with fail
      · go_ret
        refine ⟨ret_int ?_, (by repeat (first | exact Gr.refl _ | apply Gr.ext | apply Gr.alloc | apply Gr.drew))⟩
        have := less_cases left (wtEntry ((q00, q01), q1, q2, q3, q4, q5, q6, q7))
        have := HW.out
        have := less_cases (left) (wtInstance y0)
        have := less_cases (less (left) (wtInstance y0) - ↑q4.size) (q5.length)
        have := less_cases (less (less (left) (wtInstance y0) - ↑q4.size) (q5.length)) (q6.length)
        omega
      · skip
        refine (szReadingS_any fq7 _ _ _ _ (hq7.gr (by repeat (first | exact Gr.refl _ | apply Gr.ext | apply Gr.alloc | apply Gr.drew))) (by have := less_cases (left) (wtInstance y0); have := less_cases (less (left) (wtInstance y0) - ↑q4.size) (q5.length); have := less_cases (less (less (left) (wtInstance y0) - ↑q4.size) (q5.length)) (q6.length); omega) (by have := less_cases (left) (wtInstance y0); have := less_cases (less (left) (wtInstance y0) - ↑q4.size) (q5.length); have := less_cases (less (less (left) (wtInstance y0) - ↑q4.size) (q5.length)) (q6.length); omega)).mono ?_
        rintro e w7 ⟨rfl, x7, rfl⟩
        have hb7 := less_le (less (less (less (left) (wtInstance y0) - ↑q4.size) (q5.length)) (q6.length)) (wtReadingS q7) (by have := less_cases (left) (wtInstance y0); have := less_cases (less (left) (wtInstance y0) - ↑q4.size) (q5.length); have := less_cases (less (less (left) (wtInstance y0) - ↑q4.size) (q5.length)) (q6.length); omega)
        go_wp2_with fail
        · go_ret
          refine ⟨ret_int ?_, (by repeat (first | exact Gr.refl _ | apply Gr.ext | apply Gr.alloc | apply Gr.drew))⟩
          have := less_cases left (wtEntry ((q00, q01), q1, q2, q3, q4, q5, q6, q7))
          have := HW.out
          have := less_cases (left) (wtInstance y0)
          have := less_cases (less (left) (wtInstance y0) - ↑q4.size) (q5.length)
          have := less_cases (less (less (left) (wtInstance y0) - ↑q4.size) (q5.length)) (q6.length)
          have := less_cases (less (less (less (left) (wtInstance y0) - ↑q4.size) (q5.length)) (q6.length)) (wtReadingS q7)
          omega
        · skip
          go_ret
          refine ⟨ret_int ?_, (by repeat (first | exact Gr.refl _ | apply Gr.ext | apply Gr.alloc | apply Gr.drew))⟩
          have := less_cases left (wtEntry ((q00, q01), q1, q2, q3, q4, q5, q6, q7))
          have := HW.out
          have := less_cases (left) (wtInstance y0)
          have := less_cases (less (left) (wtInstance y0) - ↑q4.size) (q5.length)
          have := less_cases (less (less (left) (wtInstance y0) - ↑q4.size) (q5.length)) (q6.length)
          have := less_cases (less (less (less (left) (wtInstance y0) - ↑q4.size) (q5.length)) (q6.length)) (wtReadingS q7)
          omega

theorem Entry_ext (q00 : Int) (q01 : ByteArray) (q1 : Int) (q2 : Int) (q3 : Int) (q4 : ByteArray) (q5 : List Int) (q6 : List Int) (q7 : List GReading) (p00 : Int) (p01 : ByteArray) (p1 : Int) (p2 : Int) (p3 : Int) (p4 : ByteArray) (p5 : List Int) (p6 : List Int) (p7 : List GReading) (e0 : (q00, q01) = (p00, p01)) (e1 : q1 = p1) (e2 : q2 = p2) (e3 : q3 = p3) (e4 : q4 = p4) (e5 : q5 = p5) (e6 : q6 = p6) (e7 : q7 = p7) : (((q00, q01), q1, q2, q3, q4, q5, q6, q7) : GEntry) = ((p00, p01), p1, p2, p3, p4, p5, p6, p7) := by
  exact Prod.ext_iff.2 ⟨e0, Prod.ext_iff.2 ⟨e1, Prod.ext_iff.2 ⟨e2, Prod.ext_iff.2 ⟨e3, Prod.ext_iff.2 ⟨e4, Prod.ext_iff.2 ⟨e5, Prod.ext_iff.2 ⟨e6, e7⟩⟩⟩⟩⟩⟩⟩

set_option maxHeartbeats 1000000 in
theorem eqEntry_any (fp fq : List Nat) (cs ds : Array Value) (x y : GEntry) (w : World) (hx : Rd.rd fp w cs.toList x) (hy : Rd.rd fq w ds.toList y) :
    Calls Tryz.prog 14 #[.agg cs, .agg ds] w fun e w' => e = .returned (.bool (decide (x = y))) ∧ Gr w w' := by
  obtain ⟨⟨q00, q01⟩, q1, q2, q3, q4, q5, q6, q7⟩ := x
  obtain ⟨⟨p00, p01⟩, p1, p2, p3, p4, p5, p6, p7⟩ := y
  obtain ⟨vq5, fq5, vq6, fq6, vq7, fq7, rfl, -, hq00, hq01, hq1, hq2, hq3, hq4, hq5, hq6, hq7⟩ := rdEntry_inv q00 q01 q1 q2 q3 q4 q5 q6 q7 hx
  obtain ⟨vp5, fp5, vp6, fp6, vp7, fp7, rfl, -, hp00, hp01, hp1, hp2, hp3, hp4, hp5, hp6, hp7⟩ := rdEntry_inv p00 p01 p1 p2 p3 p4 p5 p6 p7 hy
  have hry0 := (rdInstance_mk q00 q01 hq00 hq01 : Rd.rd (α := GInstance) _ w _ _)
  obtain ⟨y0, hny0⟩ : ∃ y : GInstance, y = (q00, q01) := ⟨_, rfl⟩
  rw [← hny0] at hry0
  have HNy0 := Lib.hid hny0
  clear hny0
  have hrz0 := (rdInstance_mk p00 p01 hp00 hp01 : Rd.rd (α := GInstance) _ w _ _)
  obtain ⟨z0, hnz0⟩ : ∃ y : GInstance, y = (p00, p01) := ⟨_, rfl⟩
  rw [← hnz0] at hrz0
  have HNz0 := Lib.hid hnz0
  clear hnz0
  obtain ⟨aq5, cq5, rfl, -, -, -⟩ := hq5.open
  obtain ⟨aq6, cq6, rfl, -, -, -⟩ := hq6.open
  obtain ⟨aq7, cq7, rfl, -, -, -⟩ := hq7.open
  obtain ⟨ap5, cp5, rfl, -, -, -⟩ := hp5.open
  obtain ⟨ap6, cp6, rfl, -, -, -⟩ := hp6.open
  obtain ⟨ap7, cp7, rfl, -, -, -⟩ := hp7.open
  clear hx hy
  go_enter Tryz.func14, Tryz.ntmps14
  go_wp2_with fail
  refine (eqInstance_any _ _ _ _ y0 z0 _ (Rd.gr hry0 (by repeat (first | exact Gr.refl _ | apply Gr.ext | apply Gr.alloc | apply Gr.drew))) (Rd.gr hrz0 (by repeat (first | exact Gr.refl _ | apply Gr.ext | apply Gr.alloc | apply Gr.drew)))).mono ?_
  rintro e w0 ⟨rfl, x0, rfl⟩
  go_wp2_with fail
  · have ht : (!decide (y0 = z0)) = true := by assumption
    go_ret
    exact ⟨ret_bool (decide_eq_false fun e => dec_ne ht (HNy0.out.trans ((congrArg (fun z : GEntry => z.1) e).trans HNz0.out.symm))).symm, (by repeat (first | exact Gr.refl _ | apply Gr.ext | apply Gr.alloc | apply Gr.drew))⟩
  · have ht : (q1 != p1) = true := by assumption
    go_ret
    exact ⟨ret_bool (decide_eq_false fun e => int_ne ht (congrArg (fun z : GEntry => z.2.1) e)).symm, (by repeat (first | exact Gr.refl _ | apply Gr.ext | apply Gr.alloc | apply Gr.drew))⟩
  · have ht : (q2 != p2) = true := by assumption
    go_ret
    exact ⟨ret_bool (decide_eq_false fun e => int_ne ht (congrArg (fun z : GEntry => z.2.2.1) e)).symm, (by repeat (first | exact Gr.refl _ | apply Gr.ext | apply Gr.alloc | apply Gr.drew))⟩
  · have ht : (q3 != p3) = true := by assumption
    go_ret
    exact ⟨ret_bool (decide_eq_false fun e => int_ne ht (congrArg (fun z : GEntry => z.2.2.2.1) e)).symm, (by repeat (first | exact Gr.refl _ | apply Gr.ext | apply Gr.alloc | apply Gr.drew))⟩
  · have ht : (!q4.toList == p4.toList) = true := by assumption
    go_ret
    exact ⟨ret_bool (decide_eq_false fun e => str_ne ht (congrArg (fun z : GEntry => z.2.2.2.2.1) e)).symm, (by repeat (first | exact Gr.refl _ | apply Gr.ext | apply Gr.alloc | apply Gr.drew))⟩
  · skip
    have e0 := Lib.hid (dec_eq (show (!decide (y0 = z0)) = false by assumption))
    have e1 := Lib.hid (int_eq (show (q1 != p1) = false by assumption))
    have e2 := Lib.hid (int_eq (show (q2 != p2) = false by assumption))
    have e3 := Lib.hid (int_eq (show (q3 != p3) = false by assumption))
    have e4 := Lib.hid (str_eq (show (!q4.toList == p4.toList) = false by assumption))
    refine (eqIntS_any fq5 fp5 _ _ q5 p5 _ (hq5.gr (by repeat (first | exact Gr.refl _ | apply Gr.ext | apply Gr.alloc | apply Gr.drew))) (hp5.gr (by repeat (first | exact Gr.refl _ | apply Gr.ext | apply Gr.alloc | apply Gr.drew)))).mono ?_
    rintro e w5 ⟨rfl, x5, rfl⟩
    go_wp2_with fail
    · have ht : (!decide (q5 = p5)) = true := by assumption
      go_ret
      exact ⟨ret_bool (decide_eq_false fun e => dec_ne ht (congrArg (fun z : GEntry => z.2.2.2.2.2.1) e)).symm, (by repeat (first | exact Gr.refl _ | apply Gr.ext | apply Gr.alloc | apply Gr.drew))⟩
    · skip
      have e5 := Lib.hid (dec_eq (show (!decide (q5 = p5)) = false by assumption))
      refine (eqIntS_any fq6 fp6 _ _ q6 p6 _ (hq6.gr (by repeat (first | exact Gr.refl _ | apply Gr.ext | apply Gr.alloc | apply Gr.drew))) (hp6.gr (by repeat (first | exact Gr.refl _ | apply Gr.ext | apply Gr.alloc | apply Gr.drew)))).mono ?_
      rintro e w6 ⟨rfl, x6, rfl⟩
      go_wp2_with fail
      · have ht : (!decide (q6 = p6)) = true := by assumption
        go_ret
        exact ⟨ret_bool (decide_eq_false fun e => dec_ne ht (congrArg (fun z : GEntry => z.2.2.2.2.2.2.1) e)).symm, (by repeat (first | exact Gr.refl _ | apply Gr.ext | apply Gr.alloc | apply Gr.drew))⟩
      · skip
        have e6 := Lib.hid (dec_eq (show (!decide (q6 = p6)) = false by assumption))
        refine (eqReadingS_any fq7 fp7 _ _ q7 p7 _ (hq7.gr (by repeat (first | exact Gr.refl _ | apply Gr.ext | apply Gr.alloc | apply Gr.drew))) (hp7.gr (by repeat (first | exact Gr.refl _ | apply Gr.ext | apply Gr.alloc | apply Gr.drew)))).mono ?_
        rintro e w7 ⟨rfl, x7, rfl⟩
        go_wp2_with fail
        · have ht : (!decide (q7 = p7)) = true := by assumption
          go_ret
          exact ⟨ret_bool (decide_eq_false fun e => dec_ne ht (congrArg (fun z : GEntry => z.2.2.2.2.2.2.2) e)).symm, (by repeat (first | exact Gr.refl _ | apply Gr.ext | apply Gr.alloc | apply Gr.drew))⟩
        · skip
          have e7 := Lib.hid (dec_eq (show (!decide (q7 = p7)) = false by assumption))
          go_ret
          exact ⟨ret_bool (decide_eq_true (Entry_ext q00 q01 q1 q2 q3 q4 q5 q6 q7 p00 p01 p1 p2 p3 p4 p5 p6 p7 (HNy0.out.symm.trans (e0.out.trans HNz0.out)) e1.out e2.out e3.out e4.out e5.out e6.out e7.out)).symm, (by repeat (first | exact Gr.refl _ | apply Gr.ext | apply Gr.alloc | apply Gr.drew))⟩

set_option maxHeartbeats 1000000 in
theorem toEntry_any (fp : List Nat) (cs : Array Value) (x : GEntry) (w : World) (hx : Rd.rd fp w cs.toList x) (hl : wtEntry x ≤ 1048576) :
    Calls Tryz.prog 108 #[.agg cs] w fun e w' => ∃ ds fq, e = .returned (.agg ds) ∧ Rd.rd fq w' ds.toList x ∧ Fresh w fq ∧ Gr w w' := by
  obtain ⟨⟨q00, q01⟩, q1, q2, q3, q4, q5, q6, q7⟩ := x
  obtain ⟨vq5, fq5, vq6, fq6, vq7, fq7, rfl, -, hq00, hq01, hq1, hq2, hq3, hq4, hq5, hq6, hq7⟩ := rdEntry_inv q00 q01 q1 q2 q3 q4 q5 q6 q7 hx
  have hry0 := (rdInstance_mk q00 q01 hq00 hq01 : Rd.rd (α := GInstance) _ w _ _)
  obtain ⟨y0, hny0⟩ : ∃ y : GInstance, y = (q00, q01) := ⟨_, rfl⟩
  rw [← hny0] at hry0
  have HNy0 := Lib.hid hny0
  clear hny0
  obtain ⟨aq5, cq5, rfl, -, -, -⟩ := hq5.open
  obtain ⟨aq6, cq6, rfl, -, -, -⟩ := hq6.open
  obtain ⟨aq7, cq7, rfl, -, -, -⟩ := hq7.open
  have hwt : wtEntry ((q00, q01), q1, q2, q3, q4, q5, q6, q7) = (wtInstance y0) + (q4.size) + (q5.length) + (q6.length) + (wtReadingS q7) := by rw [HNy0.out]; rfl
  have HW := Lib.hid hwt
  clear hwt hx
  go_enter Tryz.func108, Tryz.ntmps108
  go_wp2_with fail
  refine (toInstance_any _ _ y0 _ (Rd.gr hry0 (by repeat (first | exact Gr.refl _ | apply Gr.ext | apply Gr.alloc | apply Gr.drew)))).mono ?_
  rintro e w0 ⟨rfl, x0, rfl⟩
  go_wp2_with fail
  refine (toIntS_any fq5 _ _ _ (hq5.gr (by repeat (first | exact Gr.refl _ | apply Gr.ext | apply Gr.alloc | apply Gr.drew))) (by have := HW.out; omega)).mono ?_
  rintro e w5 ⟨u5, g5, rfl, s5, fr5, x5, rfl⟩
  obtain ⟨aa5, cc5, rfl, -, -, -⟩ := s5.open
  go_wp2_with fail
  refine (toIntS_any fq6 _ _ _ (hq6.gr (by repeat (first | exact Gr.refl _ | apply Gr.ext | apply Gr.alloc | apply Gr.drew))) (by have := HW.out; omega)).mono ?_
  rintro e w6 ⟨u6, g6, rfl, s6, fr6, x6, rfl⟩
  obtain ⟨aa6, cc6, rfl, -, -, -⟩ := s6.open
  go_wp2_with fail
  refine (toReadingS_any fq7 _ _ _ (hq7.gr (by repeat (first | exact Gr.refl _ | apply Gr.ext | apply Gr.alloc | apply Gr.drew))) (by have := HW.out; omega)).mono ?_
  rintro e w7 ⟨u7, g7, rfl, s7, fr7, x7, rfl⟩
  obtain ⟨aa7, cc7, rfl, -, -, -⟩ := s7.open
  go_wp2_with fail
  have hfresh : Fresh w (g5 ++ (g6 ++ g7)) := by
    exact (Fresh.app (Fresh.of_le fr5 (by simp <;> omega)) (SlR.lt s5) (Fresh.app fr6 (SlR.lt s6) fr7 (by simp <;> omega) (by simp <;> omega)) (by simp <;> omega) (by simp <;> omega))
  exact bodyPost_ret (v := .agg #[.int .i64 q00, .string q01, .int .i64 q1, .int .i64 q2, .int .i64 q3, .string q4, .slice aa5 q5.length cc5, .slice aa6 q6.length cc6, .slice aa7 q7.length cc7]) (by simp [results, Tryz.results108, go_sem]) rfl
    ⟨_, _, rfl, rdEntry_mk q00 q01 q1 q2 q3 q4 q5 q6 q7 hq00 hq01 hq1 hq2 hq3 hq4 (SlR.moved s5 fr5 (by repeat (first | exact Gr.refl _ | apply Gr.ext | apply Gr.alloc | apply Gr.drew)) (by simp)) (SlR.moved s6 fr6 (by repeat (first | exact Gr.refl _ | apply Gr.ext | apply Gr.alloc | apply Gr.drew)) (by simp)) (SlR.moved s7 fr7 (by repeat (first | exact Gr.refl _ | apply Gr.ext | apply Gr.alloc | apply Gr.drew)) (by simp)), hfresh, (by repeat (first | exact Gr.refl _ | apply Gr.ext | apply Gr.alloc | apply Gr.drew))⟩

end Go.Proofs.YtbfmeiooeaaibaaGreat
