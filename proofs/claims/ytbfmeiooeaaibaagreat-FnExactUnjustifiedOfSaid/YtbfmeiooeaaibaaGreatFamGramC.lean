/- Contracts of the functions that measure, compare and copy: Equation, Equation*. Made by mk_fam.py. No condition. -/
import Derived.Test.YtbfmeiooeaaibaaGreatFamGramB
namespace Go.Proofs.YtbfmeiooeaaibaaGreat
open Go.RowKit
variable {d : Nat}

abbrev GEquation (d : Nat) := GOccurrence × (GExpr d)
def wtEquation (x : (GEquation d)) : Nat := wtOccurrence x.1 + wtExpr x.2

theorem rdEquation_inv {fp : List Nat} {w : World} {cs : Array Value} (q00 : Int) (q01 : ByteArray) (q10 : Int) (q11 : Int) (q12 : Int) (q13 : Int) (q14 : ByteArray) (q15 : ByteArray) (q16 : List (GE d)) (h : Rd.rd (α := (GEquation d)) fp w cs.toList ((q00, q01), (q10, q11, q12, q13, q14, q15, q16))) :
    ∃ vq16 fq16, cs = #[.int .i64 q00, .string q01, .int .i64 q10, .int .i64 q11, .int .i64 q12, .int .i64 q13, .string q14, .string q15, vq16] ∧ fp = (([] ++ []) ++ ([] ++ ([] ++ ([] ++ ([] ++ ([] ++ ([] ++ fq16))))))) ∧ (Lit.int .i64 q00).wf = true ∧ q01.size ≤ maxLen ∧ (Lit.int .i64 q10).wf = true ∧ (Lit.int .i64 q11).wf = true ∧ (Lit.int .i64 q12).wf = true ∧ (Lit.int .i64 q13).wf = true ∧ q14.size ≤ maxLen ∧ q15.size ≤ maxLen ∧ SlR fq16 w vq16 q16 := by
  generalize hcs : cs.toList = l at h
  obtain ⟨_, cq1, _, gq1, rfl, rfl, ⟨_, _, _, _, rfl, rfl, ⟨rfl, rfl, hq00⟩, ⟨rfl, rfl, hq01⟩⟩, Nq1⟩ := h
  obtain ⟨vvq16, ffq16, hcN1, hfN1, hq10, hq11, hq12, hq13, hq14, hq15, hq16⟩ := rdExpr_inv (cs := cq1.toArray) q10 q11 q12 q13 q14 q15 q16 (by rw [List.toList_toArray]; exact Nq1)
  have eN1 : cq1 = [.int .i64 q10, .int .i64 q11, .int .i64 q12, .int .i64 q13, .string q14, .string q15, vvq16] := by have := congrArg Array.toList hcN1; simpa using this
  rw [eN1] at hcs
  exact ⟨_, _, Array.toList_inj.1 (by simpa using hcs), (by rw [hfN1]), hq00, hq01, hq10, hq11, hq12, hq13, hq14, hq15, hq16⟩

theorem rdEquation_shape {fp : List Nat} {w : World} {cs : Array Value} {x : (GEquation d)} (h : Rd.rd (α := (GEquation d)) fp w cs.toList x) :
    ∃ q00 q01 q10 q11 q12 q13 q14 q15 aq16 lq16 cq16, cs = #[.int .i64 q00, .string q01, .int .i64 q10, .int .i64 q11, .int .i64 q12, .int .i64 q13, .string q14, .string q15, .slice aq16 lq16 cq16] := by
  obtain ⟨⟨q00, q01⟩, ⟨q10, q11, q12, q13, q14, q15, q16⟩⟩ := x
  obtain ⟨vq16, fq16, rfl, -, -, -, -, -, -, -, -, -, hq16⟩ := rdEquation_inv q00 q01 q10 q11 q12 q13 q14 q15 q16 h
  obtain ⟨aq16, cq16, rfl, -, -, -⟩ := hq16.open
  exact ⟨_, _, _, _, _, _, _, _, _, _, _, rfl⟩

theorem rdEquation_mk {w : World} (q00 : Int) (q01 : ByteArray) (q10 : Int) (q11 : Int) (q12 : Int) (q13 : Int) (q14 : ByteArray) (q15 : ByteArray) (q16 : List (GE d)) {vq16 : Value} {fq16 : List Nat} (hq00 : (Lit.int .i64 q00).wf = true) (hq01 : q01.size ≤ maxLen) (hq10 : (Lit.int .i64 q10).wf = true) (hq11 : (Lit.int .i64 q11).wf = true) (hq12 : (Lit.int .i64 q12).wf = true) (hq13 : (Lit.int .i64 q13).wf = true) (hq14 : q14.size ≤ maxLen) (hq15 : q15.size ≤ maxLen) (hq16 : SlR fq16 w vq16 q16) :
    Rd.rd (α := (GEquation d)) ((([] ++ []) ++ ([] ++ ([] ++ ([] ++ ([] ++ ([] ++ ([] ++ fq16)))))))) w [.int .i64 q00, .string q01, .int .i64 q10, .int .i64 q11, .int .i64 q12, .int .i64 q13, .string q14, .string q15, vq16] ((q00, q01), (q10, q11, q12, q13, q14, q15, q16)) := ⟨_, _, _, _, rfl, rfl, ⟨_, _, _, _, rfl, rfl, ⟨rfl, rfl, hq00⟩, ⟨rfl, rfl, hq01⟩⟩, ⟨_, _, _, _, rfl, rfl, ⟨rfl, rfl, hq10⟩, ⟨_, _, _, _, rfl, rfl, ⟨rfl, rfl, hq11⟩, ⟨_, _, _, _, rfl, rfl, ⟨rfl, rfl, hq12⟩, ⟨_, _, _, _, rfl, rfl, ⟨rfl, rfl, hq13⟩, ⟨_, _, _, _, rfl, rfl, ⟨rfl, rfl, hq14⟩, ⟨_, _, _, _, rfl, rfl, ⟨rfl, rfl, hq15⟩, ⟨_, rfl, hq16⟩⟩⟩⟩⟩⟩⟩⟩

set_option maxHeartbeats 1000000 in
theorem szEquation_any (fp : List Nat) (cs : Array Value) (x : (GEquation d)) (left : Int) (w : World) (hx : Rd.rd fp w cs.toList x) (h0 : 0 ≤ left) (h1 : left ≤ 1048576) :
    Calls Tryz.prog 137 #[.agg cs, .int .i64 left] w fun e w' => e = .returned (.int .i64 (less left (wtEquation x))) ∧ Gr w w' := by
  obtain ⟨⟨q00, q01⟩, ⟨q10, q11, q12, q13, q14, q15, q16⟩⟩ := x
  obtain ⟨vq16, fq16, rfl, -, hq00, hq01, hq10, hq11, hq12, hq13, hq14, hq15, hq16⟩ := rdEquation_inv q00 q01 q10 q11 q12 q13 q14 q15 q16 hx
  have hry0 := (rdOccurrence_mk q00 q01 hq00 hq01 : Rd.rd (α := GOccurrence) _ w _ _)
  obtain ⟨y0, hny0⟩ : ∃ y : GOccurrence, y = (q00, q01) := ⟨_, rfl⟩
  rw [← hny0] at hry0
  have HNy0 := Lib.hid hny0
  clear hny0
  have hry1 := (rdExpr_mk q10 q11 q12 q13 q14 q15 q16 hq10 hq11 hq12 hq13 hq14 hq15 hq16 : Rd.rd (α := (GExpr d)) _ w _ _)
  obtain ⟨y1, hny1⟩ : ∃ y : (GExpr d), y = (q10, q11, q12, q13, q14, q15, q16) := ⟨_, rfl⟩
  rw [← hny1] at hry1
  have HNy1 := Lib.hid hny1
  clear hny1
  unfold maxLen at hq01
  unfold maxLen at hq14
  unfold maxLen at hq15
  obtain ⟨aq16, cq16, rfl, bq16, dq16, -⟩ := hq16.open
  have hwt : wtEquation ((q00, q01), (q10, q11, q12, q13, q14, q15, q16)) = (wtOccurrence y0) + (wtExpr y1) := by rw [HNy0.out]; rw [HNy1.out]; rfl
  have HW := Lib.hid hwt
  clear hwt hx
  go_enter Tryz.func137, Tryz.ntmps137
  go_wp2_with fail
  refine (szOccurrence_any _ _ y0 _ _ (Rd.gr hry0 (by repeat (first | exact Gr.refl _ | apply Gr.ext | apply Gr.alloc | apply Gr.drew))) (by omega) (by omega)).mono ?_
  rintro e w0 ⟨rfl, x0, rfl⟩
  have hb0 := less_le (left) (wtOccurrence y0) (by omega)
  go_wp2_with fail
  · go_ret
    refine ⟨ret_int ?_, (by repeat (first | exact Gr.refl _ | apply Gr.ext | apply Gr.alloc | apply Gr.drew))⟩
    have := less_cases left (wtEquation ((q00, q01), (q10, q11, q12, q13, q14, q15, q16)))
    have := HW.out
    have := less_cases (left) (wtOccurrence y0)
    omega
  · skip
    refine (szExpr_any _ _ y1 _ _ (Rd.gr hry1 (by repeat (first | exact Gr.refl _ | apply Gr.ext | apply Gr.alloc | apply Gr.drew))) (by have := less_cases (left) (wtOccurrence y0); omega) (by have := less_cases (left) (wtOccurrence y0); omega)).mono ?_
    rintro e w1 ⟨rfl, x1, rfl⟩
    have hb1 := less_le (less (left) (wtOccurrence y0)) (wtExpr y1) (by have := less_cases (left) (wtOccurrence y0); omega)
    go_wp2_with fail
    · go_ret
      refine ⟨ret_int ?_, (by repeat (first | exact Gr.refl _ | apply Gr.ext | apply Gr.alloc | apply Gr.drew))⟩
      have := less_cases left (wtEquation ((q00, q01), (q10, q11, q12, q13, q14, q15, q16)))
      have := HW.out
      have := less_cases (left) (wtOccurrence y0)
      have := less_cases (less (left) (wtOccurrence y0)) (wtExpr y1)
      omega
    · skip
      go_ret
      refine ⟨ret_int ?_, (by repeat (first | exact Gr.refl _ | apply Gr.ext | apply Gr.alloc | apply Gr.drew))⟩
      have := less_cases left (wtEquation ((q00, q01), (q10, q11, q12, q13, q14, q15, q16)))
      have := HW.out
      have := less_cases (left) (wtOccurrence y0)
      have := less_cases (less (left) (wtOccurrence y0)) (wtExpr y1)
      omega

theorem Equation_ext (q00 : Int) (q01 : ByteArray) (q10 : Int) (q11 : Int) (q12 : Int) (q13 : Int) (q14 : ByteArray) (q15 : ByteArray) (q16 : List (GE d)) (p00 : Int) (p01 : ByteArray) (p10 : Int) (p11 : Int) (p12 : Int) (p13 : Int) (p14 : ByteArray) (p15 : ByteArray) (p16 : List (GE d)) (e0 : (q00, q01) = (p00, p01)) (e1 : (q10, q11, q12, q13, q14, q15, q16) = (p10, p11, p12, p13, p14, p15, p16)) : (((q00, q01), (q10, q11, q12, q13, q14, q15, q16)) : (GEquation d)) = ((p00, p01), (p10, p11, p12, p13, p14, p15, p16)) := by
  exact Prod.ext_iff.2 ⟨e0, e1⟩

set_option maxHeartbeats 1000000 in
theorem eqEquation_any (fp fq : List Nat) (cs ds : Array Value) (x y : (GEquation d)) (w : World) (hx : Rd.rd fp w cs.toList x) (hy : Rd.rd fq w ds.toList y) :
    Calls Tryz.prog 143 #[.agg cs, .agg ds] w fun e w' => e = .returned (.bool (decide (x = y))) ∧ Gr w w' := by
  obtain ⟨⟨q00, q01⟩, ⟨q10, q11, q12, q13, q14, q15, q16⟩⟩ := x
  obtain ⟨⟨p00, p01⟩, ⟨p10, p11, p12, p13, p14, p15, p16⟩⟩ := y
  obtain ⟨vq16, fq16, rfl, -, hq00, hq01, hq10, hq11, hq12, hq13, hq14, hq15, hq16⟩ := rdEquation_inv q00 q01 q10 q11 q12 q13 q14 q15 q16 hx
  obtain ⟨vp16, fp16, rfl, -, hp00, hp01, hp10, hp11, hp12, hp13, hp14, hp15, hp16⟩ := rdEquation_inv p00 p01 p10 p11 p12 p13 p14 p15 p16 hy
  have hry0 := (rdOccurrence_mk q00 q01 hq00 hq01 : Rd.rd (α := GOccurrence) _ w _ _)
  obtain ⟨y0, hny0⟩ : ∃ y : GOccurrence, y = (q00, q01) := ⟨_, rfl⟩
  rw [← hny0] at hry0
  have HNy0 := Lib.hid hny0
  clear hny0
  have hry1 := (rdExpr_mk q10 q11 q12 q13 q14 q15 q16 hq10 hq11 hq12 hq13 hq14 hq15 hq16 : Rd.rd (α := (GExpr d)) _ w _ _)
  obtain ⟨y1, hny1⟩ : ∃ y : (GExpr d), y = (q10, q11, q12, q13, q14, q15, q16) := ⟨_, rfl⟩
  rw [← hny1] at hry1
  have HNy1 := Lib.hid hny1
  clear hny1
  have hrz0 := (rdOccurrence_mk p00 p01 hp00 hp01 : Rd.rd (α := GOccurrence) _ w _ _)
  obtain ⟨z0, hnz0⟩ : ∃ y : GOccurrence, y = (p00, p01) := ⟨_, rfl⟩
  rw [← hnz0] at hrz0
  have HNz0 := Lib.hid hnz0
  clear hnz0
  have hrz1 := (rdExpr_mk p10 p11 p12 p13 p14 p15 p16 hp10 hp11 hp12 hp13 hp14 hp15 hp16 : Rd.rd (α := (GExpr d)) _ w _ _)
  obtain ⟨z1, hnz1⟩ : ∃ y : (GExpr d), y = (p10, p11, p12, p13, p14, p15, p16) := ⟨_, rfl⟩
  rw [← hnz1] at hrz1
  have HNz1 := Lib.hid hnz1
  clear hnz1
  obtain ⟨aq16, cq16, rfl, -, -, -⟩ := hq16.open
  obtain ⟨ap16, cp16, rfl, -, -, -⟩ := hp16.open
  clear hx hy
  go_enter Tryz.func143, Tryz.ntmps143
  go_wp2_with fail
  refine (eqOccurrence_any _ _ _ _ y0 z0 _ (Rd.gr hry0 (by repeat (first | exact Gr.refl _ | apply Gr.ext | apply Gr.alloc | apply Gr.drew))) (Rd.gr hrz0 (by repeat (first | exact Gr.refl _ | apply Gr.ext | apply Gr.alloc | apply Gr.drew)))).mono ?_
  rintro e w0 ⟨rfl, x0, rfl⟩
  go_wp2_with fail
  · have ht : (!decide (y0 = z0)) = true := by assumption
    go_ret
    exact ⟨ret_bool (decide_eq_false fun e => dec_ne ht (HNy0.out.trans ((congrArg (fun z : (GEquation d) => z.1) e).trans HNz0.out.symm))).symm, (by repeat (first | exact Gr.refl _ | apply Gr.ext | apply Gr.alloc | apply Gr.drew))⟩
  · skip
    have e0 := Lib.hid (dec_eq (show (!decide (y0 = z0)) = false by assumption))
    refine (eqExpr_any _ _ _ _ y1 z1 _ (Rd.gr hry1 (by repeat (first | exact Gr.refl _ | apply Gr.ext | apply Gr.alloc | apply Gr.drew))) (Rd.gr hrz1 (by repeat (first | exact Gr.refl _ | apply Gr.ext | apply Gr.alloc | apply Gr.drew)))).mono ?_
    rintro e w1 ⟨rfl, x1, rfl⟩
    go_wp2_with fail
    · have ht : (!decide (y1 = z1)) = true := by assumption
      go_ret
      exact ⟨ret_bool (decide_eq_false fun e => dec_ne ht (HNy1.out.trans ((congrArg (fun z : (GEquation d) => z.2) e).trans HNz1.out.symm))).symm, (by repeat (first | exact Gr.refl _ | apply Gr.ext | apply Gr.alloc | apply Gr.drew))⟩
    · skip
      have e1 := Lib.hid (dec_eq (show (!decide (y1 = z1)) = false by assumption))
      go_ret
      exact ⟨ret_bool (decide_eq_true (Equation_ext q00 q01 q10 q11 q12 q13 q14 q15 q16 p00 p01 p10 p11 p12 p13 p14 p15 p16 (HNy0.out.symm.trans (e0.out.trans HNz0.out)) (HNy1.out.symm.trans (e1.out.trans HNz1.out)))).symm, (by repeat (first | exact Gr.refl _ | apply Gr.ext | apply Gr.alloc | apply Gr.drew))⟩

set_option maxHeartbeats 1000000 in
theorem toEquation_any (fp : List Nat) (cs : Array Value) (x : (GEquation d)) (w : World) (hx : Rd.rd fp w cs.toList x) (hl : wtEquation x ≤ 1048576) :
    Calls Tryz.prog 140 #[.agg cs] w fun e w' => ∃ ds fq, e = .returned (.agg ds) ∧ Rd.rd fq w' ds.toList x ∧ Fresh w fq ∧ Gr w w' := by
  obtain ⟨⟨q00, q01⟩, ⟨q10, q11, q12, q13, q14, q15, q16⟩⟩ := x
  obtain ⟨vq16, fq16, rfl, -, hq00, hq01, hq10, hq11, hq12, hq13, hq14, hq15, hq16⟩ := rdEquation_inv q00 q01 q10 q11 q12 q13 q14 q15 q16 hx
  have hry0 := (rdOccurrence_mk q00 q01 hq00 hq01 : Rd.rd (α := GOccurrence) _ w _ _)
  obtain ⟨y0, hny0⟩ : ∃ y : GOccurrence, y = (q00, q01) := ⟨_, rfl⟩
  rw [← hny0] at hry0
  have HNy0 := Lib.hid hny0
  clear hny0
  have hry1 := (rdExpr_mk q10 q11 q12 q13 q14 q15 q16 hq10 hq11 hq12 hq13 hq14 hq15 hq16 : Rd.rd (α := (GExpr d)) _ w _ _)
  obtain ⟨y1, hny1⟩ : ∃ y : (GExpr d), y = (q10, q11, q12, q13, q14, q15, q16) := ⟨_, rfl⟩
  rw [← hny1] at hry1
  have HNy1 := Lib.hid hny1
  clear hny1
  obtain ⟨aq16, cq16, rfl, -, -, -⟩ := hq16.open
  have hwt : wtEquation ((q00, q01), (q10, q11, q12, q13, q14, q15, q16)) = (wtOccurrence y0) + (wtExpr y1) := by rw [HNy0.out]; rw [HNy1.out]; rfl
  have HW := Lib.hid hwt
  clear hwt hx
  go_enter Tryz.func140, Tryz.ntmps140
  go_wp2_with fail
  refine (toOccurrence_any _ _ y0 _ (Rd.gr hry0 (by repeat (first | exact Gr.refl _ | apply Gr.ext | apply Gr.alloc | apply Gr.drew)))).mono ?_
  rintro e w0 ⟨rfl, x0, rfl⟩
  go_wp2_with fail
  refine (toExpr_any _ _ y1 _ (Rd.gr hry1 (by repeat (first | exact Gr.refl _ | apply Gr.ext | apply Gr.alloc | apply Gr.drew))) (by have := HW.out; omega)).mono ?_
  rintro e w1 ⟨ds1, g1, rfl, s1, fr1, x1, rfl⟩
  rw [HNy1.out] at s1
  obtain ⟨uq16, gq16, rfl, hg1, -, -, -, -, -, -, kq16⟩ := rdExpr_inv q10 q11 q12 q13 q14 q15 q16 s1
  rw [hg1] at fr1
  clear hg1
  obtain ⟨aaq16, ccq16, rfl, -, -, -⟩ := kq16.open
  go_wp2_with fail
  have hfresh : Fresh w gq16 := by
    exact (Fresh.of_le fr1 (by simp <;> omega))
  exact bodyPost_ret (v := .agg #[.int .i64 q00, .string q01, .int .i64 q10, .int .i64 q11, .int .i64 q12, .int .i64 q13, .string q14, .string q15, .slice aaq16 q16.length ccq16]) (by simp [results, Tryz.results140, go_sem]) rfl
    ⟨_, _, rfl, rdEquation_mk q00 q01 q10 q11 q12 q13 q14 q15 q16 hq00 hq01 hq10 hq11 hq12 hq13 hq14 hq15 (SlR.moved kq16 fr1 (by repeat (first | exact Gr.refl _ | apply Gr.ext | apply Gr.alloc | apply Gr.drew)) (by simp)), hfresh, (by repeat (first | exact Gr.refl _ | apply Gr.ext | apply Gr.alloc | apply Gr.drew))⟩

def wtEquationS (xs : List (GEquation d)) : Nat := wtL wtEquation xs

set_option maxHeartbeats 1000000 in
theorem szEquationS_any (fp : List Nat) (u : Value) (xs : List (GEquation d)) (left : Int) (w : World) (hu : SlR fp w u xs) (h0 : 0 ≤ left) (h1 : left ≤ 1048576) :
    Calls Tryz.prog 114 #[u, .int .i64 left] w fun e w' => e = .returned (.int .i64 (less left (wtEquationS xs))) ∧ Gr w w' := by
  obtain ⟨a, ca, rfl, g1, g2, g3⟩ := hu.open
  by_cases hneg : left - xs.length < 0
  · have hle : less left (wtEquationS xs) = -1 := by unfold less wtEquationS wtL; rw [if_pos (by omega)]
    have HL := Lib.hid hle
    clear hle
    go_enter Tryz.func114, Tryz.ntmps114
    go_wp2
    go_ret
    exact ⟨ret_int HL.out.symm, Gr.refl w⟩
  · have hl0 : less left xs.length = left - xs.length := by unfold less; rw [if_neg hneg]
    have HL0 := Lib.hid hl0
    clear hl0
    go_enter Tryz.func114, Tryz.ntmps114
    go_wp2
    go_loopw [5, 1] (fun s5 s1 wr => ∃ (k : Nat) (m : Int), k ≤ xs.length ∧ 0 ≤ m ∧ m ≤ 1048576 ∧ Hid (m = less left (xs.length + ((xs.take k).map wtEquation).sum)) ∧ Gr w wr ∧ s5 = .int .i64 k ∧ s1 = .int .i64 m) (fun s5 _ _ => xs.length - (intOf s5).toNat)
    case atStart => exact ⟨0, _, by omega, by omega, by omega, Lib.hid (by simp [HL0.out]), Gr.refl w, rfl, rfl⟩
    case round =>
      obtain ⟨k, m, hk, hm0, hm1, hm, ⟨x, rfl⟩, rfl, rfl⟩ := hrel
      by_cases hlt : k < xs.length
      · obtain ⟨b, off, rfl, hb⟩ := g3 k hlt
        have hsum := Lib.hid (sum_take_succ wtEquation xs k hlt)
        obtain ⟨csq, feq, hcq, hrq, -⟩ := hu.at hlt
        have hrdq := hrq
        generalize xs[k] = yq at hrq
        obtain ⟨⟨q00, q01⟩, ⟨q10, q11, q12, q13, q14, q15, q16⟩⟩ := yq
        obtain ⟨vq16, fq16, hcsq, -, hq00, hq01, hq10, hq11, hq12, hq13, hq14, hq15, hq16⟩ := rdEquation_inv (cs := csq.toArray) q00 q01 q10 q11 q12 q13 q14 q15 q16 (by simpa using hrq)
        obtain rfl : csq = [.int .i64 q00, .string q01, .int .i64 q10, .int .i64 q11, .int .i64 q12, .int .i64 q13, .string q14, .string q15, vq16] := by have := congrArg Array.toList hcsq; simpa using this
        have z0 : w.cell? ⟨b, off + k * 9, none⟩ = some (.int .i64 q00) := by simpa [Rd.n] using hcq 0 _ rfl
        have z1 : w.cell? ⟨b, off + k * 9 + 1, none⟩ = some (.string q01) := hcq 1 _ rfl
        have z2 : w.cell? ⟨b, off + k * 9 + 2, none⟩ = some (.int .i64 q10) := hcq 2 _ rfl
        have z3 : w.cell? ⟨b, off + k * 9 + 3, none⟩ = some (.int .i64 q11) := hcq 3 _ rfl
        have z4 : w.cell? ⟨b, off + k * 9 + 4, none⟩ = some (.int .i64 q12) := hcq 4 _ rfl
        have z5 : w.cell? ⟨b, off + k * 9 + 5, none⟩ = some (.int .i64 q13) := hcq 5 _ rfl
        have z6 : w.cell? ⟨b, off + k * 9 + 6, none⟩ = some (.string q14) := hcq 6 _ rfl
        have z7 : w.cell? ⟨b, off + k * 9 + 7, none⟩ = some (.string q15) := hcq 7 _ rfl
        have z8 : w.cell? ⟨b, off + k * 9 + 8, none⟩ = some (vq16) := hcq 8 _ rfl
        have hmono := less_le m (wtEquation xs[k]) (by omega)
        clear g3 hcsq hcq hrq
        go_wp2_with (go_at_call 137; refine (szEquation_any _ _ xs[k] _ _ (Rd.gr hrdq ((Gr.refl w).ext _)) (by omega) (by omega)).mono ?_; rintro e w1 ⟨rfl, y, rfl⟩)
        · have hx : less m (wtEquation xs[k]) < 0 := by assumption
          go_ret
          refine ⟨ret_int ?_, (by repeat (first | exact Gr.refl _ | apply Gr.ext | apply Gr.alloc | apply Gr.drew))⟩
          have e := hm.out
          subst e
          rw [less_less, Nat.add_assoc, ← hsum.out] at hx
          exact (less_mono hx (Nat.add_le_add_left (sum_take_le wtEquation xs (k + 1)) _) h0).symm
        · have hx : 0 ≤ less m (wtEquation xs[k]) := by assumption
          refine ⟨⟨k + 1, _, by omega, hx, by omega, Lib.hid ?_, (by repeat (first | exact Gr.refl _ | apply Gr.ext | apply Gr.alloc | apply Gr.drew)), by go_num, rfl⟩, by simp [intOf]; omega⟩
          rw [hsum.out, hm.out, less_less, Nat.add_assoc]
      · have hk2 : k = xs.length := by omega
        subst hk2
        have hm2 := hm.out
        rw [List.take_length] at hm2
        have HM := Lib.hid hm2
        clear hm2 hm
        go_wp2
        go_ret
        exact ⟨ret_int HM.out, (by repeat (first | exact Gr.refl _ | apply Gr.ext | apply Gr.alloc | apply Gr.drew))⟩

set_option maxHeartbeats 1000000 in
theorem eqEquationS_any (fp fq : List Nat) (u v : Value) (xs ys : List (GEquation d)) (w : World) (hu : SlR fp w u xs) (hv : SlR fq w v ys) :
    Calls Tryz.prog 131 #[u, v] w fun e w' => e = .returned (.bool (decide (xs = ys))) ∧ Gr w w' := by
  obtain ⟨a, ca, rfl, h1, h2, h3⟩ := hu.open
  obtain ⟨c, cc, rfl, g1, g2, g3⟩ := hv.open
  by_cases hl : xs.length = ys.length
  · have hl' := Lib.hid hl
    have hne : ((xs.length : Int) != (ys.length : Int)) = false := by simp [hl]
    clear hl
    go_enter Tryz.func131, Tryz.ntmps131
    go_wp2
    go_loopw [5] (fun s5 wr => ∃ k : Nat, k ≤ xs.length ∧ xs.take k = ys.take k ∧ Gr w wr ∧ s5 = .int .i64 k) (fun s5 _ => xs.length - (intOf s5).toNat)
    case atStart => exact ⟨0, by omega, rfl, Gr.refl w, rfl⟩
    case round =>
      obtain ⟨k, hk, ht, ⟨x, rfl⟩, rfl⟩ := hrel
      by_cases hlt : k < xs.length
      · have hlt2 : k < ys.length := by have := hl'.out; omega
        obtain ⟨b, off, rfl, hb⟩ := h3 k hlt
        obtain ⟨b', off', rfl, hb'⟩ := g3 k hlt2
        obtain ⟨csq, feq, hcq, hrq, -⟩ := hu.at hlt
        have hrdq := hrq
        generalize xs[k] = yq at hrq
        obtain ⟨⟨q00, q01⟩, ⟨q10, q11, q12, q13, q14, q15, q16⟩⟩ := yq
        obtain ⟨vq16, fq16, hcsq, -, hq00, hq01, hq10, hq11, hq12, hq13, hq14, hq15, hq16⟩ := rdEquation_inv (cs := csq.toArray) q00 q01 q10 q11 q12 q13 q14 q15 q16 (by simpa using hrq)
        obtain rfl : csq = [.int .i64 q00, .string q01, .int .i64 q10, .int .i64 q11, .int .i64 q12, .int .i64 q13, .string q14, .string q15, vq16] := by have := congrArg Array.toList hcsq; simpa using this
        obtain ⟨csp, fep, hcp, hrp, -⟩ := hv.at hlt2
        have hrdp := hrp
        generalize ys[k] = yp at hrp
        obtain ⟨⟨p00, p01⟩, ⟨p10, p11, p12, p13, p14, p15, p16⟩⟩ := yp
        obtain ⟨vp16, fp16, hcsp, -, hp00, hp01, hp10, hp11, hp12, hp13, hp14, hp15, hp16⟩ := rdEquation_inv (cs := csp.toArray) p00 p01 p10 p11 p12 p13 p14 p15 p16 (by simpa using hrp)
        obtain rfl : csp = [.int .i64 p00, .string p01, .int .i64 p10, .int .i64 p11, .int .i64 p12, .int .i64 p13, .string p14, .string p15, vp16] := by have := congrArg Array.toList hcsp; simpa using this
        have z0 : w.cell? ⟨b, off + k * 9, none⟩ = some (.int .i64 q00) := by simpa [Rd.n] using hcq 0 _ rfl
        have z1 : w.cell? ⟨b, off + k * 9 + 1, none⟩ = some (.string q01) := hcq 1 _ rfl
        have z2 : w.cell? ⟨b, off + k * 9 + 2, none⟩ = some (.int .i64 q10) := hcq 2 _ rfl
        have z3 : w.cell? ⟨b, off + k * 9 + 3, none⟩ = some (.int .i64 q11) := hcq 3 _ rfl
        have z4 : w.cell? ⟨b, off + k * 9 + 4, none⟩ = some (.int .i64 q12) := hcq 4 _ rfl
        have z5 : w.cell? ⟨b, off + k * 9 + 5, none⟩ = some (.int .i64 q13) := hcq 5 _ rfl
        have z6 : w.cell? ⟨b, off + k * 9 + 6, none⟩ = some (.string q14) := hcq 6 _ rfl
        have z7 : w.cell? ⟨b, off + k * 9 + 7, none⟩ = some (.string q15) := hcq 7 _ rfl
        have z8 : w.cell? ⟨b, off + k * 9 + 8, none⟩ = some (vq16) := hcq 8 _ rfl
        have zz0 : w.cell? ⟨b', off' + k * 9, none⟩ = some (.int .i64 p00) := by simpa [Rd.n] using hcp 0 _ rfl
        have zz1 : w.cell? ⟨b', off' + k * 9 + 1, none⟩ = some (.string p01) := hcp 1 _ rfl
        have zz2 : w.cell? ⟨b', off' + k * 9 + 2, none⟩ = some (.int .i64 p10) := hcp 2 _ rfl
        have zz3 : w.cell? ⟨b', off' + k * 9 + 3, none⟩ = some (.int .i64 p11) := hcp 3 _ rfl
        have zz4 : w.cell? ⟨b', off' + k * 9 + 4, none⟩ = some (.int .i64 p12) := hcp 4 _ rfl
        have zz5 : w.cell? ⟨b', off' + k * 9 + 5, none⟩ = some (.int .i64 p13) := hcp 5 _ rfl
        have zz6 : w.cell? ⟨b', off' + k * 9 + 6, none⟩ = some (.string p14) := hcp 6 _ rfl
        have zz7 : w.cell? ⟨b', off' + k * 9 + 7, none⟩ = some (.string p15) := hcp 7 _ rfl
        have zz8 : w.cell? ⟨b', off' + k * 9 + 8, none⟩ = some (vp16) := hcp 8 _ rfl
        have hT := Lib.hid ht
        clear h3 g3 ht hcsq hcsp hcq hcp hrq hrp
        go_wp2_with fail
        refine wp_region_grown (by kernel_rfl) (by kernel_rfl) ?_
        repeat (go_big_quiet_step ((go_at_call 143; refine grown_call (eqEquation_any _ _ _ _ xs[k] ys[k] _ (Rd.gr hrdq ?_) (Rd.gr hrdp ?_)) <;> exact ((Gr.refl w).ext _).ext _)))
        refine wpQuiet_nil ?_
        intro _ hw'
        obtain ⟨nx, hw''⟩ := hw'
        subst hw''
        go_wp2
        · have ht : (!decide (xs[k] = ys[k])) = true := by assumption
          go_ret
          have E : xs ≠ ys := fun e => dec_ne ht (by subst e; rfl)
          exact ⟨ret_bool (decide_eq_false E).symm, (by repeat (first | exact Gr.refl _ | apply Gr.ext | apply Gr.alloc | apply Gr.drew))⟩
        · have ht : (!decide (xs[k] = ys[k])) = false := by assumption
          have e2 := dec_eq ht
          refine ⟨⟨k + 1, by omega, ?_, (by repeat (first | exact Gr.refl _ | apply Gr.ext | apply Gr.alloc | apply Gr.drew)), by go_num⟩, by simp [intOf]; omega⟩
          rw [List.take_succ_eq_append_getElem hlt, List.take_succ_eq_append_getElem hlt2, hT.out, e2]
      · have hk2 : k = xs.length := by omega
        subst hk2
        have e : xs = ys := by
          have h := ht
          have h' := hl'.out
          rw [List.take_length, h', List.take_length] at h
          exact h
        have E := Lib.hid e
        clear e ht
        go_wp2
        go_ret
        exact ⟨ret_bool (decide_eq_true E.out).symm, (by repeat (first | exact Gr.refl _ | apply Gr.ext | apply Gr.alloc | apply Gr.drew))⟩
  · have hne : ((xs.length : Int) != (ys.length : Int)) = true := by simp; omega
    have e : xs ≠ ys := fun e => hl (by rw [e])
    have E := Lib.hid e
    clear e hl
    go_enter Tryz.func131, Tryz.ntmps131
    go_wp2
    go_ret
    exact ⟨ret_bool (decide_eq_false E.out).symm, Gr.refl w⟩

theorem Tryz.infoEquation : (Tryz.prog.info? 182).map (fun i => (i.zero, i.size, i.bytes)) = some (some (.agg #[.int .i64 0, .string ByteArray.empty, .int .i64 0, .int .i64 0, .int .i64 0, .int .i64 0, .string ByteArray.empty, .string ByteArray.empty, .slice none 0 0]), 9, 112) := by kernel_rfl

set_option maxHeartbeats 4000000 in
theorem toEquationS_any (fp : List Nat) (u : Value) (xs : List (GEquation d)) (w : World) (hu : SlR fp w u xs) (hlen : wtEquationS xs ≤ 1048576) :
    Calls Tryz.prog 122 #[u] w fun e w' => ∃ v fq, e = .returned v ∧ SlR fq w' v xs ∧ Fresh w fq ∧ Gr w w' := by
  obtain ⟨a, ca, rfl, h1, h2, h3⟩ := hu.open
  have hll : xs.length ≤ 1048576 := Nat.le_trans (wtL_len wtEquation xs) hlen
  obtain ⟨i0, hi, hz0, hz1, hz2⟩ := info_parts Tryz.infoEquation
  have hmk := fun (W : World) => run_make (P := Tryz.prog) W 98 182 i0 (.agg #[.int .i64 0, .string ByteArray.empty, .int .i64 0, .int .i64 0, .int .i64 0, .int .i64 0, .string ByteArray.empty, .string ByteArray.empty, .slice none 0 0]) Tryz.underlying98 hi hz0 .i64 .i64 xs.length xs.length (by omega) (by omega) (by rw [hz2]; omega) (by omega)
  rw [hz1] at hmk
  clear hi hz0 hz1 hz2
  simp only [Int.toNat_natCast] at hmk
  have hms := size_madeCells (Value.agg #[.int .i64 0, .string ByteArray.empty, .int .i64 0, .int .i64 0, .int .i64 0, .int .i64 0, .string ByteArray.empty, .string ByteArray.empty, .slice none 0 0]).cells (xs.length * 9)
  generalize madeCells (Value.agg #[.int .i64 0, .string ByteArray.empty, .int .i64 0, .int .i64 0, .int .i64 0, .int .i64 0, .string ByteArray.empty, .string ByteArray.empty, .slice none 0 0]).cells (xs.length * 9) = C0 at hmk hms
  have HS := Lib.hid hms
  have HLS := Lib.hid hlen
  clear hms hlen
  go_enter Tryz.func122, Tryz.ntmps122
  go_wp2
  go_loopw [4] (fun s4 wr => ∃ (k : Nat) (C : Array Value) (x : Ext) (fps : List (List Nat)), C.size = xs.length * 9 ∧ PartR w w.heap.size wr C k fps xs ∧ wr = (w.alloc (.cells C 182)).ext x ∧ s4 = .int .i64 k) (fun s4 _ => xs.length - (intOf s4).toNat)
  case atStart => exact ⟨0, C0, ⟨#[], 0⟩, [], HS.out, PartR.start _ _ (Nat.le_refl _) (by simp), (ext_zero _).symm, rfl⟩
  case round =>
    obtain ⟨k, C, x, fps, hC, hp, rfl, rfl⟩ := hrel
    have hCs := Lib.hid hC
    have hk := hp.le
    by_cases hlt : k < xs.length
    · obtain ⟨b, off, rfl, hb⟩ := h3 k hlt
      have hwk := wtL_at wtEquation xs hlt
      obtain ⟨csq, feq, hcq, hrq, -⟩ := hu.at hlt
      have hrdq := hrq
      generalize xs[k] = yq at hrq
      obtain ⟨⟨q00, q01⟩, ⟨q10, q11, q12, q13, q14, q15, q16⟩⟩ := yq
      obtain ⟨vq16, fq16, hcsq, -, hq00, hq01, hq10, hq11, hq12, hq13, hq14, hq15, hq16⟩ := rdEquation_inv (cs := csq.toArray) q00 q01 q10 q11 q12 q13 q14 q15 q16 (by simpa using hrq)
      obtain rfl : csq = [.int .i64 q00, .string q01, .int .i64 q10, .int .i64 q11, .int .i64 q12, .int .i64 q13, .string q14, .string q15, vq16] := by have := congrArg Array.toList hcsq; simpa using this
      have z0 : w.cell? ⟨b, off + k * 9, none⟩ = some (.int .i64 q00) := by simpa [Rd.n] using hcq 0 _ rfl
      have z1 : w.cell? ⟨b, off + k * 9 + 1, none⟩ = some (.string q01) := hcq 1 _ rfl
      have z2 : w.cell? ⟨b, off + k * 9 + 2, none⟩ = some (.int .i64 q10) := hcq 2 _ rfl
      have z3 : w.cell? ⟨b, off + k * 9 + 3, none⟩ = some (.int .i64 q11) := hcq 3 _ rfl
      have z4 : w.cell? ⟨b, off + k * 9 + 4, none⟩ = some (.int .i64 q12) := hcq 4 _ rfl
      have z5 : w.cell? ⟨b, off + k * 9 + 5, none⟩ = some (.int .i64 q13) := hcq 5 _ rfl
      have z6 : w.cell? ⟨b, off + k * 9 + 6, none⟩ = some (.string q14) := hcq 6 _ rfl
      have z7 : w.cell? ⟨b, off + k * 9 + 7, none⟩ = some (.string q15) := hcq 7 _ rfl
      have z8 : w.cell? ⟨b, off + k * 9 + 8, none⟩ = some (vq16) := hcq 8 _ rfl
      have y0 : k * 9 < C.size := by omega
      have y1 : k * 9 + 1 < C.size := by omega
      have y2 : k * 9 + 2 < C.size := by omega
      have y3 : k * 9 + 3 < C.size := by omega
      have y4 : k * 9 + 4 < C.size := by omega
      have y5 : k * 9 + 5 < C.size := by omega
      have y6 : k * 9 + 6 < C.size := by omega
      have y7 : k * 9 + 7 < C.size := by omega
      have y8 : k * 9 + 8 < C.size := by omega
      have hwl : wtEquation xs[k] ≤ 1048576 := Nat.le_trans hwk HLS.out
      have hd0 : k * 9 + 9 ≤ C.size := by omega
      have HD := Lib.hid hd0
      clear hC h3 hcsq hcq hrq hwk hd0
      go_wp2_with (go_at_call 140; refine (toEquation_any _ _ xs[k] _ (Rd.gr hrdq (by repeat (first | exact Gr.refl _ | apply Gr.ext | apply Gr.alloc | apply Gr.drew))) (by omega)).mono ?_; rintro e w1 ⟨ds, fq, rfl, hs, hf, y, rfl⟩; have hs2 := hs; generalize xs[k] = yr at hs2; obtain ⟨⟨r00, r01⟩, ⟨r10, r11, r12, r13, r14, r15, r16⟩⟩ := yr; obtain ⟨vr16, fr16, rfl, hfq, kr00, kr01, kr10, kr11, kr12, kr13, kr14, kr15, kr16⟩ := rdEquation_inv r00 r01 r10 r11 r12 r13 r14 r15 r16 hs2; obtain ⟨aar16, ccr16, rfl, -, -, -⟩ := kr16.open; clear hfq)
      rw [ext_ext, ← setRow_9]
      refine ⟨⟨k + 1, setRow C (k * 9) [.int .i64 r00, .string r01, .int .i64 r10, .int .i64 r11, .int .i64 r12, .int .i64 r13, .string r14, .string r15, .slice aar16 r16.length ccr16], x.comp y, fps ++ [fq], ?_, ?_, rfl, by go_num⟩, by simp [intOf]; omega⟩
      · rw [setRow_size]; exact hCs.out
      · refine hp.step_own hlt (C' := setRow C (k * 9) [.int .i64 r00, .string r01, .int .i64 r10, .int .i64 r11, .int .i64 r12, .int .i64 r13, .string r14, .string r15, .slice aar16 r16.length ccr16]) (cs := [.int .i64 r00, .string r01, .int .i64 r10, .int .i64 r11, .int .i64 r12, .int .i64 r13, .string r14, .string r15, .slice aar16 r16.length ccr16]) ?_ hf (fun j hj => setRow_lt _ _ _ _ hj) (setRow_get _ _ _ HD.out)
        exact hs
    · have hk2 : k = xs.length := by omega
      subst hk2
      obtain ⟨fq, hs, hf⟩ := hp.done (heap_own_self _ x) (cap := xs.length) (Nat.le_refl _) (by unfold reachLen; omega)
      have HF := Lib.hid hs
      clear hs hC
      go_wp2
      go_ret
      exact ⟨_, fq, rfl, HF.out, hf, (by repeat (first | exact Gr.refl _ | apply Gr.ext | apply Gr.alloc | apply Gr.drew))⟩

end Go.Proofs.YtbfmeiooeaaibaaGreat
