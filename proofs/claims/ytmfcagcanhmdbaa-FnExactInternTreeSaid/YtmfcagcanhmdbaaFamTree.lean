/- Contracts of the functions that measure, compare and copy: Node, Node*, Tree. Made by mk_fam.py. No condition. -/
import Derived.Test.YtmfcagcanhmdbaaIntsD
namespace Go.Proofs.Ytmfcagcanhmdbaa
open Go.RowKit

abbrev GNode := Int × Int × Int × Int × ByteArray × List Int
def wtNode (x : GNode) : Nat := x.2.2.2.2.1.size + x.2.2.2.2.2.length
instance decNode : DecidableEq GNode := @instDecidableEqProd _ _ _ (@instDecidableEqProd _ _ _ (@instDecidableEqProd _ _ _ (@instDecidableEqProd _ _ _ (@instDecidableEqProd _ _ _ (inferInstance)))))

theorem rdNode_inv {fp : List Nat} {w : World} {cs : Array Value} (q0 : Int) (q1 : Int) (q2 : Int) (q3 : Int) (q4 : ByteArray) (q5 : List Int) (h : Rd.rd (α := GNode) fp w cs.toList (q0, q1, q2, q3, q4, q5)) :
    ∃ vq5 fq5, cs = #[.int .i64 q0, .int .i64 q1, .int .i64 q2, .int .i64 q3, .string q4, vq5] ∧ fp = ([] ++ ([] ++ ([] ++ ([] ++ ([] ++ fq5))))) ∧ (Lit.int .i64 q0).wf = true ∧ (Lit.int .i64 q1).wf = true ∧ (Lit.int .i64 q2).wf = true ∧ (Lit.int .i64 q3).wf = true ∧ q4.size ≤ maxLen ∧ SlR fq5 w vq5 q5 := by
  generalize hcs : cs.toList = l at h
  obtain ⟨_, _, _, _, rfl, rfl, ⟨rfl, rfl, hq0⟩, ⟨_, _, _, _, rfl, rfl, ⟨rfl, rfl, hq1⟩, ⟨_, _, _, _, rfl, rfl, ⟨rfl, rfl, hq2⟩, ⟨_, _, _, _, rfl, rfl, ⟨rfl, rfl, hq3⟩, ⟨_, _, _, _, rfl, rfl, ⟨rfl, rfl, hq4⟩, ⟨vq5, rfl, hq5⟩⟩⟩⟩⟩⟩ := h
  exact ⟨_, _, Array.toList_inj.1 (by simpa using hcs), rfl, hq0, hq1, hq2, hq3, hq4, hq5⟩

theorem rdNode_shape {fp : List Nat} {w : World} {cs : Array Value} {x : GNode} (h : Rd.rd (α := GNode) fp w cs.toList x) :
    ∃ q0 q1 q2 q3 q4 aq5 lq5 cq5, cs = #[.int .i64 q0, .int .i64 q1, .int .i64 q2, .int .i64 q3, .string q4, .slice aq5 lq5 cq5] := by
  obtain ⟨q0, q1, q2, q3, q4, q5⟩ := x
  obtain ⟨vq5, fq5, rfl, -, -, -, -, -, -, hq5⟩ := rdNode_inv q0 q1 q2 q3 q4 q5 h
  obtain ⟨aq5, cq5, rfl, -, -, -⟩ := hq5.open
  exact ⟨_, _, _, _, _, _, _, _, rfl⟩

theorem rdNode_mk {w : World} (q0 : Int) (q1 : Int) (q2 : Int) (q3 : Int) (q4 : ByteArray) (q5 : List Int) {vq5 : Value} {fq5 : List Nat} (hq0 : (Lit.int .i64 q0).wf = true) (hq1 : (Lit.int .i64 q1).wf = true) (hq2 : (Lit.int .i64 q2).wf = true) (hq3 : (Lit.int .i64 q3).wf = true) (hq4 : q4.size ≤ maxLen) (hq5 : SlR fq5 w vq5 q5) :
    Rd.rd (α := GNode) (([] ++ ([] ++ ([] ++ ([] ++ ([] ++ fq5)))))) w [.int .i64 q0, .int .i64 q1, .int .i64 q2, .int .i64 q3, .string q4, vq5] (q0, q1, q2, q3, q4, q5) := ⟨_, _, _, _, rfl, rfl, ⟨rfl, rfl, hq0⟩, ⟨_, _, _, _, rfl, rfl, ⟨rfl, rfl, hq1⟩, ⟨_, _, _, _, rfl, rfl, ⟨rfl, rfl, hq2⟩, ⟨_, _, _, _, rfl, rfl, ⟨rfl, rfl, hq3⟩, ⟨_, _, _, _, rfl, rfl, ⟨rfl, rfl, hq4⟩, ⟨_, rfl, hq5⟩⟩⟩⟩⟩⟩

set_option maxHeartbeats 1000000 in
theorem szNode_any (fp : List Nat) (cs : Array Value) (x : GNode) (left : Int) (w : World) (hx : Rd.rd fp w cs.toList x) (h0 : 0 ≤ left) (h1 : left ≤ 1048576) :
    Calls Try.prog 68 #[.agg cs, .int .i64 left] w fun e w' => e = .returned (.int .i64 (less left (wtNode x))) ∧ Gr w w' := by
  obtain ⟨q0, q1, q2, q3, q4, q5⟩ := x
  obtain ⟨vq5, fq5, rfl, -, hq0, hq1, hq2, hq3, hq4, hq5⟩ := rdNode_inv q0 q1 q2 q3 q4 q5 hx
  unfold maxLen at hq4
  obtain ⟨aq5, cq5, rfl, bq5, dq5, -⟩ := hq5.open
  have hwt : wtNode (q0, q1, q2, q3, q4, q5) = (q4.size) + (q5.length) := by rfl
  have HW := Lib.hid hwt
  clear hwt hx
  go_enter Try.func68, Try.ntmps68
  go_wp2_with fail
  · go_ret
    refine ⟨ret_int ?_, (by repeat (first | exact Gr.refl _ | apply Gr.ext | apply Gr.alloc | apply Gr.drew))⟩
    have := less_cases left (wtNode (q0, q1, q2, q3, q4, q5))
    have := HW.out
    omega
  · skip
    refine (szIntS_gr fq5 _ _ _ _ (hq5.gr (by repeat (first | exact Gr.refl _ | apply Gr.ext | apply Gr.alloc | apply Gr.drew))) (by omega) (by omega)).mono ?_
    rintro e w5 ⟨rfl, x5, rfl⟩
    have hb5 := less_le (left - ↑q4.size) (q5.length) (by omega)
    go_wp2_with fail
    · go_ret
      refine ⟨ret_int ?_, (by repeat (first | exact Gr.refl _ | apply Gr.ext | apply Gr.alloc | apply Gr.drew))⟩
      have := less_cases left (wtNode (q0, q1, q2, q3, q4, q5))
      have := HW.out
      have := less_cases (left - ↑q4.size) (q5.length)
      omega
    · skip
      go_ret
      refine ⟨ret_int ?_, (by repeat (first | exact Gr.refl _ | apply Gr.ext | apply Gr.alloc | apply Gr.drew))⟩
      have := less_cases left (wtNode (q0, q1, q2, q3, q4, q5))
      have := HW.out
      have := less_cases (left - ↑q4.size) (q5.length)
      omega

theorem Node_ext (q0 : Int) (q1 : Int) (q2 : Int) (q3 : Int) (q4 : ByteArray) (q5 : List Int) (p0 : Int) (p1 : Int) (p2 : Int) (p3 : Int) (p4 : ByteArray) (p5 : List Int) (e0 : q0 = p0) (e1 : q1 = p1) (e2 : q2 = p2) (e3 : q3 = p3) (e4 : q4 = p4) (e5 : q5 = p5) : ((q0, q1, q2, q3, q4, q5) : GNode) = (p0, p1, p2, p3, p4, p5) := by
  exact Prod.ext_iff.2 ⟨e0, Prod.ext_iff.2 ⟨e1, Prod.ext_iff.2 ⟨e2, Prod.ext_iff.2 ⟨e3, Prod.ext_iff.2 ⟨e4, e5⟩⟩⟩⟩⟩

set_option maxHeartbeats 1000000 in
theorem eqNode_any (fp fq : List Nat) (cs ds : Array Value) (x y : GNode) (w : World) (hx : Rd.rd fp w cs.toList x) (hy : Rd.rd fq w ds.toList y) :
    Calls Try.prog 74 #[.agg cs, .agg ds] w fun e w' => e = .returned (.bool (decide (x = y))) ∧ Gr w w' := by
  obtain ⟨q0, q1, q2, q3, q4, q5⟩ := x
  obtain ⟨p0, p1, p2, p3, p4, p5⟩ := y
  obtain ⟨vq5, fq5, rfl, -, hq0, hq1, hq2, hq3, hq4, hq5⟩ := rdNode_inv q0 q1 q2 q3 q4 q5 hx
  obtain ⟨vp5, fp5, rfl, -, hp0, hp1, hp2, hp3, hp4, hp5⟩ := rdNode_inv p0 p1 p2 p3 p4 p5 hy
  obtain ⟨aq5, cq5, rfl, -, -, -⟩ := hq5.open
  obtain ⟨ap5, cp5, rfl, -, -, -⟩ := hp5.open
  clear hx hy
  go_enter Try.func74, Try.ntmps74
  go_wp2_with fail
  · have ht : (q0 != p0) = true := by assumption
    go_ret
    exact ⟨ret_bool (decide_eq_false fun e => int_ne ht (congrArg (fun z : GNode => z.1) e)).symm, (by repeat (first | exact Gr.refl _ | apply Gr.ext | apply Gr.alloc | apply Gr.drew))⟩
  · have ht : (q1 != p1) = true := by assumption
    go_ret
    exact ⟨ret_bool (decide_eq_false fun e => int_ne ht (congrArg (fun z : GNode => z.2.1) e)).symm, (by repeat (first | exact Gr.refl _ | apply Gr.ext | apply Gr.alloc | apply Gr.drew))⟩
  · have ht : (q2 != p2) = true := by assumption
    go_ret
    exact ⟨ret_bool (decide_eq_false fun e => int_ne ht (congrArg (fun z : GNode => z.2.2.1) e)).symm, (by repeat (first | exact Gr.refl _ | apply Gr.ext | apply Gr.alloc | apply Gr.drew))⟩
  · have ht : (q3 != p3) = true := by assumption
    go_ret
    exact ⟨ret_bool (decide_eq_false fun e => int_ne ht (congrArg (fun z : GNode => z.2.2.2.1) e)).symm, (by repeat (first | exact Gr.refl _ | apply Gr.ext | apply Gr.alloc | apply Gr.drew))⟩
  · have ht : (!q4.toList == p4.toList) = true := by assumption
    go_ret
    exact ⟨ret_bool (decide_eq_false fun e => str_ne ht (congrArg (fun z : GNode => z.2.2.2.2.1) e)).symm, (by repeat (first | exact Gr.refl _ | apply Gr.ext | apply Gr.alloc | apply Gr.drew))⟩
  · skip
    have e0 := Lib.hid (int_eq (show (q0 != p0) = false by assumption))
    have e1 := Lib.hid (int_eq (show (q1 != p1) = false by assumption))
    have e2 := Lib.hid (int_eq (show (q2 != p2) = false by assumption))
    have e3 := Lib.hid (int_eq (show (q3 != p3) = false by assumption))
    have e4 := Lib.hid (str_eq (show (!q4.toList == p4.toList) = false by assumption))
    refine (eqIntS_any fq5 fp5 _ _ q5 p5 _ (hq5.gr (by repeat (first | exact Gr.refl _ | apply Gr.ext | apply Gr.alloc | apply Gr.drew))) (hp5.gr (by repeat (first | exact Gr.refl _ | apply Gr.ext | apply Gr.alloc | apply Gr.drew)))).mono ?_
    rintro e w5 ⟨rfl, x5, rfl⟩
    go_wp2_with fail
    · have ht : (!decide (q5 = p5)) = true := by assumption
      go_ret
      exact ⟨ret_bool (decide_eq_false fun e => dec_ne ht (congrArg (fun z : GNode => z.2.2.2.2.2) e)).symm, (by repeat (first | exact Gr.refl _ | apply Gr.ext | apply Gr.alloc | apply Gr.drew))⟩
    · skip
      have e5 := Lib.hid (dec_eq (show (!decide (q5 = p5)) = false by assumption))
      go_ret
      exact ⟨ret_bool (decide_eq_true (Node_ext q0 q1 q2 q3 q4 q5 p0 p1 p2 p3 p4 p5 e0.out e1.out e2.out e3.out e4.out e5.out)).symm, (by repeat (first | exact Gr.refl _ | apply Gr.ext | apply Gr.alloc | apply Gr.drew))⟩

set_option maxHeartbeats 1000000 in
theorem toNode_any (fp : List Nat) (cs : Array Value) (x : GNode) (w : World) (hx : Rd.rd fp w cs.toList x) (hl : wtNode x ≤ 1048576) :
    Calls Try.prog 70 #[.agg cs] w fun e w' => ∃ ds fq, e = .returned (.agg ds) ∧ Rd.rd fq w' ds.toList x ∧ Fresh w fq ∧ Gr w w' := by
  obtain ⟨q0, q1, q2, q3, q4, q5⟩ := x
  obtain ⟨vq5, fq5, rfl, -, hq0, hq1, hq2, hq3, hq4, hq5⟩ := rdNode_inv q0 q1 q2 q3 q4 q5 hx
  obtain ⟨aq5, cq5, rfl, -, -, -⟩ := hq5.open
  have hwt : wtNode (q0, q1, q2, q3, q4, q5) = (q4.size) + (q5.length) := by rfl
  have HW := Lib.hid hwt
  clear hwt hx
  go_enter Try.func70, Try.ntmps70
  go_wp2_with fail
  refine (toIntS_any fq5 _ _ _ (hq5.gr (by repeat (first | exact Gr.refl _ | apply Gr.ext | apply Gr.alloc | apply Gr.drew))) (by have := HW.out; omega)).mono ?_
  rintro e w5 ⟨u5, g5, rfl, s5, fr5, x5, rfl⟩
  obtain ⟨aa5, cc5, rfl, -, -, -⟩ := s5.open
  go_wp2_with fail
  have hfresh : Fresh w g5 := by
    exact (Fresh.of_le fr5 (by simp <;> omega))
  exact bodyPost_ret (v := .agg #[.int .i64 q0, .int .i64 q1, .int .i64 q2, .int .i64 q3, .string q4, .slice aa5 q5.length cc5]) (by simp [results, Try.results70, go_sem]) rfl
    ⟨_, _, rfl, rdNode_mk q0 q1 q2 q3 q4 q5 hq0 hq1 hq2 hq3 hq4 (SlR.moved s5 fr5 (by repeat (first | exact Gr.refl _ | apply Gr.ext | apply Gr.alloc | apply Gr.drew)) (by simp)), hfresh, (by repeat (first | exact Gr.refl _ | apply Gr.ext | apply Gr.alloc | apply Gr.drew))⟩

def wtNodeS (xs : List GNode) : Nat := wtL wtNode xs

set_option maxHeartbeats 1000000 in
theorem szNodeS_any (fp : List Nat) (u : Value) (xs : List GNode) (left : Int) (w : World) (hu : SlR fp w u xs) (h0 : 0 ≤ left) (h1 : left ≤ 1048576) :
    Calls Try.prog 30 #[u, .int .i64 left] w fun e w' => e = .returned (.int .i64 (less left (wtNodeS xs))) ∧ Gr w w' := by
  obtain ⟨a, ca, rfl, g1, g2, g3⟩ := hu.open
  by_cases hneg : left - xs.length < 0
  · have hle : less left (wtNodeS xs) = -1 := by unfold less wtNodeS wtL; rw [if_pos (by omega)]
    have HL := Lib.hid hle
    clear hle
    go_enter Try.func30, Try.ntmps30
    go_wp2
    go_ret
    exact ⟨ret_int HL.out.symm, Gr.refl w⟩
  · have hl0 : less left xs.length = left - xs.length := by unfold less; rw [if_neg hneg]
    have HL0 := Lib.hid hl0
    clear hl0
    go_enter Try.func30, Try.ntmps30
    go_wp2
    go_loopw [5, 1] (fun s5 s1 wr => ∃ (k : Nat) (m : Int), k ≤ xs.length ∧ 0 ≤ m ∧ m ≤ 1048576 ∧ Hid (m = less left (xs.length + ((xs.take k).map wtNode).sum)) ∧ Gr w wr ∧ s5 = .int .i64 k ∧ s1 = .int .i64 m) (fun s5 _ _ => xs.length - (intOf s5).toNat)
    case atStart => exact ⟨0, _, by omega, by omega, by omega, Lib.hid (by simp [HL0.out]), Gr.refl w, rfl, rfl⟩
    case round =>
      obtain ⟨k, m, hk, hm0, hm1, hm, ⟨x, rfl⟩, rfl, rfl⟩ := hrel
      by_cases hlt : k < xs.length
      · obtain ⟨b, off, rfl, hb⟩ := g3 k hlt
        have hsum := Lib.hid (sum_take_succ wtNode xs k hlt)
        obtain ⟨csq, feq, hcq, hrq, -⟩ := hu.at hlt
        have hrdq := hrq
        generalize xs[k] = yq at hrq
        obtain ⟨q0, q1, q2, q3, q4, q5⟩ := yq
        obtain ⟨vq5, fq5, hcsq, -, hq0, hq1, hq2, hq3, hq4, hq5⟩ := rdNode_inv (cs := csq.toArray) q0 q1 q2 q3 q4 q5 (by simpa using hrq)
        obtain rfl : csq = [.int .i64 q0, .int .i64 q1, .int .i64 q2, .int .i64 q3, .string q4, vq5] := by have := congrArg Array.toList hcsq; simpa using this
        have z0 : w.cell? ⟨b, off + k * 6, none⟩ = some (.int .i64 q0) := by simpa [Rd.n] using hcq 0 _ rfl
        have z1 : w.cell? ⟨b, off + k * 6 + 1, none⟩ = some (.int .i64 q1) := hcq 1 _ rfl
        have z2 : w.cell? ⟨b, off + k * 6 + 2, none⟩ = some (.int .i64 q2) := hcq 2 _ rfl
        have z3 : w.cell? ⟨b, off + k * 6 + 3, none⟩ = some (.int .i64 q3) := hcq 3 _ rfl
        have z4 : w.cell? ⟨b, off + k * 6 + 4, none⟩ = some (.string q4) := hcq 4 _ rfl
        have z5 : w.cell? ⟨b, off + k * 6 + 5, none⟩ = some (vq5) := hcq 5 _ rfl
        have hmono := less_le m (wtNode xs[k]) (by omega)
        clear g3 hcsq hcq hrq
        go_wp2_with (go_at_call 68; refine (szNode_any _ _ xs[k] _ _ (Rd.gr hrdq ((Gr.refl w).ext _)) (by omega) (by omega)).mono ?_; rintro e w1 ⟨rfl, y, rfl⟩)
        · have hx : less m (wtNode xs[k]) < 0 := by assumption
          go_ret
          refine ⟨ret_int ?_, (by repeat (first | exact Gr.refl _ | apply Gr.ext | apply Gr.alloc | apply Gr.drew))⟩
          have e := hm.out
          subst e
          rw [less_less, Nat.add_assoc, ← hsum.out] at hx
          exact (less_mono hx (Nat.add_le_add_left (sum_take_le wtNode xs (k + 1)) _) h0).symm
        · have hx : 0 ≤ less m (wtNode xs[k]) := by assumption
          refine ⟨⟨k + 1, _, by omega, hx, by omega, Lib.hid ?_, (by repeat (first | exact Gr.refl _ | apply Gr.ext | apply Gr.alloc | apply Gr.drew)), by go_num, rfl⟩, by simp [intOf]; omega⟩
          rw [hsum.out, hm.out, less_less, Nat.add_assoc]
      · have hk2 : k = xs.length := by omega
        subst hk2
        have hm2 := hm.out
        rw [List.take_length] at hm2
        have HM := Lib.hid hm2
        clear hm2 hm
        go_wp2
        go_ret
        exact ⟨ret_int HM.out, (by repeat (first | exact Gr.refl _ | apply Gr.ext | apply Gr.alloc | apply Gr.drew))⟩

set_option maxHeartbeats 1000000 in
theorem eqNodeS_any (fp fq : List Nat) (u v : Value) (xs ys : List GNode) (w : World) (hu : SlR fp w u xs) (hv : SlR fq w v ys) :
    Calls Try.prog 42 #[u, v] w fun e w' => e = .returned (.bool (decide (xs = ys))) ∧ Gr w w' := by
  obtain ⟨a, ca, rfl, h1, h2, h3⟩ := hu.open
  obtain ⟨c, cc, rfl, g1, g2, g3⟩ := hv.open
  by_cases hl : xs.length = ys.length
  · have hl' := Lib.hid hl
    have hne : ((xs.length : Int) != (ys.length : Int)) = false := by simp [hl]
    clear hl
    go_enter Try.func42, Try.ntmps42
    go_wp2
    go_loopw [5] (fun s5 wr => ∃ k : Nat, k ≤ xs.length ∧ xs.take k = ys.take k ∧ Gr w wr ∧ s5 = .int .i64 k) (fun s5 _ => xs.length - (intOf s5).toNat)
    case atStart => exact ⟨0, by omega, rfl, Gr.refl w, rfl⟩
    case round =>
      obtain ⟨k, hk, ht, ⟨x, rfl⟩, rfl⟩ := hrel
      by_cases hlt : k < xs.length
      · have hlt2 : k < ys.length := by have := hl'.out; omega
        obtain ⟨b, off, rfl, hb⟩ := h3 k hlt
        obtain ⟨b', off', rfl, hb'⟩ := g3 k hlt2
        obtain ⟨csq, feq, hcq, hrq, -⟩ := hu.at hlt
        have hrdq := hrq
        generalize xs[k] = yq at hrq
        obtain ⟨q0, q1, q2, q3, q4, q5⟩ := yq
        obtain ⟨vq5, fq5, hcsq, -, hq0, hq1, hq2, hq3, hq4, hq5⟩ := rdNode_inv (cs := csq.toArray) q0 q1 q2 q3 q4 q5 (by simpa using hrq)
        obtain rfl : csq = [.int .i64 q0, .int .i64 q1, .int .i64 q2, .int .i64 q3, .string q4, vq5] := by have := congrArg Array.toList hcsq; simpa using this
        obtain ⟨csp, fep, hcp, hrp, -⟩ := hv.at hlt2
        have hrdp := hrp
        generalize ys[k] = yp at hrp
        obtain ⟨p0, p1, p2, p3, p4, p5⟩ := yp
        obtain ⟨vp5, fp5, hcsp, -, hp0, hp1, hp2, hp3, hp4, hp5⟩ := rdNode_inv (cs := csp.toArray) p0 p1 p2 p3 p4 p5 (by simpa using hrp)
        obtain rfl : csp = [.int .i64 p0, .int .i64 p1, .int .i64 p2, .int .i64 p3, .string p4, vp5] := by have := congrArg Array.toList hcsp; simpa using this
        have z0 : w.cell? ⟨b, off + k * 6, none⟩ = some (.int .i64 q0) := by simpa [Rd.n] using hcq 0 _ rfl
        have z1 : w.cell? ⟨b, off + k * 6 + 1, none⟩ = some (.int .i64 q1) := hcq 1 _ rfl
        have z2 : w.cell? ⟨b, off + k * 6 + 2, none⟩ = some (.int .i64 q2) := hcq 2 _ rfl
        have z3 : w.cell? ⟨b, off + k * 6 + 3, none⟩ = some (.int .i64 q3) := hcq 3 _ rfl
        have z4 : w.cell? ⟨b, off + k * 6 + 4, none⟩ = some (.string q4) := hcq 4 _ rfl
        have z5 : w.cell? ⟨b, off + k * 6 + 5, none⟩ = some (vq5) := hcq 5 _ rfl
        have zz0 : w.cell? ⟨b', off' + k * 6, none⟩ = some (.int .i64 p0) := by simpa [Rd.n] using hcp 0 _ rfl
        have zz1 : w.cell? ⟨b', off' + k * 6 + 1, none⟩ = some (.int .i64 p1) := hcp 1 _ rfl
        have zz2 : w.cell? ⟨b', off' + k * 6 + 2, none⟩ = some (.int .i64 p2) := hcp 2 _ rfl
        have zz3 : w.cell? ⟨b', off' + k * 6 + 3, none⟩ = some (.int .i64 p3) := hcp 3 _ rfl
        have zz4 : w.cell? ⟨b', off' + k * 6 + 4, none⟩ = some (.string p4) := hcp 4 _ rfl
        have zz5 : w.cell? ⟨b', off' + k * 6 + 5, none⟩ = some (vp5) := hcp 5 _ rfl
        have hT := Lib.hid ht
        clear h3 g3 ht hcsq hcsp hcq hcp hrq hrp
        go_wp2_with fail
        refine wp_region_grown (by kernel_rfl) (by kernel_rfl) ?_
        repeat (go_big_quiet_step ((go_at_call 74; refine grown_call (eqNode_any _ _ _ _ xs[k] ys[k] _ (Rd.gr hrdq ?_) (Rd.gr hrdp ?_)) <;> exact ((Gr.refl w).ext _).ext _)))
        refine wpQuiet_nil ?_
        intro _ hw'
        obtain ⟨nx, hw''⟩ := hw'
        subst hw''
        go_wp2
        · have ht : (!decide (xs[k] = ys[k])) = true := by assumption
          go_ret
          have E : xs ≠ ys := fun e => dec_ne ht (by subst e; rfl)
          exact ⟨ret_bool (decide_eq_false E).symm, (by repeat (first | exact Gr.refl _ | apply Gr.ext | apply Gr.alloc | apply Gr.drew))⟩
        · have ht : (!decide (xs[k] = ys[k])) = false := by assumption
          have e2 := dec_eq ht
          refine ⟨⟨k + 1, by omega, ?_, (by repeat (first | exact Gr.refl _ | apply Gr.ext | apply Gr.alloc | apply Gr.drew)), by go_num⟩, by simp [intOf]; omega⟩
          rw [List.take_succ_eq_append_getElem hlt, List.take_succ_eq_append_getElem hlt2, hT.out, e2]
      · have hk2 : k = xs.length := by omega
        subst hk2
        have e : xs = ys := by
          have h := ht
          have h' := hl'.out
          rw [List.take_length, h', List.take_length] at h
          exact h
        have E := Lib.hid e
        clear e ht
        go_wp2
        go_ret
        exact ⟨ret_bool (decide_eq_true E.out).symm, (by repeat (first | exact Gr.refl _ | apply Gr.ext | apply Gr.alloc | apply Gr.drew))⟩
  · have hne : ((xs.length : Int) != (ys.length : Int)) = true := by simp; omega
    have e : xs ≠ ys := fun e => hl (by rw [e])
    have E := Lib.hid e
    clear e hl
    go_enter Try.func42, Try.ntmps42
    go_wp2
    go_ret
    exact ⟨ret_bool (decide_eq_false E.out).symm, Gr.refl w⟩

theorem Try.infoNode : (Try.prog.info? 86).map (fun i => (i.zero, i.size, i.bytes)) = some (some (.agg #[.int .i64 0, .int .i64 0, .int .i64 0, .int .i64 0, .string ByteArray.empty, .slice none 0 0]), 6, 72) := by kernel_rfl

set_option maxHeartbeats 4000000 in
theorem toNodeS_any (fp : List Nat) (u : Value) (xs : List GNode) (w : World) (hu : SlR fp w u xs) (hlen : wtNodeS xs ≤ 1048576) :
    Calls Try.prog 35 #[u] w fun e w' => ∃ v fq, e = .returned v ∧ SlR fq w' v xs ∧ Fresh w fq ∧ Gr w w' := by
  obtain ⟨a, ca, rfl, h1, h2, h3⟩ := hu.open
  have hll : xs.length ≤ 1048576 := Nat.le_trans (wtL_len wtNode xs) hlen
  obtain ⟨i0, hi, hz0, hz1, hz2⟩ := info_parts Try.infoNode
  have hmk := fun (W : World) => run_make (P := Try.prog) W 36 86 i0 (.agg #[.int .i64 0, .int .i64 0, .int .i64 0, .int .i64 0, .string ByteArray.empty, .slice none 0 0]) Try.underlying36 hi hz0 .i64 .i64 xs.length xs.length (by omega) (by omega) (by rw [hz2]; omega) (by omega)
  rw [hz1] at hmk
  clear hi hz0 hz1 hz2
  simp only [Int.toNat_natCast] at hmk
  have hms := size_madeCells (Value.agg #[.int .i64 0, .int .i64 0, .int .i64 0, .int .i64 0, .string ByteArray.empty, .slice none 0 0]).cells (xs.length * 6)
  generalize madeCells (Value.agg #[.int .i64 0, .int .i64 0, .int .i64 0, .int .i64 0, .string ByteArray.empty, .slice none 0 0]).cells (xs.length * 6) = C0 at hmk hms
  have HS := Lib.hid hms
  have HLS := Lib.hid hlen
  clear hms hlen
  go_enter Try.func35, Try.ntmps35
  go_wp2
  go_loopw [4] (fun s4 wr => ∃ (k : Nat) (C : Array Value) (x : Ext) (fps : List (List Nat)), C.size = xs.length * 6 ∧ PartR w w.heap.size wr C k fps xs ∧ wr = (w.alloc (.cells C 86)).ext x ∧ s4 = .int .i64 k) (fun s4 _ => xs.length - (intOf s4).toNat)
  case atStart => exact ⟨0, C0, ⟨#[], 0⟩, [], HS.out, PartR.start _ _ (Nat.le_refl _) (by simp), (ext_zero _).symm, rfl⟩
  case round =>
    obtain ⟨k, C, x, fps, hC, hp, rfl, rfl⟩ := hrel
    have hCs := Lib.hid hC
    have hk := hp.le
    by_cases hlt : k < xs.length
    · obtain ⟨b, off, rfl, hb⟩ := h3 k hlt
      have hwk := wtL_at wtNode xs hlt
      obtain ⟨csq, feq, hcq, hrq, -⟩ := hu.at hlt
      have hrdq := hrq
      generalize xs[k] = yq at hrq
      obtain ⟨q0, q1, q2, q3, q4, q5⟩ := yq
      obtain ⟨vq5, fq5, hcsq, -, hq0, hq1, hq2, hq3, hq4, hq5⟩ := rdNode_inv (cs := csq.toArray) q0 q1 q2 q3 q4 q5 (by simpa using hrq)
      obtain rfl : csq = [.int .i64 q0, .int .i64 q1, .int .i64 q2, .int .i64 q3, .string q4, vq5] := by have := congrArg Array.toList hcsq; simpa using this
      have z0 : w.cell? ⟨b, off + k * 6, none⟩ = some (.int .i64 q0) := by simpa [Rd.n] using hcq 0 _ rfl
      have z1 : w.cell? ⟨b, off + k * 6 + 1, none⟩ = some (.int .i64 q1) := hcq 1 _ rfl
      have z2 : w.cell? ⟨b, off + k * 6 + 2, none⟩ = some (.int .i64 q2) := hcq 2 _ rfl
      have z3 : w.cell? ⟨b, off + k * 6 + 3, none⟩ = some (.int .i64 q3) := hcq 3 _ rfl
      have z4 : w.cell? ⟨b, off + k * 6 + 4, none⟩ = some (.string q4) := hcq 4 _ rfl
      have z5 : w.cell? ⟨b, off + k * 6 + 5, none⟩ = some (vq5) := hcq 5 _ rfl
      have y0 : k * 6 < C.size := by omega
      have y1 : k * 6 + 1 < C.size := by omega
      have y2 : k * 6 + 2 < C.size := by omega
      have y3 : k * 6 + 3 < C.size := by omega
      have y4 : k * 6 + 4 < C.size := by omega
      have y5 : k * 6 + 5 < C.size := by omega
      have hwl : wtNode xs[k] ≤ 1048576 := Nat.le_trans hwk HLS.out
      have hd0 : k * 6 + 6 ≤ C.size := by omega
      have HD := Lib.hid hd0
      clear hC h3 hcsq hcq hrq hwk hd0
      go_wp2_with (go_at_call 70; refine (toNode_any _ _ xs[k] _ (Rd.gr hrdq (by repeat (first | exact Gr.refl _ | apply Gr.ext | apply Gr.alloc | apply Gr.drew))) (by omega)).mono ?_; rintro e w1 ⟨ds, fq, rfl, hs, hf, y, rfl⟩; have hs2 := hs; generalize xs[k] = yr at hs2; obtain ⟨r0, r1, r2, r3, r4, r5⟩ := yr; obtain ⟨vr5, fr5, rfl, hfq, kr0, kr1, kr2, kr3, kr4, kr5⟩ := rdNode_inv r0 r1 r2 r3 r4 r5 hs2; obtain ⟨aar5, ccr5, rfl, -, -, -⟩ := kr5.open; clear hfq)
      rw [ext_ext, ← setRow_6]
      refine ⟨⟨k + 1, setRow C (k * 6) [.int .i64 r0, .int .i64 r1, .int .i64 r2, .int .i64 r3, .string r4, .slice aar5 r5.length ccr5], x.comp y, fps ++ [fq], ?_, ?_, rfl, by go_num⟩, by simp [intOf]; omega⟩
      · rw [setRow_size]; exact hCs.out
      · refine hp.step_own hlt (C' := setRow C (k * 6) [.int .i64 r0, .int .i64 r1, .int .i64 r2, .int .i64 r3, .string r4, .slice aar5 r5.length ccr5]) (cs := [.int .i64 r0, .int .i64 r1, .int .i64 r2, .int .i64 r3, .string r4, .slice aar5 r5.length ccr5]) ?_ hf (fun j hj => setRow_lt _ _ _ _ hj) (setRow_get _ _ _ HD.out)
        exact hs
    · have hk2 : k = xs.length := by omega
      subst hk2
      obtain ⟨fq, hs, hf⟩ := hp.done (heap_own_self _ x) (cap := xs.length) (Nat.le_refl _) (by unfold reachLen; omega)
      have HF := Lib.hid hs
      clear hs hC
      go_wp2
      go_ret
      exact ⟨_, fq, rfl, HF.out, hf, (by repeat (first | exact Gr.refl _ | apply Gr.ext | apply Gr.alloc | apply Gr.drew))⟩

abbrev GTree := List GNode
def wtTree (x : GTree) : Nat := wtNodeS x

theorem rdTree_inv {fp : List Nat} {w : World} {cs : Array Value} (q0 : List GNode) (h : Rd.rd (α := GTree) fp w cs.toList q0) :
    ∃ vq0 fq0, cs = #[vq0] ∧ fp = fq0 ∧ SlR fq0 w vq0 q0 := by
  generalize hcs : cs.toList = l at h
  obtain ⟨vq0, rfl, hq0⟩ := h
  exact ⟨_, _, Array.toList_inj.1 (by simpa using hcs), rfl, hq0⟩

theorem rdTree_shape {fp : List Nat} {w : World} {cs : Array Value} {x : GTree} (h : Rd.rd (α := GTree) fp w cs.toList x) :
    ∃ aq0 lq0 cq0, cs = #[.slice aq0 lq0 cq0] := by
  obtain ⟨q0, rfl⟩ : ∃ yy, yy = x := ⟨_, rfl⟩
  obtain ⟨vq0, fq0, rfl, -, hq0⟩ := rdTree_inv q0 h
  obtain ⟨aq0, cq0, rfl, -, -, -⟩ := hq0.open
  exact ⟨_, _, _, rfl⟩

theorem rdTree_mk {w : World} (q0 : List GNode) {vq0 : Value} {fq0 : List Nat} (hq0 : SlR fq0 w vq0 q0) :
    Rd.rd (α := GTree) (fq0) w [vq0] q0 := ⟨_, rfl, hq0⟩

set_option maxHeartbeats 1000000 in
theorem szTree_any (fp : List Nat) (cs : Array Value) (x : GTree) (left : Int) (w : World) (hx : Rd.rd fp w cs.toList x) (h0 : 0 ≤ left) (h1 : left ≤ 1048576) :
    Calls Try.prog 7 #[.agg cs, .int .i64 left] w fun e w' => e = .returned (.int .i64 (less left (wtTree x))) ∧ Gr w w' := by
  obtain ⟨q0, rfl⟩ : ∃ yy, yy = x := ⟨_, rfl⟩
  obtain ⟨vq0, fq0, rfl, -, hq0⟩ := rdTree_inv q0 hx
  obtain ⟨aq0, cq0, rfl, bq0, dq0, -⟩ := hq0.open
  have hwt : wtTree q0 = (wtNodeS q0) := by rfl
  have HW := Lib.hid hwt
  clear hwt hx
  go_enter Try.func7, Try.ntmps7
  go_wp2_with fail
  refine (szNodeS_any fq0 _ _ _ _ (hq0.gr (by repeat (first | exact Gr.refl _ | apply Gr.ext | apply Gr.alloc | apply Gr.drew))) (by omega) (by omega)).mono ?_
  rintro e w0 ⟨rfl, x0, rfl⟩
  have hb0 := less_le (left) (wtNodeS q0) (by omega)
  go_wp2_with fail
  · go_ret
    refine ⟨ret_int ?_, (by repeat (first | exact Gr.refl _ | apply Gr.ext | apply Gr.alloc | apply Gr.drew))⟩
    have := less_cases left (wtTree q0)
    have := HW.out
    have := less_cases (left) (wtNodeS q0)
    omega
  · skip
    go_ret
    refine ⟨ret_int ?_, (by repeat (first | exact Gr.refl _ | apply Gr.ext | apply Gr.alloc | apply Gr.drew))⟩
    have := less_cases left (wtTree q0)
    have := HW.out
    have := less_cases (left) (wtNodeS q0)
    omega

theorem Tree_ext (q0 : List GNode) (p0 : List GNode) (e0 : q0 = p0) : (q0 : GTree) = p0 := by
  exact e0

set_option maxHeartbeats 1000000 in
theorem eqTree_any (fp fq : List Nat) (cs ds : Array Value) (x y : GTree) (w : World) (hx : Rd.rd fp w cs.toList x) (hy : Rd.rd fq w ds.toList y) :
    Calls Try.prog 13 #[.agg cs, .agg ds] w fun e w' => e = .returned (.bool (decide (x = y))) ∧ Gr w w' := by
  obtain ⟨q0, rfl⟩ : ∃ yy, yy = x := ⟨_, rfl⟩
  obtain ⟨p0, rfl⟩ : ∃ yy, yy = y := ⟨_, rfl⟩
  obtain ⟨vq0, fq0, rfl, -, hq0⟩ := rdTree_inv q0 hx
  obtain ⟨vp0, fp0, rfl, -, hp0⟩ := rdTree_inv p0 hy
  obtain ⟨aq0, cq0, rfl, -, -, -⟩ := hq0.open
  obtain ⟨ap0, cp0, rfl, -, -, -⟩ := hp0.open
  clear hx hy
  go_enter Try.func13, Try.ntmps13
  go_wp2_with fail
  refine (eqNodeS_any fq0 fp0 _ _ q0 p0 _ (hq0.gr (by repeat (first | exact Gr.refl _ | apply Gr.ext | apply Gr.alloc | apply Gr.drew))) (hp0.gr (by repeat (first | exact Gr.refl _ | apply Gr.ext | apply Gr.alloc | apply Gr.drew)))).mono ?_
  rintro e w0 ⟨rfl, x0, rfl⟩
  go_wp2_with fail
  · have ht : (!decide (q0 = p0)) = true := by assumption
    go_ret
    exact ⟨ret_bool (decide_eq_false fun e => dec_ne ht (congrArg (fun z : GTree => z) e)).symm, (by repeat (first | exact Gr.refl _ | apply Gr.ext | apply Gr.alloc | apply Gr.drew))⟩
  · skip
    have e0 := Lib.hid (dec_eq (show (!decide (q0 = p0)) = false by assumption))
    go_ret
    exact ⟨ret_bool (decide_eq_true (Tree_ext q0 p0 e0.out)).symm, (by repeat (first | exact Gr.refl _ | apply Gr.ext | apply Gr.alloc | apply Gr.drew))⟩

set_option maxHeartbeats 1000000 in
theorem toTree_any (fp : List Nat) (cs : Array Value) (x : GTree) (w : World) (hx : Rd.rd fp w cs.toList x) (hl : wtTree x ≤ 1048576) :
    Calls Try.prog 10 #[.agg cs] w fun e w' => ∃ ds fq, e = .returned (.agg ds) ∧ Rd.rd fq w' ds.toList x ∧ Fresh w fq ∧ Gr w w' := by
  obtain ⟨q0, rfl⟩ : ∃ yy, yy = x := ⟨_, rfl⟩
  obtain ⟨vq0, fq0, rfl, -, hq0⟩ := rdTree_inv q0 hx
  obtain ⟨aq0, cq0, rfl, -, -, -⟩ := hq0.open
  have hwt : wtTree q0 = (wtNodeS q0) := by rfl
  have HW := Lib.hid hwt
  clear hwt hx
  go_enter Try.func10, Try.ntmps10
  go_wp2_with fail
  refine (toNodeS_any fq0 _ _ _ (hq0.gr (by repeat (first | exact Gr.refl _ | apply Gr.ext | apply Gr.alloc | apply Gr.drew))) (by have := HW.out; omega)).mono ?_
  rintro e w0 ⟨u0, g0, rfl, s0, fr0, x0, rfl⟩
  obtain ⟨aa0, cc0, rfl, -, -, -⟩ := s0.open
  go_wp2_with fail
  have hfresh : Fresh w g0 := by
    exact (Fresh.of_le fr0 (by simp <;> omega))
  exact bodyPost_ret (v := .agg #[.slice aa0 q0.length cc0]) (by simp [results, Try.results10, go_sem]) rfl
    ⟨_, _, rfl, rdTree_mk q0 (SlR.moved s0 fr0 (by repeat (first | exact Gr.refl _ | apply Gr.ext | apply Gr.alloc | apply Gr.drew)) (by simp)), hfresh, (by repeat (first | exact Gr.refl _ | apply Gr.ext | apply Gr.alloc | apply Gr.drew))⟩

end Go.Proofs.Ytmfcagcanhmdbaa
