/- Contracts of the functions that measure, compare and copy: Attribute, Attribute*, Symbol, Symbol*, Occurrence. Made by mk_fam.py. No condition. -/
import Derived.Test.YtbfmeiooeaaibaaGreatFamStr
namespace Go.Proofs.YtbfmeiooeaaibaaGreat
open Go.RowKit

abbrev GAttribute := ByteArray × Int × Int × Bool
def wtAttribute (x : GAttribute) : Nat := x.1.size
instance decAttribute : DecidableEq GAttribute := @instDecidableEqProd _ _ _ (@instDecidableEqProd _ _ _ (@instDecidableEqProd _ _ _ (inferInstance)))

theorem rdAttribute_inv {fp : List Nat} {w : World} {cs : Array Value} (q0 : ByteArray) (q1 : Int) (q2 : Int) (q3 : Bool) (h : Rd.rd (α := GAttribute) fp w cs.toList (q0, q1, q2, q3)) :
    cs = #[.string q0, .int .i64 q1, .int .i64 q2, .bool q3] ∧ fp = ([] ++ ([] ++ ([] ++ []))) ∧ q0.size ≤ maxLen ∧ (Lit.int .i64 q1).wf = true ∧ (Lit.int .i64 q2).wf = true := by
  generalize hcs : cs.toList = l at h
  obtain ⟨_, _, _, _, rfl, rfl, ⟨rfl, rfl, hq0⟩, ⟨_, _, _, _, rfl, rfl, ⟨rfl, rfl, hq1⟩, ⟨_, _, _, _, rfl, rfl, ⟨rfl, rfl, hq2⟩, ⟨rfl, rfl⟩⟩⟩⟩ := h
  exact ⟨Array.toList_inj.1 (by simpa using hcs), rfl, hq0, hq1, hq2⟩

theorem rdAttribute_shape {fp : List Nat} {w : World} {cs : Array Value} {x : GAttribute} (h : Rd.rd (α := GAttribute) fp w cs.toList x) :
    ∃ q0 q1 q2 q3, cs = #[.string q0, .int .i64 q1, .int .i64 q2, .bool q3] := by
  obtain ⟨q0, q1, q2, q3⟩ := x
  obtain ⟨rfl, -, -, -, -⟩ := rdAttribute_inv q0 q1 q2 q3 h
  exact ⟨_, _, _, _, rfl⟩

theorem rdAttribute_mk {w : World} (q0 : ByteArray) (q1 : Int) (q2 : Int) (q3 : Bool) (hq0 : q0.size ≤ maxLen) (hq1 : (Lit.int .i64 q1).wf = true) (hq2 : (Lit.int .i64 q2).wf = true) :
    Rd.rd (α := GAttribute) (([] ++ ([] ++ ([] ++ [])))) w [.string q0, .int .i64 q1, .int .i64 q2, .bool q3] (q0, q1, q2, q3) := ⟨_, _, _, _, rfl, rfl, ⟨rfl, rfl, hq0⟩, ⟨_, _, _, _, rfl, rfl, ⟨rfl, rfl, hq1⟩, ⟨_, _, _, _, rfl, rfl, ⟨rfl, rfl, hq2⟩, ⟨rfl, rfl⟩⟩⟩⟩

set_option maxHeartbeats 1000000 in
theorem szAttribute_any (fp : List Nat) (cs : Array Value) (x : GAttribute) (left : Int) (w : World) (hx : Rd.rd fp w cs.toList x) (h0 : 0 ≤ left) (h1 : left ≤ 1048576) :
    Calls Tryz.prog 136 #[.agg cs, .int .i64 left] w fun e w' => e = .returned (.int .i64 (less left (wtAttribute x))) ∧ Gr w w' := by
  obtain ⟨q0, q1, q2, q3⟩ := x
  obtain ⟨rfl, -, hq0, hq1, hq2⟩ := rdAttribute_inv q0 q1 q2 q3 hx
  unfold maxLen at hq0
  have hwt : wtAttribute (q0, q1, q2, q3) = (q0.size) := by rfl
  have HW := Lib.hid hwt
  clear hwt hx
  go_enter Tryz.func136, Tryz.ntmps136
  go_wp2_with fail
  · go_ret
    refine ⟨ret_int ?_, (by repeat (first | exact Gr.refl _ | apply Gr.ext | apply Gr.alloc | apply Gr.drew))⟩
    have := less_cases left (wtAttribute (q0, q1, q2, q3))
    have := HW.out
    omega
  · skip
    go_ret
    refine ⟨ret_int ?_, (by repeat (first | exact Gr.refl _ | apply Gr.ext | apply Gr.alloc | apply Gr.drew))⟩
    have := less_cases left (wtAttribute (q0, q1, q2, q3))
    have := HW.out
    omega

theorem Attribute_ext (q0 : ByteArray) (q1 : Int) (q2 : Int) (q3 : Bool) (p0 : ByteArray) (p1 : Int) (p2 : Int) (p3 : Bool) (e0 : q0 = p0) (e1 : q1 = p1) (e2 : q2 = p2) (e3 : q3 = p3) : ((q0, q1, q2, q3) : GAttribute) = (p0, p1, p2, p3) := by
  exact Prod.ext_iff.2 ⟨e0, Prod.ext_iff.2 ⟨e1, Prod.ext_iff.2 ⟨e2, e3⟩⟩⟩

set_option maxHeartbeats 1000000 in
theorem eqAttribute_any (fp fq : List Nat) (cs ds : Array Value) (x y : GAttribute) (w : World) (hx : Rd.rd fp w cs.toList x) (hy : Rd.rd fq w ds.toList y) :
    Calls Tryz.prog 142 #[.agg cs, .agg ds] w fun e w' => e = .returned (.bool (decide (x = y))) ∧ Gr w w' := by
  obtain ⟨q0, q1, q2, q3⟩ := x
  obtain ⟨p0, p1, p2, p3⟩ := y
  obtain ⟨rfl, -, hq0, hq1, hq2⟩ := rdAttribute_inv q0 q1 q2 q3 hx
  obtain ⟨rfl, -, hp0, hp1, hp2⟩ := rdAttribute_inv p0 p1 p2 p3 hy
  clear hx hy
  go_enter Tryz.func142, Tryz.ntmps142
  go_wp2_with fail
  · have ht : (!q0.toList == p0.toList) = true := by assumption
    go_ret
    exact ⟨ret_bool (decide_eq_false fun e => str_ne ht (congrArg (fun z : GAttribute => z.1) e)).symm, (by repeat (first | exact Gr.refl _ | apply Gr.ext | apply Gr.alloc | apply Gr.drew))⟩
  · have ht : (q1 != p1) = true := by assumption
    go_ret
    exact ⟨ret_bool (decide_eq_false fun e => int_ne ht (congrArg (fun z : GAttribute => z.2.1) e)).symm, (by repeat (first | exact Gr.refl _ | apply Gr.ext | apply Gr.alloc | apply Gr.drew))⟩
  · have ht : (q2 != p2) = true := by assumption
    go_ret
    exact ⟨ret_bool (decide_eq_false fun e => int_ne ht (congrArg (fun z : GAttribute => z.2.2.1) e)).symm, (by repeat (first | exact Gr.refl _ | apply Gr.ext | apply Gr.alloc | apply Gr.drew))⟩
  · have ht : (q3 != p3) = true := by assumption
    go_ret
    exact ⟨ret_bool (decide_eq_false fun e => bool_ne ht (congrArg (fun z : GAttribute => z.2.2.2) e)).symm, (by repeat (first | exact Gr.refl _ | apply Gr.ext | apply Gr.alloc | apply Gr.drew))⟩
  · skip
    have e0 := Lib.hid (str_eq (show (!q0.toList == p0.toList) = false by assumption))
    have e1 := Lib.hid (int_eq (show (q1 != p1) = false by assumption))
    have e2 := Lib.hid (int_eq (show (q2 != p2) = false by assumption))
    have e3 := Lib.hid (bool_eq (show (q3 != p3) = false by assumption))
    go_ret
    exact ⟨ret_bool (decide_eq_true (Attribute_ext q0 q1 q2 q3 p0 p1 p2 p3 e0.out e1.out e2.out e3.out)).symm, (by repeat (first | exact Gr.refl _ | apply Gr.ext | apply Gr.alloc | apply Gr.drew))⟩

set_option maxHeartbeats 1000000 in
theorem toAttribute_any (fp : List Nat) (cs : Array Value) (x : GAttribute) (w : World) (hx : Rd.rd fp w cs.toList x) :
    Calls Tryz.prog 139 #[.agg cs] w fun e w' => e = .returned (.agg cs) ∧ Gr w w' := by
  obtain ⟨q0, q1, q2, q3⟩ := x
  obtain ⟨rfl, -, hq0, hq1, hq2⟩ := rdAttribute_inv q0 q1 q2 q3 hx
  clear hx
  go_enter Tryz.func139, Tryz.ntmps139
  go_wp2_with fail
  exact bodyPost_ret (v := .agg #[.string q0, .int .i64 q1, .int .i64 q2, .bool q3]) (by simp [results, Tryz.results139, go_sem]) rfl ⟨rfl, (by repeat (first | exact Gr.refl _ | apply Gr.ext | apply Gr.alloc | apply Gr.drew))⟩

def wtAttributeS (xs : List GAttribute) : Nat := wtL wtAttribute xs

set_option maxHeartbeats 1000000 in
theorem szAttributeS_any (fp : List Nat) (u : Value) (xs : List GAttribute) (left : Int) (w : World) (hu : SlR fp w u xs) (h0 : 0 ≤ left) (h1 : left ≤ 1048576) :
    Calls Tryz.prog 112 #[u, .int .i64 left] w fun e w' => e = .returned (.int .i64 (less left (wtAttributeS xs))) ∧ Gr w w' := by
  obtain ⟨a, ca, rfl, g1, g2, g3⟩ := hu.open
  by_cases hneg : left - xs.length < 0
  · have hle : less left (wtAttributeS xs) = -1 := by unfold less wtAttributeS wtL; rw [if_pos (by omega)]
    have HL := Lib.hid hle
    clear hle
    go_enter Tryz.func112, Tryz.ntmps112
    go_wp2
    go_ret
    exact ⟨ret_int HL.out.symm, Gr.refl w⟩
  · have hl0 : less left xs.length = left - xs.length := by unfold less; rw [if_neg hneg]
    have HL0 := Lib.hid hl0
    clear hl0
    go_enter Tryz.func112, Tryz.ntmps112
    go_wp2
    go_loopw [5, 1] (fun s5 s1 wr => ∃ (k : Nat) (m : Int), k ≤ xs.length ∧ 0 ≤ m ∧ m ≤ 1048576 ∧ Hid (m = less left (xs.length + ((xs.take k).map wtAttribute).sum)) ∧ Gr w wr ∧ s5 = .int .i64 k ∧ s1 = .int .i64 m) (fun s5 _ _ => xs.length - (intOf s5).toNat)
    case atStart => exact ⟨0, _, by omega, by omega, by omega, Lib.hid (by simp [HL0.out]), Gr.refl w, rfl, rfl⟩
    case round =>
      obtain ⟨k, m, hk, hm0, hm1, hm, ⟨x, rfl⟩, rfl, rfl⟩ := hrel
      by_cases hlt : k < xs.length
      · obtain ⟨b, off, rfl, hb⟩ := g3 k hlt
        have hsum := Lib.hid (sum_take_succ wtAttribute xs k hlt)
        obtain ⟨csq, feq, hcq, hrq, -⟩ := hu.at hlt
        have hrdq := hrq
        generalize xs[k] = yq at hrq
        obtain ⟨q0, q1, q2, q3⟩ := yq
        obtain ⟨hcsq, hfeq, hq0, hq1, hq2⟩ := rdAttribute_inv (cs := csq.toArray) q0 q1 q2 q3 (by simpa using hrq)
        obtain rfl : csq = [.string q0, .int .i64 q1, .int .i64 q2, .bool q3] := by have := congrArg Array.toList hcsq; simpa using this
        obtain rfl : feq = [] := hfeq
        have z0 : w.cell? ⟨b, off + k * 4, none⟩ = some (.string q0) := by simpa [Rd.n] using hcq 0 _ rfl
        have z1 : w.cell? ⟨b, off + k * 4 + 1, none⟩ = some (.int .i64 q1) := hcq 1 _ rfl
        have z2 : w.cell? ⟨b, off + k * 4 + 2, none⟩ = some (.int .i64 q2) := hcq 2 _ rfl
        have z3 : w.cell? ⟨b, off + k * 4 + 3, none⟩ = some (.bool q3) := hcq 3 _ rfl
        have hmono := less_le m (wtAttribute xs[k]) (by omega)
        clear g3 hcsq hcq hrq
        go_wp2_with (go_at_call 136; refine (szAttribute_any _ _ xs[k] _ _ (Rd.gr hrdq ((Gr.refl w).ext _)) (by omega) (by omega)).mono ?_; rintro e w1 ⟨rfl, y, rfl⟩)
        · have hx : less m (wtAttribute xs[k]) < 0 := by assumption
          go_ret
          refine ⟨ret_int ?_, (by repeat (first | exact Gr.refl _ | apply Gr.ext | apply Gr.alloc | apply Gr.drew))⟩
          have e := hm.out
          subst e
          rw [less_less, Nat.add_assoc, ← hsum.out] at hx
          exact (less_mono hx (Nat.add_le_add_left (sum_take_le wtAttribute xs (k + 1)) _) h0).symm
        · have hx : 0 ≤ less m (wtAttribute xs[k]) := by assumption
          refine ⟨⟨k + 1, _, by omega, hx, by omega, Lib.hid ?_, (by repeat (first | exact Gr.refl _ | apply Gr.ext | apply Gr.alloc | apply Gr.drew)), by go_num, rfl⟩, by simp [intOf]; omega⟩
          rw [hsum.out, hm.out, less_less, Nat.add_assoc]
      · have hk2 : k = xs.length := by omega
        subst hk2
        have hm2 := hm.out
        rw [List.take_length] at hm2
        have HM := Lib.hid hm2
        clear hm2 hm
        go_wp2
        go_ret
        exact ⟨ret_int HM.out, (by repeat (first | exact Gr.refl _ | apply Gr.ext | apply Gr.alloc | apply Gr.drew))⟩

set_option maxHeartbeats 1000000 in
theorem eqAttributeS_any (fp fq : List Nat) (u v : Value) (xs ys : List GAttribute) (w : World) (hu : SlR fp w u xs) (hv : SlR fq w v ys) :
    Calls Tryz.prog 129 #[u, v] w fun e w' => e = .returned (.bool (decide (xs = ys))) ∧ Gr w w' := by
  obtain ⟨a, ca, rfl, h1, h2, h3⟩ := hu.open
  obtain ⟨c, cc, rfl, g1, g2, g3⟩ := hv.open
  by_cases hl : xs.length = ys.length
  · have hl' := Lib.hid hl
    have hne : ((xs.length : Int) != (ys.length : Int)) = false := by simp [hl]
    clear hl
    go_enter Tryz.func129, Tryz.ntmps129
    go_wp2
    go_loopw [5] (fun s5 wr => ∃ k : Nat, k ≤ xs.length ∧ xs.take k = ys.take k ∧ Gr w wr ∧ s5 = .int .i64 k) (fun s5 _ => xs.length - (intOf s5).toNat)
    case atStart => exact ⟨0, by omega, rfl, Gr.refl w, rfl⟩
    case round =>
      obtain ⟨k, hk, ht, ⟨x, rfl⟩, rfl⟩ := hrel
      by_cases hlt : k < xs.length
      · have hlt2 : k < ys.length := by have := hl'.out; omega
        obtain ⟨b, off, rfl, hb⟩ := h3 k hlt
        obtain ⟨b', off', rfl, hb'⟩ := g3 k hlt2
        obtain ⟨csq, feq, hcq, hrq, -⟩ := hu.at hlt
        have hrdq := hrq
        generalize xs[k] = yq at hrq
        obtain ⟨q0, q1, q2, q3⟩ := yq
        obtain ⟨hcsq, hfeq, hq0, hq1, hq2⟩ := rdAttribute_inv (cs := csq.toArray) q0 q1 q2 q3 (by simpa using hrq)
        obtain rfl : csq = [.string q0, .int .i64 q1, .int .i64 q2, .bool q3] := by have := congrArg Array.toList hcsq; simpa using this
        obtain rfl : feq = [] := hfeq
        obtain ⟨csp, fep, hcp, hrp, -⟩ := hv.at hlt2
        have hrdp := hrp
        generalize ys[k] = yp at hrp
        obtain ⟨p0, p1, p2, p3⟩ := yp
        obtain ⟨hcsp, hfep, hp0, hp1, hp2⟩ := rdAttribute_inv (cs := csp.toArray) p0 p1 p2 p3 (by simpa using hrp)
        obtain rfl : csp = [.string p0, .int .i64 p1, .int .i64 p2, .bool p3] := by have := congrArg Array.toList hcsp; simpa using this
        obtain rfl : fep = [] := hfep
        have z0 : w.cell? ⟨b, off + k * 4, none⟩ = some (.string q0) := by simpa [Rd.n] using hcq 0 _ rfl
        have z1 : w.cell? ⟨b, off + k * 4 + 1, none⟩ = some (.int .i64 q1) := hcq 1 _ rfl
        have z2 : w.cell? ⟨b, off + k * 4 + 2, none⟩ = some (.int .i64 q2) := hcq 2 _ rfl
        have z3 : w.cell? ⟨b, off + k * 4 + 3, none⟩ = some (.bool q3) := hcq 3 _ rfl
        have zz0 : w.cell? ⟨b', off' + k * 4, none⟩ = some (.string p0) := by simpa [Rd.n] using hcp 0 _ rfl
        have zz1 : w.cell? ⟨b', off' + k * 4 + 1, none⟩ = some (.int .i64 p1) := hcp 1 _ rfl
        have zz2 : w.cell? ⟨b', off' + k * 4 + 2, none⟩ = some (.int .i64 p2) := hcp 2 _ rfl
        have zz3 : w.cell? ⟨b', off' + k * 4 + 3, none⟩ = some (.bool p3) := hcp 3 _ rfl
        have hT := Lib.hid ht
        clear h3 g3 ht hcsq hcsp hcq hcp hrq hrp
        go_wp2_with fail
        refine wp_region_grown (by kernel_rfl) (by kernel_rfl) ?_
        repeat (go_big_quiet_step ((go_at_call 142; refine grown_call (eqAttribute_any _ _ _ _ xs[k] ys[k] _ (Rd.gr hrdq ?_) (Rd.gr hrdp ?_)) <;> exact ((Gr.refl w).ext _).ext _)))
        refine wpQuiet_nil ?_
        intro _ hw'
        obtain ⟨nx, hw''⟩ := hw'
        subst hw''
        go_wp2
        · have ht : (!decide (xs[k] = ys[k])) = true := by assumption
          go_ret
          have E : xs ≠ ys := fun e => dec_ne ht (by subst e; rfl)
          exact ⟨ret_bool (decide_eq_false E).symm, (by repeat (first | exact Gr.refl _ | apply Gr.ext | apply Gr.alloc | apply Gr.drew))⟩
        · have ht : (!decide (xs[k] = ys[k])) = false := by assumption
          have e2 := dec_eq ht
          refine ⟨⟨k + 1, by omega, ?_, (by repeat (first | exact Gr.refl _ | apply Gr.ext | apply Gr.alloc | apply Gr.drew)), by go_num⟩, by simp [intOf]; omega⟩
          rw [List.take_succ_eq_append_getElem hlt, List.take_succ_eq_append_getElem hlt2, hT.out, e2]
      · have hk2 : k = xs.length := by omega
        subst hk2
        have e : xs = ys := by
          have h := ht
          have h' := hl'.out
          rw [List.take_length, h', List.take_length] at h
          exact h
        have E := Lib.hid e
        clear e ht
        go_wp2
        go_ret
        exact ⟨ret_bool (decide_eq_true E.out).symm, (by repeat (first | exact Gr.refl _ | apply Gr.ext | apply Gr.alloc | apply Gr.drew))⟩
  · have hne : ((xs.length : Int) != (ys.length : Int)) = true := by simp; omega
    have e : xs ≠ ys := fun e => hl (by rw [e])
    have E := Lib.hid e
    clear e hl
    go_enter Tryz.func129, Tryz.ntmps129
    go_wp2
    go_ret
    exact ⟨ret_bool (decide_eq_false E.out).symm, Gr.refl w⟩

theorem Tryz.infoAttribute : (Tryz.prog.info? 79).map (fun i => (i.zero, i.size, i.bytes)) = some (some (.agg #[.string ByteArray.empty, .int .i64 0, .int .i64 0, .bool false]), 4, 40) := by kernel_rfl

set_option maxHeartbeats 1000000 in
theorem toAttributeS_any (fp : List Nat) (u : Value) (xs : List GAttribute) (w : World) (hu : SlR fp w u xs) (hlen : wtAttributeS xs ≤ 1048576) :
    Calls Tryz.prog 120 #[u] w fun e w' => ∃ v fq, e = .returned v ∧ SlR fq w' v xs ∧ Fresh w fq ∧ Gr w w' := by
  obtain ⟨a, ca, rfl, h1, h2, h3⟩ := hu.open
  have hll : xs.length ≤ 1048576 := Nat.le_trans (wtL_len wtAttribute xs) hlen
  obtain ⟨i0, hi, hz0, hz1, hz2⟩ := info_parts Tryz.infoAttribute
  have hmk := fun (W : World) => run_make (P := Tryz.prog) W 142 79 i0 (.agg #[.string ByteArray.empty, .int .i64 0, .int .i64 0, .bool false]) Tryz.underlying142 hi hz0 .i64 .i64 xs.length xs.length (by omega) (by omega) (by rw [hz2]; omega) (by omega)
  rw [hz1] at hmk
  clear hi hz0 hz1 hz2
  simp only [Int.toNat_natCast] at hmk
  have hms := size_madeCells (Value.agg #[.string ByteArray.empty, .int .i64 0, .int .i64 0, .bool false]).cells (xs.length * 4)
  generalize madeCells (Value.agg #[.string ByteArray.empty, .int .i64 0, .int .i64 0, .bool false]).cells (xs.length * 4) = C0 at hmk hms
  have HS := Lib.hid hms
  have HLS := Lib.hid hlen
  clear hms hlen
  go_enter Tryz.func120, Tryz.ntmps120
  go_wp2
  go_loopw [4] (fun s4 wr => ∃ (k : Nat) (C : Array Value) (x : Ext) (fps : List (List Nat)), C.size = xs.length * 4 ∧ PartR w w.heap.size wr C k fps xs ∧ wr = (w.alloc (.cells C 79)).ext x ∧ s4 = .int .i64 k) (fun s4 _ => xs.length - (intOf s4).toNat)
  case atStart => exact ⟨0, C0, ⟨#[], 0⟩, [], HS.out, PartR.start _ _ (Nat.le_refl _) (by simp), (ext_zero _).symm, rfl⟩
  case round =>
    obtain ⟨k, C, x, fps, hC, hp, rfl, rfl⟩ := hrel
    have hCs := Lib.hid hC
    have hk := hp.le
    by_cases hlt : k < xs.length
    · obtain ⟨b, off, rfl, hb⟩ := h3 k hlt
      have hwk := wtL_at wtAttribute xs hlt
      obtain ⟨csq, feq, hcq, hrq, -⟩ := hu.at hlt
      have hrdq := hrq
      generalize xs[k] = yq at hrq
      obtain ⟨q0, q1, q2, q3⟩ := yq
      obtain ⟨hcsq, hfeq, hq0, hq1, hq2⟩ := rdAttribute_inv (cs := csq.toArray) q0 q1 q2 q3 (by simpa using hrq)
      obtain rfl : csq = [.string q0, .int .i64 q1, .int .i64 q2, .bool q3] := by have := congrArg Array.toList hcsq; simpa using this
      obtain rfl : feq = [] := hfeq
      have z0 : w.cell? ⟨b, off + k * 4, none⟩ = some (.string q0) := by simpa [Rd.n] using hcq 0 _ rfl
      have z1 : w.cell? ⟨b, off + k * 4 + 1, none⟩ = some (.int .i64 q1) := hcq 1 _ rfl
      have z2 : w.cell? ⟨b, off + k * 4 + 2, none⟩ = some (.int .i64 q2) := hcq 2 _ rfl
      have z3 : w.cell? ⟨b, off + k * 4 + 3, none⟩ = some (.bool q3) := hcq 3 _ rfl
      have y0 : k * 4 < C.size := by omega
      have y1 : k * 4 + 1 < C.size := by omega
      have y2 : k * 4 + 2 < C.size := by omega
      have y3 : k * 4 + 3 < C.size := by omega
      have hwl : wtAttribute xs[k] ≤ 1048576 := Nat.le_trans hwk HLS.out
      have hd0 : k * 4 + 4 ≤ C.size := by omega
      have HD := Lib.hid hd0
      clear hC h3 hcsq hcq hrq hwk hd0
      go_wp2_with (go_at_call 139; refine (toAttribute_any _ _ xs[k] _ (Rd.gr hrdq (by repeat (first | exact Gr.refl _ | apply Gr.ext | apply Gr.alloc | apply Gr.drew)))).mono ?_; rintro e w1 ⟨rfl, y, rfl⟩)
      rw [ext_ext, ← setRow_4]
      refine ⟨⟨k + 1, setRow C (k * 4) [.string q0, .int .i64 q1, .int .i64 q2, .bool q3], x.comp y, fps ++ [[]], ?_, ?_, rfl, by go_num⟩, by simp [intOf]; omega⟩
      · rw [setRow_size]; exact hCs.out
      · refine hp.step_own hlt (C' := setRow C (k * 4) [.string q0, .int .i64 q1, .int .i64 q2, .bool q3]) (cs := [.string q0, .int .i64 q1, .int .i64 q2, .bool q3]) ?_ (Fresh.nil _) (fun j hj => setRow_lt _ _ _ _ hj) (setRow_get _ _ _ HD.out)
        exact Rd.gr hrdq (by repeat (first | exact Gr.refl _ | apply Gr.ext | apply Gr.alloc | apply Gr.drew))
    · have hk2 : k = xs.length := by omega
      subst hk2
      obtain ⟨fq, hs, hf⟩ := hp.done (heap_own_self _ x) (cap := xs.length) (Nat.le_refl _) (by unfold reachLen; omega)
      have HF := Lib.hid hs
      clear hs hC
      go_wp2
      go_ret
      exact ⟨_, fq, rfl, HF.out, hf, (by repeat (first | exact Gr.refl _ | apply Gr.ext | apply Gr.alloc | apply Gr.drew))⟩

abbrev GSymbol := ByteArray × List GAttribute
def wtSymbol (x : GSymbol) : Nat := x.1.size + wtAttributeS x.2

theorem rdSymbol_inv {fp : List Nat} {w : World} {cs : Array Value} (q0 : ByteArray) (q1 : List GAttribute) (h : Rd.rd (α := GSymbol) fp w cs.toList (q0, q1)) :
    ∃ vq1 fq1, cs = #[.string q0, vq1] ∧ fp = ([] ++ fq1) ∧ q0.size ≤ maxLen ∧ SlR fq1 w vq1 q1 := by
  generalize hcs : cs.toList = l at h
  obtain ⟨_, _, _, _, rfl, rfl, ⟨rfl, rfl, hq0⟩, ⟨vq1, rfl, hq1⟩⟩ := h
  exact ⟨_, _, Array.toList_inj.1 (by simpa using hcs), rfl, hq0, hq1⟩

theorem rdSymbol_shape {fp : List Nat} {w : World} {cs : Array Value} {x : GSymbol} (h : Rd.rd (α := GSymbol) fp w cs.toList x) :
    ∃ q0 aq1 lq1 cq1, cs = #[.string q0, .slice aq1 lq1 cq1] := by
  obtain ⟨q0, q1⟩ := x
  obtain ⟨vq1, fq1, rfl, -, -, hq1⟩ := rdSymbol_inv q0 q1 h
  obtain ⟨aq1, cq1, rfl, -, -, -⟩ := hq1.open
  exact ⟨_, _, _, _, rfl⟩

theorem rdSymbol_mk {w : World} (q0 : ByteArray) (q1 : List GAttribute) {vq1 : Value} {fq1 : List Nat} (hq0 : q0.size ≤ maxLen) (hq1 : SlR fq1 w vq1 q1) :
    Rd.rd (α := GSymbol) (([] ++ fq1)) w [.string q0, vq1] (q0, q1) := ⟨_, _, _, _, rfl, rfl, ⟨rfl, rfl, hq0⟩, ⟨_, rfl, hq1⟩⟩

set_option maxHeartbeats 1000000 in
theorem szSymbol_any (fp : List Nat) (cs : Array Value) (x : GSymbol) (left : Int) (w : World) (hx : Rd.rd fp w cs.toList x) (h0 : 0 ≤ left) (h1 : left ≤ 1048576) :
    Calls Tryz.prog 79 #[.agg cs, .int .i64 left] w fun e w' => e = .returned (.int .i64 (less left (wtSymbol x))) ∧ Gr w w' := by
  obtain ⟨q0, q1⟩ := x
  obtain ⟨vq1, fq1, rfl, -, hq0, hq1⟩ := rdSymbol_inv q0 q1 hx
  unfold maxLen at hq0
  obtain ⟨aq1, cq1, rfl, bq1, dq1, -⟩ := hq1.open
  have hwt : wtSymbol (q0, q1) = (q0.size) + (wtAttributeS q1) := by rfl
  have HW := Lib.hid hwt
  clear hwt hx
  go_enter Tryz.func79, Tryz.ntmps79
  go_wp2_with fail
  · go_ret
    refine ⟨ret_int ?_, (by repeat (first | exact Gr.refl _ | apply Gr.ext | apply Gr.alloc | apply Gr.drew))⟩
    have := less_cases left (wtSymbol (q0, q1))
    have := HW.out
    omega
  · skip
    refine (szAttributeS_any fq1 _ _ _ _ (hq1.gr (by repeat (first | exact Gr.refl _ | apply Gr.ext | apply Gr.alloc | apply Gr.drew))) (by omega) (by omega)).mono ?_
    rintro e w1 ⟨rfl, x1, rfl⟩
    have hb1 := less_le (left - ↑q0.size) (wtAttributeS q1) (by omega)
    go_wp2_with fail
    · go_ret
      refine ⟨ret_int ?_, (by repeat (first | exact Gr.refl _ | apply Gr.ext | apply Gr.alloc | apply Gr.drew))⟩
      have := less_cases left (wtSymbol (q0, q1))
      have := HW.out
      have := less_cases (left - ↑q0.size) (wtAttributeS q1)
      omega
    · skip
      go_ret
      refine ⟨ret_int ?_, (by repeat (first | exact Gr.refl _ | apply Gr.ext | apply Gr.alloc | apply Gr.drew))⟩
      have := less_cases left (wtSymbol (q0, q1))
      have := HW.out
      have := less_cases (left - ↑q0.size) (wtAttributeS q1)
      omega

theorem Symbol_ext (q0 : ByteArray) (q1 : List GAttribute) (p0 : ByteArray) (p1 : List GAttribute) (e0 : q0 = p0) (e1 : q1 = p1) : ((q0, q1) : GSymbol) = (p0, p1) := by
  exact Prod.ext_iff.2 ⟨e0, e1⟩

set_option maxHeartbeats 1000000 in
theorem eqSymbol_any (fp fq : List Nat) (cs ds : Array Value) (x y : GSymbol) (w : World) (hx : Rd.rd fp w cs.toList x) (hy : Rd.rd fq w ds.toList y) :
    Calls Tryz.prog 98 #[.agg cs, .agg ds] w fun e w' => e = .returned (.bool (decide (x = y))) ∧ Gr w w' := by
  obtain ⟨q0, q1⟩ := x
  obtain ⟨p0, p1⟩ := y
  obtain ⟨vq1, fq1, rfl, -, hq0, hq1⟩ := rdSymbol_inv q0 q1 hx
  obtain ⟨vp1, fp1, rfl, -, hp0, hp1⟩ := rdSymbol_inv p0 p1 hy
  obtain ⟨aq1, cq1, rfl, -, -, -⟩ := hq1.open
  obtain ⟨ap1, cp1, rfl, -, -, -⟩ := hp1.open
  clear hx hy
  go_enter Tryz.func98, Tryz.ntmps98
  go_wp2_with fail
  · have ht : (!q0.toList == p0.toList) = true := by assumption
    go_ret
    exact ⟨ret_bool (decide_eq_false fun e => str_ne ht (congrArg (fun z : GSymbol => z.1) e)).symm, (by repeat (first | exact Gr.refl _ | apply Gr.ext | apply Gr.alloc | apply Gr.drew))⟩
  · skip
    have e0 := Lib.hid (str_eq (show (!q0.toList == p0.toList) = false by assumption))
    refine (eqAttributeS_any fq1 fp1 _ _ q1 p1 _ (hq1.gr (by repeat (first | exact Gr.refl _ | apply Gr.ext | apply Gr.alloc | apply Gr.drew))) (hp1.gr (by repeat (first | exact Gr.refl _ | apply Gr.ext | apply Gr.alloc | apply Gr.drew)))).mono ?_
    rintro e w1 ⟨rfl, x1, rfl⟩
    go_wp2_with fail
    · have ht : (!decide (q1 = p1)) = true := by assumption
      go_ret
      exact ⟨ret_bool (decide_eq_false fun e => dec_ne ht (congrArg (fun z : GSymbol => z.2) e)).symm, (by repeat (first | exact Gr.refl _ | apply Gr.ext | apply Gr.alloc | apply Gr.drew))⟩
    · skip
      have e1 := Lib.hid (dec_eq (show (!decide (q1 = p1)) = false by assumption))
      go_ret
      exact ⟨ret_bool (decide_eq_true (Symbol_ext q0 q1 p0 p1 e0.out e1.out)).symm, (by repeat (first | exact Gr.refl _ | apply Gr.ext | apply Gr.alloc | apply Gr.drew))⟩

set_option maxHeartbeats 1000000 in
theorem toSymbol_any (fp : List Nat) (cs : Array Value) (x : GSymbol) (w : World) (hx : Rd.rd fp w cs.toList x) (hl : wtSymbol x ≤ 1048576) :
    Calls Tryz.prog 87 #[.agg cs] w fun e w' => ∃ ds fq, e = .returned (.agg ds) ∧ Rd.rd fq w' ds.toList x ∧ Fresh w fq ∧ Gr w w' := by
  obtain ⟨q0, q1⟩ := x
  obtain ⟨vq1, fq1, rfl, -, hq0, hq1⟩ := rdSymbol_inv q0 q1 hx
  obtain ⟨aq1, cq1, rfl, -, -, -⟩ := hq1.open
  have hwt : wtSymbol (q0, q1) = (q0.size) + (wtAttributeS q1) := by rfl
  have HW := Lib.hid hwt
  clear hwt hx
  go_enter Tryz.func87, Tryz.ntmps87
  go_wp2_with fail
  refine (toAttributeS_any fq1 _ _ _ (hq1.gr (by repeat (first | exact Gr.refl _ | apply Gr.ext | apply Gr.alloc | apply Gr.drew))) (by have := HW.out; omega)).mono ?_
  rintro e w1 ⟨u1, g1, rfl, s1, fr1, x1, rfl⟩
  obtain ⟨aa1, cc1, rfl, -, -, -⟩ := s1.open
  go_wp2_with fail
  have hfresh : Fresh w g1 := by
    exact (Fresh.of_le fr1 (by simp <;> omega))
  exact bodyPost_ret (v := .agg #[.string q0, .slice aa1 q1.length cc1]) (by simp [results, Tryz.results87, go_sem]) rfl
    ⟨_, _, rfl, rdSymbol_mk q0 q1 hq0 (SlR.moved s1 fr1 (by repeat (first | exact Gr.refl _ | apply Gr.ext | apply Gr.alloc | apply Gr.drew)) (by simp)), hfresh, (by repeat (first | exact Gr.refl _ | apply Gr.ext | apply Gr.alloc | apply Gr.drew))⟩

def wtSymbolS (xs : List GSymbol) : Nat := wtL wtSymbol xs

set_option maxHeartbeats 1000000 in
theorem szSymbolS_any (fp : List Nat) (u : Value) (xs : List GSymbol) (left : Int) (w : World) (hu : SlR fp w u xs) (h0 : 0 ≤ left) (h1 : left ≤ 1048576) :
    Calls Tryz.prog 32 #[u, .int .i64 left] w fun e w' => e = .returned (.int .i64 (less left (wtSymbolS xs))) ∧ Gr w w' := by
  obtain ⟨a, ca, rfl, g1, g2, g3⟩ := hu.open
  by_cases hneg : left - xs.length < 0
  · have hle : less left (wtSymbolS xs) = -1 := by unfold less wtSymbolS wtL; rw [if_pos (by omega)]
    have HL := Lib.hid hle
    clear hle
    go_enter Tryz.func32, Tryz.ntmps32
    go_wp2
    go_ret
    exact ⟨ret_int HL.out.symm, Gr.refl w⟩
  · have hl0 : less left xs.length = left - xs.length := by unfold less; rw [if_neg hneg]
    have HL0 := Lib.hid hl0
    clear hl0
    go_enter Tryz.func32, Tryz.ntmps32
    go_wp2
    go_loopw [5, 1] (fun s5 s1 wr => ∃ (k : Nat) (m : Int), k ≤ xs.length ∧ 0 ≤ m ∧ m ≤ 1048576 ∧ Hid (m = less left (xs.length + ((xs.take k).map wtSymbol).sum)) ∧ Gr w wr ∧ s5 = .int .i64 k ∧ s1 = .int .i64 m) (fun s5 _ _ => xs.length - (intOf s5).toNat)
    case atStart => exact ⟨0, _, by omega, by omega, by omega, Lib.hid (by simp [HL0.out]), Gr.refl w, rfl, rfl⟩
    case round =>
      obtain ⟨k, m, hk, hm0, hm1, hm, ⟨x, rfl⟩, rfl, rfl⟩ := hrel
      by_cases hlt : k < xs.length
      · obtain ⟨b, off, rfl, hb⟩ := g3 k hlt
        have hsum := Lib.hid (sum_take_succ wtSymbol xs k hlt)
        obtain ⟨csq, feq, hcq, hrq, -⟩ := hu.at hlt
        have hrdq := hrq
        generalize xs[k] = yq at hrq
        obtain ⟨q0, q1⟩ := yq
        obtain ⟨vq1, fq1, hcsq, -, hq0, hq1⟩ := rdSymbol_inv (cs := csq.toArray) q0 q1 (by simpa using hrq)
        obtain rfl : csq = [.string q0, vq1] := by have := congrArg Array.toList hcsq; simpa using this
        have z0 : w.cell? ⟨b, off + k * 2, none⟩ = some (.string q0) := by simpa [Rd.n] using hcq 0 _ rfl
        have z1 : w.cell? ⟨b, off + k * 2 + 1, none⟩ = some (vq1) := hcq 1 _ rfl
        have hmono := less_le m (wtSymbol xs[k]) (by omega)
        clear g3 hcsq hcq hrq
        go_wp2_with (go_at_call 79; refine (szSymbol_any _ _ xs[k] _ _ (Rd.gr hrdq ((Gr.refl w).ext _)) (by omega) (by omega)).mono ?_; rintro e w1 ⟨rfl, y, rfl⟩)
        · have hx : less m (wtSymbol xs[k]) < 0 := by assumption
          go_ret
          refine ⟨ret_int ?_, (by repeat (first | exact Gr.refl _ | apply Gr.ext | apply Gr.alloc | apply Gr.drew))⟩
          have e := hm.out
          subst e
          rw [less_less, Nat.add_assoc, ← hsum.out] at hx
          exact (less_mono hx (Nat.add_le_add_left (sum_take_le wtSymbol xs (k + 1)) _) h0).symm
        · have hx : 0 ≤ less m (wtSymbol xs[k]) := by assumption
          refine ⟨⟨k + 1, _, by omega, hx, by omega, Lib.hid ?_, (by repeat (first | exact Gr.refl _ | apply Gr.ext | apply Gr.alloc | apply Gr.drew)), by go_num, rfl⟩, by simp [intOf]; omega⟩
          rw [hsum.out, hm.out, less_less, Nat.add_assoc]
      · have hk2 : k = xs.length := by omega
        subst hk2
        have hm2 := hm.out
        rw [List.take_length] at hm2
        have HM := Lib.hid hm2
        clear hm2 hm
        go_wp2
        go_ret
        exact ⟨ret_int HM.out, (by repeat (first | exact Gr.refl _ | apply Gr.ext | apply Gr.alloc | apply Gr.drew))⟩

set_option maxHeartbeats 1000000 in
theorem eqSymbolS_any (fp fq : List Nat) (u v : Value) (xs ys : List GSymbol) (w : World) (hu : SlR fp w u xs) (hv : SlR fq w v ys) :
    Calls Tryz.prog 50 #[u, v] w fun e w' => e = .returned (.bool (decide (xs = ys))) ∧ Gr w w' := by
  obtain ⟨a, ca, rfl, h1, h2, h3⟩ := hu.open
  obtain ⟨c, cc, rfl, g1, g2, g3⟩ := hv.open
  by_cases hl : xs.length = ys.length
  · have hl' := Lib.hid hl
    have hne : ((xs.length : Int) != (ys.length : Int)) = false := by simp [hl]
    clear hl
    go_enter Tryz.func50, Tryz.ntmps50
    go_wp2
    go_loopw [5] (fun s5 wr => ∃ k : Nat, k ≤ xs.length ∧ xs.take k = ys.take k ∧ Gr w wr ∧ s5 = .int .i64 k) (fun s5 _ => xs.length - (intOf s5).toNat)
    case atStart => exact ⟨0, by omega, rfl, Gr.refl w, rfl⟩
    case round =>
      obtain ⟨k, hk, ht, ⟨x, rfl⟩, rfl⟩ := hrel
      by_cases hlt : k < xs.length
      · have hlt2 : k < ys.length := by have := hl'.out; omega
        obtain ⟨b, off, rfl, hb⟩ := h3 k hlt
        obtain ⟨b', off', rfl, hb'⟩ := g3 k hlt2
        obtain ⟨csq, feq, hcq, hrq, -⟩ := hu.at hlt
        have hrdq := hrq
        generalize xs[k] = yq at hrq
        obtain ⟨q0, q1⟩ := yq
        obtain ⟨vq1, fq1, hcsq, -, hq0, hq1⟩ := rdSymbol_inv (cs := csq.toArray) q0 q1 (by simpa using hrq)
        obtain rfl : csq = [.string q0, vq1] := by have := congrArg Array.toList hcsq; simpa using this
        obtain ⟨csp, fep, hcp, hrp, -⟩ := hv.at hlt2
        have hrdp := hrp
        generalize ys[k] = yp at hrp
        obtain ⟨p0, p1⟩ := yp
        obtain ⟨vp1, fp1, hcsp, -, hp0, hp1⟩ := rdSymbol_inv (cs := csp.toArray) p0 p1 (by simpa using hrp)
        obtain rfl : csp = [.string p0, vp1] := by have := congrArg Array.toList hcsp; simpa using this
        have z0 : w.cell? ⟨b, off + k * 2, none⟩ = some (.string q0) := by simpa [Rd.n] using hcq 0 _ rfl
        have z1 : w.cell? ⟨b, off + k * 2 + 1, none⟩ = some (vq1) := hcq 1 _ rfl
        have zz0 : w.cell? ⟨b', off' + k * 2, none⟩ = some (.string p0) := by simpa [Rd.n] using hcp 0 _ rfl
        have zz1 : w.cell? ⟨b', off' + k * 2 + 1, none⟩ = some (vp1) := hcp 1 _ rfl
        have hT := Lib.hid ht
        clear h3 g3 ht hcsq hcsp hcq hcp hrq hrp
        go_wp2_with fail
        refine wp_region_grown (by kernel_rfl) (by kernel_rfl) ?_
        repeat (go_big_quiet_step ((go_at_call 98; refine grown_call (eqSymbol_any _ _ _ _ xs[k] ys[k] _ (Rd.gr hrdq ?_) (Rd.gr hrdp ?_)) <;> exact ((Gr.refl w).ext _).ext _)))
        refine wpQuiet_nil ?_
        intro _ hw'
        obtain ⟨nx, hw''⟩ := hw'
        subst hw''
        go_wp2
        · have ht : (!decide (xs[k] = ys[k])) = true := by assumption
          go_ret
          have E : xs ≠ ys := fun e => dec_ne ht (by subst e; rfl)
          exact ⟨ret_bool (decide_eq_false E).symm, (by repeat (first | exact Gr.refl _ | apply Gr.ext | apply Gr.alloc | apply Gr.drew))⟩
        · have ht : (!decide (xs[k] = ys[k])) = false := by assumption
          have e2 := dec_eq ht
          refine ⟨⟨k + 1, by omega, ?_, (by repeat (first | exact Gr.refl _ | apply Gr.ext | apply Gr.alloc | apply Gr.drew)), by go_num⟩, by simp [intOf]; omega⟩
          rw [List.take_succ_eq_append_getElem hlt, List.take_succ_eq_append_getElem hlt2, hT.out, e2]
      · have hk2 : k = xs.length := by omega
        subst hk2
        have e : xs = ys := by
          have h := ht
          have h' := hl'.out
          rw [List.take_length, h', List.take_length] at h
          exact h
        have E := Lib.hid e
        clear e ht
        go_wp2
        go_ret
        exact ⟨ret_bool (decide_eq_true E.out).symm, (by repeat (first | exact Gr.refl _ | apply Gr.ext | apply Gr.alloc | apply Gr.drew))⟩
  · have hne : ((xs.length : Int) != (ys.length : Int)) = true := by simp; omega
    have e : xs ≠ ys := fun e => hl (by rw [e])
    have E := Lib.hid e
    clear e hl
    go_enter Tryz.func50, Tryz.ntmps50
    go_wp2
    go_ret
    exact ⟨ret_bool (decide_eq_false E.out).symm, Gr.refl w⟩

theorem Tryz.infoSymbol : (Tryz.prog.info? 144).map (fun i => (i.zero, i.size, i.bytes)) = some (some (.agg #[.string ByteArray.empty, .slice none 0 0]), 2, 40) := by kernel_rfl

set_option maxHeartbeats 1000000 in
theorem toSymbolS_any (fp : List Nat) (u : Value) (xs : List GSymbol) (w : World) (hu : SlR fp w u xs) (hlen : wtSymbolS xs ≤ 1048576) :
    Calls Tryz.prog 39 #[u] w fun e w' => ∃ v fq, e = .returned v ∧ SlR fq w' v xs ∧ Fresh w fq ∧ Gr w w' := by
  obtain ⟨a, ca, rfl, h1, h2, h3⟩ := hu.open
  have hll : xs.length ≤ 1048576 := Nat.le_trans (wtL_len wtSymbol xs) hlen
  obtain ⟨i0, hi, hz0, hz1, hz2⟩ := info_parts Tryz.infoSymbol
  have hmk := fun (W : World) => run_make (P := Tryz.prog) W 40 144 i0 (.agg #[.string ByteArray.empty, .slice none 0 0]) Tryz.underlying40 hi hz0 .i64 .i64 xs.length xs.length (by omega) (by omega) (by rw [hz2]; omega) (by omega)
  rw [hz1] at hmk
  clear hi hz0 hz1 hz2
  simp only [Int.toNat_natCast] at hmk
  have hms := size_madeCells (Value.agg #[.string ByteArray.empty, .slice none 0 0]).cells (xs.length * 2)
  generalize madeCells (Value.agg #[.string ByteArray.empty, .slice none 0 0]).cells (xs.length * 2) = C0 at hmk hms
  have HS := Lib.hid hms
  have HLS := Lib.hid hlen
  clear hms hlen
  go_enter Tryz.func39, Tryz.ntmps39
  go_wp2
  go_loopw [4] (fun s4 wr => ∃ (k : Nat) (C : Array Value) (x : Ext) (fps : List (List Nat)), C.size = xs.length * 2 ∧ PartR w w.heap.size wr C k fps xs ∧ wr = (w.alloc (.cells C 144)).ext x ∧ s4 = .int .i64 k) (fun s4 _ => xs.length - (intOf s4).toNat)
  case atStart => exact ⟨0, C0, ⟨#[], 0⟩, [], HS.out, PartR.start _ _ (Nat.le_refl _) (by simp), (ext_zero _).symm, rfl⟩
  case round =>
    obtain ⟨k, C, x, fps, hC, hp, rfl, rfl⟩ := hrel
    have hCs := Lib.hid hC
    have hk := hp.le
    by_cases hlt : k < xs.length
    · obtain ⟨b, off, rfl, hb⟩ := h3 k hlt
      have hwk := wtL_at wtSymbol xs hlt
      obtain ⟨csq, feq, hcq, hrq, -⟩ := hu.at hlt
      have hrdq := hrq
      generalize xs[k] = yq at hrq
      obtain ⟨q0, q1⟩ := yq
      obtain ⟨vq1, fq1, hcsq, -, hq0, hq1⟩ := rdSymbol_inv (cs := csq.toArray) q0 q1 (by simpa using hrq)
      obtain rfl : csq = [.string q0, vq1] := by have := congrArg Array.toList hcsq; simpa using this
      have z0 : w.cell? ⟨b, off + k * 2, none⟩ = some (.string q0) := by simpa [Rd.n] using hcq 0 _ rfl
      have z1 : w.cell? ⟨b, off + k * 2 + 1, none⟩ = some (vq1) := hcq 1 _ rfl
      have y0 : k * 2 < C.size := by omega
      have y1 : k * 2 + 1 < C.size := by omega
      have hwl : wtSymbol xs[k] ≤ 1048576 := Nat.le_trans hwk HLS.out
      have hd0 : k * 2 + 2 ≤ C.size := by omega
      have HD := Lib.hid hd0
      clear hC h3 hcsq hcq hrq hwk hd0
      go_wp2_with (go_at_call 87; refine (toSymbol_any _ _ xs[k] _ (Rd.gr hrdq (by repeat (first | exact Gr.refl _ | apply Gr.ext | apply Gr.alloc | apply Gr.drew))) (by omega)).mono ?_; rintro e w1 ⟨ds, fq, rfl, hs, hf, y, rfl⟩; have hs2 := hs; generalize xs[k] = yr at hs2; obtain ⟨r0, r1⟩ := yr; obtain ⟨vr1, fr1, rfl, hfq, kr0, kr1⟩ := rdSymbol_inv r0 r1 hs2; obtain ⟨aar1, ccr1, rfl, -, -, -⟩ := kr1.open; clear hfq)
      rw [ext_ext, ← setRow_2]
      refine ⟨⟨k + 1, setRow C (k * 2) [.string r0, .slice aar1 r1.length ccr1], x.comp y, fps ++ [fq], ?_, ?_, rfl, by go_num⟩, by simp [intOf]; omega⟩
      · rw [setRow_size]; exact hCs.out
      · refine hp.step_own hlt (C' := setRow C (k * 2) [.string r0, .slice aar1 r1.length ccr1]) (cs := [.string r0, .slice aar1 r1.length ccr1]) ?_ hf (fun j hj => setRow_lt _ _ _ _ hj) (setRow_get _ _ _ HD.out)
        exact hs
    · have hk2 : k = xs.length := by omega
      subst hk2
      obtain ⟨fq, hs, hf⟩ := hp.done (heap_own_self _ x) (cap := xs.length) (Nat.le_refl _) (by unfold reachLen; omega)
      have HF := Lib.hid hs
      clear hs hC
      go_wp2
      go_ret
      exact ⟨_, fq, rfl, HF.out, hf, (by repeat (first | exact Gr.refl _ | apply Gr.ext | apply Gr.alloc | apply Gr.drew))⟩

abbrev GOccurrence := Int × ByteArray
def wtOccurrence (x : GOccurrence) : Nat := x.2.size

theorem rdOccurrence_inv {fp : List Nat} {w : World} {cs : Array Value} (q0 : Int) (q1 : ByteArray) (h : Rd.rd (α := GOccurrence) fp w cs.toList (q0, q1)) :
    cs = #[.int .i64 q0, .string q1] ∧ fp = ([] ++ []) ∧ (Lit.int .i64 q0).wf = true ∧ q1.size ≤ maxLen := by
  generalize hcs : cs.toList = l at h
  obtain ⟨_, _, _, _, rfl, rfl, ⟨rfl, rfl, hq0⟩, ⟨rfl, rfl, hq1⟩⟩ := h
  exact ⟨Array.toList_inj.1 (by simpa using hcs), rfl, hq0, hq1⟩

theorem rdOccurrence_shape {fp : List Nat} {w : World} {cs : Array Value} {x : GOccurrence} (h : Rd.rd (α := GOccurrence) fp w cs.toList x) :
    ∃ q0 q1, cs = #[.int .i64 q0, .string q1] := by
  obtain ⟨q0, q1⟩ := x
  obtain ⟨rfl, -, -, -⟩ := rdOccurrence_inv q0 q1 h
  exact ⟨_, _, rfl⟩

theorem rdOccurrence_mk {w : World} (q0 : Int) (q1 : ByteArray) (hq0 : (Lit.int .i64 q0).wf = true) (hq1 : q1.size ≤ maxLen) :
    Rd.rd (α := GOccurrence) (([] ++ [])) w [.int .i64 q0, .string q1] (q0, q1) := ⟨_, _, _, _, rfl, rfl, ⟨rfl, rfl, hq0⟩, ⟨rfl, rfl, hq1⟩⟩

set_option maxHeartbeats 1000000 in
theorem szOccurrence_any (fp : List Nat) (cs : Array Value) (x : GOccurrence) (left : Int) (w : World) (hx : Rd.rd fp w cs.toList x) (h0 : 0 ≤ left) (h1 : left ≤ 1048576) :
    Calls Tryz.prog 147 #[.agg cs, .int .i64 left] w fun e w' => e = .returned (.int .i64 (less left (wtOccurrence x))) ∧ Gr w w' := by
  obtain ⟨q0, q1⟩ := x
  obtain ⟨rfl, -, hq0, hq1⟩ := rdOccurrence_inv q0 q1 hx
  unfold maxLen at hq1
  have hwt : wtOccurrence (q0, q1) = (q1.size) := by rfl
  have HW := Lib.hid hwt
  clear hwt hx
  go_enter Tryz.func147, Tryz.ntmps147
  go_wp2_with fail
  · go_ret
    refine ⟨ret_int ?_, (by repeat (first | exact Gr.refl _ | apply Gr.ext | apply Gr.alloc | apply Gr.drew))⟩
    have := less_cases left (wtOccurrence (q0, q1))
    have := HW.out
    omega
  · skip
    go_ret
    refine ⟨ret_int ?_, (by repeat (first | exact Gr.refl _ | apply Gr.ext | apply Gr.alloc | apply Gr.drew))⟩
    have := less_cases left (wtOccurrence (q0, q1))
    have := HW.out
    omega

theorem Occurrence_ext (q0 : Int) (q1 : ByteArray) (p0 : Int) (p1 : ByteArray) (e0 : q0 = p0) (e1 : q1 = p1) : ((q0, q1) : GOccurrence) = (p0, p1) := by
  exact Prod.ext_iff.2 ⟨e0, e1⟩

set_option maxHeartbeats 1000000 in
theorem eqOccurrence_any (fp fq : List Nat) (cs ds : Array Value) (x y : GOccurrence) (w : World) (hx : Rd.rd fp w cs.toList x) (hy : Rd.rd fq w ds.toList y) :
    Calls Tryz.prog 151 #[.agg cs, .agg ds] w fun e w' => e = .returned (.bool (decide (x = y))) ∧ Gr w w' := by
  obtain ⟨q0, q1⟩ := x
  obtain ⟨p0, p1⟩ := y
  obtain ⟨rfl, -, hq0, hq1⟩ := rdOccurrence_inv q0 q1 hx
  obtain ⟨rfl, -, hp0, hp1⟩ := rdOccurrence_inv p0 p1 hy
  clear hx hy
  go_enter Tryz.func151, Tryz.ntmps151
  go_wp2_with fail
  · have ht : (q0 != p0) = true := by assumption
    go_ret
    exact ⟨ret_bool (decide_eq_false fun e => int_ne ht (congrArg (fun z : GOccurrence => z.1) e)).symm, (by repeat (first | exact Gr.refl _ | apply Gr.ext | apply Gr.alloc | apply Gr.drew))⟩
  · have ht : (!q1.toList == p1.toList) = true := by assumption
    go_ret
    exact ⟨ret_bool (decide_eq_false fun e => str_ne ht (congrArg (fun z : GOccurrence => z.2) e)).symm, (by repeat (first | exact Gr.refl _ | apply Gr.ext | apply Gr.alloc | apply Gr.drew))⟩
  · skip
    have e0 := Lib.hid (int_eq (show (q0 != p0) = false by assumption))
    have e1 := Lib.hid (str_eq (show (!q1.toList == p1.toList) = false by assumption))
    go_ret
    exact ⟨ret_bool (decide_eq_true (Occurrence_ext q0 q1 p0 p1 e0.out e1.out)).symm, (by repeat (first | exact Gr.refl _ | apply Gr.ext | apply Gr.alloc | apply Gr.drew))⟩

set_option maxHeartbeats 1000000 in
theorem toOccurrence_any (fp : List Nat) (cs : Array Value) (x : GOccurrence) (w : World) (hx : Rd.rd fp w cs.toList x) :
    Calls Tryz.prog 149 #[.agg cs] w fun e w' => e = .returned (.agg cs) ∧ Gr w w' := by
  obtain ⟨q0, q1⟩ := x
  obtain ⟨rfl, -, hq0, hq1⟩ := rdOccurrence_inv q0 q1 hx
  clear hx
  go_enter Tryz.func149, Tryz.ntmps149
  go_wp2_with fail
  exact bodyPost_ret (v := .agg #[.int .i64 q0, .string q1]) (by simp [results, Tryz.results149, go_sem]) rfl ⟨rfl, (by repeat (first | exact Gr.refl _ | apply Gr.ext | apply Gr.alloc | apply Gr.drew))⟩

end Go.Proofs.YtbfmeiooeaaibaaGreat
