/- Contracts of the functions that measure, compare and copy: Cell, Cell*, Store. Made by mk_fam.py. No condition. -/
import Derived.Test.YtmfcagcanhmdbaaIntsD
namespace Go.Proofs.Ytmfcagcanhmdbaa
open Go.RowKit

abbrev GCell := ByteArray × Int × List Int
def wtCell (x : GCell) : Nat := x.1.size + x.2.2.length
instance decCell : DecidableEq GCell := @instDecidableEqProd _ _ _ (@instDecidableEqProd _ _ _ (inferInstance))

theorem rdCell_inv {fp : List Nat} {w : World} {cs : Array Value} (q0 : ByteArray) (q1 : Int) (q2 : List Int) (h : Rd.rd (α := GCell) fp w cs.toList (q0, q1, q2)) :
    ∃ vq2 fq2, cs = #[.string q0, .int .i64 q1, vq2] ∧ fp = ([] ++ ([] ++ fq2)) ∧ q0.size ≤ maxLen ∧ (Lit.int .i64 q1).wf = true ∧ SlR fq2 w vq2 q2 := by
  generalize hcs : cs.toList = l at h
  obtain ⟨_, _, _, _, rfl, rfl, ⟨rfl, rfl, hq0⟩, ⟨_, _, _, _, rfl, rfl, ⟨rfl, rfl, hq1⟩, ⟨vq2, rfl, hq2⟩⟩⟩ := h
  exact ⟨_, _, Array.toList_inj.1 (by simpa using hcs), rfl, hq0, hq1, hq2⟩

theorem rdCell_shape {fp : List Nat} {w : World} {cs : Array Value} {x : GCell} (h : Rd.rd (α := GCell) fp w cs.toList x) :
    ∃ q0 q1 aq2 lq2 cq2, cs = #[.string q0, .int .i64 q1, .slice aq2 lq2 cq2] := by
  obtain ⟨q0, q1, q2⟩ := x
  obtain ⟨vq2, fq2, rfl, -, -, -, hq2⟩ := rdCell_inv q0 q1 q2 h
  obtain ⟨aq2, cq2, rfl, -, -, -⟩ := hq2.open
  exact ⟨_, _, _, _, _, rfl⟩

theorem rdCell_mk {w : World} (q0 : ByteArray) (q1 : Int) (q2 : List Int) {vq2 : Value} {fq2 : List Nat} (hq0 : q0.size ≤ maxLen) (hq1 : (Lit.int .i64 q1).wf = true) (hq2 : SlR fq2 w vq2 q2) :
    Rd.rd (α := GCell) (([] ++ ([] ++ fq2))) w [.string q0, .int .i64 q1, vq2] (q0, q1, q2) := ⟨_, _, _, _, rfl, rfl, ⟨rfl, rfl, hq0⟩, ⟨_, _, _, _, rfl, rfl, ⟨rfl, rfl, hq1⟩, ⟨_, rfl, hq2⟩⟩⟩

set_option maxHeartbeats 1000000 in
theorem szCell_any (fp : List Nat) (cs : Array Value) (x : GCell) (left : Int) (w : World) (hx : Rd.rd fp w cs.toList x) (h0 : 0 ≤ left) (h1 : left ≤ 1048576) :
    Calls Try.prog 67 #[.agg cs, .int .i64 left] w fun e w' => e = .returned (.int .i64 (less left (wtCell x))) ∧ Gr w w' := by
  obtain ⟨q0, q1, q2⟩ := x
  obtain ⟨vq2, fq2, rfl, -, hq0, hq1, hq2⟩ := rdCell_inv q0 q1 q2 hx
  unfold maxLen at hq0
  obtain ⟨aq2, cq2, rfl, bq2, dq2, -⟩ := hq2.open
  have hwt : wtCell (q0, q1, q2) = (q0.size) + (q2.length) := by rfl
  have HW := Lib.hid hwt
  clear hwt hx
  go_enter Try.func67, Try.ntmps67
  go_wp2_with fail
  · go_ret
    refine ⟨ret_int ?_, (by repeat (first | exact Gr.refl _ | apply Gr.ext | apply Gr.alloc | apply Gr.drew))⟩
    have := less_cases left (wtCell (q0, q1, q2))
    have := HW.out
    omega
  · skip
    refine (szIntS_gr fq2 _ _ _ _ (hq2.gr (by repeat (first | exact Gr.refl _ | apply Gr.ext | apply Gr.alloc | apply Gr.drew))) (by omega) (by omega)).mono ?_
    rintro e w2 ⟨rfl, x2, rfl⟩
    have hb2 := less_le (left - ↑q0.size) (q2.length) (by omega)
    go_wp2_with fail
    · go_ret
      refine ⟨ret_int ?_, (by repeat (first | exact Gr.refl _ | apply Gr.ext | apply Gr.alloc | apply Gr.drew))⟩
      have := less_cases left (wtCell (q0, q1, q2))
      have := HW.out
      have := less_cases (left - ↑q0.size) (q2.length)
      omega
    · skip
      go_ret
      refine ⟨ret_int ?_, (by repeat (first | exact Gr.refl _ | apply Gr.ext | apply Gr.alloc | apply Gr.drew))⟩
      have := less_cases left (wtCell (q0, q1, q2))
      have := HW.out
      have := less_cases (left - ↑q0.size) (q2.length)
      omega

theorem Cell_ext (q0 : ByteArray) (q1 : Int) (q2 : List Int) (p0 : ByteArray) (p1 : Int) (p2 : List Int) (e0 : q0 = p0) (e1 : q1 = p1) (e2 : q2 = p2) : ((q0, q1, q2) : GCell) = (p0, p1, p2) := by
  exact Prod.ext_iff.2 ⟨e0, Prod.ext_iff.2 ⟨e1, e2⟩⟩

set_option maxHeartbeats 1000000 in
theorem eqCell_any (fp fq : List Nat) (cs ds : Array Value) (x y : GCell) (w : World) (hx : Rd.rd fp w cs.toList x) (hy : Rd.rd fq w ds.toList y) :
    Calls Try.prog 73 #[.agg cs, .agg ds] w fun e w' => e = .returned (.bool (decide (x = y))) ∧ Gr w w' := by
  obtain ⟨q0, q1, q2⟩ := x
  obtain ⟨p0, p1, p2⟩ := y
  obtain ⟨vq2, fq2, rfl, -, hq0, hq1, hq2⟩ := rdCell_inv q0 q1 q2 hx
  obtain ⟨vp2, fp2, rfl, -, hp0, hp1, hp2⟩ := rdCell_inv p0 p1 p2 hy
  obtain ⟨aq2, cq2, rfl, -, -, -⟩ := hq2.open
  obtain ⟨ap2, cp2, rfl, -, -, -⟩ := hp2.open
  clear hx hy
  go_enter Try.func73, Try.ntmps73
  go_wp2_with fail
  · have ht : (!q0.toList == p0.toList) = true := by assumption
    go_ret
    exact ⟨ret_bool (decide_eq_false fun e => str_ne ht (congrArg (fun z : GCell => z.1) e)).symm, (by repeat (first | exact Gr.refl _ | apply Gr.ext | apply Gr.alloc | apply Gr.drew))⟩
  · have ht : (q1 != p1) = true := by assumption
    go_ret
    exact ⟨ret_bool (decide_eq_false fun e => int_ne ht (congrArg (fun z : GCell => z.2.1) e)).symm, (by repeat (first | exact Gr.refl _ | apply Gr.ext | apply Gr.alloc | apply Gr.drew))⟩
  · skip
    have e0 := Lib.hid (str_eq (show (!q0.toList == p0.toList) = false by assumption))
    have e1 := Lib.hid (int_eq (show (q1 != p1) = false by assumption))
    refine (eqIntS_any fq2 fp2 _ _ q2 p2 _ (hq2.gr (by repeat (first | exact Gr.refl _ | apply Gr.ext | apply Gr.alloc | apply Gr.drew))) (hp2.gr (by repeat (first | exact Gr.refl _ | apply Gr.ext | apply Gr.alloc | apply Gr.drew)))).mono ?_
    rintro e w2 ⟨rfl, x2, rfl⟩
    go_wp2_with fail
    · have ht : (!decide (q2 = p2)) = true := by assumption
      go_ret
      exact ⟨ret_bool (decide_eq_false fun e => dec_ne ht (congrArg (fun z : GCell => z.2.2) e)).symm, (by repeat (first | exact Gr.refl _ | apply Gr.ext | apply Gr.alloc | apply Gr.drew))⟩
    · skip
      have e2 := Lib.hid (dec_eq (show (!decide (q2 = p2)) = false by assumption))
      go_ret
      exact ⟨ret_bool (decide_eq_true (Cell_ext q0 q1 q2 p0 p1 p2 e0.out e1.out e2.out)).symm, (by repeat (first | exact Gr.refl _ | apply Gr.ext | apply Gr.alloc | apply Gr.drew))⟩

set_option maxHeartbeats 1000000 in
theorem toCell_any (fp : List Nat) (cs : Array Value) (x : GCell) (w : World) (hx : Rd.rd fp w cs.toList x) (hl : wtCell x ≤ 1048576) :
    Calls Try.prog 69 #[.agg cs] w fun e w' => ∃ ds fq, e = .returned (.agg ds) ∧ Rd.rd fq w' ds.toList x ∧ Fresh w fq ∧ Gr w w' := by
  obtain ⟨q0, q1, q2⟩ := x
  obtain ⟨vq2, fq2, rfl, -, hq0, hq1, hq2⟩ := rdCell_inv q0 q1 q2 hx
  obtain ⟨aq2, cq2, rfl, -, -, -⟩ := hq2.open
  have hwt : wtCell (q0, q1, q2) = (q0.size) + (q2.length) := by rfl
  have HW := Lib.hid hwt
  clear hwt hx
  go_enter Try.func69, Try.ntmps69
  go_wp2_with fail
  refine (toIntS_any fq2 _ _ _ (hq2.gr (by repeat (first | exact Gr.refl _ | apply Gr.ext | apply Gr.alloc | apply Gr.drew))) (by have := HW.out; omega)).mono ?_
  rintro e w2 ⟨u2, g2, rfl, s2, fr2, x2, rfl⟩
  obtain ⟨aa2, cc2, rfl, -, -, -⟩ := s2.open
  go_wp2_with fail
  have hfresh : Fresh w g2 := by
    exact (Fresh.of_le fr2 (by simp <;> omega))
  exact bodyPost_ret (v := .agg #[.string q0, .int .i64 q1, .slice aa2 q2.length cc2]) (by simp [results, Try.results69, go_sem]) rfl
    ⟨_, _, rfl, rdCell_mk q0 q1 q2 hq0 hq1 (SlR.moved s2 fr2 (by repeat (first | exact Gr.refl _ | apply Gr.ext | apply Gr.alloc | apply Gr.drew)) (by simp)), hfresh, (by repeat (first | exact Gr.refl _ | apply Gr.ext | apply Gr.alloc | apply Gr.drew))⟩

def wtCellS (xs : List GCell) : Nat := wtL wtCell xs

set_option maxHeartbeats 1000000 in
theorem szCellS_any (fp : List Nat) (u : Value) (xs : List GCell) (left : Int) (w : World) (hu : SlR fp w u xs) (h0 : 0 ≤ left) (h1 : left ≤ 1048576) :
    Calls Try.prog 29 #[u, .int .i64 left] w fun e w' => e = .returned (.int .i64 (less left (wtCellS xs))) ∧ Gr w w' := by
  obtain ⟨a, ca, rfl, g1, g2, g3⟩ := hu.open
  by_cases hneg : left - xs.length < 0
  · have hle : less left (wtCellS xs) = -1 := by unfold less wtCellS wtL; rw [if_pos (by omega)]
    have HL := Lib.hid hle
    clear hle
    go_enter Try.func29, Try.ntmps29
    go_wp2
    go_ret
    exact ⟨ret_int HL.out.symm, Gr.refl w⟩
  · have hl0 : less left xs.length = left - xs.length := by unfold less; rw [if_neg hneg]
    have HL0 := Lib.hid hl0
    clear hl0
    go_enter Try.func29, Try.ntmps29
    go_wp2
    go_loopw [5, 1] (fun s5 s1 wr => ∃ (k : Nat) (m : Int), k ≤ xs.length ∧ 0 ≤ m ∧ m ≤ 1048576 ∧ Hid (m = less left (xs.length + ((xs.take k).map wtCell).sum)) ∧ Gr w wr ∧ s5 = .int .i64 k ∧ s1 = .int .i64 m) (fun s5 _ _ => xs.length - (intOf s5).toNat)
    case atStart => exact ⟨0, _, by omega, by omega, by omega, Lib.hid (by simp [HL0.out]), Gr.refl w, rfl, rfl⟩
    case round =>
      obtain ⟨k, m, hk, hm0, hm1, hm, ⟨x, rfl⟩, rfl, rfl⟩ := hrel
      by_cases hlt : k < xs.length
      · obtain ⟨b, off, rfl, hb⟩ := g3 k hlt
        have hsum := Lib.hid (sum_take_succ wtCell xs k hlt)
        obtain ⟨csq, feq, hcq, hrq, -⟩ := hu.at hlt
        have hrdq := hrq
        generalize xs[k] = yq at hrq
        obtain ⟨q0, q1, q2⟩ := yq
        obtain ⟨vq2, fq2, hcsq, -, hq0, hq1, hq2⟩ := rdCell_inv (cs := csq.toArray) q0 q1 q2 (by simpa using hrq)
        obtain rfl : csq = [.string q0, .int .i64 q1, vq2] := by have := congrArg Array.toList hcsq; simpa using this
        have z0 : w.cell? ⟨b, off + k * 3, none⟩ = some (.string q0) := by simpa [Rd.n] using hcq 0 _ rfl
        have z1 : w.cell? ⟨b, off + k * 3 + 1, none⟩ = some (.int .i64 q1) := hcq 1 _ rfl
        have z2 : w.cell? ⟨b, off + k * 3 + 2, none⟩ = some (vq2) := hcq 2 _ rfl
        have hmono := less_le m (wtCell xs[k]) (by omega)
        clear g3 hcsq hcq hrq
        go_wp2_with (go_at_call 67; refine (szCell_any _ _ xs[k] _ _ (Rd.gr hrdq ((Gr.refl w).ext _)) (by omega) (by omega)).mono ?_; rintro e w1 ⟨rfl, y, rfl⟩)
        · have hx : less m (wtCell xs[k]) < 0 := by assumption
          go_ret
          refine ⟨ret_int ?_, (by repeat (first | exact Gr.refl _ | apply Gr.ext | apply Gr.alloc | apply Gr.drew))⟩
          have e := hm.out
          subst e
          rw [less_less, Nat.add_assoc, ← hsum.out] at hx
          exact (less_mono hx (Nat.add_le_add_left (sum_take_le wtCell xs (k + 1)) _) h0).symm
        · have hx : 0 ≤ less m (wtCell xs[k]) := by assumption
          refine ⟨⟨k + 1, _, by omega, hx, by omega, Lib.hid ?_, (by repeat (first | exact Gr.refl _ | apply Gr.ext | apply Gr.alloc | apply Gr.drew)), by go_num, rfl⟩, by simp [intOf]; omega⟩
          rw [hsum.out, hm.out, less_less, Nat.add_assoc]
      · have hk2 : k = xs.length := by omega
        subst hk2
        have hm2 := hm.out
        rw [List.take_length] at hm2
        have HM := Lib.hid hm2
        clear hm2 hm
        go_wp2
        go_ret
        exact ⟨ret_int HM.out, (by repeat (first | exact Gr.refl _ | apply Gr.ext | apply Gr.alloc | apply Gr.drew))⟩

set_option maxHeartbeats 1000000 in
theorem eqCellS_any (fp fq : List Nat) (u v : Value) (xs ys : List GCell) (w : World) (hu : SlR fp w u xs) (hv : SlR fq w v ys) :
    Calls Try.prog 41 #[u, v] w fun e w' => e = .returned (.bool (decide (xs = ys))) ∧ Gr w w' := by
  obtain ⟨a, ca, rfl, h1, h2, h3⟩ := hu.open
  obtain ⟨c, cc, rfl, g1, g2, g3⟩ := hv.open
  by_cases hl : xs.length = ys.length
  · have hl' := Lib.hid hl
    have hne : ((xs.length : Int) != (ys.length : Int)) = false := by simp [hl]
    clear hl
    go_enter Try.func41, Try.ntmps41
    go_wp2
    go_loopw [5] (fun s5 wr => ∃ k : Nat, k ≤ xs.length ∧ xs.take k = ys.take k ∧ Gr w wr ∧ s5 = .int .i64 k) (fun s5 _ => xs.length - (intOf s5).toNat)
    case atStart => exact ⟨0, by omega, rfl, Gr.refl w, rfl⟩
    case round =>
      obtain ⟨k, hk, ht, ⟨x, rfl⟩, rfl⟩ := hrel
      by_cases hlt : k < xs.length
      · have hlt2 : k < ys.length := by have := hl'.out; omega
        obtain ⟨b, off, rfl, hb⟩ := h3 k hlt
        obtain ⟨b', off', rfl, hb'⟩ := g3 k hlt2
        obtain ⟨csq, feq, hcq, hrq, -⟩ := hu.at hlt
        have hrdq := hrq
        generalize xs[k] = yq at hrq
        obtain ⟨q0, q1, q2⟩ := yq
        obtain ⟨vq2, fq2, hcsq, -, hq0, hq1, hq2⟩ := rdCell_inv (cs := csq.toArray) q0 q1 q2 (by simpa using hrq)
        obtain rfl : csq = [.string q0, .int .i64 q1, vq2] := by have := congrArg Array.toList hcsq; simpa using this
        obtain ⟨csp, fep, hcp, hrp, -⟩ := hv.at hlt2
        have hrdp := hrp
        generalize ys[k] = yp at hrp
        obtain ⟨p0, p1, p2⟩ := yp
        obtain ⟨vp2, fp2, hcsp, -, hp0, hp1, hp2⟩ := rdCell_inv (cs := csp.toArray) p0 p1 p2 (by simpa using hrp)
        obtain rfl : csp = [.string p0, .int .i64 p1, vp2] := by have := congrArg Array.toList hcsp; simpa using this
        have z0 : w.cell? ⟨b, off + k * 3, none⟩ = some (.string q0) := by simpa [Rd.n] using hcq 0 _ rfl
        have z1 : w.cell? ⟨b, off + k * 3 + 1, none⟩ = some (.int .i64 q1) := hcq 1 _ rfl
        have z2 : w.cell? ⟨b, off + k * 3 + 2, none⟩ = some (vq2) := hcq 2 _ rfl
        have zz0 : w.cell? ⟨b', off' + k * 3, none⟩ = some (.string p0) := by simpa [Rd.n] using hcp 0 _ rfl
        have zz1 : w.cell? ⟨b', off' + k * 3 + 1, none⟩ = some (.int .i64 p1) := hcp 1 _ rfl
        have zz2 : w.cell? ⟨b', off' + k * 3 + 2, none⟩ = some (vp2) := hcp 2 _ rfl
        have hT := Lib.hid ht
        clear h3 g3 ht hcsq hcsp hcq hcp hrq hrp
        go_wp2_with fail
        refine wp_region_grown (by kernel_rfl) (by kernel_rfl) ?_
        repeat (go_big_quiet_step ((go_at_call 73; refine grown_call (eqCell_any _ _ _ _ xs[k] ys[k] _ (Rd.gr hrdq ?_) (Rd.gr hrdp ?_)) <;> exact ((Gr.refl w).ext _).ext _)))
        refine wpQuiet_nil ?_
        intro _ hw'
        obtain ⟨nx, hw''⟩ := hw'
        subst hw''
        go_wp2
        · have ht : (!decide (xs[k] = ys[k])) = true := by assumption
          go_ret
          have E : xs ≠ ys := fun e => dec_ne ht (by subst e; rfl)
          exact ⟨ret_bool (decide_eq_false E).symm, (by repeat (first | exact Gr.refl _ | apply Gr.ext | apply Gr.alloc | apply Gr.drew))⟩
        · have ht : (!decide (xs[k] = ys[k])) = false := by assumption
          have e2 := dec_eq ht
          refine ⟨⟨k + 1, by omega, ?_, (by repeat (first | exact Gr.refl _ | apply Gr.ext | apply Gr.alloc | apply Gr.drew)), by go_num⟩, by simp [intOf]; omega⟩
          rw [List.take_succ_eq_append_getElem hlt, List.take_succ_eq_append_getElem hlt2, hT.out, e2]
      · have hk2 : k = xs.length := by omega
        subst hk2
        have e : xs = ys := by
          have h := ht
          have h' := hl'.out
          rw [List.take_length, h', List.take_length] at h
          exact h
        have E := Lib.hid e
        clear e ht
        go_wp2
        go_ret
        exact ⟨ret_bool (decide_eq_true E.out).symm, (by repeat (first | exact Gr.refl _ | apply Gr.ext | apply Gr.alloc | apply Gr.drew))⟩
  · have hne : ((xs.length : Int) != (ys.length : Int)) = true := by simp; omega
    have e : xs ≠ ys := fun e => hl (by rw [e])
    have E := Lib.hid e
    clear e hl
    go_enter Try.func41, Try.ntmps41
    go_wp2
    go_ret
    exact ⟨ret_bool (decide_eq_false E.out).symm, Gr.refl w⟩

theorem Try.infoCell : (Try.prog.info? 78).map (fun i => (i.zero, i.size, i.bytes)) = some (some (.agg #[.string ByteArray.empty, .int .i64 0, .slice none 0 0]), 3, 48) := by kernel_rfl

set_option maxHeartbeats 1000000 in
theorem toCellS_any (fp : List Nat) (u : Value) (xs : List GCell) (w : World) (hu : SlR fp w u xs) (hlen : wtCellS xs ≤ 1048576) :
    Calls Try.prog 34 #[u] w fun e w' => ∃ v fq, e = .returned v ∧ SlR fq w' v xs ∧ Fresh w fq ∧ Gr w w' := by
  obtain ⟨a, ca, rfl, h1, h2, h3⟩ := hu.open
  have hll : xs.length ≤ 1048576 := Nat.le_trans (wtL_len wtCell xs) hlen
  obtain ⟨i0, hi, hz0, hz1, hz2⟩ := info_parts Try.infoCell
  have hmk := fun (W : World) => run_make (P := Try.prog) W 30 78 i0 (.agg #[.string ByteArray.empty, .int .i64 0, .slice none 0 0]) Try.underlying30 hi hz0 .i64 .i64 xs.length xs.length (by omega) (by omega) (by rw [hz2]; omega) (by omega)
  rw [hz1] at hmk
  clear hi hz0 hz1 hz2
  simp only [Int.toNat_natCast] at hmk
  have hms := size_madeCells (Value.agg #[.string ByteArray.empty, .int .i64 0, .slice none 0 0]).cells (xs.length * 3)
  generalize madeCells (Value.agg #[.string ByteArray.empty, .int .i64 0, .slice none 0 0]).cells (xs.length * 3) = C0 at hmk hms
  have HS := Lib.hid hms
  have HLS := Lib.hid hlen
  clear hms hlen
  go_enter Try.func34, Try.ntmps34
  go_wp2
  go_loopw [4] (fun s4 wr => ∃ (k : Nat) (C : Array Value) (x : Ext) (fps : List (List Nat)), C.size = xs.length * 3 ∧ PartR w w.heap.size wr C k fps xs ∧ wr = (w.alloc (.cells C 78)).ext x ∧ s4 = .int .i64 k) (fun s4 _ => xs.length - (intOf s4).toNat)
  case atStart => exact ⟨0, C0, ⟨#[], 0⟩, [], HS.out, PartR.start _ _ (Nat.le_refl _) (by simp), (ext_zero _).symm, rfl⟩
  case round =>
    obtain ⟨k, C, x, fps, hC, hp, rfl, rfl⟩ := hrel
    have hCs := Lib.hid hC
    have hk := hp.le
    by_cases hlt : k < xs.length
    · obtain ⟨b, off, rfl, hb⟩ := h3 k hlt
      have hwk := wtL_at wtCell xs hlt
      obtain ⟨csq, feq, hcq, hrq, -⟩ := hu.at hlt
      have hrdq := hrq
      generalize xs[k] = yq at hrq
      obtain ⟨q0, q1, q2⟩ := yq
      obtain ⟨vq2, fq2, hcsq, -, hq0, hq1, hq2⟩ := rdCell_inv (cs := csq.toArray) q0 q1 q2 (by simpa using hrq)
      obtain rfl : csq = [.string q0, .int .i64 q1, vq2] := by have := congrArg Array.toList hcsq; simpa using this
      have z0 : w.cell? ⟨b, off + k * 3, none⟩ = some (.string q0) := by simpa [Rd.n] using hcq 0 _ rfl
      have z1 : w.cell? ⟨b, off + k * 3 + 1, none⟩ = some (.int .i64 q1) := hcq 1 _ rfl
      have z2 : w.cell? ⟨b, off + k * 3 + 2, none⟩ = some (vq2) := hcq 2 _ rfl
      have y0 : k * 3 < C.size := by omega
      have y1 : k * 3 + 1 < C.size := by omega
      have y2 : k * 3 + 2 < C.size := by omega
      have hwl : wtCell xs[k] ≤ 1048576 := Nat.le_trans hwk HLS.out
      have hd0 : k * 3 + 3 ≤ C.size := by omega
      have HD := Lib.hid hd0
      clear hC h3 hcsq hcq hrq hwk hd0
      go_wp2_with (go_at_call 69; refine (toCell_any _ _ xs[k] _ (Rd.gr hrdq (by repeat (first | exact Gr.refl _ | apply Gr.ext | apply Gr.alloc | apply Gr.drew))) (by omega)).mono ?_; rintro e w1 ⟨ds, fq, rfl, hs, hf, y, rfl⟩; have hs2 := hs; generalize xs[k] = yr at hs2; obtain ⟨r0, r1, r2⟩ := yr; obtain ⟨vr2, fr2, rfl, hfq, kr0, kr1, kr2⟩ := rdCell_inv r0 r1 r2 hs2; obtain ⟨aar2, ccr2, rfl, -, -, -⟩ := kr2.open; clear hfq)
      rw [ext_ext, ← setRow_3]
      refine ⟨⟨k + 1, setRow C (k * 3) [.string r0, .int .i64 r1, .slice aar2 r2.length ccr2], x.comp y, fps ++ [fq], ?_, ?_, rfl, by go_num⟩, by simp [intOf]; omega⟩
      · rw [setRow_size]; exact hCs.out
      · refine hp.step_own hlt (C' := setRow C (k * 3) [.string r0, .int .i64 r1, .slice aar2 r2.length ccr2]) (cs := [.string r0, .int .i64 r1, .slice aar2 r2.length ccr2]) ?_ hf (fun j hj => setRow_lt _ _ _ _ hj) (setRow_get _ _ _ HD.out)
        exact hs
    · have hk2 : k = xs.length := by omega
      subst hk2
      obtain ⟨fq, hs, hf⟩ := hp.done (heap_own_self _ x) (cap := xs.length) (Nat.le_refl _) (by unfold reachLen; omega)
      have HF := Lib.hid hs
      clear hs hC
      go_wp2
      go_ret
      exact ⟨_, fq, rfl, HF.out, hf, (by repeat (first | exact Gr.refl _ | apply Gr.ext | apply Gr.alloc | apply Gr.drew))⟩

abbrev GStore := List GCell
def wtStore (x : GStore) : Nat := wtCellS x

theorem rdStore_inv {fp : List Nat} {w : World} {cs : Array Value} (q0 : List GCell) (h : Rd.rd (α := GStore) fp w cs.toList q0) :
    ∃ vq0 fq0, cs = #[vq0] ∧ fp = fq0 ∧ SlR fq0 w vq0 q0 := by
  generalize hcs : cs.toList = l at h
  obtain ⟨vq0, rfl, hq0⟩ := h
  exact ⟨_, _, Array.toList_inj.1 (by simpa using hcs), rfl, hq0⟩

theorem rdStore_shape {fp : List Nat} {w : World} {cs : Array Value} {x : GStore} (h : Rd.rd (α := GStore) fp w cs.toList x) :
    ∃ aq0 lq0 cq0, cs = #[.slice aq0 lq0 cq0] := by
  obtain ⟨q0, rfl⟩ : ∃ yy, yy = x := ⟨_, rfl⟩
  obtain ⟨vq0, fq0, rfl, -, hq0⟩ := rdStore_inv q0 h
  obtain ⟨aq0, cq0, rfl, -, -, -⟩ := hq0.open
  exact ⟨_, _, _, rfl⟩

theorem rdStore_mk {w : World} (q0 : List GCell) {vq0 : Value} {fq0 : List Nat} (hq0 : SlR fq0 w vq0 q0) :
    Rd.rd (α := GStore) (fq0) w [vq0] q0 := ⟨_, rfl, hq0⟩

set_option maxHeartbeats 1000000 in
theorem szStore_any (fp : List Nat) (cs : Array Value) (x : GStore) (left : Int) (w : World) (hx : Rd.rd fp w cs.toList x) (h0 : 0 ≤ left) (h1 : left ≤ 1048576) :
    Calls Try.prog 6 #[.agg cs, .int .i64 left] w fun e w' => e = .returned (.int .i64 (less left (wtStore x))) ∧ Gr w w' := by
  obtain ⟨q0, rfl⟩ : ∃ yy, yy = x := ⟨_, rfl⟩
  obtain ⟨vq0, fq0, rfl, -, hq0⟩ := rdStore_inv q0 hx
  obtain ⟨aq0, cq0, rfl, bq0, dq0, -⟩ := hq0.open
  have hwt : wtStore q0 = (wtCellS q0) := by rfl
  have HW := Lib.hid hwt
  clear hwt hx
  go_enter Try.func6, Try.ntmps6
  go_wp2_with fail
  refine (szCellS_any fq0 _ _ _ _ (hq0.gr (by repeat (first | exact Gr.refl _ | apply Gr.ext | apply Gr.alloc | apply Gr.drew))) (by omega) (by omega)).mono ?_
  rintro e w0 ⟨rfl, x0, rfl⟩
  have hb0 := less_le (left) (wtCellS q0) (by omega)
  go_wp2_with fail
  · go_ret
    refine ⟨ret_int ?_, (by repeat (first | exact Gr.refl _ | apply Gr.ext | apply Gr.alloc | apply Gr.drew))⟩
    have := less_cases left (wtStore q0)
    have := HW.out
    have := less_cases (left) (wtCellS q0)
    omega
  · skip
    go_ret
    refine ⟨ret_int ?_, (by repeat (first | exact Gr.refl _ | apply Gr.ext | apply Gr.alloc | apply Gr.drew))⟩
    have := less_cases left (wtStore q0)
    have := HW.out
    have := less_cases (left) (wtCellS q0)
    omega

theorem Store_ext (q0 : List GCell) (p0 : List GCell) (e0 : q0 = p0) : (q0 : GStore) = p0 := by
  exact e0

set_option maxHeartbeats 1000000 in
theorem eqStore_any (fp fq : List Nat) (cs ds : Array Value) (x y : GStore) (w : World) (hx : Rd.rd fp w cs.toList x) (hy : Rd.rd fq w ds.toList y) :
    Calls Try.prog 12 #[.agg cs, .agg ds] w fun e w' => e = .returned (.bool (decide (x = y))) ∧ Gr w w' := by
  obtain ⟨q0, rfl⟩ : ∃ yy, yy = x := ⟨_, rfl⟩
  obtain ⟨p0, rfl⟩ : ∃ yy, yy = y := ⟨_, rfl⟩
  obtain ⟨vq0, fq0, rfl, -, hq0⟩ := rdStore_inv q0 hx
  obtain ⟨vp0, fp0, rfl, -, hp0⟩ := rdStore_inv p0 hy
  obtain ⟨aq0, cq0, rfl, -, -, -⟩ := hq0.open
  obtain ⟨ap0, cp0, rfl, -, -, -⟩ := hp0.open
  clear hx hy
  go_enter Try.func12, Try.ntmps12
  go_wp2_with fail
  refine (eqCellS_any fq0 fp0 _ _ q0 p0 _ (hq0.gr (by repeat (first | exact Gr.refl _ | apply Gr.ext | apply Gr.alloc | apply Gr.drew))) (hp0.gr (by repeat (first | exact Gr.refl _ | apply Gr.ext | apply Gr.alloc | apply Gr.drew)))).mono ?_
  rintro e w0 ⟨rfl, x0, rfl⟩
  go_wp2_with fail
  · have ht : (!decide (q0 = p0)) = true := by assumption
    go_ret
    exact ⟨ret_bool (decide_eq_false fun e => dec_ne ht (congrArg (fun z : GStore => z) e)).symm, (by repeat (first | exact Gr.refl _ | apply Gr.ext | apply Gr.alloc | apply Gr.drew))⟩
  · skip
    have e0 := Lib.hid (dec_eq (show (!decide (q0 = p0)) = false by assumption))
    go_ret
    exact ⟨ret_bool (decide_eq_true (Store_ext q0 p0 e0.out)).symm, (by repeat (first | exact Gr.refl _ | apply Gr.ext | apply Gr.alloc | apply Gr.drew))⟩

set_option maxHeartbeats 1000000 in
theorem toStore_any (fp : List Nat) (cs : Array Value) (x : GStore) (w : World) (hx : Rd.rd fp w cs.toList x) (hl : wtStore x ≤ 1048576) :
    Calls Try.prog 9 #[.agg cs] w fun e w' => ∃ ds fq, e = .returned (.agg ds) ∧ Rd.rd fq w' ds.toList x ∧ Fresh w fq ∧ Gr w w' := by
  obtain ⟨q0, rfl⟩ : ∃ yy, yy = x := ⟨_, rfl⟩
  obtain ⟨vq0, fq0, rfl, -, hq0⟩ := rdStore_inv q0 hx
  obtain ⟨aq0, cq0, rfl, -, -, -⟩ := hq0.open
  have hwt : wtStore q0 = (wtCellS q0) := by rfl
  have HW := Lib.hid hwt
  clear hwt hx
  go_enter Try.func9, Try.ntmps9
  go_wp2_with fail
  refine (toCellS_any fq0 _ _ _ (hq0.gr (by repeat (first | exact Gr.refl _ | apply Gr.ext | apply Gr.alloc | apply Gr.drew))) (by have := HW.out; omega)).mono ?_
  rintro e w0 ⟨u0, g0, rfl, s0, fr0, x0, rfl⟩
  obtain ⟨aa0, cc0, rfl, -, -, -⟩ := s0.open
  go_wp2_with fail
  have hfresh : Fresh w g0 := by
    exact (Fresh.of_le fr0 (by simp <;> omega))
  exact bodyPost_ret (v := .agg #[.slice aa0 q0.length cc0]) (by simp [results, Try.results9, go_sem]) rfl
    ⟨_, _, rfl, rdStore_mk q0 (SlR.moved s0 fr0 (by repeat (first | exact Gr.refl _ | apply Gr.ext | apply Gr.alloc | apply Gr.drew)) (by simp)), hfresh, (by repeat (first | exact Gr.refl _ | apply Gr.ext | apply Gr.alloc | apply Gr.drew))⟩

end Go.Proofs.Ytmfcagcanhmdbaa
