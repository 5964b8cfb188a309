/- Contracts of the functions that measure, compare and copy: Instance, Instance*, Reading, Reading*. Made by mk_fam.py. No condition. -/
import Derived.Test.YtbfmeiooeaaibaaGreatIntsD
namespace Go.Proofs.YtbfmeiooeaaibaaGreat
open Go.RowKit

abbrev GInstance := Int × ByteArray
def wtInstance (x : GInstance) : Nat := x.2.size

theorem rdInstance_inv {fp : List Nat} {w : World} {cs : Array Value} (q0 : Int) (q1 : ByteArray) (h : Rd.rd (α := GInstance) fp w cs.toList (q0, q1)) :
    cs = #[.int .i64 q0, .string q1] ∧ fp = ([] ++ []) ∧ (Lit.int .i64 q0).wf = true ∧ q1.size ≤ maxLen := by
  generalize hcs : cs.toList = l at h
  obtain ⟨_, _, _, _, rfl, rfl, ⟨rfl, rfl, hq0⟩, ⟨rfl, rfl, hq1⟩⟩ := h
  exact ⟨Array.toList_inj.1 (by simpa using hcs), rfl, hq0, hq1⟩

theorem rdInstance_shape {fp : List Nat} {w : World} {cs : Array Value} {x : GInstance} (h : Rd.rd (α := GInstance) fp w cs.toList x) :
    ∃ q0 q1, cs = #[.int .i64 q0, .string q1] := by
  obtain ⟨q0, q1⟩ := x
  obtain ⟨rfl, -, -, -⟩ := rdInstance_inv q0 q1 h
  exact ⟨_, _, rfl⟩

theorem rdInstance_mk {w : World} (q0 : Int) (q1 : ByteArray) (hq0 : (Lit.int .i64 q0).wf = true) (hq1 : q1.size ≤ maxLen) :
    Rd.rd (α := GInstance) (([] ++ [])) w [.int .i64 q0, .string q1] (q0, q1) := ⟨_, _, _, _, rfl, rfl, ⟨rfl, rfl, hq0⟩, ⟨rfl, rfl, hq1⟩⟩

set_option maxHeartbeats 1000000 in
theorem szInstance_any (fp : List Nat) (cs : Array Value) (x : GInstance) (left : Int) (w : World) (hx : Rd.rd fp w cs.toList x) (h0 : 0 ≤ left) (h1 : left ≤ 1048576) :
    Calls Tryz.prog 8 #[.agg cs, .int .i64 left] w fun e w' => e = .returned (.int .i64 (less left (wtInstance x))) ∧ Gr w w' := by
  obtain ⟨q0, q1⟩ := x
  obtain ⟨rfl, -, hq0, hq1⟩ := rdInstance_inv q0 q1 hx
  unfold maxLen at hq1
  have hwt : wtInstance (q0, q1) = (q1.size) := by rfl
  have HW := Lib.hid hwt
  clear hwt hx
  go_enter Tryz.func8, Tryz.ntmps8
  go_wp2_with fail
  · go_ret
    refine ⟨ret_int ?_, (by repeat (first | exact Gr.refl _ | apply Gr.ext | apply Gr.alloc | apply Gr.drew))⟩
    have := less_cases left (wtInstance (q0, q1))
    have := HW.out
    omega
  · skip
    go_ret
    refine ⟨ret_int ?_, (by repeat (first | exact Gr.refl _ | apply Gr.ext | apply Gr.alloc | apply Gr.drew))⟩
    have := less_cases left (wtInstance (q0, q1))
    have := HW.out
    omega

theorem Instance_ext (q0 : Int) (q1 : ByteArray) (p0 : Int) (p1 : ByteArray) (e0 : q0 = p0) (e1 : q1 = p1) : ((q0, q1) : GInstance) = (p0, p1) := by
  exact Prod.ext_iff.2 ⟨e0, e1⟩

set_option maxHeartbeats 1000000 in
theorem eqInstance_any (fp fq : List Nat) (cs ds : Array Value) (x y : GInstance) (w : World) (hx : Rd.rd fp w cs.toList x) (hy : Rd.rd fq w ds.toList y) :
    Calls Tryz.prog 47 #[.agg cs, .agg ds] w fun e w' => e = .returned (.bool (decide (x = y))) ∧ Gr w w' := by
  obtain ⟨q0, q1⟩ := x
  obtain ⟨p0, p1⟩ := y
  obtain ⟨rfl, -, hq0, hq1⟩ := rdInstance_inv q0 q1 hx
  obtain ⟨rfl, -, hp0, hp1⟩ := rdInstance_inv p0 p1 hy
  clear hx hy
  go_enter Tryz.func47, Tryz.ntmps47
  go_wp2_with fail
  · have ht : (q0 != p0) = true := by assumption
    go_ret
    exact ⟨ret_bool (decide_eq_false fun e => int_ne ht (congrArg (fun z : GInstance => z.1) e)).symm, (by repeat (first | exact Gr.refl _ | apply Gr.ext | apply Gr.alloc | apply Gr.drew))⟩
  · have ht : (!q1.toList == p1.toList) = true := by assumption
    go_ret
    exact ⟨ret_bool (decide_eq_false fun e => str_ne ht (congrArg (fun z : GInstance => z.2) e)).symm, (by repeat (first | exact Gr.refl _ | apply Gr.ext | apply Gr.alloc | apply Gr.drew))⟩
  · skip
    have e0 := Lib.hid (int_eq (show (q0 != p0) = false by assumption))
    have e1 := Lib.hid (str_eq (show (!q1.toList == p1.toList) = false by assumption))
    go_ret
    exact ⟨ret_bool (decide_eq_true (Instance_ext q0 q1 p0 p1 e0.out e1.out)).symm, (by repeat (first | exact Gr.refl _ | apply Gr.ext | apply Gr.alloc | apply Gr.drew))⟩

set_option maxHeartbeats 1000000 in
theorem toInstance_any (fp : List Nat) (cs : Array Value) (x : GInstance) (w : World) (hx : Rd.rd fp w cs.toList x) :
    Calls Tryz.prog 12 #[.agg cs] w fun e w' => e = .returned (.agg cs) ∧ Gr w w' := by
  obtain ⟨q0, q1⟩ := x
  obtain ⟨rfl, -, hq0, hq1⟩ := rdInstance_inv q0 q1 hx
  clear hx
  go_enter Tryz.func12, Tryz.ntmps12
  go_wp2_with fail
  exact bodyPost_ret (v := .agg #[.int .i64 q0, .string q1]) (by simp [results, Tryz.results12, go_sem]) rfl ⟨rfl, (by repeat (first | exact Gr.refl _ | apply Gr.ext | apply Gr.alloc | apply Gr.drew))⟩

def wtInstanceS (xs : List GInstance) : Nat := wtL wtInstance xs

set_option maxHeartbeats 1000000 in
theorem szInstanceS_any (fp : List Nat) (u : Value) (xs : List GInstance) (left : Int) (w : World) (hu : SlR fp w u xs) (h0 : 0 ≤ left) (h1 : left ≤ 1048576) :
    Calls Tryz.prog 61 #[u, .int .i64 left] w fun e w' => e = .returned (.int .i64 (less left (wtInstanceS xs))) ∧ Gr w w' := by
  obtain ⟨a, ca, rfl, g1, g2, g3⟩ := hu.open
  by_cases hneg : left - xs.length < 0
  · have hle : less left (wtInstanceS xs) = -1 := by unfold less wtInstanceS wtL; rw [if_pos (by omega)]
    have HL := Lib.hid hle
    clear hle
    go_enter Tryz.func61, Tryz.ntmps61
    go_wp2
    go_ret
    exact ⟨ret_int HL.out.symm, Gr.refl w⟩
  · have hl0 : less left xs.length = left - xs.length := by unfold less; rw [if_neg hneg]
    have HL0 := Lib.hid hl0
    clear hl0
    go_enter Tryz.func61, Tryz.ntmps61
    go_wp2
    go_loopw [5, 1] (fun s5 s1 wr => ∃ (k : Nat) (m : Int), k ≤ xs.length ∧ 0 ≤ m ∧ m ≤ 1048576 ∧ Hid (m = less left (xs.length + ((xs.take k).map wtInstance).sum)) ∧ Gr w wr ∧ s5 = .int .i64 k ∧ s1 = .int .i64 m) (fun s5 _ _ => xs.length - (intOf s5).toNat)
    case atStart => exact ⟨0, _, by omega, by omega, by omega, Lib.hid (by simp [HL0.out]), Gr.refl w, rfl, rfl⟩
    case round =>
      obtain ⟨k, m, hk, hm0, hm1, hm, ⟨x, rfl⟩, rfl, rfl⟩ := hrel
      by_cases hlt : k < xs.length
      · obtain ⟨b, off, rfl, hb⟩ := g3 k hlt
        have hsum := Lib.hid (sum_take_succ wtInstance xs k hlt)
        obtain ⟨csq, feq, hcq, hrq, -⟩ := hu.at hlt
        have hrdq := hrq
        generalize xs[k] = yq at hrq
        obtain ⟨q0, q1⟩ := yq
        obtain ⟨hcsq, hfeq, hq0, hq1⟩ := rdInstance_inv (cs := csq.toArray) q0 q1 (by simpa using hrq)
        obtain rfl : csq = [.int .i64 q0, .string q1] := by have := congrArg Array.toList hcsq; simpa using this
        obtain rfl : feq = [] := hfeq
        have z0 : w.cell? ⟨b, off + k * 2, none⟩ = some (.int .i64 q0) := by simpa [Rd.n] using hcq 0 _ rfl
        have z1 : w.cell? ⟨b, off + k * 2 + 1, none⟩ = some (.string q1) := hcq 1 _ rfl
        have hmono := less_le m (wtInstance xs[k]) (by omega)
        clear g3 hcsq hcq hrq
        go_wp2_with (go_at_call 8; refine (szInstance_any _ _ xs[k] _ _ (Rd.gr hrdq ((Gr.refl w).ext _)) (by omega) (by omega)).mono ?_; rintro e w1 ⟨rfl, y, rfl⟩)
        · have hx : less m (wtInstance xs[k]) < 0 := by assumption
          go_ret
          refine ⟨ret_int ?_, (by repeat (first | exact Gr.refl _ | apply Gr.ext | apply Gr.alloc | apply Gr.drew))⟩
          have e := hm.out
          subst e
          rw [less_less, Nat.add_assoc, ← hsum.out] at hx
          exact (less_mono hx (Nat.add_le_add_left (sum_take_le wtInstance xs (k + 1)) _) h0).symm
        · have hx : 0 ≤ less m (wtInstance xs[k]) := by assumption
          refine ⟨⟨k + 1, _, by omega, hx, by omega, Lib.hid ?_, (by repeat (first | exact Gr.refl _ | apply Gr.ext | apply Gr.alloc | apply Gr.drew)), by go_num, rfl⟩, by simp [intOf]; omega⟩
          rw [hsum.out, hm.out, less_less, Nat.add_assoc]
      · have hk2 : k = xs.length := by omega
        subst hk2
        have hm2 := hm.out
        rw [List.take_length] at hm2
        have HM := Lib.hid hm2
        clear hm2 hm
        go_wp2
        go_ret
        exact ⟨ret_int HM.out, (by repeat (first | exact Gr.refl _ | apply Gr.ext | apply Gr.alloc | apply Gr.drew))⟩

set_option maxHeartbeats 1000000 in
theorem eqInstanceS_any (fp fq : List Nat) (u v : Value) (xs ys : List GInstance) (w : World) (hu : SlR fp w u xs) (hv : SlR fq w v ys) :
    Calls Tryz.prog 28 #[u, v] w fun e w' => e = .returned (.bool (decide (xs = ys))) ∧ Gr w w' := by
  obtain ⟨a, ca, rfl, h1, h2, h3⟩ := hu.open
  obtain ⟨c, cc, rfl, g1, g2, g3⟩ := hv.open
  by_cases hl : xs.length = ys.length
  · have hl' := Lib.hid hl
    have hne : ((xs.length : Int) != (ys.length : Int)) = false := by simp [hl]
    clear hl
    go_enter Tryz.func28, Tryz.ntmps28
    go_wp2
    go_loopw [5] (fun s5 wr => ∃ k : Nat, k ≤ xs.length ∧ xs.take k = ys.take k ∧ Gr w wr ∧ s5 = .int .i64 k) (fun s5 _ => xs.length - (intOf s5).toNat)
    case atStart => exact ⟨0, by omega, rfl, Gr.refl w, rfl⟩
    case round =>
      obtain ⟨k, hk, ht, ⟨x, rfl⟩, rfl⟩ := hrel
      by_cases hlt : k < xs.length
      · have hlt2 : k < ys.length := by have := hl'.out; omega
        obtain ⟨b, off, rfl, hb⟩ := h3 k hlt
        obtain ⟨b', off', rfl, hb'⟩ := g3 k hlt2
        obtain ⟨csq, feq, hcq, hrq, -⟩ := hu.at hlt
        have hrdq := hrq
        generalize xs[k] = yq at hrq
        obtain ⟨q0, q1⟩ := yq
        obtain ⟨hcsq, hfeq, hq0, hq1⟩ := rdInstance_inv (cs := csq.toArray) q0 q1 (by simpa using hrq)
        obtain rfl : csq = [.int .i64 q0, .string q1] := by have := congrArg Array.toList hcsq; simpa using this
        obtain rfl : feq = [] := hfeq
        obtain ⟨csp, fep, hcp, hrp, -⟩ := hv.at hlt2
        have hrdp := hrp
        generalize ys[k] = yp at hrp
        obtain ⟨p0, p1⟩ := yp
        obtain ⟨hcsp, hfep, hp0, hp1⟩ := rdInstance_inv (cs := csp.toArray) p0 p1 (by simpa using hrp)
        obtain rfl : csp = [.int .i64 p0, .string p1] := by have := congrArg Array.toList hcsp; simpa using this
        obtain rfl : fep = [] := hfep
        have z0 : w.cell? ⟨b, off + k * 2, none⟩ = some (.int .i64 q0) := by simpa [Rd.n] using hcq 0 _ rfl
        have z1 : w.cell? ⟨b, off + k * 2 + 1, none⟩ = some (.string q1) := hcq 1 _ rfl
        have zz0 : w.cell? ⟨b', off' + k * 2, none⟩ = some (.int .i64 p0) := by simpa [Rd.n] using hcp 0 _ rfl
        have zz1 : w.cell? ⟨b', off' + k * 2 + 1, none⟩ = some (.string p1) := hcp 1 _ rfl
        have hT := Lib.hid ht
        clear h3 g3 ht hcsq hcsp hcq hcp hrq hrp
        go_wp2_with fail
        refine wp_region_grown (by kernel_rfl) (by kernel_rfl) ?_
        repeat (go_big_quiet_step ((go_at_call 47; refine grown_call (eqInstance_any _ _ _ _ xs[k] ys[k] _ (Rd.gr hrdq ?_) (Rd.gr hrdp ?_)) <;> exact ((Gr.refl w).ext _).ext _)))
        refine wpQuiet_nil ?_
        intro _ hw'
        obtain ⟨nx, hw''⟩ := hw'
        subst hw''
        go_wp2
        · have ht : (!decide (xs[k] = ys[k])) = true := by assumption
          go_ret
          have E : xs ≠ ys := fun e => dec_ne ht (by subst e; rfl)
          exact ⟨ret_bool (decide_eq_false E).symm, (by repeat (first | exact Gr.refl _ | apply Gr.ext | apply Gr.alloc | apply Gr.drew))⟩
        · have ht : (!decide (xs[k] = ys[k])) = false := by assumption
          have e2 := dec_eq ht
          refine ⟨⟨k + 1, by omega, ?_, (by repeat (first | exact Gr.refl _ | apply Gr.ext | apply Gr.alloc | apply Gr.drew)), by go_num⟩, by simp [intOf]; omega⟩
          rw [List.take_succ_eq_append_getElem hlt, List.take_succ_eq_append_getElem hlt2, hT.out, e2]
      · have hk2 : k = xs.length := by omega
        subst hk2
        have e : xs = ys := by
          have h := ht
          have h' := hl'.out
          rw [List.take_length, h', List.take_length] at h
          exact h
        have E := Lib.hid e
        clear e ht
        go_wp2
        go_ret
        exact ⟨ret_bool (decide_eq_true E.out).symm, (by repeat (first | exact Gr.refl _ | apply Gr.ext | apply Gr.alloc | apply Gr.drew))⟩
  · have hne : ((xs.length : Int) != (ys.length : Int)) = true := by simp; omega
    have e : xs ≠ ys := fun e => hl (by rw [e])
    have E := Lib.hid e
    clear e hl
    go_enter Tryz.func28, Tryz.ntmps28
    go_wp2
    go_ret
    exact ⟨ret_bool (decide_eq_false E.out).symm, Gr.refl w⟩

theorem Tryz.infoInstance : (Tryz.prog.info? 34).map (fun i => (i.zero, i.size, i.bytes)) = some (some (.agg #[.int .i64 0, .string ByteArray.empty]), 2, 24) := by kernel_rfl

set_option maxHeartbeats 1000000 in
theorem toInstanceS_any (fp : List Nat) (u : Value) (xs : List GInstance) (w : World) (hu : SlR fp w u xs) (hlen : wtInstanceS xs ≤ 1048576) :
    Calls Tryz.prog 67 #[u] w fun e w' => ∃ v fq, e = .returned v ∧ SlR fq w' v xs ∧ Fresh w fq ∧ Gr w w' := by
  obtain ⟨a, ca, rfl, h1, h2, h3⟩ := hu.open
  have hll : xs.length ≤ 1048576 := Nat.le_trans (wtL_len wtInstance xs) hlen
  obtain ⟨i0, hi, hz0, hz1, hz2⟩ := info_parts Tryz.infoInstance
  have hmk := fun (W : World) => run_make (P := Tryz.prog) W 64 34 i0 (.agg #[.int .i64 0, .string ByteArray.empty]) Tryz.underlying64 hi hz0 .i64 .i64 xs.length xs.length (by omega) (by omega) (by rw [hz2]; omega) (by omega)
  rw [hz1] at hmk
  clear hi hz0 hz1 hz2
  simp only [Int.toNat_natCast] at hmk
  have hms := size_madeCells (Value.agg #[.int .i64 0, .string ByteArray.empty]).cells (xs.length * 2)
  generalize madeCells (Value.agg #[.int .i64 0, .string ByteArray.empty]).cells (xs.length * 2) = C0 at hmk hms
  have HS := Lib.hid hms
  have HLS := Lib.hid hlen
  clear hms hlen
  go_enter Tryz.func67, Tryz.ntmps67
  go_wp2
  go_loopw [4] (fun s4 wr => ∃ (k : Nat) (C : Array Value) (x : Ext) (fps : List (List Nat)), C.size = xs.length * 2 ∧ PartR w w.heap.size wr C k fps xs ∧ wr = (w.alloc (.cells C 34)).ext x ∧ s4 = .int .i64 k) (fun s4 _ => xs.length - (intOf s4).toNat)
  case atStart => exact ⟨0, C0, ⟨#[], 0⟩, [], HS.out, PartR.start _ _ (Nat.le_refl _) (by simp), (ext_zero _).symm, rfl⟩
  case round =>
    obtain ⟨k, C, x, fps, hC, hp, rfl, rfl⟩ := hrel
    have hCs := Lib.hid hC
    have hk := hp.le
    by_cases hlt : k < xs.length
    · obtain ⟨b, off, rfl, hb⟩ := h3 k hlt
      have hwk := wtL_at wtInstance xs hlt
      obtain ⟨csq, feq, hcq, hrq, -⟩ := hu.at hlt
      have hrdq := hrq
      generalize xs[k] = yq at hrq
      obtain ⟨q0, q1⟩ := yq
      obtain ⟨hcsq, hfeq, hq0, hq1⟩ := rdInstance_inv (cs := csq.toArray) q0 q1 (by simpa using hrq)
      obtain rfl : csq = [.int .i64 q0, .string q1] := by have := congrArg Array.toList hcsq; simpa using this
      obtain rfl : feq = [] := hfeq
      have z0 : w.cell? ⟨b, off + k * 2, none⟩ = some (.int .i64 q0) := by simpa [Rd.n] using hcq 0 _ rfl
      have z1 : w.cell? ⟨b, off + k * 2 + 1, none⟩ = some (.string q1) := hcq 1 _ rfl
      have y0 : k * 2 < C.size := by omega
      have y1 : k * 2 + 1 < C.size := by omega
      have hwl : wtInstance xs[k] ≤ 1048576 := Nat.le_trans hwk HLS.out
      have hd0 : k * 2 + 2 ≤ C.size := by omega
      have HD := Lib.hid hd0
      clear hC h3 hcsq hcq hrq hwk hd0
      go_wp2_with (go_at_call 12; refine (toInstance_any _ _ xs[k] _ (Rd.gr hrdq (by repeat (first | exact Gr.refl _ | apply Gr.ext | apply Gr.alloc | apply Gr.drew)))).mono ?_; rintro e w1 ⟨rfl, y, rfl⟩)
      rw [ext_ext, ← setRow_2]
      refine ⟨⟨k + 1, setRow C (k * 2) [.int .i64 q0, .string q1], x.comp y, fps ++ [[]], ?_, ?_, rfl, by go_num⟩, by simp [intOf]; omega⟩
      · rw [setRow_size]; exact hCs.out
      · refine hp.step_own hlt (C' := setRow C (k * 2) [.int .i64 q0, .string q1]) (cs := [.int .i64 q0, .string q1]) ?_ (Fresh.nil _) (fun j hj => setRow_lt _ _ _ _ hj) (setRow_get _ _ _ HD.out)
        exact Rd.gr hrdq (by repeat (first | exact Gr.refl _ | apply Gr.ext | apply Gr.alloc | apply Gr.drew))
    · have hk2 : k = xs.length := by omega
      subst hk2
      obtain ⟨fq, hs, hf⟩ := hp.done (heap_own_self _ x) (cap := xs.length) (Nat.le_refl _) (by unfold reachLen; omega)
      have HF := Lib.hid hs
      clear hs hC
      go_wp2
      go_ret
      exact ⟨_, fq, rfl, HF.out, hf, (by repeat (first | exact Gr.refl _ | apply Gr.ext | apply Gr.alloc | apply Gr.drew))⟩

abbrev GReading := GInstance × Int × ByteArray
def wtReading (x : GReading) : Nat := wtInstance x.1 + x.2.2.size
instance decReading : DecidableEq GReading := @instDecidableEqProd _ _ _ (@instDecidableEqProd _ _ _ (inferInstance))

theorem rdReading_inv {fp : List Nat} {w : World} {cs : Array Value} (q00 : Int) (q01 : ByteArray) (q1 : Int) (q2 : ByteArray) (h : Rd.rd (α := GReading) fp w cs.toList ((q00, q01), q1, q2)) :
    cs = #[.int .i64 q00, .string q01, .int .i64 q1, .string q2] ∧ fp = (([] ++ []) ++ ([] ++ [])) ∧ (Lit.int .i64 q00).wf = true ∧ q01.size ≤ maxLen ∧ (Lit.int .i64 q1).wf = true ∧ q2.size ≤ maxLen := by
  generalize hcs : cs.toList = l at h
  obtain ⟨_, _, _, _, rfl, rfl, ⟨_, _, _, _, rfl, rfl, ⟨rfl, rfl, hq00⟩, ⟨rfl, rfl, hq01⟩⟩, ⟨_, _, _, _, rfl, rfl, ⟨rfl, rfl, hq1⟩, ⟨rfl, rfl, hq2⟩⟩⟩ := h
  exact ⟨Array.toList_inj.1 (by simpa using hcs), rfl, hq00, hq01, hq1, hq2⟩

theorem rdReading_shape {fp : List Nat} {w : World} {cs : Array Value} {x : GReading} (h : Rd.rd (α := GReading) fp w cs.toList x) :
    ∃ q00 q01 q1 q2, cs = #[.int .i64 q00, .string q01, .int .i64 q1, .string q2] := by
  obtain ⟨⟨q00, q01⟩, q1, q2⟩ := x
  obtain ⟨rfl, -, -, -, -, -⟩ := rdReading_inv q00 q01 q1 q2 h
  exact ⟨_, _, _, _, rfl⟩

theorem rdReading_mk {w : World} (q00 : Int) (q01 : ByteArray) (q1 : Int) (q2 : ByteArray) (hq00 : (Lit.int .i64 q00).wf = true) (hq01 : q01.size ≤ maxLen) (hq1 : (Lit.int .i64 q1).wf = true) (hq2 : q2.size ≤ maxLen) :
    Rd.rd (α := GReading) ((([] ++ []) ++ ([] ++ []))) w [.int .i64 q00, .string q01, .int .i64 q1, .string q2] ((q00, q01), q1, q2) := ⟨_, _, _, _, rfl, rfl, ⟨_, _, _, _, rfl, rfl, ⟨rfl, rfl, hq00⟩, ⟨rfl, rfl, hq01⟩⟩, ⟨_, _, _, _, rfl, rfl, ⟨rfl, rfl, hq1⟩, ⟨rfl, rfl, hq2⟩⟩⟩

set_option maxHeartbeats 1000000 in
theorem szReading_any (fp : List Nat) (cs : Array Value) (x : GReading) (left : Int) (w : World) (hx : Rd.rd fp w cs.toList x) (h0 : 0 ≤ left) (h1 : left ≤ 1048576) :
    Calls Tryz.prog 145 #[.agg cs, .int .i64 left] w fun e w' => e = .returned (.int .i64 (less left (wtReading x))) ∧ Gr w w' := by
  obtain ⟨⟨q00, q01⟩, q1, q2⟩ := x
  obtain ⟨rfl, -, hq00, hq01, hq1, hq2⟩ := rdReading_inv q00 q01 q1 q2 hx
  have hry0 := (rdInstance_mk q00 q01 hq00 hq01 : Rd.rd (α := GInstance) _ w _ _)
  obtain ⟨y0, hny0⟩ : ∃ y : GInstance, y = (q00, q01) := ⟨_, rfl⟩
  rw [← hny0] at hry0
  have HNy0 := Lib.hid hny0
  clear hny0
  unfold maxLen at hq01
  unfold maxLen at hq2
  have hwt : wtReading ((q00, q01), q1, q2) = (wtInstance y0) + (q2.size) := by rw [HNy0.out]; rfl
  have HW := Lib.hid hwt
  clear hwt hx
  go_enter Tryz.func145, Tryz.ntmps145
  go_wp2_with fail
  refine (szInstance_any _ _ y0 _ _ (Rd.gr hry0 (by repeat (first | exact Gr.refl _ | apply Gr.ext | apply Gr.alloc | apply Gr.drew))) (by omega) (by omega)).mono ?_
  rintro e w0 ⟨rfl, x0, rfl⟩
  have hb0 := less_le (left) (wtInstance y0) (by omega)
  go_wp2_with fail
  · go_ret
    refine ⟨ret_int ?_, (by repeat (first | exact Gr.refl _ | apply Gr.ext | apply Gr.alloc | apply Gr.drew))⟩
    have := less_cases left (wtReading ((q00, q01), q1, q2))
    have := HW.out
    have := less_cases (left) (wtInstance y0)
    omega
  · go_ret
    refine ⟨ret_int ?_, (by repeat (first | exact Gr.refl _ | apply Gr.ext | apply Gr.alloc | apply Gr.drew))⟩
    have := less_cases left (wtReading ((q00, q01), q1, q2))
    have := HW.out
    have := less_cases (left) (wtInstance y0)
    omega
  · skip
    go_ret
    refine ⟨ret_int ?_, (by repeat (first | exact Gr.refl _ | apply Gr.ext | apply Gr.alloc | apply Gr.drew))⟩
    have := less_cases left (wtReading ((q00, q01), q1, q2))
    have := HW.out
    have := less_cases (left) (wtInstance y0)
    omega

theorem Reading_ext (q00 : Int) (q01 : ByteArray) (q1 : Int) (q2 : ByteArray) (p00 : Int) (p01 : ByteArray) (p1 : Int) (p2 : ByteArray) (e0 : (q00, q01) = (p00, p01)) (e1 : q1 = p1) (e2 : q2 = p2) : (((q00, q01), q1, q2) : GReading) = ((p00, p01), p1, p2) := by
  exact Prod.ext_iff.2 ⟨e0, Prod.ext_iff.2 ⟨e1, e2⟩⟩

set_option maxHeartbeats 1000000 in
theorem eqReading_any (fp fq : List Nat) (cs ds : Array Value) (x y : GReading) (w : World) (hx : Rd.rd fp w cs.toList x) (hy : Rd.rd fq w ds.toList y) :
    Calls Tryz.prog 97 #[.agg cs, .agg ds] w fun e w' => e = .returned (.bool (decide (x = y))) ∧ Gr w w' := by
  obtain ⟨⟨q00, q01⟩, q1, q2⟩ := x
  obtain ⟨⟨p00, p01⟩, p1, p2⟩ := y
  obtain ⟨rfl, -, hq00, hq01, hq1, hq2⟩ := rdReading_inv q00 q01 q1 q2 hx
  obtain ⟨rfl, -, hp00, hp01, hp1, hp2⟩ := rdReading_inv p00 p01 p1 p2 hy
  have hry0 := (rdInstance_mk q00 q01 hq00 hq01 : Rd.rd (α := GInstance) _ w _ _)
  obtain ⟨y0, hny0⟩ : ∃ y : GInstance, y = (q00, q01) := ⟨_, rfl⟩
  rw [← hny0] at hry0
  have HNy0 := Lib.hid hny0
  clear hny0
  have hrz0 := (rdInstance_mk p00 p01 hp00 hp01 : Rd.rd (α := GInstance) _ w _ _)
  obtain ⟨z0, hnz0⟩ : ∃ y : GInstance, y = (p00, p01) := ⟨_, rfl⟩
  rw [← hnz0] at hrz0
  have HNz0 := Lib.hid hnz0
  clear hnz0
  clear hx hy
  go_enter Tryz.func97, Tryz.ntmps97
  go_wp2_with fail
  refine (eqInstance_any _ _ _ _ y0 z0 _ (Rd.gr hry0 (by repeat (first | exact Gr.refl _ | apply Gr.ext | apply Gr.alloc | apply Gr.drew))) (Rd.gr hrz0 (by repeat (first | exact Gr.refl _ | apply Gr.ext | apply Gr.alloc | apply Gr.drew)))).mono ?_
  rintro e w0 ⟨rfl, x0, rfl⟩
  go_wp2_with fail
  · have ht : (!decide (y0 = z0)) = true := by assumption
    go_ret
    exact ⟨ret_bool (decide_eq_false fun e => dec_ne ht (HNy0.out.trans ((congrArg (fun z : GReading => z.1) e).trans HNz0.out.symm))).symm, (by repeat (first | exact Gr.refl _ | apply Gr.ext | apply Gr.alloc | apply Gr.drew))⟩
  · have ht : (q1 != p1) = true := by assumption
    go_ret
    exact ⟨ret_bool (decide_eq_false fun e => int_ne ht (congrArg (fun z : GReading => z.2.1) e)).symm, (by repeat (first | exact Gr.refl _ | apply Gr.ext | apply Gr.alloc | apply Gr.drew))⟩
  · have ht : (!q2.toList == p2.toList) = true := by assumption
    go_ret
    exact ⟨ret_bool (decide_eq_false fun e => str_ne ht (congrArg (fun z : GReading => z.2.2) e)).symm, (by repeat (first | exact Gr.refl _ | apply Gr.ext | apply Gr.alloc | apply Gr.drew))⟩
  · skip
    have e0 := Lib.hid (dec_eq (show (!decide (y0 = z0)) = false by assumption))
    have e1 := Lib.hid (int_eq (show (q1 != p1) = false by assumption))
    have e2 := Lib.hid (str_eq (show (!q2.toList == p2.toList) = false by assumption))
    go_ret
    exact ⟨ret_bool (decide_eq_true (Reading_ext q00 q01 q1 q2 p00 p01 p1 p2 (HNy0.out.symm.trans (e0.out.trans HNz0.out)) e1.out e2.out)).symm, (by repeat (first | exact Gr.refl _ | apply Gr.ext | apply Gr.alloc | apply Gr.drew))⟩

set_option maxHeartbeats 1000000 in
theorem toReading_any (fp : List Nat) (cs : Array Value) (x : GReading) (w : World) (hx : Rd.rd fp w cs.toList x) :
    Calls Tryz.prog 146 #[.agg cs] w fun e w' => e = .returned (.agg cs) ∧ Gr w w' := by
  obtain ⟨⟨q00, q01⟩, q1, q2⟩ := x
  obtain ⟨rfl, -, hq00, hq01, hq1, hq2⟩ := rdReading_inv q00 q01 q1 q2 hx
  have hry0 := (rdInstance_mk q00 q01 hq00 hq01 : Rd.rd (α := GInstance) _ w _ _)
  obtain ⟨y0, hny0⟩ : ∃ y : GInstance, y = (q00, q01) := ⟨_, rfl⟩
  rw [← hny0] at hry0
  have HNy0 := Lib.hid hny0
  clear hny0
  clear hx
  go_enter Tryz.func146, Tryz.ntmps146
  go_wp2_with fail
  refine (toInstance_any _ _ y0 _ (Rd.gr hry0 (by repeat (first | exact Gr.refl _ | apply Gr.ext | apply Gr.alloc | apply Gr.drew)))).mono ?_
  rintro e w0 ⟨rfl, x0, rfl⟩
  go_wp2_with fail
  exact bodyPost_ret (v := .agg #[.int .i64 q00, .string q01, .int .i64 q1, .string q2]) (by simp [results, Tryz.results146, go_sem]) rfl ⟨rfl, (by repeat (first | exact Gr.refl _ | apply Gr.ext | apply Gr.alloc | apply Gr.drew))⟩

def wtReadingS (xs : List GReading) : Nat := wtL wtReading xs

set_option maxHeartbeats 1000000 in
theorem szReadingS_any (fp : List Nat) (u : Value) (xs : List GReading) (left : Int) (w : World) (hu : SlR fp w u xs) (h0 : 0 ≤ left) (h1 : left ≤ 1048576) :
    Calls Tryz.prog 134 #[u, .int .i64 left] w fun e w' => e = .returned (.int .i64 (less left (wtReadingS xs))) ∧ Gr w w' := by
  obtain ⟨a, ca, rfl, g1, g2, g3⟩ := hu.open
  by_cases hneg : left - xs.length < 0
  · have hle : less left (wtReadingS xs) = -1 := by unfold less wtReadingS wtL; rw [if_pos (by omega)]
    have HL := Lib.hid hle
    clear hle
    go_enter Tryz.func134, Tryz.ntmps134
    go_wp2
    go_ret
    exact ⟨ret_int HL.out.symm, Gr.refl w⟩
  · have hl0 : less left xs.length = left - xs.length := by unfold less; rw [if_neg hneg]
    have HL0 := Lib.hid hl0
    clear hl0
    go_enter Tryz.func134, Tryz.ntmps134
    go_wp2
    go_loopw [5, 1] (fun s5 s1 wr => ∃ (k : Nat) (m : Int), k ≤ xs.length ∧ 0 ≤ m ∧ m ≤ 1048576 ∧ Hid (m = less left (xs.length + ((xs.take k).map wtReading).sum)) ∧ Gr w wr ∧ s5 = .int .i64 k ∧ s1 = .int .i64 m) (fun s5 _ _ => xs.length - (intOf s5).toNat)
    case atStart => exact ⟨0, _, by omega, by omega, by omega, Lib.hid (by simp [HL0.out]), Gr.refl w, rfl, rfl⟩
    case round =>
      obtain ⟨k, m, hk, hm0, hm1, hm, ⟨x, rfl⟩, rfl, rfl⟩ := hrel
      by_cases hlt : k < xs.length
      · obtain ⟨b, off, rfl, hb⟩ := g3 k hlt
        have hsum := Lib.hid (sum_take_succ wtReading xs k hlt)
        obtain ⟨csq, feq, hcq, hrq, -⟩ := hu.at hlt
        have hrdq := hrq
        generalize xs[k] = yq at hrq
        obtain ⟨⟨q00, q01⟩, q1, q2⟩ := yq
        obtain ⟨hcsq, hfeq, hq00, hq01, hq1, hq2⟩ := rdReading_inv (cs := csq.toArray) q00 q01 q1 q2 (by simpa using hrq)
        obtain rfl : csq = [.int .i64 q00, .string q01, .int .i64 q1, .string q2] := by have := congrArg Array.toList hcsq; simpa using this
        obtain rfl : feq = [] := hfeq
        have z0 : w.cell? ⟨b, off + k * 4, none⟩ = some (.int .i64 q00) := by simpa [Rd.n] using hcq 0 _ rfl
        have z1 : w.cell? ⟨b, off + k * 4 + 1, none⟩ = some (.string q01) := hcq 1 _ rfl
        have z2 : w.cell? ⟨b, off + k * 4 + 2, none⟩ = some (.int .i64 q1) := hcq 2 _ rfl
        have z3 : w.cell? ⟨b, off + k * 4 + 3, none⟩ = some (.string q2) := hcq 3 _ rfl
        have hmono := less_le m (wtReading xs[k]) (by omega)
        clear g3 hcsq hcq hrq
        go_wp2_with (go_at_call 145; refine (szReading_any _ _ xs[k] _ _ (Rd.gr hrdq ((Gr.refl w).ext _)) (by omega) (by omega)).mono ?_; rintro e w1 ⟨rfl, y, rfl⟩)
        · have hx : less m (wtReading xs[k]) < 0 := by assumption
          go_ret
          refine ⟨ret_int ?_, (by repeat (first | exact Gr.refl _ | apply Gr.ext | apply Gr.alloc | apply Gr.drew))⟩
          have e := hm.out
          subst e
          rw [less_less, Nat.add_assoc, ← hsum.out] at hx
          exact (less_mono hx (Nat.add_le_add_left (sum_take_le wtReading xs (k + 1)) _) h0).symm
        · have hx : 0 ≤ less m (wtReading xs[k]) := by assumption
          refine ⟨⟨k + 1, _, by omega, hx, by omega, Lib.hid ?_, (by repeat (first | exact Gr.refl _ | apply Gr.ext | apply Gr.alloc | apply Gr.drew)), by go_num, rfl⟩, by simp [intOf]; omega⟩
          rw [hsum.out, hm.out, less_less, Nat.add_assoc]
      · have hk2 : k = xs.length := by omega
        subst hk2
        have hm2 := hm.out
        rw [List.take_length] at hm2
        have HM := Lib.hid hm2
        clear hm2 hm
        go_wp2
        go_ret
        exact ⟨ret_int HM.out, (by repeat (first | exact Gr.refl _ | apply Gr.ext | apply Gr.alloc | apply Gr.drew))⟩

set_option maxHeartbeats 1000000 in
theorem eqReadingS_any (fp fq : List Nat) (u v : Value) (xs ys : List GReading) (w : World) (hu : SlR fp w u xs) (hv : SlR fq w v ys) :
    Calls Tryz.prog 49 #[u, v] w fun e w' => e = .returned (.bool (decide (xs = ys))) ∧ Gr w w' := by
  obtain ⟨a, ca, rfl, h1, h2, h3⟩ := hu.open
  obtain ⟨c, cc, rfl, g1, g2, g3⟩ := hv.open
  by_cases hl : xs.length = ys.length
  · have hl' := Lib.hid hl
    have hne : ((xs.length : Int) != (ys.length : Int)) = false := by simp [hl]
    clear hl
    go_enter Tryz.func49, Tryz.ntmps49
    go_wp2
    go_loopw [5] (fun s5 wr => ∃ k : Nat, k ≤ xs.length ∧ xs.take k = ys.take k ∧ Gr w wr ∧ s5 = .int .i64 k) (fun s5 _ => xs.length - (intOf s5).toNat)
    case atStart => exact ⟨0, by omega, rfl, Gr.refl w, rfl⟩
    case round =>
      obtain ⟨k, hk, ht, ⟨x, rfl⟩, rfl⟩ := hrel
      by_cases hlt : k < xs.length
      · have hlt2 : k < ys.length := by have := hl'.out; omega
        obtain ⟨b, off, rfl, hb⟩ := h3 k hlt
        obtain ⟨b', off', rfl, hb'⟩ := g3 k hlt2
        obtain ⟨csq, feq, hcq, hrq, -⟩ := hu.at hlt
        have hrdq := hrq
        generalize xs[k] = yq at hrq
        obtain ⟨⟨q00, q01⟩, q1, q2⟩ := yq
        obtain ⟨hcsq, hfeq, hq00, hq01, hq1, hq2⟩ := rdReading_inv (cs := csq.toArray) q00 q01 q1 q2 (by simpa using hrq)
        obtain rfl : csq = [.int .i64 q00, .string q01, .int .i64 q1, .string q2] := by have := congrArg Array.toList hcsq; simpa using this
        obtain rfl : feq = [] := hfeq
        obtain ⟨csp, fep, hcp, hrp, -⟩ := hv.at hlt2
        have hrdp := hrp
        generalize ys[k] = yp at hrp
        obtain ⟨⟨p00, p01⟩, p1, p2⟩ := yp
        obtain ⟨hcsp, hfep, hp00, hp01, hp1, hp2⟩ := rdReading_inv (cs := csp.toArray) p00 p01 p1 p2 (by simpa using hrp)
        obtain rfl : csp = [.int .i64 p00, .string p01, .int .i64 p1, .string p2] := by have := congrArg Array.toList hcsp; simpa using this
        obtain rfl : fep = [] := hfep
        have z0 : w.cell? ⟨b, off + k * 4, none⟩ = some (.int .i64 q00) := by simpa [Rd.n] using hcq 0 _ rfl
        have z1 : w.cell? ⟨b, off + k * 4 + 1, none⟩ = some (.string q01) := hcq 1 _ rfl
        have z2 : w.cell? ⟨b, off + k * 4 + 2, none⟩ = some (.int .i64 q1) := hcq 2 _ rfl
        have z3 : w.cell? ⟨b, off + k * 4 + 3, none⟩ = some (.string q2) := hcq 3 _ rfl
        have zz0 : w.cell? ⟨b', off' + k * 4, none⟩ = some (.int .i64 p00) := by simpa [Rd.n] using hcp 0 _ rfl
        have zz1 : w.cell? ⟨b', off' + k * 4 + 1, none⟩ = some (.string p01) := hcp 1 _ rfl
        have zz2 : w.cell? ⟨b', off' + k * 4 + 2, none⟩ = some (.int .i64 p1) := hcp 2 _ rfl
        have zz3 : w.cell? ⟨b', off' + k * 4 + 3, none⟩ = some (.string p2) := hcp 3 _ rfl
        have hT := Lib.hid ht
        clear h3 g3 ht hcsq hcsp hcq hcp hrq hrp
        go_wp2_with fail
        refine wp_region_grown (by kernel_rfl) (by kernel_rfl) ?_
        repeat (go_big_quiet_step ((go_at_call 97; refine grown_call (eqReading_any _ _ _ _ xs[k] ys[k] _ (Rd.gr hrdq ?_) (Rd.gr hrdp ?_)) <;> exact ((Gr.refl w).ext _).ext _)))
        refine wpQuiet_nil ?_
        intro _ hw'
        obtain ⟨nx, hw''⟩ := hw'
        subst hw''
        go_wp2
        · have ht : (!decide (xs[k] = ys[k])) = true := by assumption
          go_ret
          have E : xs ≠ ys := fun e => dec_ne ht (by subst e; rfl)
          exact ⟨ret_bool (decide_eq_false E).symm, (by repeat (first | exact Gr.refl _ | apply Gr.ext | apply Gr.alloc | apply Gr.drew))⟩
        · have ht : (!decide (xs[k] = ys[k])) = false := by assumption
          have e2 := dec_eq ht
          refine ⟨⟨k + 1, by omega, ?_, (by repeat (first | exact Gr.refl _ | apply Gr.ext | apply Gr.alloc | apply Gr.drew)), by go_num⟩, by simp [intOf]; omega⟩
          rw [List.take_succ_eq_append_getElem hlt, List.take_succ_eq_append_getElem hlt2, hT.out, e2]
      · have hk2 : k = xs.length := by omega
        subst hk2
        have e : xs = ys := by
          have h := ht
          have h' := hl'.out
          rw [List.take_length, h', List.take_length] at h
          exact h
        have E := Lib.hid e
        clear e ht
        go_wp2
        go_ret
        exact ⟨ret_bool (decide_eq_true E.out).symm, (by repeat (first | exact Gr.refl _ | apply Gr.ext | apply Gr.alloc | apply Gr.drew))⟩
  · have hne : ((xs.length : Int) != (ys.length : Int)) = true := by simp; omega
    have e : xs ≠ ys := fun e => hl (by rw [e])
    have E := Lib.hid e
    clear e hl
    go_enter Tryz.func49, Tryz.ntmps49
    go_wp2
    go_ret
    exact ⟨ret_bool (decide_eq_false E.out).symm, Gr.refl w⟩

theorem Tryz.infoReading : (Tryz.prog.info? 119).map (fun i => (i.zero, i.size, i.bytes)) = some (some (.agg #[.int .i64 0, .string ByteArray.empty, .int .i64 0, .string ByteArray.empty]), 4, 48) := by kernel_rfl

set_option maxHeartbeats 1000000 in
theorem toReadingS_any (fp : List Nat) (u : Value) (xs : List GReading) (w : World) (hu : SlR fp w u xs) (hlen : wtReadingS xs ≤ 1048576) :
    Calls Tryz.prog 135 #[u] w fun e w' => ∃ v fq, e = .returned v ∧ SlR fq w' v xs ∧ Fresh w fq ∧ Gr w w' := by
  obtain ⟨a, ca, rfl, h1, h2, h3⟩ := hu.open
  have hll : xs.length ≤ 1048576 := Nat.le_trans (wtL_len wtReading xs) hlen
  obtain ⟨i0, hi, hz0, hz1, hz2⟩ := info_parts Tryz.infoReading
  have hmk := fun (W : World) => run_make (P := Tryz.prog) W 36 119 i0 (.agg #[.int .i64 0, .string ByteArray.empty, .int .i64 0, .string ByteArray.empty]) Tryz.underlying36 hi hz0 .i64 .i64 xs.length xs.length (by omega) (by omega) (by rw [hz2]; omega) (by omega)
  rw [hz1] at hmk
  clear hi hz0 hz1 hz2
  simp only [Int.toNat_natCast] at hmk
  have hms := size_madeCells (Value.agg #[.int .i64 0, .string ByteArray.empty, .int .i64 0, .string ByteArray.empty]).cells (xs.length * 4)
  generalize madeCells (Value.agg #[.int .i64 0, .string ByteArray.empty, .int .i64 0, .string ByteArray.empty]).cells (xs.length * 4) = C0 at hmk hms
  have HS := Lib.hid hms
  have HLS := Lib.hid hlen
  clear hms hlen
  go_enter Tryz.func135, Tryz.ntmps135
  go_wp2
  go_loopw [4] (fun s4 wr => ∃ (k : Nat) (C : Array Value) (x : Ext) (fps : List (List Nat)), C.size = xs.length * 4 ∧ PartR w w.heap.size wr C k fps xs ∧ wr = (w.alloc (.cells C 119)).ext x ∧ s4 = .int .i64 k) (fun s4 _ => xs.length - (intOf s4).toNat)
  case atStart => exact ⟨0, C0, ⟨#[], 0⟩, [], HS.out, PartR.start _ _ (Nat.le_refl _) (by simp), (ext_zero _).symm, rfl⟩
  case round =>
    obtain ⟨k, C, x, fps, hC, hp, rfl, rfl⟩ := hrel
    have hCs := Lib.hid hC
    have hk := hp.le
    by_cases hlt : k < xs.length
    · obtain ⟨b, off, rfl, hb⟩ := h3 k hlt
      have hwk := wtL_at wtReading xs hlt
      obtain ⟨csq, feq, hcq, hrq, -⟩ := hu.at hlt
      have hrdq := hrq
      generalize xs[k] = yq at hrq
      obtain ⟨⟨q00, q01⟩, q1, q2⟩ := yq
      obtain ⟨hcsq, hfeq, hq00, hq01, hq1, hq2⟩ := rdReading_inv (cs := csq.toArray) q00 q01 q1 q2 (by simpa using hrq)
      obtain rfl : csq = [.int .i64 q00, .string q01, .int .i64 q1, .string q2] := by have := congrArg Array.toList hcsq; simpa using this
      obtain rfl : feq = [] := hfeq
      have z0 : w.cell? ⟨b, off + k * 4, none⟩ = some (.int .i64 q00) := by simpa [Rd.n] using hcq 0 _ rfl
      have z1 : w.cell? ⟨b, off + k * 4 + 1, none⟩ = some (.string q01) := hcq 1 _ rfl
      have z2 : w.cell? ⟨b, off + k * 4 + 2, none⟩ = some (.int .i64 q1) := hcq 2 _ rfl
      have z3 : w.cell? ⟨b, off + k * 4 + 3, none⟩ = some (.string q2) := hcq 3 _ rfl
      have y0 : k * 4 < C.size := by omega
      have y1 : k * 4 + 1 < C.size := by omega
      have y2 : k * 4 + 2 < C.size := by omega
      have y3 : k * 4 + 3 < C.size := by omega
      have hwl : wtReading xs[k] ≤ 1048576 := Nat.le_trans hwk HLS.out
      have hd0 : k * 4 + 4 ≤ C.size := by omega
      have HD := Lib.hid hd0
      clear hC h3 hcsq hcq hrq hwk hd0
      go_wp2_with (go_at_call 146; refine (toReading_any _ _ xs[k] _ (Rd.gr hrdq (by repeat (first | exact Gr.refl _ | apply Gr.ext | apply Gr.alloc | apply Gr.drew)))).mono ?_; rintro e w1 ⟨rfl, y, rfl⟩)
      rw [ext_ext, ← setRow_4]
      refine ⟨⟨k + 1, setRow C (k * 4) [.int .i64 q00, .string q01, .int .i64 q1, .string q2], x.comp y, fps ++ [[]], ?_, ?_, rfl, by go_num⟩, by simp [intOf]; omega⟩
      · rw [setRow_size]; exact hCs.out
      · refine hp.step_own hlt (C' := setRow C (k * 4) [.int .i64 q00, .string q01, .int .i64 q1, .string q2]) (cs := [.int .i64 q00, .string q01, .int .i64 q1, .string q2]) ?_ (Fresh.nil _) (fun j hj => setRow_lt _ _ _ _ hj) (setRow_get _ _ _ HD.out)
        exact Rd.gr hrdq (by repeat (first | exact Gr.refl _ | apply Gr.ext | apply Gr.alloc | apply Gr.drew))
    · have hk2 : k = xs.length := by omega
      subst hk2
      obtain ⟨fq, hs, hf⟩ := hp.done (heap_own_self _ x) (cap := xs.length) (Nat.le_refl _) (by unfold reachLen; omega)
      have HF := Lib.hid hs
      clear hs hC
      go_wp2
      go_ret
      exact ⟨_, fq, rfl, HF.out, hf, (by repeat (first | exact Gr.refl _ | apply Gr.ext | apply Gr.alloc | apply Gr.drew))⟩

end Go.Proofs.YtbfmeiooeaaibaaGreat
