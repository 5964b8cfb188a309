/- SameResults and EqualMemo of the program and of the reference. Made by mk_memoc.py. No condition. -/
import Derived.Test.YtmdiabjaggadjaaGreatMemoB
namespace Go.Proofs.YtmdiabjaggadjaaGreat
open Go.RowKit

set_option maxHeartbeats 1000000 in
theorem implSameRes_any (fp fq : List Nat) (cs ds : Array Value) (x y : GMemo) (w : World) (hx : Rd.rd fp w cs.toList x) (hy : Rd.rd fq w ds.toList y) :
    Calls Tryz.prog 44 #[.agg cs, .agg ds] w fun e w' => e = .returned (.bool (decide (x.1 = y.1))) ∧ Gr w w' := by
  obtain ⟨x1, x2⟩ := x
  obtain ⟨y1, y2⟩ := y
  have hrx := hx
  have hry := hy
  obtain ⟨v0, f0, v1, f1, rfl, -, hu0, hu1⟩ := rdMemo_inv x1 x2 hx
  obtain ⟨v2, f2, v3, f3, rfl, -, hv0, hv1⟩ := rdMemo_inv y1 y2 hy
  obtain ⟨a0, c0, rfl, op1, op2, op3⟩ := hu0.open
  obtain ⟨a1, c1, rfl, oq1, oq2, oq3⟩ := hu1.open
  obtain ⟨b0, d0, rfl, or1, or2, or3⟩ := hv0.open
  obtain ⟨b1, d1, rfl, os1, os2, os3⟩ := hv1.open
  clear hx hy
  go_enter Tryz.func44, Tryz.ntmps44
  go_wp2_with fail
  refine (slicesEqualFuncE_any _ _ _ _ x1 y1 _ (hu0.gr (by repeat (first | exact Gr.refl _ | apply Gr.ext | apply Gr.alloc | apply Gr.drew))) (hv0.gr (by repeat (first | exact Gr.refl _ | apply Gr.ext | apply Gr.alloc | apply Gr.drew)))).mono ?_
  rintro e w3 ⟨rfl, x3, rfl⟩
  go_wp2_with fail
  go_ret
  exact ⟨ret_bool (by simp), (by repeat (first | exact Gr.refl _ | apply Gr.ext | apply Gr.alloc | apply Gr.drew))⟩

set_option maxRecDepth 10000 in
set_option maxHeartbeats 8000000 in
theorem specSameRes_any (fp fq : List Nat) (cs ds : Array Value) (x y : GMemo) (w : World) (hx : Rd.rd fp w cs.toList x) (hy : Rd.rd fq w ds.toList y) :
    Calls Tryz.prog 32 #[.agg cs, .agg ds] w fun e w' => e = .returned (.bool (decide (x.1 = y.1))) ∧ Gr w w' := by
  obtain ⟨x1, x2⟩ := x
  obtain ⟨y1, y2⟩ := y
  have hrx := hx
  have hry := hy
  obtain ⟨v0, f0, v1, f1, rfl, -, hu0, hu1⟩ := rdMemo_inv x1 x2 hx
  obtain ⟨v2, f2, v3, f3, rfl, -, hv0, hv1⟩ := rdMemo_inv y1 y2 hy
  obtain ⟨a0, c0, rfl, op1, op2, op3⟩ := hu0.open
  obtain ⟨a1, c1, rfl, oq1, oq2, oq3⟩ := hu1.open
  obtain ⟨b0, d0, rfl, or1, or2, or3⟩ := hv0.open
  obtain ⟨b1, d1, rfl, os1, os2, os3⟩ := hv1.open
  clear hx hy
  by_cases hl : x1.length = y1.length
  · have hl' := Lib.hid hl
    have hne : ((x1.length : Int) != (y1.length : Int)) = false := by simp [hl]
    clear hl
    go_enter Tryz.func32, Tryz.ntmps32
    go_wp2
    go_loopw [5] (fun s5 wr => ∃ k : Nat, k ≤ x1.length ∧ x1.take k = y1.take k ∧ Gr ((w.alloc (Obj.cells #[.slice a0 x1.length c0, .slice a1 x2.length c1] 47)).alloc (Obj.cells #[.slice b0 y1.length d0, .slice b1 y2.length d1] 47)) wr ∧ s5 = .int .i64 k) (fun s5 _ => x1.length - (intOf s5).toNat)
    case atStart => exact ⟨0, by omega, rfl, Gr.refl _, rfl⟩
    case round =>
      obtain ⟨k, hk, ht, ⟨x, rfl⟩, rfl⟩ := hrel
      by_cases hlt : k < x1.length
      · have hlt2 : k < y1.length := by have := hl'.out; omega
        obtain ⟨b, off, rfl, hb⟩ := op3 k hlt
        obtain ⟨b', off', rfl, hb'⟩ := or3 k hlt2
        obtain ⟨csq, feq, hcq, hrq, -⟩ := hu0.at hlt
        have hrdq := hrq
        generalize hyq : x1[k] = yq at hrq
        obtain ⟨⟨q00, q01⟩, q1, q2, q3, q4, q5, q6, q7⟩ := yq
        obtain ⟨vq5, fq5, vq6, fq6, vq7, fq7, hcsq, -, -, -, -, -, -, -, hq5, hq6, hq7⟩ := rdEntry_inv (cs := csq.toArray) q00 q01 q1 q2 q3 q4 q5 q6 q7 (by simpa using hrq)
        obtain rfl : csq = [.int .i64 q00, .string q01, .int .i64 q1, .int .i64 q2, .int .i64 q3, .string q4, vq5, vq6, vq7] := by have := congrArg Array.toList hcsq; simpa using this
        have slq5 := hq5
        obtain ⟨aq5, cq5, rfl, -, -, -⟩ := hq5.open
        have slq6 := hq6
        obtain ⟨aq6, cq6, rfl, -, -, -⟩ := hq6.open
        have slq7 := hq7
        obtain ⟨aq7, cq7, rfl, -, -, -⟩ := hq7.open
        have qz0 : w.cell? ⟨b, off + k * 9, none⟩ = some (.int .i64 q00) := by simpa [Rd.n] using hcq 0 _ rfl
        have qz1 : w.cell? ⟨b, off + k * 9 + 1, none⟩ = some (.string q01) := hcq 1 _ rfl
        have qz2 : w.cell? ⟨b, off + k * 9 + 2, none⟩ = some (.int .i64 q1) := hcq 2 _ rfl
        have qz3 : w.cell? ⟨b, off + k * 9 + 3, none⟩ = some (.int .i64 q2) := hcq 3 _ rfl
        have qz4 : w.cell? ⟨b, off + k * 9 + 4, none⟩ = some (.int .i64 q3) := hcq 4 _ rfl
        have qz5 : w.cell? ⟨b, off + k * 9 + 5, none⟩ = some (.string q4) := hcq 5 _ rfl
        have qz6 : w.cell? ⟨b, off + k * 9 + 6, none⟩ = some (.slice aq5 q5.length cq5) := hcq 6 _ rfl
        have qz7 : w.cell? ⟨b, off + k * 9 + 7, none⟩ = some (.slice aq6 q6.length cq6) := hcq 7 _ rfl
        have qz8 : w.cell? ⟨b, off + k * 9 + 8, none⟩ = some (.slice aq7 q7.length cq7) := hcq 8 _ rfl
        clear hcq hrq hcsq hq5 hq6 hq7 slq5 slq6
        obtain ⟨csp, fep, hcp, hrp, -⟩ := hv0.at hlt2
        have hrdp := hrp
        generalize hyp : y1[k] = yp at hrp
        obtain ⟨⟨p00, p01⟩, p1, p2, p3, p4, p5, p6, p7⟩ := yp
        obtain ⟨vp5, fp5, vp6, fp6, vp7, fp7, hcsp, -, -, -, -, -, -, -, hp5, hp6, hp7⟩ := rdEntry_inv (cs := csp.toArray) p00 p01 p1 p2 p3 p4 p5 p6 p7 (by simpa using hrp)
        obtain rfl : csp = [.int .i64 p00, .string p01, .int .i64 p1, .int .i64 p2, .int .i64 p3, .string p4, vp5, vp6, vp7] := by have := congrArg Array.toList hcsp; simpa using this
        have slp5 := hp5
        obtain ⟨ap5, cp5, rfl, -, -, -⟩ := hp5.open
        have slp6 := hp6
        obtain ⟨ap6, cp6, rfl, -, -, -⟩ := hp6.open
        have slp7 := hp7
        obtain ⟨ap7, cp7, rfl, -, -, -⟩ := hp7.open
        have pz0 : w.cell? ⟨b', off' + k * 9, none⟩ = some (.int .i64 p00) := by simpa [Rd.n] using hcp 0 _ rfl
        have pz1 : w.cell? ⟨b', off' + k * 9 + 1, none⟩ = some (.string p01) := hcp 1 _ rfl
        have pz2 : w.cell? ⟨b', off' + k * 9 + 2, none⟩ = some (.int .i64 p1) := hcp 2 _ rfl
        have pz3 : w.cell? ⟨b', off' + k * 9 + 3, none⟩ = some (.int .i64 p2) := hcp 3 _ rfl
        have pz4 : w.cell? ⟨b', off' + k * 9 + 4, none⟩ = some (.int .i64 p3) := hcp 4 _ rfl
        have pz5 : w.cell? ⟨b', off' + k * 9 + 5, none⟩ = some (.string p4) := hcp 5 _ rfl
        have pz6 : w.cell? ⟨b', off' + k * 9 + 6, none⟩ = some (.slice ap5 p5.length cp5) := hcp 6 _ rfl
        have pz7 : w.cell? ⟨b', off' + k * 9 + 7, none⟩ = some (.slice ap6 p6.length cp6) := hcp 7 _ rfl
        have pz8 : w.cell? ⟨b', off' + k * 9 + 8, none⟩ = some (.slice ap7 p7.length cp7) := hcp 8 _ rfl
        clear hcp hrp hcsp hp5 hp6 hp7 slp5 slp6
        have hT := Lib.hid ht
        have HE := Lib.hid (entryEq x1[k] y1[k])
        have e2 : x1[k].2.1 = q1 := by rw [hyq]
        have e3 : y1[k].2.1 = p1 := by rw [hyp]
        have e4 : x1[k].2.2.2.2.2.2.2 = q7 := by rw [hyq]
        have e5 : y1[k].2.2.2.2.2.2.2 = p7 := by rw [hyp]
        rw [e2, e3, e4, e5] at HE
        clear op3 or3 oq3 os3 ht e2 e3 e4 e5 hyq hyp
        by_cases hs : sameSrc x1[k] y1[k] = true
        · have HS := Lib.hid hs
          clear hs
          by_cases e1 : q1 = p1
          · have E1 := Lib.hid e1
            have n1 : ((q1 : Int) != p1) = false := by simpa using e1
            clear e1
            by_cases e7 : q7 = p7
            · have E7 := Lib.hid e7
              clear e7
              go_wp2_with fail
              refine (specSame_any _ _ _ _ x1[k] y1[k] _ (Rd.gr hrdq (by repeat (first | exact Gr.refl _ | apply Gr.ext | apply Gr.alloc | apply Gr.drew))) (Rd.gr hrdp (by repeat (first | exact Gr.refl _ | apply Gr.ext | apply Gr.alloc | apply Gr.drew)))).mono ?_
              rintro e w3 ⟨rfl, x3, rfl⟩
              rw [HS.out]
              go_wp2_with fail
              refine (l37Readings_any _ _ _ _ q7 p7 _ (slq7.gr (by repeat (first | exact Gr.refl _ | apply Gr.ext | apply Gr.alloc | apply Gr.drew))) (slp7.gr (by repeat (first | exact Gr.refl _ | apply Gr.ext | apply Gr.alloc | apply Gr.drew)))).mono ?_
              rintro e w4 ⟨rfl, x4, rfl⟩
              rw [decide_eq_true E7.out]
              go_wp2_with fail
              have heq : x1[k] = y1[k] := HE.out.2 ⟨HS.out, E1.out, E7.out⟩
              refine ⟨⟨k + 1, by omega, ?_, (by repeat (first | exact Gr.refl _ | apply Gr.ext | apply Gr.alloc | apply Gr.drew)), by go_num⟩, by simp [intOf]; omega⟩
              rw [List.take_succ_eq_append_getElem hlt, List.take_succ_eq_append_getElem hlt2, hT.out, heq]
            · have E7 := Lib.hid e7
              clear e7
              go_wp2_with fail
              refine (specSame_any _ _ _ _ x1[k] y1[k] _ (Rd.gr hrdq (by repeat (first | exact Gr.refl _ | apply Gr.ext | apply Gr.alloc | apply Gr.drew))) (Rd.gr hrdp (by repeat (first | exact Gr.refl _ | apply Gr.ext | apply Gr.alloc | apply Gr.drew)))).mono ?_
              rintro e w3 ⟨rfl, x3, rfl⟩
              rw [HS.out]
              go_wp2_with fail
              refine (l37Readings_any _ _ _ _ q7 p7 _ (slq7.gr (by repeat (first | exact Gr.refl _ | apply Gr.ext | apply Gr.alloc | apply Gr.drew))) (slp7.gr (by repeat (first | exact Gr.refl _ | apply Gr.ext | apply Gr.alloc | apply Gr.drew)))).mono ?_
              rintro e w4 ⟨rfl, x4, rfl⟩
              rw [decide_eq_false E7.out]
              go_wp2_with fail
              go_ret
              exact ⟨ret_bool (decide_eq_false fun hxy => E7.out (HE.out.1 (by have hxy2 : x1 = y1 := hxy; subst hxy2; rfl)).2.2).symm, (by repeat (first | exact Gr.refl _ | apply Gr.ext | apply Gr.alloc | apply Gr.drew))⟩
          · have E1 := Lib.hid e1
            have n1 : ((q1 : Int) != p1) = true := by simpa using e1
            clear e1
            go_wp2_with fail
            refine (specSame_any _ _ _ _ x1[k] y1[k] _ (Rd.gr hrdq (by repeat (first | exact Gr.refl _ | apply Gr.ext | apply Gr.alloc | apply Gr.drew))) (Rd.gr hrdp (by repeat (first | exact Gr.refl _ | apply Gr.ext | apply Gr.alloc | apply Gr.drew)))).mono ?_
            rintro e w3 ⟨rfl, x3, rfl⟩
            rw [HS.out]
            go_wp2_with fail
            go_ret
            exact ⟨ret_bool (decide_eq_false fun hxy => E1.out (HE.out.1 (by have hxy2 : x1 = y1 := hxy; subst hxy2; rfl)).2.1).symm, (by repeat (first | exact Gr.refl _ | apply Gr.ext | apply Gr.alloc | apply Gr.drew))⟩
        · have HS := Lib.hid hs
          clear hs
          go_wp2_with fail
          refine (specSame_any _ _ _ _ x1[k] y1[k] _ (Rd.gr hrdq (by repeat (first | exact Gr.refl _ | apply Gr.ext | apply Gr.alloc | apply Gr.drew))) (Rd.gr hrdp (by repeat (first | exact Gr.refl _ | apply Gr.ext | apply Gr.alloc | apply Gr.drew)))).mono ?_
          rintro e w3 ⟨rfl, x3, rfl⟩
          rw [Bool.eq_false_iff.2 HS.out]
          go_wp2_with fail
          go_ret
          exact ⟨ret_bool (decide_eq_false fun hxy => HS.out (HE.out.1 (by have hxy2 : x1 = y1 := hxy; subst hxy2; rfl)).1).symm, (by repeat (first | exact Gr.refl _ | apply Gr.ext | apply Gr.alloc | apply Gr.drew))⟩
      · have hk2 : k = x1.length := by omega
        subst hk2
        have e : x1 = y1 := by
          have h := ht
          have h' := hl'.out
          rw [List.take_length, h', List.take_length] at h
          exact h
        have E := Lib.hid e
        clear e ht
        go_wp2
        go_ret
        exact ⟨ret_bool (decide_eq_true E.out).symm, (by repeat (first | exact Gr.refl _ | apply Gr.ext | apply Gr.alloc | apply Gr.drew))⟩
  · have hne : ((x1.length : Int) != (y1.length : Int)) = true := by simp; omega
    have e : x1 ≠ y1 := fun e => hl (by rw [e])
    have E := Lib.hid e
    clear e hl
    go_enter Tryz.func32, Tryz.ntmps32
    go_wp2
    go_ret
    exact ⟨ret_bool (decide_eq_false E.out).symm, (by repeat (first | exact Gr.refl _ | apply Gr.ext | apply Gr.alloc | apply Gr.drew))⟩
end Go.Proofs.YtmdiabjaggadjaaGreat
