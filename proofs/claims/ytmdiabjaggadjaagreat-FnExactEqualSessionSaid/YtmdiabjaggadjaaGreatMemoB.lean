/- SameResults of the program and of the reference. No condition. -/
import Derived.Test.YtmdiabjaggadjaaGreatMemoA
namespace Go.Proofs.YtmdiabjaggadjaaGreat
open Go.RowKit

theorem entryEq (x y : GEntry) : x = y ↔ sameSrc x y = true ∧ x.2.1 = y.2.1 ∧ x.2.2.2.2.2.2.2 = y.2.2.2.2.2.2.2 := by
  obtain ⟨⟨q00, q01⟩, q1, q2, q3, q4, q5, q6, q7⟩ := x
  obtain ⟨⟨p00, p01⟩, p1, p2, p3, p4, p5, p6, p7⟩ := y
  simp only [sameSrc, decide_eq_true_eq, Prod.mk.injEq]
  constructor
  · rintro ⟨⟨h0, h1⟩, h2, h3, h4, h5, h6, h7, h8⟩
    exact ⟨⟨⟨h0, h1⟩, h3, h4, h5, h6, h7⟩, h2, h8⟩
  · rintro ⟨⟨⟨h0, h1⟩, h3, h4, h5, h6, h7⟩, h2, h8⟩
    exact ⟨⟨h0, h1⟩, h2, h3, h4, h5, h6, h7, h8⟩

set_option maxRecDepth 10000 in
set_option maxHeartbeats 4000000 in
theorem entTest_any (fp fq : List Nat) (cs ds : Array Value) (x y : GEntry) (w : World) (hx : Rd.rd fp w cs.toList x) (hy : Rd.rd fq w ds.toList y) :
    Calls Tryz.prog 76 #[.agg cs, .agg ds] w fun e w' => e = .returned (.bool (decide (x = y))) ∧ Gr w w' := by
  have hrx := hx
  have hry := hy
  obtain ⟨xt, hxt⟩ : ∃ t, x = t := ⟨x, rfl⟩
  obtain ⟨yt, hyt⟩ : ∃ t, y = t := ⟨y, rfl⟩
  rw [hxt] at hx
  rw [hyt] at hy
  obtain ⟨⟨q00, q01⟩, q1, q2, q3, q4, q5, q6, q7⟩ := xt
  obtain ⟨⟨p00, p01⟩, p1, p2, p3, p4, p5, p6, p7⟩ := yt
  obtain ⟨vq5, fq5, vq6, fq6, vq7, fq7, rfl, -, -, -, -, -, -, -, hq5, hq6, hq7⟩ := rdEntry_inv q00 q01 q1 q2 q3 q4 q5 q6 q7 hx
  obtain ⟨vp5, fp5, vp6, fp6, vp7, fp7, rfl, -, -, -, -, -, -, -, hp5, hp6, hp7⟩ := rdEntry_inv p00 p01 p1 p2 p3 p4 p5 p6 p7 hy
  have HE := Lib.hid (entryEq x y)
  have e2 : x.2.1 = q1 := by rw [hxt]
  have e3 : y.2.1 = p1 := by rw [hyt]
  have e4 : x.2.2.2.2.2.2.2 = q7 := by rw [hxt]
  have e5 : y.2.2.2.2.2.2.2 = p7 := by rw [hyt]
  rw [e2, e3, e4, e5] at HE
  clear hx hy hxt hyt e2 e3 e4 e5 hq5 hq6 hp5 hp6
  by_cases hs : sameSrc x y = true
  · have HS := Lib.hid hs
    clear hs
    by_cases e1 : q1 = p1
    · subst e1
      go_enter Tryz.func76, Tryz.ntmps76
      go_wp2_with fail
      refine (implSame_any _ _ _ _ x y _ (Rd.gr hrx (by repeat (first | exact Gr.refl _ | apply Gr.ext | apply Gr.alloc | apply Gr.drew))) (Rd.gr hry (by repeat (first | exact Gr.refl _ | apply Gr.ext | apply Gr.alloc | apply Gr.drew)))).mono ?_
      rintro e w3 ⟨rfl, x3, rfl⟩
      rw [HS.out]
      go_wp2_with fail
      refine (slicesEqualReading_any _ _ _ _ q7 p7 _ (hq7.gr (by repeat (first | exact Gr.refl _ | apply Gr.ext | apply Gr.alloc | apply Gr.drew))) (hp7.gr (by repeat (first | exact Gr.refl _ | apply Gr.ext | apply Gr.alloc | apply Gr.drew)))).mono ?_
      rintro e w4 ⟨rfl, x4, rfl⟩
      go_wp2_with fail
      go_ret
      refine ⟨ret_bool ?_, (by repeat (first | exact Gr.refl _ | apply Gr.ext | apply Gr.alloc | apply Gr.drew))⟩
      rw [decide_eq_decide]
      exact ⟨fun h => HE.out.2 ⟨HS.out, by simp, h⟩, fun h => (HE.out.1 h).2.2⟩
    · have E1 := Lib.hid e1
      go_enter Tryz.func76, Tryz.ntmps76
      go_wp2_with fail
      refine (implSame_any _ _ _ _ x y _ (Rd.gr hrx (by repeat (first | exact Gr.refl _ | apply Gr.ext | apply Gr.alloc | apply Gr.drew))) (Rd.gr hry (by repeat (first | exact Gr.refl _ | apply Gr.ext | apply Gr.alloc | apply Gr.drew)))).mono ?_
      rintro e w3 ⟨rfl, x3, rfl⟩
      rw [HS.out]
      go_wp2_with fail
      go_ret
      exact ⟨ret_bool (decide_eq_false fun h => E1.out (HE.out.1 h).2.1).symm, (by repeat (first | exact Gr.refl _ | apply Gr.ext | apply Gr.alloc | apply Gr.drew))⟩
  · have HS := Lib.hid hs
    clear hs
    go_enter Tryz.func76, Tryz.ntmps76
    go_wp2_with fail
    refine (implSame_any _ _ _ _ x y _ (Rd.gr hrx (by repeat (first | exact Gr.refl _ | apply Gr.ext | apply Gr.alloc | apply Gr.drew))) (Rd.gr hry (by repeat (first | exact Gr.refl _ | apply Gr.ext | apply Gr.alloc | apply Gr.drew)))).mono ?_
    rintro e w3 ⟨rfl, x3, rfl⟩
    rw [Bool.eq_false_iff.2 HS.out]
    go_wp2_with fail
    go_ret
    exact ⟨ret_bool (decide_eq_false fun h => HS.out (HE.out.1 h).1).symm, (by repeat (first | exact Gr.refl _ | apply Gr.ext | apply Gr.alloc | apply Gr.drew))⟩

set_option maxHeartbeats 4000000 in
theorem slicesEqualFuncE_any (fp fq : List Nat) (u v : Value) (xs ys : List GEntry) (w : World) (hu : SlR fp w u xs) (hv : SlR fq w v ys) :
    Calls Tryz.prog 75 #[u, v, .func (.func 76) #[] #[]] w fun e w' => e = .returned (.bool (decide (xs = ys))) ∧ Gr w w' := by
  obtain ⟨a, ca, rfl, h1, h2, h3⟩ := hu.open
  obtain ⟨c, cc, rfl, g1, g2, g3⟩ := hv.open
  have hfn := Tryz.call76
  by_cases hl : xs.length = ys.length
  · have hl' := Lib.hid hl
    have hne : ((xs.length : Int) != (ys.length : Int)) = false := by simp [hl]
    clear hl
    go_enter Tryz.func75, Tryz.ntmps75
    go_wp2
    go_loopw [17, 7] (fun s17 s7 wr => ∃ k : Nat, k ≤ xs.length ∧ xs.take k = ys.take k ∧ Gr w wr ∧ s17 = .int .i64 k) (fun s17 s7 _ => xs.length - (intOf s17).toNat)
    case atStart => exact ⟨0, by omega, rfl, Gr.refl w, rfl⟩
    case round =>
      obtain ⟨k, hk, ht, ⟨x, rfl⟩, rfl⟩ := hrel
      by_cases hlt : k < xs.length
      · have hlt2 : k < ys.length := by have := hl'.out; omega
        obtain ⟨b, off, rfl, hb⟩ := h3 k hlt
        obtain ⟨b', off', rfl, hb'⟩ := g3 k hlt2
        obtain ⟨csq, feq, hcq, hrq, -⟩ := hu.at hlt
        obtain ⟨csp, fep, hcp, hrp, -⟩ := hv.at hlt2
        have hrdq := hrq
        have hrdp := hrp
        generalize hyq : xs[k] = yq at hrq
        generalize hyp : ys[k] = yp at hrp
        obtain ⟨⟨q00, q01⟩, q1, q2, q3, q4, q5, q6, q7⟩ := yq
        obtain ⟨⟨p00, p01⟩, p1, p2, p3, p4, p5, p6, p7⟩ := yp
        obtain ⟨vq5, fq5, vq6, fq6, vq7, fq7, hcsq, -, -, -, -, -, -, -, hq5, hq6, hq7⟩ := rdEntry_inv (cs := csq.toArray) q00 q01 q1 q2 q3 q4 q5 q6 q7 (by simpa using hrq)
        obtain rfl : csq = [.int .i64 q00, .string q01, .int .i64 q1, .int .i64 q2, .int .i64 q3, .string q4, vq5, vq6, vq7] := by have := congrArg Array.toList hcsq; simpa using this
        obtain ⟨aq5, cq5, rfl, -, -, -⟩ := hq5.open
        obtain ⟨aq6, cq6, rfl, -, -, -⟩ := hq6.open
        obtain ⟨aq7, cq7, rfl, -, -, -⟩ := hq7.open
        obtain ⟨vp5, fp5, vp6, fp6, vp7, fp7, hcsp, -, -, -, -, -, -, -, hp5, hp6, hp7⟩ := rdEntry_inv (cs := csp.toArray) p00 p01 p1 p2 p3 p4 p5 p6 p7 (by simpa using hrp)
        obtain rfl : csp = [.int .i64 p00, .string p01, .int .i64 p1, .int .i64 p2, .int .i64 p3, .string p4, vp5, vp6, vp7] := by have := congrArg Array.toList hcsp; simpa using this
        obtain ⟨ap5, cp5, rfl, -, -, -⟩ := hp5.open
        obtain ⟨ap6, cp6, rfl, -, -, -⟩ := hp6.open
        obtain ⟨ap7, cp7, rfl, -, -, -⟩ := hp7.open
        have z0 : w.cell? ⟨b, off + k * 9, none⟩ = some (.int .i64 q00) := by simpa [Rd.n] using hcq 0 _ rfl
        have z1 : w.cell? ⟨b, off + k * 9 + 1, none⟩ = some (.string q01) := hcq 1 _ rfl
        have z2 : w.cell? ⟨b, off + k * 9 + 2, none⟩ = some (.int .i64 q1) := hcq 2 _ rfl
        have z3 : w.cell? ⟨b, off + k * 9 + 3, none⟩ = some (.int .i64 q2) := hcq 3 _ rfl
        have z4 : w.cell? ⟨b, off + k * 9 + 4, none⟩ = some (.int .i64 q3) := hcq 4 _ rfl
        have z5 : w.cell? ⟨b, off + k * 9 + 5, none⟩ = some (.string q4) := hcq 5 _ rfl
        have z6 : w.cell? ⟨b, off + k * 9 + 6, none⟩ = some (.slice aq5 q5.length cq5) := hcq 6 _ rfl
        have z7 : w.cell? ⟨b, off + k * 9 + 7, none⟩ = some (.slice aq6 q6.length cq6) := hcq 7 _ rfl
        have z8 : w.cell? ⟨b, off + k * 9 + 8, none⟩ = some (.slice aq7 q7.length cq7) := hcq 8 _ rfl
        have y0 : w.cell? ⟨b', off' + k * 9, none⟩ = some (.int .i64 p00) := by simpa [Rd.n] using hcp 0 _ rfl
        have y1 : w.cell? ⟨b', off' + k * 9 + 1, none⟩ = some (.string p01) := hcp 1 _ rfl
        have y2 : w.cell? ⟨b', off' + k * 9 + 2, none⟩ = some (.int .i64 p1) := hcp 2 _ rfl
        have y3 : w.cell? ⟨b', off' + k * 9 + 3, none⟩ = some (.int .i64 p2) := hcp 3 _ rfl
        have y4 : w.cell? ⟨b', off' + k * 9 + 4, none⟩ = some (.int .i64 p3) := hcp 4 _ rfl
        have y5 : w.cell? ⟨b', off' + k * 9 + 5, none⟩ = some (.string p4) := hcp 5 _ rfl
        have y6 : w.cell? ⟨b', off' + k * 9 + 6, none⟩ = some (.slice ap5 p5.length cp5) := hcp 6 _ rfl
        have y7 : w.cell? ⟨b', off' + k * 9 + 7, none⟩ = some (.slice ap6 p6.length cp6) := hcp 7 _ rfl
        have y8 : w.cell? ⟨b', off' + k * 9 + 8, none⟩ = some (.slice ap7 p7.length cp7) := hcp 8 _ rfl
        have hT := Lib.hid ht
        clear h3 g3 ht hcq hcp hrq hrp hcsq hcsp hyq hyp hq5 hq6 hq7 hp5 hp6 hp7
        by_cases he : xs[k] = ys[k]
        · have HEQ := Lib.hid he
          clear he
          go_wp2_with fail
          refine (entTest_any _ _ _ _ xs[k] ys[k] _ (Rd.gr hrdq (by repeat (first | exact Gr.refl _ | apply Gr.ext | apply Gr.alloc | apply Gr.drew))) (Rd.gr hrdp (by repeat (first | exact Gr.refl _ | apply Gr.ext | apply Gr.alloc | apply Gr.drew)))).mono ?_
          rintro e w3 ⟨rfl, x3, rfl⟩
          rw [decide_eq_true HEQ.out]
          go_wp2_with fail
          refine ⟨⟨k + 1, by omega, ?_, (by repeat (first | exact Gr.refl _ | apply Gr.ext | apply Gr.alloc | apply Gr.drew)), by go_num⟩, by simp [intOf]; omega⟩
          rw [List.take_succ_eq_append_getElem hlt, List.take_succ_eq_append_getElem hlt2, hT.out, HEQ.out]
        · have HEQ := Lib.hid he
          clear he
          go_wp2_with fail
          refine (entTest_any _ _ _ _ xs[k] ys[k] _ (Rd.gr hrdq (by repeat (first | exact Gr.refl _ | apply Gr.ext | apply Gr.alloc | apply Gr.drew))) (Rd.gr hrdp (by repeat (first | exact Gr.refl _ | apply Gr.ext | apply Gr.alloc | apply Gr.drew)))).mono ?_
          rintro e w3 ⟨rfl, x3, rfl⟩
          rw [decide_eq_false HEQ.out]
          go_wp2_with fail
          go_ret
          exact ⟨ret_bool (decide_eq_false fun hxy => HEQ.out (by subst hxy; rfl)).symm, (by repeat (first | exact Gr.refl _ | apply Gr.ext | apply Gr.alloc | apply Gr.drew))⟩
      · have hk2 : k = xs.length := by omega
        subst hk2
        have e : xs = ys := by
          have h := ht
          have h' := hl'.out
          rw [List.take_length, h', List.take_length] at h
          exact h
        have E := Lib.hid e
        clear e ht
        go_wp2
        go_ret
        exact ⟨ret_bool (decide_eq_true E.out).symm, (Gr.refl w).ext _⟩
  · have hne : ((xs.length : Int) != (ys.length : Int)) = true := by simp; omega
    have e : xs ≠ ys := fun e => hl (by rw [e])
    have E := Lib.hid e
    clear e hl
    go_enter Tryz.func75, Tryz.ntmps75
    go_wp2
    go_ret
    exact ⟨ret_bool (decide_eq_false E.out).symm, Gr.refl w⟩
end Go.Proofs.YtmdiabjaggadjaaGreat
