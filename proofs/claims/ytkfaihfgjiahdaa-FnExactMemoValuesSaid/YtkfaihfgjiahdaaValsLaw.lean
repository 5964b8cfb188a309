/- The walk of the statement on MemoValues. Made by mk_vals.py. No condition. -/
import Derived.Test.YtkfaihfgjiahdaaMemS
import Derived.Test.YtkfaihfgjiahdaaMarkEntry
import Derived.Test.YtkfaihfgjiahdaaFamEntry
import Derived.Deep.RegionHeld3
namespace Go.Proofs.Ytkfaihfgjiahdaa
open Go.RowKit

set_option maxRecDepth 10000 in
set_option maxHeartbeats 16000000 in
theorem lawVals_any (fp fl : List Nat) (cs : Array Value) (v : Value) (x : GMemo) (l : List GInstance) (w : World) (hx : Rd.rd fp w cs.toList x) (hl : SlR fl w v l) :
    Calls Try.prog 7 #[.agg cs, v] w fun e w' => e = .returned (.bool true) ∧ Gr w w' := by
  have HX := Lib.hid hx
  have HY := Lib.hid hl
  obtain ⟨ca0, cl0, cc0, ca1, cl1, cc1, rfl⟩ := rdMemo_shape hx
  obtain ⟨va, vc, rfl, -, -, -⟩ := hl.open
  clear hx hl
  by_cases hn : less 1048576 (wtMemo x) < 0
  · have HN := Lib.hid hn
    clear hn
    go_enter Try.func7, Try.ntmps7
    go_wp2_with fail
    refine (szMemo_any _ _ x _ _ (Rd.gr HX.out (by repeat (first | exact Gr.refl _ | apply Gr.ext | apply Gr.alloc | apply Gr.drew))) (by omega) (by omega)).mono ?_
    rintro e w' ⟨rfl, x0, rfl⟩
    have hn := HN.out
    go_wp2_with fail
    go_ret
    exact ⟨rfl, (by repeat (first | exact Gr.refl _ | apply Gr.ext | apply Gr.alloc | apply Gr.drew))⟩
  · have hw : wtMemo x ≤ 1048576 := by unfold less at hn; split at hn <;> omega
    have hb := less_le 1048576 (wtMemo x) (by omega)
    by_cases hm : less (less 1048576 (wtMemo x)) (wtInstanceS l) < 0
    · have HN := Lib.hid hn
      have HM := Lib.hid hm
      clear hn hm
      go_enter Try.func7, Try.ntmps7
      go_wp2_with fail
      refine (szMemo_any _ _ x _ _ (Rd.gr HX.out (by repeat (first | exact Gr.refl _ | apply Gr.ext | apply Gr.alloc | apply Gr.drew))) (by omega) (by omega)).mono ?_
      rintro e w' ⟨rfl, x0, rfl⟩
      have hn := HN.out
      go_wp2_with fail
      refine (szInstanceS_any _ _ l _ _ (HY.out.gr (by repeat (first | exact Gr.refl _ | apply Gr.ext | apply Gr.alloc | apply Gr.drew))) (by omega) (by omega)).mono ?_
      rintro e w' ⟨rfl, x1, rfl⟩
      have hm := HM.out
      go_wp2_with fail
      go_ret
      exact ⟨rfl, (by repeat (first | exact Gr.refl _ | apply Gr.ext | apply Gr.alloc | apply Gr.drew))⟩
    · have hw2 : wtInstanceS l ≤ 1048576 := by unfold less at hm; split at hm <;> split at hm <;> omega
      have hll : l.length ≤ 1048576 := Nat.le_trans (wtL_len wtInstance l) hw2
      have HN := Lib.hid hn
      have HM := Lib.hid hm
      clear hn hm
      go_enter Try.func7, Try.ntmps7
      go_wp2_with fail
      refine (szMemo_any _ _ x _ _ (Rd.gr HX.out (by repeat (first | exact Gr.refl _ | apply Gr.ext | apply Gr.alloc | apply Gr.drew))) (by omega) (by omega)).mono ?_
      rintro e Y1 ⟨rfl, gY1⟩
      have hn := HN.out
      have GY1 : Gr w Y1 := ((by repeat (first | exact Gr.refl _ | apply Gr.ext | apply Gr.alloc | apply Gr.drew)) : Gr w (w.alloc (.cells #[.slice ca0 cl0 cc0, .slice ca1 cl1 cc1] 50))).trans gY1
      have GWY1 : Gr w Y1 := GY1
      have ZY1 : w.heap.size ≤ Y1.heap.size := GY1.size
      have cY1_box_0 : Y1.cell? ⟨w.heap.size, 0, none⟩ = some (.slice ca0 cl0 cc0) := (((by repeat (first | exact Gr.refl _ | apply Gr.ext | apply Gr.alloc | apply Gr.drew)) : Gr (w.alloc (.cells #[.slice ca0 cl0 cc0, .slice ca1 cl1 cc1] 50)) (w.alloc (.cells #[.slice ca0 cl0 cc0, .slice ca1 cl1 cc1] 50))).trans gY1).keep (box_cell (A := _) (by simp) rfl : ((w.alloc (.cells #[.slice ca0 cl0 cc0, .slice ca1 cl1 cc1] 50))).cell? ⟨w.heap.size, 0, none⟩ = some (.slice ca0 cl0 cc0))
      have cY1_box_1 : Y1.cell? ⟨w.heap.size, 1, none⟩ = some (.slice ca1 cl1 cc1) := (((by repeat (first | exact Gr.refl _ | apply Gr.ext | apply Gr.alloc | apply Gr.drew)) : Gr (w.alloc (.cells #[.slice ca0 cl0 cc0, .slice ca1 cl1 cc1] 50)) (w.alloc (.cells #[.slice ca0 cl0 cc0, .slice ca1 cl1 cc1] 50))).trans gY1).keep (box_cell (A := _) (by simp) rfl : ((w.alloc (.cells #[.slice ca0 cl0 cc0, .slice ca1 cl1 cc1] 50))).cell? ⟨w.heap.size, 1, none⟩ = some (.slice ca1 cl1 cc1))
      have zY1_box := blk cY1_box_0
      go_wp2_with fail
      refine (szInstanceS_any _ _ l _ _ (HY.out.gr ((GWY1).trans (by repeat (first | exact Gr.refl _ | apply Gr.ext | apply Gr.alloc | apply Gr.drew)))) (by omega) (by omega)).mono ?_
      rintro e Y2 ⟨rfl, gY2⟩
      have hm := HM.out
      have GY2 : Gr Y1 Y2 := ((by repeat (first | exact Gr.refl _ | apply Gr.ext | apply Gr.alloc | apply Gr.drew)) : Gr Y1 Y1).trans gY2
      have GWY2 : Gr w Y2 := GWY1.trans GY2
      have ZY2 : Y1.heap.size ≤ Y2.heap.size := GY2.size
      have cY2_box_0 : Y2.cell? ⟨w.heap.size, 0, none⟩ = some (.slice ca0 cl0 cc0) := GY2.keep cY1_box_0
      have cY2_box_1 : Y2.cell? ⟨w.heap.size, 1, none⟩ = some (.slice ca1 cl1 cc1) := GY2.keep cY1_box_1
      have zY2_box := blk cY2_box_0
      clear cY1_box_0 cY1_box_1
      clear hn
      go_wp2_with fail
      clear hm
      refine (toMemo_any _ _ x _ (Rd.gr HX.out ((GWY2).trans (by repeat (first | exact Gr.refl _ | apply Gr.ext | apply Gr.alloc | apply Gr.drew)))) hw).mono ?_
      rintro e Y3 ⟨dsp, fp, rfl, sp, frp, gY3⟩
      obtain ⟨apq0, lpq0, cpq0, apq1, lpq1, cpq1, rfl⟩ := rdMemo_shape sp
      have F_p : Hid (fp.Nodup ∧ ∀ b ∈ fp, Y2.heap.size + 0 ≤ b) := Lib.hid ⟨frp.1, fun b hb => by have h := frp.2 b hb; (try simp at h); omega⟩
      have L_p := Lib.hid (Rd.lt sp)
      have ZW0p : w.heap.size ≤ Y2.heap.size := Gr.size GWY2
      have rY3_p := Lib.hid sp
      clear sp frp
      have GY3 : Gr Y2 Y3 := ((by repeat (first | exact Gr.refl _ | apply Gr.ext | apply Gr.alloc | apply Gr.drew)) : Gr Y2 Y2).trans gY3
      have GWY3 : Gr w Y3 := GWY2.trans GY3
      have ZY3 : Y2.heap.size ≤ Y3.heap.size := GY3.size
      have cY3_box_0 : Y3.cell? ⟨w.heap.size, 0, none⟩ = some (.slice ca0 cl0 cc0) := GY3.keep cY2_box_0
      have cY3_box_1 : Y3.cell? ⟨w.heap.size, 1, none⟩ = some (.slice ca1 cl1 cc1) := GY3.keep cY2_box_1
      have zY3_box := blk cY3_box_0
      clear cY2_box_0 cY2_box_1
      go_wp2_with fail
      refine (toInstanceS_any _ _ l _ (SlR.gr HY.out ((GWY3).trans (by repeat (first | exact Gr.refl _ | apply Gr.ext | apply Gr.alloc | apply Gr.drew)))) hw2).mono ?_
      rintro e Y4 ⟨vq, fq, rfl, sq, frq, gY4⟩
      obtain ⟨aq, cq, rfl, -, -, -⟩ := sq.open
      have F_q : Hid (fq.Nodup ∧ ∀ b ∈ fq, Y3.heap.size + 0 ≤ b) := Lib.hid ⟨frq.1, fun b hb => by have h := frq.2 b hb; (try simp at h); omega⟩
      have L_q := Lib.hid (SlR.lt sq)
      have ZW0q : w.heap.size ≤ Y3.heap.size := Gr.size GWY3
      have rY4_q := Lib.hid sq
      clear sq frq
      have GY4 : Gr Y3 Y4 := ((by repeat (first | exact Gr.refl _ | apply Gr.ext | apply Gr.alloc | apply Gr.drew)) : Gr Y3 Y3).trans gY4
      have GWY4 : Gr w Y4 := GWY3.trans GY4
      have ZY4 : Y3.heap.size ≤ Y4.heap.size := GY4.size
      have cY4_box_0 : Y4.cell? ⟨w.heap.size, 0, none⟩ = some (.slice ca0 cl0 cc0) := GY4.keep cY3_box_0
      have cY4_box_1 : Y4.cell? ⟨w.heap.size, 1, none⟩ = some (.slice ca1 cl1 cc1) := GY4.keep cY3_box_1
      have zY4_box := blk cY4_box_0
      have rY4_p := Lib.hid (Rd.gr rY3_p.out GY4)
      clear cY3_box_0 cY3_box_1
      go_wp2_with fail
      refine (specVals_any fp fq _ _ x l _ rY4_p.out rY4_q.out hll hw).mono ?_
      rintro e Y5 ⟨vw0, fw0, rfl, sw0, frw0, gY5⟩
      obtain ⟨aw0, cw0, rfl, -, -, -⟩ := sw0.open
      have F_w0 : Hid (fw0.Nodup ∧ ∀ b ∈ fw0, Y4.heap.size + 0 ≤ b) := Lib.hid ⟨frw0.1, fun b hb => by have h := frw0.2 b hb; (try simp at h); omega⟩
      have L_w0 := Lib.hid (SlR.lt sw0)
      have ZW0w0 : w.heap.size ≤ Y4.heap.size := Gr.size GWY4
      have rY5_w0 := Lib.hid sw0
      clear sw0 frw0
      have GY5 : Gr Y4 Y5 := ((by repeat (first | exact Gr.refl _ | apply Gr.ext | apply Gr.alloc | apply Gr.drew)) : Gr Y4 Y4).trans gY5
      have GWY5 : Gr w Y5 := GWY4.trans GY5
      have ZY5 : Y4.heap.size ≤ Y5.heap.size := GY5.size
      have cY5_box_0 : Y5.cell? ⟨w.heap.size, 0, none⟩ = some (.slice ca0 cl0 cc0) := GY5.keep cY4_box_0
      have cY5_box_1 : Y5.cell? ⟨w.heap.size, 1, none⟩ = some (.slice ca1 cl1 cc1) := GY5.keep cY4_box_1
      have zY5_box := blk cY5_box_0
      have rY5_p := Lib.hid (Rd.gr rY4_p.out GY5)
      have rY5_q := Lib.hid (SlR.gr rY4_q.out GY5)
      clear cY4_box_0 cY4_box_1
      go_wp2_with fail
      refine (toMemo_any _ _ x _ (Rd.gr HX.out ((GWY5).trans (by repeat (first | exact Gr.refl _ | apply Gr.ext | apply Gr.alloc | apply Gr.drew)))) hw).mono ?_
      rintro e Y6 ⟨dsx0, fx0, rfl, sx0, frx0, gY6⟩
      obtain ⟨ax0q0, lx0q0, cx0q0, ax0q1, lx0q1, cx0q1, rfl⟩ := rdMemo_shape sx0
      have F_x0 : Hid (fx0.Nodup ∧ ∀ b ∈ fx0, Y5.heap.size + 0 ≤ b) := Lib.hid ⟨frx0.1, fun b hb => by have h := frx0.2 b hb; (try simp at h); omega⟩
      have L_x0 := Lib.hid (Rd.lt sx0)
      have ZW0x0 : w.heap.size ≤ Y5.heap.size := Gr.size GWY5
      have rY6_x0 := Lib.hid sx0
      clear sx0 frx0
      have GY6 : Gr Y5 Y6 := ((by repeat (first | exact Gr.refl _ | apply Gr.ext | apply Gr.alloc | apply Gr.drew)) : Gr Y5 Y5).trans gY6
      have GWY6 : Gr w Y6 := GWY5.trans GY6
      have ZY6 : Y5.heap.size ≤ Y6.heap.size := GY6.size
      have cY6_box_0 : Y6.cell? ⟨w.heap.size, 0, none⟩ = some (.slice ca0 cl0 cc0) := GY6.keep cY5_box_0
      have cY6_box_1 : Y6.cell? ⟨w.heap.size, 1, none⟩ = some (.slice ca1 cl1 cc1) := GY6.keep cY5_box_1
      have zY6_box := blk cY6_box_0
      have rY6_w0 := Lib.hid (SlR.gr rY5_w0.out GY6)
      clear cY5_box_0 cY5_box_1
      go_wp2_with fail
      refine (toInstanceS_any _ _ l _ (SlR.gr HY.out ((GWY6).trans (by repeat (first | exact Gr.refl _ | apply Gr.ext | apply Gr.alloc | apply Gr.drew)))) hw2).mono ?_
      rintro e Y7 ⟨vx1, fx1, rfl, sx1, frx1, gY7⟩
      obtain ⟨ax1, cx1, rfl, -, -, -⟩ := sx1.open
      have F_x1 : Hid (fx1.Nodup ∧ ∀ b ∈ fx1, Y6.heap.size + 1 ≤ b) := Lib.hid ⟨frx1.1, fun b hb => by have h := frx1.2 b hb; (try simp at h); omega⟩
      have L_x1 := Lib.hid (SlR.lt sx1)
      have ZW0x1 : w.heap.size ≤ Y6.heap.size := Gr.size GWY6
      have rY7_x1 := Lib.hid sx1
      clear sx1 frx1
      have GY7 : Gr Y6 Y7 := ((by repeat (first | exact Gr.refl _ | apply Gr.ext | apply Gr.alloc | apply Gr.drew)) : Gr Y6 (Y6.alloc (.cells #[.slice ax0q0 lx0q0 cx0q0, .slice ax0q1 lx0q1 cx0q1] 58))).trans gY7
      have GWY7 : Gr w Y7 := GWY6.trans GY7
      have ZY7 : Y6.heap.size ≤ Y7.heap.size := GY7.size
      have cY7_box_0 : Y7.cell? ⟨w.heap.size, 0, none⟩ = some (.slice ca0 cl0 cc0) := GY7.keep cY6_box_0
      have cY7_box_1 : Y7.cell? ⟨w.heap.size, 1, none⟩ = some (.slice ca1 cl1 cc1) := GY7.keep cY6_box_1
      have cY7_x0_0 : Y7.cell? ⟨Y6.heap.size, 0, none⟩ = some (.slice ax0q0 lx0q0 cx0q0) := (((by repeat (first | exact Gr.refl _ | apply Gr.ext | apply Gr.alloc | apply Gr.drew)) : Gr (Y6.alloc (.cells #[.slice ax0q0 lx0q0 cx0q0, .slice ax0q1 lx0q1 cx0q1] 58)) (Y6.alloc (.cells #[.slice ax0q0 lx0q0 cx0q0, .slice ax0q1 lx0q1 cx0q1] 58))).trans gY7).keep (box_cell (A := _) (by simp) rfl : ((Y6.alloc (.cells #[.slice ax0q0 lx0q0 cx0q0, .slice ax0q1 lx0q1 cx0q1] 58))).cell? ⟨Y6.heap.size, 0, none⟩ = some (.slice ax0q0 lx0q0 cx0q0))
      have cY7_x0_1 : Y7.cell? ⟨Y6.heap.size, 1, none⟩ = some (.slice ax0q1 lx0q1 cx0q1) := (((by repeat (first | exact Gr.refl _ | apply Gr.ext | apply Gr.alloc | apply Gr.drew)) : Gr (Y6.alloc (.cells #[.slice ax0q0 lx0q0 cx0q0, .slice ax0q1 lx0q1 cx0q1] 58)) (Y6.alloc (.cells #[.slice ax0q0 lx0q0 cx0q0, .slice ax0q1 lx0q1 cx0q1] 58))).trans gY7).keep (box_cell (A := _) (by simp) rfl : ((Y6.alloc (.cells #[.slice ax0q0 lx0q0 cx0q0, .slice ax0q1 lx0q1 cx0q1] 58))).cell? ⟨Y6.heap.size, 1, none⟩ = some (.slice ax0q1 lx0q1 cx0q1))
      have zY7_box := blk cY7_box_0
      have zY7_x0 := blk cY7_x0_0
      have rY7_w0 := Lib.hid (SlR.gr rY6_w0.out GY7)
      have rY7_x0 := Lib.hid (Rd.gr rY6_x0.out GY7)
      clear cY6_box_0 cY6_box_1
      go_wp2_with fail
      refine (implVals_any fx0 fx1 _ _ x l _ rY7_x0.out rY7_x1.out hll).mono ?_
      rintro e Y8 ⟨vg0, fg0, rfl, sg0, frg0, gY8⟩
      obtain ⟨ag0, cg0, rfl, -, -, -⟩ := sg0.open
      have F_g0 : Hid (fg0.Nodup ∧ ∀ b ∈ fg0, Y7.heap.size + 0 ≤ b) := Lib.hid ⟨frg0.1, fun b hb => by have h := frg0.2 b hb; (try simp at h); omega⟩
      have L_g0 := Lib.hid (SlR.lt sg0)
      have ZW0g0 : w.heap.size ≤ Y7.heap.size := Gr.size GWY7
      have rY8_g0 := Lib.hid sg0
      clear sg0 frg0
      have GY8 : Gr Y7 Y8 := ((by repeat (first | exact Gr.refl _ | apply Gr.ext | apply Gr.alloc | apply Gr.drew)) : Gr Y7 Y7).trans gY8
      have GWY8 : Gr w Y8 := GWY7.trans GY8
      have ZY8 : Y7.heap.size ≤ Y8.heap.size := GY8.size
      have cY8_box_0 : Y8.cell? ⟨w.heap.size, 0, none⟩ = some (.slice ca0 cl0 cc0) := GY8.keep cY7_box_0
      have cY8_box_1 : Y8.cell? ⟨w.heap.size, 1, none⟩ = some (.slice ca1 cl1 cc1) := GY8.keep cY7_box_1
      have cY8_x0_0 : Y8.cell? ⟨Y6.heap.size, 0, none⟩ = some (.slice ax0q0 lx0q0 cx0q0) := GY8.keep cY7_x0_0
      have cY8_x0_1 : Y8.cell? ⟨Y6.heap.size, 1, none⟩ = some (.slice ax0q1 lx0q1 cx0q1) := GY8.keep cY7_x0_1
      have zY8_box := blk cY8_box_0
      have zY8_x0 := blk cY8_x0_0
      have rY8_w0 := Lib.hid (SlR.gr rY7_w0.out GY8)
      have rY8_x0 := Lib.hid (Rd.gr rY7_x0.out GY8)
      have rY8_x1 := Lib.hid (SlR.gr rY7_x1.out GY8)
      clear cY7_box_0 cY7_box_1 cY7_x0_0 cY7_x0_1
      go_wp2_with fail
      refine (eqIntS_any fg0 fw0 _ _ (valsOf x.1 l) (valsOf x.1 l) _ rY8_g0.out rY8_w0.out).mono ?_
      rintro e Y9 ⟨rfl, gY9⟩
      rw [decide_eq_true rfl]
      have GY9 : Gr Y8 Y9 := ((by repeat (first | exact Gr.refl _ | apply Gr.ext | apply Gr.alloc | apply Gr.drew)) : Gr Y8 Y8).trans gY9
      have GWY9 : Gr w Y9 := GWY8.trans GY9
      have ZY9 : Y8.heap.size ≤ Y9.heap.size := GY9.size
      have cY9_box_0 : Y9.cell? ⟨w.heap.size, 0, none⟩ = some (.slice ca0 cl0 cc0) := GY9.keep cY8_box_0
      have cY9_box_1 : Y9.cell? ⟨w.heap.size, 1, none⟩ = some (.slice ca1 cl1 cc1) := GY9.keep cY8_box_1
      have cY9_x0_0 : Y9.cell? ⟨Y6.heap.size, 0, none⟩ = some (.slice ax0q0 lx0q0 cx0q0) := GY9.keep cY8_x0_0
      have cY9_x0_1 : Y9.cell? ⟨Y6.heap.size, 1, none⟩ = some (.slice ax0q1 lx0q1 cx0q1) := GY9.keep cY8_x0_1
      have zY9_box := blk cY9_box_0
      have zY9_x0 := blk cY9_x0_0
      have rY9_w0 := Lib.hid (SlR.gr rY8_w0.out GY9)
      have rY9_x0 := Lib.hid (Rd.gr rY8_x0.out GY9)
      have rY9_x1 := Lib.hid (SlR.gr rY8_x1.out GY9)
      have rY9_g0 := Lib.hid (SlR.gr rY8_g0.out GY9)
      clear cY8_box_0 cY8_box_1 cY8_x0_0 cY8_x0_1
      go_wp2_with fail
      have kcY9_box_0 : ∀ w' : World, Gr Y9 w' → w'.cell? ⟨w.heap.size, 0, none⟩ = some (.slice ca0 cl0 cc0) := fun w' h => h.keep cY9_box_0
      have kcY9_box_1 : ∀ w' : World, Gr Y9 w' → w'.cell? ⟨w.heap.size, 1, none⟩ = some (.slice ca1 cl1 cc1) := fun w' h => h.keep cY9_box_1
      have kcY9_x0_0 : ∀ w' : World, Gr Y9 w' → w'.cell? ⟨Y6.heap.size, 0, none⟩ = some (.slice ax0q0 lx0q0 cx0q0) := fun w' h => h.keep cY9_x0_0
      have kcY9_x0_1 : ∀ w' : World, Gr Y9 w' → w'.cell? ⟨Y6.heap.size, 1, none⟩ = some (.slice ax0q1 lx0q1 cx0q1) := fun w' h => h.keep cY9_x0_1
      go_region_held3 (fun w' => Gr Y9 w') (first | assumption | exact Gr.drew (Gr.refl _) | exact Gr.ext (by assumption) _)
        (first
          | ((go_at_call 32; refine (toMemo_any _ _ x _ (Rd.gr HX.out (GWY9.trans (by assumption))) hw).mono ?_; rintro e w' ⟨ds5, f5, rfl, s5, fr5, e1, rfl⟩))
          | ((go_at_call 36; refine (eqMemo_any _ _ _ _ x x _ (Rd.gr rY9_x0.out (by assumption)) s5).mono ?_; rintro e w' ⟨rfl, e2, rfl⟩; rw [decide_eq_true rfl])))
      have hY10 : Gr Y9 ((Y9.drew.ext e1).ext e2) := by assumption
      generalize ((Y9.drew.ext e1).ext e2) = Y10 at hY10 ⊢
      clear kcY9_box_0 kcY9_box_1 kcY9_x0_0 kcY9_x0_1
      have GY10 : Gr Y9 Y10 := ((by repeat (first | exact Gr.refl _ | apply Gr.ext | apply Gr.alloc | apply Gr.drew)) : Gr Y9 Y9).trans hY10
      have GWY10 : Gr w Y10 := GWY9.trans GY10
      have ZY10 : Y9.heap.size ≤ Y10.heap.size := GY10.size
      have cY10_box_0 : Y10.cell? ⟨w.heap.size, 0, none⟩ = some (.slice ca0 cl0 cc0) := GY10.keep cY9_box_0
      have cY10_box_1 : Y10.cell? ⟨w.heap.size, 1, none⟩ = some (.slice ca1 cl1 cc1) := GY10.keep cY9_box_1
      have cY10_x0_0 : Y10.cell? ⟨Y6.heap.size, 0, none⟩ = some (.slice ax0q0 lx0q0 cx0q0) := GY10.keep cY9_x0_0
      have cY10_x0_1 : Y10.cell? ⟨Y6.heap.size, 1, none⟩ = some (.slice ax0q1 lx0q1 cx0q1) := GY10.keep cY9_x0_1
      have zY10_box := blk cY10_box_0
      have zY10_x0 := blk cY10_x0_0
      have rY10_w0 := Lib.hid (SlR.gr rY9_w0.out GY10)
      have rY10_x0 := Lib.hid (Rd.gr rY9_x0.out GY10)
      have rY10_x1 := Lib.hid (SlR.gr rY9_x1.out GY10)
      have rY10_g0 := Lib.hid (SlR.gr rY9_g0.out GY10)
      clear cY9_box_0 cY9_box_1 cY9_x0_0 cY9_x0_1
      clear s5 fr5
      go_wp2_with fail
      refine (toInstanceS_any _ _ l _ (SlR.gr HY.out ((GWY10).trans (by repeat (first | exact Gr.refl _ | apply Gr.ext | apply Gr.alloc | apply Gr.drew)))) hw2).mono ?_
      rintro e Y11 ⟨vu1, fu1, rfl, su1, fru1, gY11⟩
      obtain ⟨au1, cu1, rfl, -, -, -⟩ := su1.open
      have F_u1 : Hid (fu1.Nodup ∧ ∀ b ∈ fu1, Y10.heap.size + 0 ≤ b) := Lib.hid ⟨fru1.1, fun b hb => by have h := fru1.2 b hb; (try simp at h); omega⟩
      have L_u1 := Lib.hid (SlR.lt su1)
      have ZW0u1 : w.heap.size ≤ Y10.heap.size := Gr.size GWY10
      have rY11_u1 := Lib.hid su1
      clear su1 fru1
      have GY11 : Gr Y10 Y11 := ((by repeat (first | exact Gr.refl _ | apply Gr.ext | apply Gr.alloc | apply Gr.drew)) : Gr Y10 Y10).trans gY11
      have GWY11 : Gr w Y11 := GWY10.trans GY11
      have ZY11 : Y10.heap.size ≤ Y11.heap.size := GY11.size
      have cY11_box_0 : Y11.cell? ⟨w.heap.size, 0, none⟩ = some (.slice ca0 cl0 cc0) := GY11.keep cY10_box_0
      have cY11_box_1 : Y11.cell? ⟨w.heap.size, 1, none⟩ = some (.slice ca1 cl1 cc1) := GY11.keep cY10_box_1
      have cY11_x0_0 : Y11.cell? ⟨Y6.heap.size, 0, none⟩ = some (.slice ax0q0 lx0q0 cx0q0) := GY11.keep cY10_x0_0
      have cY11_x0_1 : Y11.cell? ⟨Y6.heap.size, 1, none⟩ = some (.slice ax0q1 lx0q1 cx0q1) := GY11.keep cY10_x0_1
      have zY11_box := blk cY11_box_0
      have zY11_x0 := blk cY11_x0_0
      have rY11_w0 := Lib.hid (SlR.gr rY10_w0.out GY11)
      have rY11_x0 := Lib.hid (Rd.gr rY10_x0.out GY11)
      have rY11_x1 := Lib.hid (SlR.gr rY10_x1.out GY11)
      have rY11_g0 := Lib.hid (SlR.gr rY10_g0.out GY11)
      clear cY10_box_0 cY10_box_1 cY10_x0_0 cY10_x0_1
      go_wp2_with fail
      refine (eqInstanceS_any fx1 fu1 _ _ l l _ rY11_x1.out rY11_u1.out).mono ?_
      rintro e Y12 ⟨rfl, gY12⟩
      rw [decide_eq_true rfl]
      have GY12 : Gr Y11 Y12 := ((by repeat (first | exact Gr.refl _ | apply Gr.ext | apply Gr.alloc | apply Gr.drew)) : Gr Y11 Y11).trans gY12
      have GWY12 : Gr w Y12 := GWY11.trans GY12
      have ZY12 : Y11.heap.size ≤ Y12.heap.size := GY12.size
      have cY12_box_0 : Y12.cell? ⟨w.heap.size, 0, none⟩ = some (.slice ca0 cl0 cc0) := GY12.keep cY11_box_0
      have cY12_box_1 : Y12.cell? ⟨w.heap.size, 1, none⟩ = some (.slice ca1 cl1 cc1) := GY12.keep cY11_box_1
      have cY12_x0_0 : Y12.cell? ⟨Y6.heap.size, 0, none⟩ = some (.slice ax0q0 lx0q0 cx0q0) := GY12.keep cY11_x0_0
      have cY12_x0_1 : Y12.cell? ⟨Y6.heap.size, 1, none⟩ = some (.slice ax0q1 lx0q1 cx0q1) := GY12.keep cY11_x0_1
      have zY12_box := blk cY12_box_0
      have zY12_x0 := blk cY12_x0_0
      have rY12_w0 := Lib.hid (SlR.gr rY11_w0.out GY12)
      have rY12_x0 := Lib.hid (Rd.gr rY11_x0.out GY12)
      have rY12_x1 := Lib.hid (SlR.gr rY11_x1.out GY12)
      have rY12_g0 := Lib.hid (SlR.gr rY11_g0.out GY12)
      have rY12_u1 := Lib.hid (SlR.gr rY11_u1.out GY12)
      clear cY11_box_0 cY11_box_1 cY11_x0_0 cY11_x0_1
      go_wp2_with fail
      refine (markMemo_any fx0 _ x 1 _ rY12_x0.out F_x0.out.1 (by omega) (by have := vMemo_bd 1 x; omega)).mono ?_
      rintro e Y13 ⟨rfl, sY13, gY13⟩
      have bk1 := vMemo_bd 1 x
      obtain ⟨k1, hk1⟩ : ∃ k, k = (vMemo 1 x).2 := ⟨_, rfl⟩
      rw [← hk1] at bk1 ⊢
      clear hk1
      have rY13_m := Lib.hid sY13
      clear sY13
      have ZY13 : Y12.heap.size ≤ Y13.heap.size := Nat.le_trans (Gr.size ((by repeat (first | exact Gr.refl _ | apply Gr.ext | apply Gr.alloc | apply Gr.drew)) : Gr Y12 Y12)) gY13.size
      have GWY13 : Gr w Y13 := Gr.wr ((GWY12).trans (by repeat (first | exact Gr.refl _ | apply Gr.ext | apply Gr.alloc | apply Gr.drew))) gY13 (fun b hb => by have a1 := F_x0.out.2 b hb; omega)
      have cY13_box_0 : Y13.cell? ⟨w.heap.size, 0, none⟩ = some (.slice ca0 cl0 cc0) := (World.cell?_of_block (gY13.block _ (blk (((by repeat (first | exact Gr.refl _ | apply Gr.ext | apply Gr.alloc | apply Gr.drew)) : Gr Y12 Y12).keep cY12_box_0)) (fun h => by have a1 := F_x0.out.2 (w.heap.size) h; have a2 := L_x0.out (w.heap.size) h; omega))).trans (((by repeat (first | exact Gr.refl _ | apply Gr.ext | apply Gr.alloc | apply Gr.drew)) : Gr Y12 Y12).keep cY12_box_0)
      have cY13_box_1 : Y13.cell? ⟨w.heap.size, 1, none⟩ = some (.slice ca1 cl1 cc1) := (World.cell?_of_block (gY13.block _ (blk (((by repeat (first | exact Gr.refl _ | apply Gr.ext | apply Gr.alloc | apply Gr.drew)) : Gr Y12 Y12).keep cY12_box_1)) (fun h => by have a1 := F_x0.out.2 (w.heap.size) h; have a2 := L_x0.out (w.heap.size) h; omega))).trans (((by repeat (first | exact Gr.refl _ | apply Gr.ext | apply Gr.alloc | apply Gr.drew)) : Gr Y12 Y12).keep cY12_box_1)
      have cY13_x0_0 : Y13.cell? ⟨Y6.heap.size, 0, none⟩ = some (.slice ax0q0 lx0q0 cx0q0) := (World.cell?_of_block (gY13.block _ (blk (((by repeat (first | exact Gr.refl _ | apply Gr.ext | apply Gr.alloc | apply Gr.drew)) : Gr Y12 Y12).keep cY12_x0_0)) (fun h => by have a1 := F_x0.out.2 (Y6.heap.size) h; have a2 := L_x0.out (Y6.heap.size) h; omega))).trans (((by repeat (first | exact Gr.refl _ | apply Gr.ext | apply Gr.alloc | apply Gr.drew)) : Gr Y12 Y12).keep cY12_x0_0)
      have cY13_x0_1 : Y13.cell? ⟨Y6.heap.size, 1, none⟩ = some (.slice ax0q1 lx0q1 cx0q1) := (World.cell?_of_block (gY13.block _ (blk (((by repeat (first | exact Gr.refl _ | apply Gr.ext | apply Gr.alloc | apply Gr.drew)) : Gr Y12 Y12).keep cY12_x0_1)) (fun h => by have a1 := F_x0.out.2 (Y6.heap.size) h; have a2 := L_x0.out (Y6.heap.size) h; omega))).trans (((by repeat (first | exact Gr.refl _ | apply Gr.ext | apply Gr.alloc | apply Gr.drew)) : Gr Y12 Y12).keep cY12_x0_1)
      have zY13_box := blk cY13_box_0
      have zY13_x0 := blk cY13_x0_0
      have rY13_w0 := Lib.hid (SlR.wr (SlR.gr rY12_w0.out ((by repeat (first | exact Gr.refl _ | apply Gr.ext | apply Gr.alloc | apply Gr.drew)) : Gr Y12 Y12)) gY13 (fun b h1 h2 => by have a1 := F_x0.out.2 _ h2; have a2 := L_x0.out _ h2; have a3 := F_w0.out.2 _ h1; have a4 := L_w0.out _ h1; omega))
      have rY13_x1 := Lib.hid (SlR.wr (SlR.gr rY12_x1.out ((by repeat (first | exact Gr.refl _ | apply Gr.ext | apply Gr.alloc | apply Gr.drew)) : Gr Y12 Y12)) gY13 (fun b h1 h2 => by have a1 := F_x0.out.2 _ h2; have a2 := L_x0.out _ h2; have a3 := F_x1.out.2 _ h1; have a4 := L_x1.out _ h1; omega))
      have rY13_g0 := Lib.hid (SlR.wr (SlR.gr rY12_g0.out ((by repeat (first | exact Gr.refl _ | apply Gr.ext | apply Gr.alloc | apply Gr.drew)) : Gr Y12 Y12)) gY13 (fun b h1 h2 => by have a1 := F_x0.out.2 _ h2; have a2 := L_x0.out _ h2; have a3 := F_g0.out.2 _ h1; have a4 := L_g0.out _ h1; omega))
      clear cY12_box_0 cY12_box_1 cY12_x0_0 cY12_x0_1
      go_wp2_with fail
      refine (markInstanceS_any fx1 _ l k1 _ rY13_x1.out F_x1.out.1 (by omega) (by have := mInstanceS_bd k1 l; omega)).mono ?_
      rintro e Y14 ⟨rfl, sY14, gY14⟩
      have bk2 := mInstanceS_bd k1 l
      obtain ⟨k2, hk2⟩ : ∃ k, k = (mInstanceS k1 l).2 := ⟨_, rfl⟩
      rw [← hk2] at bk2 ⊢
      clear hk2
      have rY14_m := Lib.hid sY14
      clear sY14
      have ZY14 : Y13.heap.size ≤ Y14.heap.size := Nat.le_trans (Gr.size ((by repeat (first | exact Gr.refl _ | apply Gr.ext | apply Gr.alloc | apply Gr.drew)) : Gr Y13 Y13)) gY14.size
      have GWY14 : Gr w Y14 := Gr.wr ((GWY13).trans (by repeat (first | exact Gr.refl _ | apply Gr.ext | apply Gr.alloc | apply Gr.drew))) gY14 (fun b hb => by have a1 := F_x1.out.2 b hb; omega)
      have cY14_box_0 : Y14.cell? ⟨w.heap.size, 0, none⟩ = some (.slice ca0 cl0 cc0) := (World.cell?_of_block (gY14.block _ (blk (((by repeat (first | exact Gr.refl _ | apply Gr.ext | apply Gr.alloc | apply Gr.drew)) : Gr Y13 Y13).keep cY13_box_0)) (fun h => by have a1 := F_x1.out.2 (w.heap.size) h; have a2 := L_x1.out (w.heap.size) h; omega))).trans (((by repeat (first | exact Gr.refl _ | apply Gr.ext | apply Gr.alloc | apply Gr.drew)) : Gr Y13 Y13).keep cY13_box_0)
      have cY14_box_1 : Y14.cell? ⟨w.heap.size, 1, none⟩ = some (.slice ca1 cl1 cc1) := (World.cell?_of_block (gY14.block _ (blk (((by repeat (first | exact Gr.refl _ | apply Gr.ext | apply Gr.alloc | apply Gr.drew)) : Gr Y13 Y13).keep cY13_box_1)) (fun h => by have a1 := F_x1.out.2 (w.heap.size) h; have a2 := L_x1.out (w.heap.size) h; omega))).trans (((by repeat (first | exact Gr.refl _ | apply Gr.ext | apply Gr.alloc | apply Gr.drew)) : Gr Y13 Y13).keep cY13_box_1)
      have cY14_x0_0 : Y14.cell? ⟨Y6.heap.size, 0, none⟩ = some (.slice ax0q0 lx0q0 cx0q0) := (World.cell?_of_block (gY14.block _ (blk (((by repeat (first | exact Gr.refl _ | apply Gr.ext | apply Gr.alloc | apply Gr.drew)) : Gr Y13 Y13).keep cY13_x0_0)) (fun h => by have a1 := F_x1.out.2 (Y6.heap.size) h; have a2 := L_x1.out (Y6.heap.size) h; omega))).trans (((by repeat (first | exact Gr.refl _ | apply Gr.ext | apply Gr.alloc | apply Gr.drew)) : Gr Y13 Y13).keep cY13_x0_0)
      have cY14_x0_1 : Y14.cell? ⟨Y6.heap.size, 1, none⟩ = some (.slice ax0q1 lx0q1 cx0q1) := (World.cell?_of_block (gY14.block _ (blk (((by repeat (first | exact Gr.refl _ | apply Gr.ext | apply Gr.alloc | apply Gr.drew)) : Gr Y13 Y13).keep cY13_x0_1)) (fun h => by have a1 := F_x1.out.2 (Y6.heap.size) h; have a2 := L_x1.out (Y6.heap.size) h; omega))).trans (((by repeat (first | exact Gr.refl _ | apply Gr.ext | apply Gr.alloc | apply Gr.drew)) : Gr Y13 Y13).keep cY13_x0_1)
      have zY14_box := blk cY14_box_0
      have zY14_x0 := blk cY14_x0_0
      have rY14_w0 := Lib.hid (SlR.wr (SlR.gr rY13_w0.out ((by repeat (first | exact Gr.refl _ | apply Gr.ext | apply Gr.alloc | apply Gr.drew)) : Gr Y13 Y13)) gY14 (fun b h1 h2 => by have a1 := F_x1.out.2 _ h2; have a2 := L_x1.out _ h2; have a3 := F_w0.out.2 _ h1; have a4 := L_w0.out _ h1; omega))
      have rY14_g0 := Lib.hid (SlR.wr (SlR.gr rY13_g0.out ((by repeat (first | exact Gr.refl _ | apply Gr.ext | apply Gr.alloc | apply Gr.drew)) : Gr Y13 Y13)) gY14 (fun b h1 h2 => by have a1 := F_x1.out.2 _ h2; have a2 := L_x1.out _ h2; have a3 := F_g0.out.2 _ h1; have a4 := L_g0.out _ h1; omega))
      clear cY13_box_0 cY13_box_1 cY13_x0_0 cY13_x0_1
      go_wp2_with fail
      refine (eqIntS_any fg0 fw0 _ _ (valsOf x.1 l) (valsOf x.1 l) _ rY14_g0.out rY14_w0.out).mono ?_
      rintro e Y15 ⟨rfl, gY15⟩
      rw [decide_eq_true rfl]
      have GY15 : Gr Y14 Y15 := ((by repeat (first | exact Gr.refl _ | apply Gr.ext | apply Gr.alloc | apply Gr.drew)) : Gr Y14 Y14).trans gY15
      have GWY15 : Gr w Y15 := GWY14.trans GY15
      have ZY15 : Y14.heap.size ≤ Y15.heap.size := GY15.size
      have cY15_box_0 : Y15.cell? ⟨w.heap.size, 0, none⟩ = some (.slice ca0 cl0 cc0) := GY15.keep cY14_box_0
      have cY15_box_1 : Y15.cell? ⟨w.heap.size, 1, none⟩ = some (.slice ca1 cl1 cc1) := GY15.keep cY14_box_1
      have cY15_x0_0 : Y15.cell? ⟨Y6.heap.size, 0, none⟩ = some (.slice ax0q0 lx0q0 cx0q0) := GY15.keep cY14_x0_0
      have cY15_x0_1 : Y15.cell? ⟨Y6.heap.size, 1, none⟩ = some (.slice ax0q1 lx0q1 cx0q1) := GY15.keep cY14_x0_1
      have zY15_box := blk cY15_box_0
      have zY15_x0 := blk cY15_x0_0
      have rY15_w0 := Lib.hid (SlR.gr rY14_w0.out GY15)
      have rY15_g0 := Lib.hid (SlR.gr rY14_g0.out GY15)
      clear cY14_box_0 cY14_box_1 cY14_x0_0 cY14_x0_1
      go_wp2_with fail
      have lv : (valsOf x.1 l).length ≤ 1048576 := by unfold valsOf; split <;> simp <;> omega
      have mb := mIntS_eq (valsOf x.1 l) 1
      have mb0 : ¬ (markL mInt 1 (valsOf x.1 l)).2 < 0 := by omega
      have mb1 : (markL mInt 1 (valsOf x.1 l)).2 ≤ 4398046511104 := by omega
      have MB1 := Lib.hid mb1
      clear mb mb1
      refine (markIntS_any fg0 _ (valsOf x.1 l) 1 _ rY15_g0.out F_g0.out.1 (by omega) MB1.out).mono ?_
      rintro e Y16 ⟨rfl, sY16, gY16⟩
      have rY16_g := Lib.hid sY16
      clear sY16
      have ZY16 : Y15.heap.size ≤ Y16.heap.size := Nat.le_trans (Gr.size ((by repeat (first | exact Gr.refl _ | apply Gr.ext | apply Gr.alloc | apply Gr.drew)) : Gr Y15 Y15)) gY16.size
      have GWY16 : Gr w Y16 := Gr.wr ((GWY15).trans (by repeat (first | exact Gr.refl _ | apply Gr.ext | apply Gr.alloc | apply Gr.drew))) gY16 (fun b hb => by have a1 := F_g0.out.2 b hb; omega)
      have cY16_box_0 : Y16.cell? ⟨w.heap.size, 0, none⟩ = some (.slice ca0 cl0 cc0) := (World.cell?_of_block (gY16.block _ (blk (((by repeat (first | exact Gr.refl _ | apply Gr.ext | apply Gr.alloc | apply Gr.drew)) : Gr Y15 Y15).keep cY15_box_0)) (fun h => by have a1 := F_g0.out.2 (w.heap.size) h; have a2 := L_g0.out (w.heap.size) h; omega))).trans (((by repeat (first | exact Gr.refl _ | apply Gr.ext | apply Gr.alloc | apply Gr.drew)) : Gr Y15 Y15).keep cY15_box_0)
      have cY16_box_1 : Y16.cell? ⟨w.heap.size, 1, none⟩ = some (.slice ca1 cl1 cc1) := (World.cell?_of_block (gY16.block _ (blk (((by repeat (first | exact Gr.refl _ | apply Gr.ext | apply Gr.alloc | apply Gr.drew)) : Gr Y15 Y15).keep cY15_box_1)) (fun h => by have a1 := F_g0.out.2 (w.heap.size) h; have a2 := L_g0.out (w.heap.size) h; omega))).trans (((by repeat (first | exact Gr.refl _ | apply Gr.ext | apply Gr.alloc | apply Gr.drew)) : Gr Y15 Y15).keep cY15_box_1)
      have cY16_x0_0 : Y16.cell? ⟨Y6.heap.size, 0, none⟩ = some (.slice ax0q0 lx0q0 cx0q0) := (World.cell?_of_block (gY16.block _ (blk (((by repeat (first | exact Gr.refl _ | apply Gr.ext | apply Gr.alloc | apply Gr.drew)) : Gr Y15 Y15).keep cY15_x0_0)) (fun h => by have a1 := F_g0.out.2 (Y6.heap.size) h; have a2 := L_g0.out (Y6.heap.size) h; omega))).trans (((by repeat (first | exact Gr.refl _ | apply Gr.ext | apply Gr.alloc | apply Gr.drew)) : Gr Y15 Y15).keep cY15_x0_0)
      have cY16_x0_1 : Y16.cell? ⟨Y6.heap.size, 1, none⟩ = some (.slice ax0q1 lx0q1 cx0q1) := (World.cell?_of_block (gY16.block _ (blk (((by repeat (first | exact Gr.refl _ | apply Gr.ext | apply Gr.alloc | apply Gr.drew)) : Gr Y15 Y15).keep cY15_x0_1)) (fun h => by have a1 := F_g0.out.2 (Y6.heap.size) h; have a2 := L_g0.out (Y6.heap.size) h; omega))).trans (((by repeat (first | exact Gr.refl _ | apply Gr.ext | apply Gr.alloc | apply Gr.drew)) : Gr Y15 Y15).keep cY15_x0_1)
      have zY16_box := blk cY16_box_0
      have zY16_x0 := blk cY16_x0_0
      have rY16_w0 := Lib.hid (SlR.wr (SlR.gr rY15_w0.out ((by repeat (first | exact Gr.refl _ | apply Gr.ext | apply Gr.alloc | apply Gr.drew)) : Gr Y15 Y15)) gY16 (fun b h1 h2 => by have a1 := F_g0.out.2 _ h2; have a2 := L_g0.out _ h2; have a3 := F_w0.out.2 _ h1; have a4 := L_w0.out _ h1; omega))
      clear cY15_box_0 cY15_box_1 cY15_x0_0 cY15_x0_1
      go_wp2_with fail
      refine (heldIntS_any fg0 _ (valsOf x.1 l) 1 _ rY16_g.out (by omega) MB1.out).mono ?_
      rintro e Y17 ⟨rfl, gY17⟩
      have GY17 : Gr Y16 Y17 := ((by repeat (first | exact Gr.refl _ | apply Gr.ext | apply Gr.alloc | apply Gr.drew)) : Gr Y16 Y16).trans gY17
      have GWY17 : Gr w Y17 := GWY16.trans GY17
      have ZY17 : Y16.heap.size ≤ Y17.heap.size := GY17.size
      have cY17_box_0 : Y17.cell? ⟨w.heap.size, 0, none⟩ = some (.slice ca0 cl0 cc0) := GY17.keep cY16_box_0
      have cY17_box_1 : Y17.cell? ⟨w.heap.size, 1, none⟩ = some (.slice ca1 cl1 cc1) := GY17.keep cY16_box_1
      have cY17_x0_0 : Y17.cell? ⟨Y6.heap.size, 0, none⟩ = some (.slice ax0q0 lx0q0 cx0q0) := GY17.keep cY16_x0_0
      have cY17_x0_1 : Y17.cell? ⟨Y6.heap.size, 1, none⟩ = some (.slice ax0q1 lx0q1 cx0q1) := GY17.keep cY16_x0_1
      have zY17_box := blk cY17_box_0
      have zY17_x0 := blk cY17_x0_0
      have rY17_w0 := Lib.hid (SlR.gr rY16_w0.out GY17)
      have rY17_g0 := Lib.hid (SlR.gr rY16_g.out GY17)
      clear cY16_box_0 cY16_box_1 cY16_x0_0 cY16_x0_1
      go_wp2_with fail
      refine (toMemo_any _ _ x _ (Rd.gr HX.out ((GWY17).trans (by repeat (first | exact Gr.refl _ | apply Gr.ext | apply Gr.alloc | apply Gr.drew)))) hw).mono ?_
      rintro e Y18 ⟨dsy0, fy0, rfl, sy0, fry0, gY18⟩
      obtain ⟨ay0q0, ly0q0, cy0q0, ay0q1, ly0q1, cy0q1, rfl⟩ := rdMemo_shape sy0
      have F_y0 : Hid (fy0.Nodup ∧ ∀ b ∈ fy0, Y17.heap.size + 0 ≤ b) := Lib.hid ⟨fry0.1, fun b hb => by have h := fry0.2 b hb; (try simp at h); omega⟩
      have L_y0 := Lib.hid (Rd.lt sy0)
      have ZW0y0 : w.heap.size ≤ Y17.heap.size := Gr.size GWY17
      have rY18_y0 := Lib.hid sy0
      clear sy0 fry0
      have GY18 : Gr Y17 Y18 := ((by repeat (first | exact Gr.refl _ | apply Gr.ext | apply Gr.alloc | apply Gr.drew)) : Gr Y17 Y17).trans gY18
      have GWY18 : Gr w Y18 := GWY17.trans GY18
      have ZY18 : Y17.heap.size ≤ Y18.heap.size := GY18.size
      have cY18_box_0 : Y18.cell? ⟨w.heap.size, 0, none⟩ = some (.slice ca0 cl0 cc0) := GY18.keep cY17_box_0
      have cY18_box_1 : Y18.cell? ⟨w.heap.size, 1, none⟩ = some (.slice ca1 cl1 cc1) := GY18.keep cY17_box_1
      have cY18_x0_0 : Y18.cell? ⟨Y6.heap.size, 0, none⟩ = some (.slice ax0q0 lx0q0 cx0q0) := GY18.keep cY17_x0_0
      have cY18_x0_1 : Y18.cell? ⟨Y6.heap.size, 1, none⟩ = some (.slice ax0q1 lx0q1 cx0q1) := GY18.keep cY17_x0_1
      have zY18_box := blk cY18_box_0
      have zY18_x0 := blk cY18_x0_0
      have rY18_w0 := Lib.hid (SlR.gr rY17_w0.out GY18)
      have rY18_g0 := Lib.hid (SlR.gr rY17_g0.out GY18)
      clear cY17_box_0 cY17_box_1 cY17_x0_0 cY17_x0_1
      go_wp2_with fail
      refine (toInstanceS_any _ _ l _ (SlR.gr HY.out ((GWY18).trans (by repeat (first | exact Gr.refl _ | apply Gr.ext | apply Gr.alloc | apply Gr.drew)))) hw2).mono ?_
      rintro e Y19 ⟨vy1, fy1, rfl, sy1, fry1, gY19⟩
      obtain ⟨ay1, cy1, rfl, -, -, -⟩ := sy1.open
      have F_y1 : Hid (fy1.Nodup ∧ ∀ b ∈ fy1, Y18.heap.size + 0 ≤ b) := Lib.hid ⟨fry1.1, fun b hb => by have h := fry1.2 b hb; (try simp at h); omega⟩
      have L_y1 := Lib.hid (SlR.lt sy1)
      have ZW0y1 : w.heap.size ≤ Y18.heap.size := Gr.size GWY18
      have rY19_y1 := Lib.hid sy1
      clear sy1 fry1
      have GY19 : Gr Y18 Y19 := ((by repeat (first | exact Gr.refl _ | apply Gr.ext | apply Gr.alloc | apply Gr.drew)) : Gr Y18 Y18).trans gY19
      have GWY19 : Gr w Y19 := GWY18.trans GY19
      have ZY19 : Y18.heap.size ≤ Y19.heap.size := GY19.size
      have cY19_box_0 : Y19.cell? ⟨w.heap.size, 0, none⟩ = some (.slice ca0 cl0 cc0) := GY19.keep cY18_box_0
      have cY19_box_1 : Y19.cell? ⟨w.heap.size, 1, none⟩ = some (.slice ca1 cl1 cc1) := GY19.keep cY18_box_1
      have cY19_x0_0 : Y19.cell? ⟨Y6.heap.size, 0, none⟩ = some (.slice ax0q0 lx0q0 cx0q0) := GY19.keep cY18_x0_0
      have cY19_x0_1 : Y19.cell? ⟨Y6.heap.size, 1, none⟩ = some (.slice ax0q1 lx0q1 cx0q1) := GY19.keep cY18_x0_1
      have zY19_box := blk cY19_box_0
      have zY19_x0 := blk cY19_x0_0
      have rY19_w0 := Lib.hid (SlR.gr rY18_w0.out GY19)
      have rY19_g0 := Lib.hid (SlR.gr rY18_g0.out GY19)
      have rY19_y0 := Lib.hid (Rd.gr rY18_y0.out GY19)
      clear cY18_box_0 cY18_box_1 cY18_x0_0 cY18_x0_1
      go_wp2_with fail
      refine (implVals_any fy0 fy1 _ _ x l _ rY19_y0.out rY19_y1.out hll).mono ?_
      rintro e Y20 ⟨vh0, fh0, rfl, sh0, frh0, gY20⟩
      obtain ⟨ah0, ch0, rfl, -, -, -⟩ := sh0.open
      have F_h0 : Hid (fh0.Nodup ∧ ∀ b ∈ fh0, Y19.heap.size + 0 ≤ b) := Lib.hid ⟨frh0.1, fun b hb => by have h := frh0.2 b hb; (try simp at h); omega⟩
      have L_h0 := Lib.hid (SlR.lt sh0)
      have ZW0h0 : w.heap.size ≤ Y19.heap.size := Gr.size GWY19
      have rY20_h0 := Lib.hid sh0
      clear sh0 frh0
      have GY20 : Gr Y19 Y20 := ((by repeat (first | exact Gr.refl _ | apply Gr.ext | apply Gr.alloc | apply Gr.drew)) : Gr Y19 Y19).trans gY20
      have GWY20 : Gr w Y20 := GWY19.trans GY20
      have ZY20 : Y19.heap.size ≤ Y20.heap.size := GY20.size
      have cY20_box_0 : Y20.cell? ⟨w.heap.size, 0, none⟩ = some (.slice ca0 cl0 cc0) := GY20.keep cY19_box_0
      have cY20_box_1 : Y20.cell? ⟨w.heap.size, 1, none⟩ = some (.slice ca1 cl1 cc1) := GY20.keep cY19_box_1
      have cY20_x0_0 : Y20.cell? ⟨Y6.heap.size, 0, none⟩ = some (.slice ax0q0 lx0q0 cx0q0) := GY20.keep cY19_x0_0
      have cY20_x0_1 : Y20.cell? ⟨Y6.heap.size, 1, none⟩ = some (.slice ax0q1 lx0q1 cx0q1) := GY20.keep cY19_x0_1
      have zY20_box := blk cY20_box_0
      have zY20_x0 := blk cY20_x0_0
      have rY20_w0 := Lib.hid (SlR.gr rY19_w0.out GY20)
      have rY20_g0 := Lib.hid (SlR.gr rY19_g0.out GY20)
      have rY20_y0 := Lib.hid (Rd.gr rY19_y0.out GY20)
      have rY20_y1 := Lib.hid (SlR.gr rY19_y1.out GY20)
      clear cY19_box_0 cY19_box_1 cY19_x0_0 cY19_x0_1
      go_wp2_with fail
      refine (eqIntS_any fh0 fw0 _ _ (valsOf x.1 l) (valsOf x.1 l) _ rY20_h0.out rY20_w0.out).mono ?_
      rintro e Y21 ⟨rfl, gY21⟩
      rw [decide_eq_true rfl]
      have GY21 : Gr Y20 Y21 := ((by repeat (first | exact Gr.refl _ | apply Gr.ext | apply Gr.alloc | apply Gr.drew)) : Gr Y20 Y20).trans gY21
      have GWY21 : Gr w Y21 := GWY20.trans GY21
      have ZY21 : Y20.heap.size ≤ Y21.heap.size := GY21.size
      have cY21_box_0 : Y21.cell? ⟨w.heap.size, 0, none⟩ = some (.slice ca0 cl0 cc0) := GY21.keep cY20_box_0
      have cY21_box_1 : Y21.cell? ⟨w.heap.size, 1, none⟩ = some (.slice ca1 cl1 cc1) := GY21.keep cY20_box_1
      have cY21_x0_0 : Y21.cell? ⟨Y6.heap.size, 0, none⟩ = some (.slice ax0q0 lx0q0 cx0q0) := GY21.keep cY20_x0_0
      have cY21_x0_1 : Y21.cell? ⟨Y6.heap.size, 1, none⟩ = some (.slice ax0q1 lx0q1 cx0q1) := GY21.keep cY20_x0_1
      have zY21_box := blk cY21_box_0
      have zY21_x0 := blk cY21_x0_0
      have rY21_w0 := Lib.hid (SlR.gr rY20_w0.out GY21)
      have rY21_g0 := Lib.hid (SlR.gr rY20_g0.out GY21)
      have rY21_h0 := Lib.hid (SlR.gr rY20_h0.out GY21)
      clear cY20_box_0 cY20_box_1 cY20_x0_0 cY20_x0_1
      go_wp2_with fail
      refine (heldIntS_any fg0 _ (valsOf x.1 l) 1 _ rY21_g0.out (by omega) MB1.out).mono ?_
      rintro e Y22 ⟨rfl, gY22⟩
      have GY22 : Gr Y21 Y22 := ((by repeat (first | exact Gr.refl _ | apply Gr.ext | apply Gr.alloc | apply Gr.drew)) : Gr Y21 Y21).trans gY22
      have GWY22 : Gr w Y22 := GWY21.trans GY22
      have ZY22 : Y21.heap.size ≤ Y22.heap.size := GY22.size
      have cY22_box_0 : Y22.cell? ⟨w.heap.size, 0, none⟩ = some (.slice ca0 cl0 cc0) := GY22.keep cY21_box_0
      have cY22_box_1 : Y22.cell? ⟨w.heap.size, 1, none⟩ = some (.slice ca1 cl1 cc1) := GY22.keep cY21_box_1
      have cY22_x0_0 : Y22.cell? ⟨Y6.heap.size, 0, none⟩ = some (.slice ax0q0 lx0q0 cx0q0) := GY22.keep cY21_x0_0
      have cY22_x0_1 : Y22.cell? ⟨Y6.heap.size, 1, none⟩ = some (.slice ax0q1 lx0q1 cx0q1) := GY22.keep cY21_x0_1
      have zY22_box := blk cY22_box_0
      have zY22_x0 := blk cY22_x0_0
      have rY22_w0 := Lib.hid (SlR.gr rY21_w0.out GY22)
      have rY22_g0 := Lib.hid (SlR.gr rY21_g0.out GY22)
      have rY22_h0 := Lib.hid (SlR.gr rY21_h0.out GY22)
      clear cY21_box_0 cY21_box_1 cY21_x0_0 cY21_x0_1
      go_wp2_with fail
      go_ret
      exact ⟨rfl, ((GWY22).trans (by repeat (first | exact Gr.refl _ | apply Gr.ext | apply Gr.alloc | apply Gr.drew)))⟩
end Go.Proofs.Ytkfaihfgjiahdaa
