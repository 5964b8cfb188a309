/- The walk of the statement on FindEntry. Made by mk_find.py. No condition. -/
import Derived.Test.YtkfaihfgjiahdaaMemZ
import Derived.Test.YtkfaihfgjiahdaaMarkEntry
import Derived.Test.YtkfaihfgjiahdaaFamEntry
import Derived.Deep.RegionHeld3
import Derived.Deep.DeepCutAuto
namespace Go.Proofs.Ytkfaihfgjiahdaa
open Go.RowKit

/-- What a statement leaves that lays a made value into a new box. -/
def BoxOut {α : Type} [Rd α] (W : World) (y : α) (b : Bool) (s t : Value) (wx : World) : Prop :=
  ∃ (g : Nat) (es : Array Value) (fq : List Nat), s = .pointer (some ⟨g, 0, none⟩) ∧ t = .bool b ∧ Gr W wx ∧ W.heap.size ≤ g ∧ CellsAt wx g 0 es.toList ∧ Rd.rd fq wx es.toList y ∧ fq.Nodup ∧ ∀ c ∈ fq, W.heap.size ≤ c ∧ c ≠ g

set_option maxRecDepth 10000 in
set_option maxHeartbeats 16000000 in
theorem lawFind_any (fp fi : List Nat) (cs ds : Array Value) (x : GMemo) (i : GInstance) (w : World) (hx : Rd.rd fp w cs.toList x) (hi : Rd.rd fi w ds.toList i) :
    Calls Try.prog 8 #[.agg cs, .agg ds] w fun e w' => e = .returned (.bool true) ∧ Gr w w' := by
  have HX := Lib.hid hx
  have HI := Lib.hid hi
  obtain ⟨ca0, cl0, cc0, ca1, cl1, cc1, rfl⟩ := rdMemo_shape hx
  obtain ⟨d0, d1, rfl⟩ := rdInstance_shape hi
  clear hx hi
  by_cases hn : less 1048576 (wtMemo x) < 0
  · have HN := Lib.hid hn
    clear hn
    go_enter Try.func8, Try.ntmps8
    go_wp2_with fail
    refine (szMemo_any _ _ x _ _ (Rd.gr HX.out (by repeat (first | exact Gr.refl _ | apply Gr.ext | apply Gr.alloc | apply Gr.drew))) (by omega) (by omega)).mono ?_
    rintro e w' ⟨rfl, x0, rfl⟩
    have hn := HN.out
    go_wp2_with fail
    go_ret
    exact ⟨rfl, (by repeat (first | exact Gr.refl _ | apply Gr.ext | apply Gr.alloc | apply Gr.drew))⟩
  · have hw : wtMemo x ≤ 1048576 := by unfold less at hn; split at hn <;> omega
    have hb := less_le 1048576 (wtMemo x) (by omega)
    by_cases hm : less (less 1048576 (wtMemo x)) (wtInstance i) < 0
    · have HN := Lib.hid hn
      have HM := Lib.hid hm
      clear hn hm
      go_enter Try.func8, Try.ntmps8
      go_wp2_with fail
      refine (szMemo_any _ _ x _ _ (Rd.gr HX.out (by repeat (first | exact Gr.refl _ | apply Gr.ext | apply Gr.alloc | apply Gr.drew))) (by omega) (by omega)).mono ?_
      rintro e w' ⟨rfl, x0, rfl⟩
      have hn := HN.out
      go_wp2_with fail
      refine (szInstance_any _ _ i _ _ (Rd.gr HI.out (by repeat (first | exact Gr.refl _ | apply Gr.ext | apply Gr.alloc | apply Gr.drew))) (by omega) (by omega)).mono ?_
      rintro e w' ⟨rfl, x1, rfl⟩
      have hm := HM.out
      go_wp2_with fail
      go_ret
      exact ⟨rfl, (by repeat (first | exact Gr.refl _ | apply Gr.ext | apply Gr.alloc | apply Gr.drew))⟩
    · have HN := Lib.hid hn
      have HM := Lib.hid hm
      obtain ⟨bb, hbb⟩ : ∃ bb, bb = (lookE x.1 i).isSome := ⟨_, rfl⟩
      obtain ⟨yv, hyv⟩ : ∃ y, y = (lookE x.1 i).getD zeroE := ⟨_, rfl⟩
      have hwy : wtEntry yv ≤ 1048576 := by rw [hyv]; exact wtLook (x2 := x.2) hw i
      have HB := Lib.hid hbb
      have HYV := Lib.hid hyv
      clear hn hm hbb hyv
      go_enter Try.func8, Try.ntmps8
      go_wp2_with fail
      refine (szMemo_any _ _ x _ _ (Rd.gr HX.out (by repeat (first | exact Gr.refl _ | apply Gr.ext | apply Gr.alloc | apply Gr.drew))) (by omega) (by omega)).mono ?_
      rintro e Y1 ⟨rfl, gY1⟩
      have hn := HN.out
      have GY1 : Gr w Y1 := ((by repeat (first | exact Gr.refl _ | apply Gr.ext | apply Gr.alloc | apply Gr.drew)) : Gr w ((w.alloc (.cells #[.slice ca0 cl0 cc0, .slice ca1 cl1 cc1] 50)).alloc (.cells #[.int .i64 d0, .string d1] 68))).trans gY1
      have GWY1 : Gr w Y1 := GY1
      have ZY1 : w.heap.size ≤ Y1.heap.size := GY1.size
      have cY1_box_0 : Y1.cell? ⟨w.heap.size, 0, none⟩ = some (.slice ca0 cl0 cc0) := (((by repeat (first | exact Gr.refl _ | apply Gr.ext | apply Gr.alloc | apply Gr.drew)) : Gr (w.alloc (.cells #[.slice ca0 cl0 cc0, .slice ca1 cl1 cc1] 50)) ((w.alloc (.cells #[.slice ca0 cl0 cc0, .slice ca1 cl1 cc1] 50)).alloc (.cells #[.int .i64 d0, .string d1] 68))).trans gY1).keep (box_cell (A := _) (by simp) rfl : ((w.alloc (.cells #[.slice ca0 cl0 cc0, .slice ca1 cl1 cc1] 50))).cell? ⟨w.heap.size, 0, none⟩ = some (.slice ca0 cl0 cc0))
      have cY1_box_1 : Y1.cell? ⟨w.heap.size, 1, none⟩ = some (.slice ca1 cl1 cc1) := (((by repeat (first | exact Gr.refl _ | apply Gr.ext | apply Gr.alloc | apply Gr.drew)) : Gr (w.alloc (.cells #[.slice ca0 cl0 cc0, .slice ca1 cl1 cc1] 50)) ((w.alloc (.cells #[.slice ca0 cl0 cc0, .slice ca1 cl1 cc1] 50)).alloc (.cells #[.int .i64 d0, .string d1] 68))).trans gY1).keep (box_cell (A := _) (by simp) rfl : ((w.alloc (.cells #[.slice ca0 cl0 cc0, .slice ca1 cl1 cc1] 50))).cell? ⟨w.heap.size, 1, none⟩ = some (.slice ca1 cl1 cc1))
      have cY1_inst_0 : Y1.cell? ⟨w.heap.size + 1, 0, none⟩ = some (.int .i64 d0) := (((by repeat (first | exact Gr.refl _ | apply Gr.ext | apply Gr.alloc | apply Gr.drew)) : Gr ((w.alloc (.cells #[.slice ca0 cl0 cc0, .slice ca1 cl1 cc1] 50)).alloc (.cells #[.int .i64 d0, .string d1] 68)) ((w.alloc (.cells #[.slice ca0 cl0 cc0, .slice ca1 cl1 cc1] 50)).alloc (.cells #[.int .i64 d0, .string d1] 68))).trans gY1).keep (box_cell (A := _) (by simp) rfl : (((w.alloc (.cells #[.slice ca0 cl0 cc0, .slice ca1 cl1 cc1] 50)).alloc (.cells #[.int .i64 d0, .string d1] 68))).cell? ⟨w.heap.size + 1, 0, none⟩ = some (.int .i64 d0))
      have cY1_inst_1 : Y1.cell? ⟨w.heap.size + 1, 1, none⟩ = some (.string d1) := (((by repeat (first | exact Gr.refl _ | apply Gr.ext | apply Gr.alloc | apply Gr.drew)) : Gr ((w.alloc (.cells #[.slice ca0 cl0 cc0, .slice ca1 cl1 cc1] 50)).alloc (.cells #[.int .i64 d0, .string d1] 68)) ((w.alloc (.cells #[.slice ca0 cl0 cc0, .slice ca1 cl1 cc1] 50)).alloc (.cells #[.int .i64 d0, .string d1] 68))).trans gY1).keep (box_cell (A := _) (by simp) rfl : (((w.alloc (.cells #[.slice ca0 cl0 cc0, .slice ca1 cl1 cc1] 50)).alloc (.cells #[.int .i64 d0, .string d1] 68))).cell? ⟨w.heap.size + 1, 1, none⟩ = some (.string d1))
      have zY1_box := blk cY1_box_0
      have zY1_inst := blk cY1_inst_0
      go_wp2_with fail
      refine (szInstance_any _ _ i _ _ (Rd.gr HI.out ((GWY1).trans (by repeat (first | exact Gr.refl _ | apply Gr.ext | apply Gr.alloc | apply Gr.drew)))) (by omega) (by omega)).mono ?_
      rintro e Y2 ⟨rfl, gY2⟩
      have hm := HM.out
      have GY2 : Gr Y1 Y2 := ((by repeat (first | exact Gr.refl _ | apply Gr.ext | apply Gr.alloc | apply Gr.drew)) : Gr Y1 Y1).trans gY2
      have GWY2 : Gr w Y2 := GWY1.trans GY2
      have ZY2 : Y1.heap.size ≤ Y2.heap.size := GY2.size
      have cY2_box_0 : Y2.cell? ⟨w.heap.size, 0, none⟩ = some (.slice ca0 cl0 cc0) := GY2.keep cY1_box_0
      have cY2_box_1 : Y2.cell? ⟨w.heap.size, 1, none⟩ = some (.slice ca1 cl1 cc1) := GY2.keep cY1_box_1
      have cY2_inst_0 : Y2.cell? ⟨w.heap.size + 1, 0, none⟩ = some (.int .i64 d0) := GY2.keep cY1_inst_0
      have cY2_inst_1 : Y2.cell? ⟨w.heap.size + 1, 1, none⟩ = some (.string d1) := GY2.keep cY1_inst_1
      have zY2_box := blk cY2_box_0
      have zY2_inst := blk cY2_inst_0
      clear cY1_box_0 cY1_box_1 cY1_inst_0 cY1_inst_1
      clear hn
      go_upto_region 8 with fail
      clear hm
      go_cut [6, 7] (fun sp sb wx => BoxOut Y2 yv bb sp sb wx)
      case first =>
        have kcY2_box_0 : ∀ w' : World, Gr Y2 w' → w'.cell? ⟨w.heap.size, 0, none⟩ = some (.slice ca0 cl0 cc0) := fun w' h => h.keep cY2_box_0
        have kcY2_box_1 : ∀ w' : World, Gr Y2 w' → w'.cell? ⟨w.heap.size, 1, none⟩ = some (.slice ca1 cl1 cc1) := fun w' h => h.keep cY2_box_1
        have kcY2_inst_0 : ∀ w' : World, Gr Y2 w' → w'.cell? ⟨w.heap.size + 1, 0, none⟩ = some (.int .i64 d0) := fun w' h => h.keep cY2_inst_0
        have kcY2_inst_1 : ∀ w' : World, Gr Y2 w' → w'.cell? ⟨w.heap.size + 1, 1, none⟩ = some (.string d1) := fun w' h => h.keep cY2_inst_1
        go_region_held3 (fun w' => Gr Y2 w') (first | assumption | exact Gr.drew (Gr.refl _) | (repeat (first | assumption | exact Gr.refl _ | apply Gr.ext | apply Gr.alloc | apply Gr.drew)))
          (first
            | (go_at_call 32; refine (toMemo_any _ _ x _ (Rd.gr HX.out (GWY2.trans (by first | assumption | exact (by repeat (first | exact Gr.refl _ | apply Gr.ext | apply Gr.alloc | apply Gr.drew))))) hw).mono ?_; rintro e w' ⟨dsw0, f1, rfl, s1, fr1, x1, rfl⟩)
            | (go_at_call 44; refine (toInstance_any _ _ i _ (Rd.gr HI.out (GWY2.trans (by first | assumption | exact (by repeat (first | exact Gr.refl _ | apply Gr.ext | apply Gr.alloc | apply Gr.drew)))))).mono ?_; rintro e w' ⟨rfl, x2, rfl⟩)
            | (go_at_call 43; refine (specFind_any _ _ _ _ x i _ (Rd.gr s1 (by repeat (first | exact Gr.refl _ | apply Gr.ext | apply Gr.alloc | apply Gr.drew))) (Rd.gr HI.out (GWY2.trans (by first | assumption | exact (by repeat (first | exact Gr.refl _ | apply Gr.ext | apply Gr.alloc | apply Gr.drew))))) hw).mono ?_; rintro e w' ⟨es, fq, rfl, hrw0, hfw0, x3, rfl⟩; rw [← HB.out]; rw [← HYV.out] at hrw0; obtain ⟨bq00, bq01, bq1, bq2, bq3, bq4, bq5, eq5, hq5, bq6, eq6, hq6, bq7, eq7, hq7, rfl⟩ := rdEntry_shape hrw0))
        all_goals
          go_wp2_with fail
          go_meet
          refine ⟨_, #[.int .i64 bq00, .string bq01, .int .i64 bq1, .int .i64 bq2, .int .i64 bq3, .string bq4, .slice bq5 eq5 hq5, .slice bq6 eq6 hq6, .slice bq7 eq7 hq7], fq, rfl, rfl, (by repeat (first | exact Gr.refl _ | apply Gr.ext | apply Gr.alloc | apply Gr.drew)), by (try simp) <;> omega, fun j u hj => ?_, ?_, hfw0.1, fun c hc => ?_⟩
          rotate_left 1
          · first
            | (refine Rd.gr hrw0 ?_; (repeat (first | exact Gr.refl _ | apply Gr.ext | apply Gr.alloc | apply Gr.drew)); done)
            | (exact Rd.moved hrw0 hfw0 (Gr.refl _) (by simp))
          rotate_right 1
          · match j, hj with
            | 0, hj => obtain rfl := Option.some.inj hj; go_simp
            | 1, hj => obtain rfl := Option.some.inj hj; go_simp
            | 2, hj => obtain rfl := Option.some.inj hj; go_simp
            | 3, hj => obtain rfl := Option.some.inj hj; go_simp
            | 4, hj => obtain rfl := Option.some.inj hj; go_simp
            | 5, hj => obtain rfl := Option.some.inj hj; go_simp
            | 6, hj => obtain rfl := Option.some.inj hj; go_simp
            | 7, hj => obtain rfl := Option.some.inj hj; go_simp
            | 8, hj => obtain rfl := Option.some.inj hj; go_simp
          · have h1 := hfw0.2 c hc
            have h2 := Rd.lt hrw0 c hc
            simp at h1 h2
            constructor <;> (try simp) <;> omega
      case rest =>
        obtain ⟨pw0, esw0, fw0, rfl, rfl, gY3, qw0, kw0, rw0, nw0, mw0⟩ := hcut
        obtain ⟨aw0q00, aw0q01, aw0q1, aw0q2, aw0q3, aw0q4, aw0q5, lw0q5, cw0q5, aw0q6, lw0q6, cw0q6, aw0q7, lw0q7, cw0q7, rfl⟩ := rdEntry_shape rw0
        rename World => Y3
        have F_w0 : Hid (fw0.Nodup ∧ ∀ b ∈ fw0, Y2.heap.size + 0 ≤ b) := Lib.hid ⟨nw0, fun b hb => (mw0 b hb).1⟩
        have D_w0 := Lib.hid (fun b (hb : b ∈ fw0) => (mw0 b hb).2)
        have L_w0 := Lib.hid (Rd.lt rw0)
        have ZW0w0 : w.heap.size ≤ Y2.heap.size := Gr.size GWY2
        have cY3_w0_0 : Y3.cell? ⟨pw0, 0, none⟩ = some (.int .i64 aw0q00) := by simpa using kw0 0 _ rfl
        have cY3_w0_1 : Y3.cell? ⟨pw0, 1, none⟩ = some (.string aw0q01) := by simpa using kw0 1 _ rfl
        have cY3_w0_2 : Y3.cell? ⟨pw0, 2, none⟩ = some (.int .i64 aw0q1) := by simpa using kw0 2 _ rfl
        have cY3_w0_3 : Y3.cell? ⟨pw0, 3, none⟩ = some (.int .i64 aw0q2) := by simpa using kw0 3 _ rfl
        have cY3_w0_4 : Y3.cell? ⟨pw0, 4, none⟩ = some (.int .i64 aw0q3) := by simpa using kw0 4 _ rfl
        have cY3_w0_5 : Y3.cell? ⟨pw0, 5, none⟩ = some (.string aw0q4) := by simpa using kw0 5 _ rfl
        have cY3_w0_6 : Y3.cell? ⟨pw0, 6, none⟩ = some (.slice aw0q5 lw0q5 cw0q5) := by simpa using kw0 6 _ rfl
        have cY3_w0_7 : Y3.cell? ⟨pw0, 7, none⟩ = some (.slice aw0q6 lw0q6 cw0q6) := by simpa using kw0 7 _ rfl
        have cY3_w0_8 : Y3.cell? ⟨pw0, 8, none⟩ = some (.slice aw0q7 lw0q7 cw0q7) := by simpa using kw0 8 _ rfl
        have zY3_w0 := blk cY3_w0_0
        have rY3_w0 := Lib.hid rw0
        clear kw0 rw0 nw0 mw0
        have GY3 : Gr Y2 Y3 := ((by repeat (first | exact Gr.refl _ | apply Gr.ext | apply Gr.alloc | apply Gr.drew)) : Gr Y2 Y2).trans gY3
        have GWY3 : Gr w Y3 := GWY2.trans GY3
        have ZY3 : Y2.heap.size ≤ Y3.heap.size := GY3.size
        have cY3_box_0 : Y3.cell? ⟨w.heap.size, 0, none⟩ = some (.slice ca0 cl0 cc0) := GY3.keep cY2_box_0
        have cY3_box_1 : Y3.cell? ⟨w.heap.size, 1, none⟩ = some (.slice ca1 cl1 cc1) := GY3.keep cY2_box_1
        have cY3_inst_0 : Y3.cell? ⟨w.heap.size + 1, 0, none⟩ = some (.int .i64 d0) := GY3.keep cY2_inst_0
        have cY3_inst_1 : Y3.cell? ⟨w.heap.size + 1, 1, none⟩ = some (.string d1) := GY3.keep cY2_inst_1
        have zY3_box := blk cY3_box_0
        have zY3_inst := blk cY3_inst_0
        clear cY2_box_0 cY2_box_1 cY2_inst_0 cY2_inst_1
        go_wp2_with fail
        refine (toMemo_any _ _ x _ (Rd.gr HX.out ((GWY3).trans (by repeat (first | exact Gr.refl _ | apply Gr.ext | apply Gr.alloc | apply Gr.drew)))) hw).mono ?_
        rintro e Y4 ⟨dsx0, fx0, rfl, sx0, frx0, gY4⟩
        obtain ⟨ax0q0, lx0q0, cx0q0, ax0q1, lx0q1, cx0q1, rfl⟩ := rdMemo_shape sx0
        have F_x0 : Hid (fx0.Nodup ∧ ∀ b ∈ fx0, Y3.heap.size + 0 ≤ b) := Lib.hid ⟨frx0.1, fun b hb => by have h := frx0.2 b hb; (try simp at h); omega⟩
        have L_x0 := Lib.hid (Rd.lt sx0)
        have ZW0x0 : w.heap.size ≤ Y3.heap.size := Gr.size GWY3
        have rY4_x0 := Lib.hid sx0
        clear sx0 frx0
        have GY4 : Gr Y3 Y4 := ((by repeat (first | exact Gr.refl _ | apply Gr.ext | apply Gr.alloc | apply Gr.drew)) : Gr Y3 Y3).trans gY4
        have GWY4 : Gr w Y4 := GWY3.trans GY4
        have ZY4 : Y3.heap.size ≤ Y4.heap.size := GY4.size
        have cY4_box_0 : Y4.cell? ⟨w.heap.size, 0, none⟩ = some (.slice ca0 cl0 cc0) := GY4.keep cY3_box_0
        have cY4_box_1 : Y4.cell? ⟨w.heap.size, 1, none⟩ = some (.slice ca1 cl1 cc1) := GY4.keep cY3_box_1
        have cY4_inst_0 : Y4.cell? ⟨w.heap.size + 1, 0, none⟩ = some (.int .i64 d0) := GY4.keep cY3_inst_0
        have cY4_inst_1 : Y4.cell? ⟨w.heap.size + 1, 1, none⟩ = some (.string d1) := GY4.keep cY3_inst_1
        have cY4_w0_0 : Y4.cell? ⟨pw0, 0, none⟩ = some (.int .i64 aw0q00) := GY4.keep cY3_w0_0
        have cY4_w0_1 : Y4.cell? ⟨pw0, 1, none⟩ = some (.string aw0q01) := GY4.keep cY3_w0_1
        have cY4_w0_2 : Y4.cell? ⟨pw0, 2, none⟩ = some (.int .i64 aw0q1) := GY4.keep cY3_w0_2
        have cY4_w0_3 : Y4.cell? ⟨pw0, 3, none⟩ = some (.int .i64 aw0q2) := GY4.keep cY3_w0_3
        have cY4_w0_4 : Y4.cell? ⟨pw0, 4, none⟩ = some (.int .i64 aw0q3) := GY4.keep cY3_w0_4
        have cY4_w0_5 : Y4.cell? ⟨pw0, 5, none⟩ = some (.string aw0q4) := GY4.keep cY3_w0_5
        have cY4_w0_6 : Y4.cell? ⟨pw0, 6, none⟩ = some (.slice aw0q5 lw0q5 cw0q5) := GY4.keep cY3_w0_6
        have cY4_w0_7 : Y4.cell? ⟨pw0, 7, none⟩ = some (.slice aw0q6 lw0q6 cw0q6) := GY4.keep cY3_w0_7
        have cY4_w0_8 : Y4.cell? ⟨pw0, 8, none⟩ = some (.slice aw0q7 lw0q7 cw0q7) := GY4.keep cY3_w0_8
        have zY4_box := blk cY4_box_0
        have zY4_inst := blk cY4_inst_0
        have zY4_w0 := blk cY4_w0_0
        have rY4_w0 := Lib.hid (Rd.gr rY3_w0.out GY4)
        clear cY3_box_0 cY3_box_1 cY3_inst_0 cY3_inst_1 cY3_w0_0 cY3_w0_1 cY3_w0_2 cY3_w0_3 cY3_w0_4 cY3_w0_5 cY3_w0_6 cY3_w0_7 cY3_w0_8
        go_upto_region 10 with fail
        generalize hWY5 : (Y4.alloc (.cells #[.slice ax0q0 lx0q0 cx0q0, .slice ax0q1 lx0q1 cx0q1] 58)) = Y5
        have gY5 : Gr (Y4.alloc (.cells #[.slice ax0q0 lx0q0 cx0q0, .slice ax0q1 lx0q1 cx0q1] 58)) Y5 := by rw [hWY5]; exact Gr.refl _
        clear hWY5
        have GY5 : Gr Y4 Y5 := ((by repeat (first | exact Gr.refl _ | apply Gr.ext | apply Gr.alloc | apply Gr.drew)) : Gr Y4 (Y4.alloc (.cells #[.slice ax0q0 lx0q0 cx0q0, .slice ax0q1 lx0q1 cx0q1] 58))).trans gY5
        have GWY5 : Gr w Y5 := GWY4.trans GY5
        have ZY5 : Y4.heap.size ≤ Y5.heap.size := GY5.size
        have cY5_box_0 : Y5.cell? ⟨w.heap.size, 0, none⟩ = some (.slice ca0 cl0 cc0) := GY5.keep cY4_box_0
        have cY5_box_1 : Y5.cell? ⟨w.heap.size, 1, none⟩ = some (.slice ca1 cl1 cc1) := GY5.keep cY4_box_1
        have cY5_inst_0 : Y5.cell? ⟨w.heap.size + 1, 0, none⟩ = some (.int .i64 d0) := GY5.keep cY4_inst_0
        have cY5_inst_1 : Y5.cell? ⟨w.heap.size + 1, 1, none⟩ = some (.string d1) := GY5.keep cY4_inst_1
        have cY5_w0_0 : Y5.cell? ⟨pw0, 0, none⟩ = some (.int .i64 aw0q00) := GY5.keep cY4_w0_0
        have cY5_w0_1 : Y5.cell? ⟨pw0, 1, none⟩ = some (.string aw0q01) := GY5.keep cY4_w0_1
        have cY5_w0_2 : Y5.cell? ⟨pw0, 2, none⟩ = some (.int .i64 aw0q1) := GY5.keep cY4_w0_2
        have cY5_w0_3 : Y5.cell? ⟨pw0, 3, none⟩ = some (.int .i64 aw0q2) := GY5.keep cY4_w0_3
        have cY5_w0_4 : Y5.cell? ⟨pw0, 4, none⟩ = some (.int .i64 aw0q3) := GY5.keep cY4_w0_4
        have cY5_w0_5 : Y5.cell? ⟨pw0, 5, none⟩ = some (.string aw0q4) := GY5.keep cY4_w0_5
        have cY5_w0_6 : Y5.cell? ⟨pw0, 6, none⟩ = some (.slice aw0q5 lw0q5 cw0q5) := GY5.keep cY4_w0_6
        have cY5_w0_7 : Y5.cell? ⟨pw0, 7, none⟩ = some (.slice aw0q6 lw0q6 cw0q6) := GY5.keep cY4_w0_7
        have cY5_w0_8 : Y5.cell? ⟨pw0, 8, none⟩ = some (.slice aw0q7 lw0q7 cw0q7) := GY5.keep cY4_w0_8
        have cY5_x0_0 : Y5.cell? ⟨Y4.heap.size, 0, none⟩ = some (.slice ax0q0 lx0q0 cx0q0) := (((by repeat (first | exact Gr.refl _ | apply Gr.ext | apply Gr.alloc | apply Gr.drew)) : Gr (Y4.alloc (.cells #[.slice ax0q0 lx0q0 cx0q0, .slice ax0q1 lx0q1 cx0q1] 58)) (Y4.alloc (.cells #[.slice ax0q0 lx0q0 cx0q0, .slice ax0q1 lx0q1 cx0q1] 58))).trans gY5).keep (box_cell (A := _) (by simp) rfl : ((Y4.alloc (.cells #[.slice ax0q0 lx0q0 cx0q0, .slice ax0q1 lx0q1 cx0q1] 58))).cell? ⟨Y4.heap.size, 0, none⟩ = some (.slice ax0q0 lx0q0 cx0q0))
        have cY5_x0_1 : Y5.cell? ⟨Y4.heap.size, 1, none⟩ = some (.slice ax0q1 lx0q1 cx0q1) := (((by repeat (first | exact Gr.refl _ | apply Gr.ext | apply Gr.alloc | apply Gr.drew)) : Gr (Y4.alloc (.cells #[.slice ax0q0 lx0q0 cx0q0, .slice ax0q1 lx0q1 cx0q1] 58)) (Y4.alloc (.cells #[.slice ax0q0 lx0q0 cx0q0, .slice ax0q1 lx0q1 cx0q1] 58))).trans gY5).keep (box_cell (A := _) (by simp) rfl : ((Y4.alloc (.cells #[.slice ax0q0 lx0q0 cx0q0, .slice ax0q1 lx0q1 cx0q1] 58))).cell? ⟨Y4.heap.size, 1, none⟩ = some (.slice ax0q1 lx0q1 cx0q1))
        have zY5_box := blk cY5_box_0
        have zY5_inst := blk cY5_inst_0
        have zY5_w0 := blk cY5_w0_0
        have zY5_x0 := blk cY5_x0_0
        have rY5_w0 := Lib.hid (Rd.gr rY4_w0.out GY5)
        have rY5_x0 := Lib.hid (Rd.gr rY4_x0.out GY5)
        clear cY4_box_0 cY4_box_1 cY4_inst_0 cY4_inst_1 cY4_w0_0 cY4_w0_1 cY4_w0_2 cY4_w0_3 cY4_w0_4 cY4_w0_5 cY4_w0_6 cY4_w0_7 cY4_w0_8
        go_cut [9, 10] (fun sp sb wx => BoxOut Y5 yv bb sp sb wx)
        case first =>
          have kcY5_box_0 : ∀ w' : World, Gr Y5 w' → w'.cell? ⟨w.heap.size, 0, none⟩ = some (.slice ca0 cl0 cc0) := fun w' h => h.keep cY5_box_0
          have kcY5_box_1 : ∀ w' : World, Gr Y5 w' → w'.cell? ⟨w.heap.size, 1, none⟩ = some (.slice ca1 cl1 cc1) := fun w' h => h.keep cY5_box_1
          have kcY5_inst_0 : ∀ w' : World, Gr Y5 w' → w'.cell? ⟨w.heap.size + 1, 0, none⟩ = some (.int .i64 d0) := fun w' h => h.keep cY5_inst_0
          have kcY5_inst_1 : ∀ w' : World, Gr Y5 w' → w'.cell? ⟨w.heap.size + 1, 1, none⟩ = some (.string d1) := fun w' h => h.keep cY5_inst_1
          have kcY5_w0_0 : ∀ w' : World, Gr Y5 w' → w'.cell? ⟨pw0, 0, none⟩ = some (.int .i64 aw0q00) := fun w' h => h.keep cY5_w0_0
          have kcY5_w0_1 : ∀ w' : World, Gr Y5 w' → w'.cell? ⟨pw0, 1, none⟩ = some (.string aw0q01) := fun w' h => h.keep cY5_w0_1
          have kcY5_w0_2 : ∀ w' : World, Gr Y5 w' → w'.cell? ⟨pw0, 2, none⟩ = some (.int .i64 aw0q1) := fun w' h => h.keep cY5_w0_2
          have kcY5_w0_3 : ∀ w' : World, Gr Y5 w' → w'.cell? ⟨pw0, 3, none⟩ = some (.int .i64 aw0q2) := fun w' h => h.keep cY5_w0_3
          have kcY5_w0_4 : ∀ w' : World, Gr Y5 w' → w'.cell? ⟨pw0, 4, none⟩ = some (.int .i64 aw0q3) := fun w' h => h.keep cY5_w0_4
          have kcY5_w0_5 : ∀ w' : World, Gr Y5 w' → w'.cell? ⟨pw0, 5, none⟩ = some (.string aw0q4) := fun w' h => h.keep cY5_w0_5
          have kcY5_w0_6 : ∀ w' : World, Gr Y5 w' → w'.cell? ⟨pw0, 6, none⟩ = some (.slice aw0q5 lw0q5 cw0q5) := fun w' h => h.keep cY5_w0_6
          have kcY5_w0_7 : ∀ w' : World, Gr Y5 w' → w'.cell? ⟨pw0, 7, none⟩ = some (.slice aw0q6 lw0q6 cw0q6) := fun w' h => h.keep cY5_w0_7
          have kcY5_w0_8 : ∀ w' : World, Gr Y5 w' → w'.cell? ⟨pw0, 8, none⟩ = some (.slice aw0q7 lw0q7 cw0q7) := fun w' h => h.keep cY5_w0_8
          have kcY5_x0_0 : ∀ w' : World, Gr Y5 w' → w'.cell? ⟨Y4.heap.size, 0, none⟩ = some (.slice ax0q0 lx0q0 cx0q0) := fun w' h => h.keep cY5_x0_0
          have kcY5_x0_1 : ∀ w' : World, Gr Y5 w' → w'.cell? ⟨Y4.heap.size, 1, none⟩ = some (.slice ax0q1 lx0q1 cx0q1) := fun w' h => h.keep cY5_x0_1
          go_region_held3 (fun w' => Gr Y5 w') (first | assumption | exact Gr.drew (Gr.refl _) | (repeat (first | assumption | exact Gr.refl _ | apply Gr.ext | apply Gr.alloc | apply Gr.drew)))
            (first
              | (go_at_call 44; refine (toInstance_any _ _ i _ (Rd.gr HI.out (GWY5.trans (by first | assumption | exact (by repeat (first | exact Gr.refl _ | apply Gr.ext | apply Gr.alloc | apply Gr.drew)))))).mono ?_; rintro e w' ⟨rfl, x2, rfl⟩)
              | (go_at_call 45; refine (implFind_any _ _ _ _ x i _ (Rd.gr rY5_x0.out (by first | assumption | exact (by repeat (first | exact Gr.refl _ | apply Gr.ext | apply Gr.alloc | apply Gr.drew)))) (Rd.gr HI.out (GWY5.trans (by first | assumption | exact (by repeat (first | exact Gr.refl _ | apply Gr.ext | apply Gr.alloc | apply Gr.drew))))) hw).mono ?_; rintro e w' ⟨es, fq, rfl, hrg0, hfg0, x3, rfl⟩; rw [← HB.out]; rw [← HYV.out] at hrg0; obtain ⟨bq00, bq01, bq1, bq2, bq3, bq4, bq5, eq5, hq5, bq6, eq6, hq6, bq7, eq7, hq7, rfl⟩ := rdEntry_shape hrg0))
          all_goals
            go_wp2_with fail
            go_meet
            refine ⟨_, #[.int .i64 bq00, .string bq01, .int .i64 bq1, .int .i64 bq2, .int .i64 bq3, .string bq4, .slice bq5 eq5 hq5, .slice bq6 eq6 hq6, .slice bq7 eq7 hq7], fq, rfl, rfl, (by repeat (first | exact Gr.refl _ | apply Gr.ext | apply Gr.alloc | apply Gr.drew)), by (try simp) <;> omega, fun j u hj => ?_, ?_, hfg0.1, fun c hc => ?_⟩
            rotate_left 1
            · first
              | (refine Rd.gr hrg0 ?_; (repeat (first | exact Gr.refl _ | apply Gr.ext | apply Gr.alloc | apply Gr.drew)); done)
              | (exact Rd.moved hrg0 hfg0 (Gr.refl _) (by simp))
            rotate_right 1
            · match j, hj with
              | 0, hj => obtain rfl := Option.some.inj hj; go_simp
              | 1, hj => obtain rfl := Option.some.inj hj; go_simp
              | 2, hj => obtain rfl := Option.some.inj hj; go_simp
              | 3, hj => obtain rfl := Option.some.inj hj; go_simp
              | 4, hj => obtain rfl := Option.some.inj hj; go_simp
              | 5, hj => obtain rfl := Option.some.inj hj; go_simp
              | 6, hj => obtain rfl := Option.some.inj hj; go_simp
              | 7, hj => obtain rfl := Option.some.inj hj; go_simp
              | 8, hj => obtain rfl := Option.some.inj hj; go_simp
            · have h1 := hfg0.2 c hc
              have h2 := Rd.lt hrg0 c hc
              simp at h1 h2
              constructor <;> (try simp) <;> omega
        case rest =>
          obtain ⟨pg0, esg0, fg0, rfl, rfl, gY6, qg0, kg0, rg0, ng0, mg0⟩ := hcut
          obtain ⟨ag0q00, ag0q01, ag0q1, ag0q2, ag0q3, ag0q4, ag0q5, lg0q5, cg0q5, ag0q6, lg0q6, cg0q6, ag0q7, lg0q7, cg0q7, rfl⟩ := rdEntry_shape rg0
          rename World => Y6
          have F_g0 : Hid (fg0.Nodup ∧ ∀ b ∈ fg0, Y5.heap.size + 0 ≤ b) := Lib.hid ⟨ng0, fun b hb => (mg0 b hb).1⟩
          have D_g0 := Lib.hid (fun b (hb : b ∈ fg0) => (mg0 b hb).2)
          have L_g0 := Lib.hid (Rd.lt rg0)
          have ZW0g0 : w.heap.size ≤ Y5.heap.size := Gr.size GWY5
          have cY6_g0_0 : Y6.cell? ⟨pg0, 0, none⟩ = some (.int .i64 ag0q00) := by simpa using kg0 0 _ rfl
          have cY6_g0_1 : Y6.cell? ⟨pg0, 1, none⟩ = some (.string ag0q01) := by simpa using kg0 1 _ rfl
          have cY6_g0_2 : Y6.cell? ⟨pg0, 2, none⟩ = some (.int .i64 ag0q1) := by simpa using kg0 2 _ rfl
          have cY6_g0_3 : Y6.cell? ⟨pg0, 3, none⟩ = some (.int .i64 ag0q2) := by simpa using kg0 3 _ rfl
          have cY6_g0_4 : Y6.cell? ⟨pg0, 4, none⟩ = some (.int .i64 ag0q3) := by simpa using kg0 4 _ rfl
          have cY6_g0_5 : Y6.cell? ⟨pg0, 5, none⟩ = some (.string ag0q4) := by simpa using kg0 5 _ rfl
          have cY6_g0_6 : Y6.cell? ⟨pg0, 6, none⟩ = some (.slice ag0q5 lg0q5 cg0q5) := by simpa using kg0 6 _ rfl
          have cY6_g0_7 : Y6.cell? ⟨pg0, 7, none⟩ = some (.slice ag0q6 lg0q6 cg0q6) := by simpa using kg0 7 _ rfl
          have cY6_g0_8 : Y6.cell? ⟨pg0, 8, none⟩ = some (.slice ag0q7 lg0q7 cg0q7) := by simpa using kg0 8 _ rfl
          have zY6_g0 := blk cY6_g0_0
          have rY6_g0 := Lib.hid rg0
          clear kg0 rg0 ng0 mg0
          have GY6 : Gr Y5 Y6 := ((by repeat (first | exact Gr.refl _ | apply Gr.ext | apply Gr.alloc | apply Gr.drew)) : Gr Y5 Y5).trans gY6
          have GWY6 : Gr w Y6 := GWY5.trans GY6
          have ZY6 : Y5.heap.size ≤ Y6.heap.size := GY6.size
          have cY6_box_0 : Y6.cell? ⟨w.heap.size, 0, none⟩ = some (.slice ca0 cl0 cc0) := GY6.keep cY5_box_0
          have cY6_box_1 : Y6.cell? ⟨w.heap.size, 1, none⟩ = some (.slice ca1 cl1 cc1) := GY6.keep cY5_box_1
          have cY6_inst_0 : Y6.cell? ⟨w.heap.size + 1, 0, none⟩ = some (.int .i64 d0) := GY6.keep cY5_inst_0
          have cY6_inst_1 : Y6.cell? ⟨w.heap.size + 1, 1, none⟩ = some (.string d1) := GY6.keep cY5_inst_1
          have cY6_w0_0 : Y6.cell? ⟨pw0, 0, none⟩ = some (.int .i64 aw0q00) := GY6.keep cY5_w0_0
          have cY6_w0_1 : Y6.cell? ⟨pw0, 1, none⟩ = some (.string aw0q01) := GY6.keep cY5_w0_1
          have cY6_w0_2 : Y6.cell? ⟨pw0, 2, none⟩ = some (.int .i64 aw0q1) := GY6.keep cY5_w0_2
          have cY6_w0_3 : Y6.cell? ⟨pw0, 3, none⟩ = some (.int .i64 aw0q2) := GY6.keep cY5_w0_3
          have cY6_w0_4 : Y6.cell? ⟨pw0, 4, none⟩ = some (.int .i64 aw0q3) := GY6.keep cY5_w0_4
          have cY6_w0_5 : Y6.cell? ⟨pw0, 5, none⟩ = some (.string aw0q4) := GY6.keep cY5_w0_5
          have cY6_w0_6 : Y6.cell? ⟨pw0, 6, none⟩ = some (.slice aw0q5 lw0q5 cw0q5) := GY6.keep cY5_w0_6
          have cY6_w0_7 : Y6.cell? ⟨pw0, 7, none⟩ = some (.slice aw0q6 lw0q6 cw0q6) := GY6.keep cY5_w0_7
          have cY6_w0_8 : Y6.cell? ⟨pw0, 8, none⟩ = some (.slice aw0q7 lw0q7 cw0q7) := GY6.keep cY5_w0_8
          have cY6_x0_0 : Y6.cell? ⟨Y4.heap.size, 0, none⟩ = some (.slice ax0q0 lx0q0 cx0q0) := GY6.keep cY5_x0_0
          have cY6_x0_1 : Y6.cell? ⟨Y4.heap.size, 1, none⟩ = some (.slice ax0q1 lx0q1 cx0q1) := GY6.keep cY5_x0_1
          have zY6_box := blk cY6_box_0
          have zY6_inst := blk cY6_inst_0
          have zY6_w0 := blk cY6_w0_0
          have zY6_x0 := blk cY6_x0_0
          have rY6_w0 := Lib.hid (Rd.gr rY5_w0.out GY6)
          have rY6_x0 := Lib.hid (Rd.gr rY5_x0.out GY6)
          clear cY5_box_0 cY5_box_1 cY5_inst_0 cY5_inst_1 cY5_w0_0 cY5_w0_1 cY5_w0_2 cY5_w0_3 cY5_w0_4 cY5_w0_5 cY5_w0_6 cY5_w0_7 cY5_w0_8 cY5_x0_0 cY5_x0_1
          go_wp2_with fail
          refine (eqEntry_any _ _ _ _ yv yv _ rY6_g0.out rY6_w0.out).mono ?_
          rintro e Y7 ⟨rfl, gY7⟩
          rw [decide_eq_true rfl]
          have GY7 : Gr Y6 Y7 := ((by repeat (first | exact Gr.refl _ | apply Gr.ext | apply Gr.alloc | apply Gr.drew)) : Gr Y6 Y6).trans gY7
          have GWY7 : Gr w Y7 := GWY6.trans GY7
          have ZY7 : Y6.heap.size ≤ Y7.heap.size := GY7.size
          have cY7_box_0 : Y7.cell? ⟨w.heap.size, 0, none⟩ = some (.slice ca0 cl0 cc0) := GY7.keep cY6_box_0
          have cY7_box_1 : Y7.cell? ⟨w.heap.size, 1, none⟩ = some (.slice ca1 cl1 cc1) := GY7.keep cY6_box_1
          have cY7_inst_0 : Y7.cell? ⟨w.heap.size + 1, 0, none⟩ = some (.int .i64 d0) := GY7.keep cY6_inst_0
          have cY7_inst_1 : Y7.cell? ⟨w.heap.size + 1, 1, none⟩ = some (.string d1) := GY7.keep cY6_inst_1
          have cY7_w0_0 : Y7.cell? ⟨pw0, 0, none⟩ = some (.int .i64 aw0q00) := GY7.keep cY6_w0_0
          have cY7_w0_1 : Y7.cell? ⟨pw0, 1, none⟩ = some (.string aw0q01) := GY7.keep cY6_w0_1
          have cY7_w0_2 : Y7.cell? ⟨pw0, 2, none⟩ = some (.int .i64 aw0q1) := GY7.keep cY6_w0_2
          have cY7_w0_3 : Y7.cell? ⟨pw0, 3, none⟩ = some (.int .i64 aw0q2) := GY7.keep cY6_w0_3
          have cY7_w0_4 : Y7.cell? ⟨pw0, 4, none⟩ = some (.int .i64 aw0q3) := GY7.keep cY6_w0_4
          have cY7_w0_5 : Y7.cell? ⟨pw0, 5, none⟩ = some (.string aw0q4) := GY7.keep cY6_w0_5
          have cY7_w0_6 : Y7.cell? ⟨pw0, 6, none⟩ = some (.slice aw0q5 lw0q5 cw0q5) := GY7.keep cY6_w0_6
          have cY7_w0_7 : Y7.cell? ⟨pw0, 7, none⟩ = some (.slice aw0q6 lw0q6 cw0q6) := GY7.keep cY6_w0_7
          have cY7_w0_8 : Y7.cell? ⟨pw0, 8, none⟩ = some (.slice aw0q7 lw0q7 cw0q7) := GY7.keep cY6_w0_8
          have cY7_x0_0 : Y7.cell? ⟨Y4.heap.size, 0, none⟩ = some (.slice ax0q0 lx0q0 cx0q0) := GY7.keep cY6_x0_0
          have cY7_x0_1 : Y7.cell? ⟨Y4.heap.size, 1, none⟩ = some (.slice ax0q1 lx0q1 cx0q1) := GY7.keep cY6_x0_1
          have cY7_g0_0 : Y7.cell? ⟨pg0, 0, none⟩ = some (.int .i64 ag0q00) := GY7.keep cY6_g0_0
          have cY7_g0_1 : Y7.cell? ⟨pg0, 1, none⟩ = some (.string ag0q01) := GY7.keep cY6_g0_1
          have cY7_g0_2 : Y7.cell? ⟨pg0, 2, none⟩ = some (.int .i64 ag0q1) := GY7.keep cY6_g0_2
          have cY7_g0_3 : Y7.cell? ⟨pg0, 3, none⟩ = some (.int .i64 ag0q2) := GY7.keep cY6_g0_3
          have cY7_g0_4 : Y7.cell? ⟨pg0, 4, none⟩ = some (.int .i64 ag0q3) := GY7.keep cY6_g0_4
          have cY7_g0_5 : Y7.cell? ⟨pg0, 5, none⟩ = some (.string ag0q4) := GY7.keep cY6_g0_5
          have cY7_g0_6 : Y7.cell? ⟨pg0, 6, none⟩ = some (.slice ag0q5 lg0q5 cg0q5) := GY7.keep cY6_g0_6
          have cY7_g0_7 : Y7.cell? ⟨pg0, 7, none⟩ = some (.slice ag0q6 lg0q6 cg0q6) := GY7.keep cY6_g0_7
          have cY7_g0_8 : Y7.cell? ⟨pg0, 8, none⟩ = some (.slice ag0q7 lg0q7 cg0q7) := GY7.keep cY6_g0_8
          have zY7_box := blk cY7_box_0
          have zY7_inst := blk cY7_inst_0
          have zY7_w0 := blk cY7_w0_0
          have zY7_x0 := blk cY7_x0_0
          have zY7_g0 := blk cY7_g0_0
          have rY7_w0 := Lib.hid (Rd.gr rY6_w0.out GY7)
          have rY7_x0 := Lib.hid (Rd.gr rY6_x0.out GY7)
          have rY7_g0 := Lib.hid (Rd.gr rY6_g0.out GY7)
          clear cY6_box_0 cY6_box_1 cY6_inst_0 cY6_inst_1 cY6_w0_0 cY6_w0_1 cY6_w0_2 cY6_w0_3 cY6_w0_4 cY6_w0_5 cY6_w0_6 cY6_w0_7 cY6_w0_8 cY6_x0_0 cY6_x0_1 cY6_g0_0 cY6_g0_1 cY6_g0_2 cY6_g0_3 cY6_g0_4 cY6_g0_5 cY6_g0_6 cY6_g0_7 cY6_g0_8
          go_wp2_with fail
          have kcY7_box_0 : ∀ w' : World, Gr Y7 w' → w'.cell? ⟨w.heap.size, 0, none⟩ = some (.slice ca0 cl0 cc0) := fun w' h => h.keep cY7_box_0
          have kcY7_box_1 : ∀ w' : World, Gr Y7 w' → w'.cell? ⟨w.heap.size, 1, none⟩ = some (.slice ca1 cl1 cc1) := fun w' h => h.keep cY7_box_1
          have kcY7_inst_0 : ∀ w' : World, Gr Y7 w' → w'.cell? ⟨w.heap.size + 1, 0, none⟩ = some (.int .i64 d0) := fun w' h => h.keep cY7_inst_0
          have kcY7_inst_1 : ∀ w' : World, Gr Y7 w' → w'.cell? ⟨w.heap.size + 1, 1, none⟩ = some (.string d1) := fun w' h => h.keep cY7_inst_1
          have kcY7_w0_0 : ∀ w' : World, Gr Y7 w' → w'.cell? ⟨pw0, 0, none⟩ = some (.int .i64 aw0q00) := fun w' h => h.keep cY7_w0_0
          have kcY7_w0_1 : ∀ w' : World, Gr Y7 w' → w'.cell? ⟨pw0, 1, none⟩ = some (.string aw0q01) := fun w' h => h.keep cY7_w0_1
          have kcY7_w0_2 : ∀ w' : World, Gr Y7 w' → w'.cell? ⟨pw0, 2, none⟩ = some (.int .i64 aw0q1) := fun w' h => h.keep cY7_w0_2
          have kcY7_w0_3 : ∀ w' : World, Gr Y7 w' → w'.cell? ⟨pw0, 3, none⟩ = some (.int .i64 aw0q2) := fun w' h => h.keep cY7_w0_3
          have kcY7_w0_4 : ∀ w' : World, Gr Y7 w' → w'.cell? ⟨pw0, 4, none⟩ = some (.int .i64 aw0q3) := fun w' h => h.keep cY7_w0_4
          have kcY7_w0_5 : ∀ w' : World, Gr Y7 w' → w'.cell? ⟨pw0, 5, none⟩ = some (.string aw0q4) := fun w' h => h.keep cY7_w0_5
          have kcY7_w0_6 : ∀ w' : World, Gr Y7 w' → w'.cell? ⟨pw0, 6, none⟩ = some (.slice aw0q5 lw0q5 cw0q5) := fun w' h => h.keep cY7_w0_6
          have kcY7_w0_7 : ∀ w' : World, Gr Y7 w' → w'.cell? ⟨pw0, 7, none⟩ = some (.slice aw0q6 lw0q6 cw0q6) := fun w' h => h.keep cY7_w0_7
          have kcY7_w0_8 : ∀ w' : World, Gr Y7 w' → w'.cell? ⟨pw0, 8, none⟩ = some (.slice aw0q7 lw0q7 cw0q7) := fun w' h => h.keep cY7_w0_8
          have kcY7_x0_0 : ∀ w' : World, Gr Y7 w' → w'.cell? ⟨Y4.heap.size, 0, none⟩ = some (.slice ax0q0 lx0q0 cx0q0) := fun w' h => h.keep cY7_x0_0
          have kcY7_x0_1 : ∀ w' : World, Gr Y7 w' → w'.cell? ⟨Y4.heap.size, 1, none⟩ = some (.slice ax0q1 lx0q1 cx0q1) := fun w' h => h.keep cY7_x0_1
          have kcY7_g0_0 : ∀ w' : World, Gr Y7 w' → w'.cell? ⟨pg0, 0, none⟩ = some (.int .i64 ag0q00) := fun w' h => h.keep cY7_g0_0
          have kcY7_g0_1 : ∀ w' : World, Gr Y7 w' → w'.cell? ⟨pg0, 1, none⟩ = some (.string ag0q01) := fun w' h => h.keep cY7_g0_1
          have kcY7_g0_2 : ∀ w' : World, Gr Y7 w' → w'.cell? ⟨pg0, 2, none⟩ = some (.int .i64 ag0q1) := fun w' h => h.keep cY7_g0_2
          have kcY7_g0_3 : ∀ w' : World, Gr Y7 w' → w'.cell? ⟨pg0, 3, none⟩ = some (.int .i64 ag0q2) := fun w' h => h.keep cY7_g0_3
          have kcY7_g0_4 : ∀ w' : World, Gr Y7 w' → w'.cell? ⟨pg0, 4, none⟩ = some (.int .i64 ag0q3) := fun w' h => h.keep cY7_g0_4
          have kcY7_g0_5 : ∀ w' : World, Gr Y7 w' → w'.cell? ⟨pg0, 5, none⟩ = some (.string ag0q4) := fun w' h => h.keep cY7_g0_5
          have kcY7_g0_6 : ∀ w' : World, Gr Y7 w' → w'.cell? ⟨pg0, 6, none⟩ = some (.slice ag0q5 lg0q5 cg0q5) := fun w' h => h.keep cY7_g0_6
          have kcY7_g0_7 : ∀ w' : World, Gr Y7 w' → w'.cell? ⟨pg0, 7, none⟩ = some (.slice ag0q6 lg0q6 cg0q6) := fun w' h => h.keep cY7_g0_7
          have kcY7_g0_8 : ∀ w' : World, Gr Y7 w' → w'.cell? ⟨pg0, 8, none⟩ = some (.slice ag0q7 lg0q7 cg0q7) := fun w' h => h.keep cY7_g0_8
          go_region_held3 (fun w' => Gr Y7 w') (first | assumption | exact Gr.drew (Gr.refl _) | exact Gr.ext (by assumption) _)
            (first
              | ((go_at_call 32; refine (toMemo_any _ _ x _ (Rd.gr HX.out (GWY7.trans (by assumption))) hw).mono ?_; rintro e w' ⟨ds5, f5, rfl, s5, fr5, e1, rfl⟩))
              | ((go_at_call 36; refine (eqMemo_any _ _ _ _ x x _ (Rd.gr rY7_x0.out (by assumption)) s5).mono ?_; rintro e w' ⟨rfl, e2, rfl⟩; rw [decide_eq_true rfl])))
          have hY8 : Gr Y7 ((Y7.drew.ext e1).ext e2) := by assumption
          generalize ((Y7.drew.ext e1).ext e2) = Y8 at hY8 ⊢
          clear kcY7_box_0 kcY7_box_1 kcY7_inst_0 kcY7_inst_1 kcY7_w0_0 kcY7_w0_1 kcY7_w0_2 kcY7_w0_3 kcY7_w0_4 kcY7_w0_5 kcY7_w0_6 kcY7_w0_7 kcY7_w0_8 kcY7_x0_0 kcY7_x0_1 kcY7_g0_0 kcY7_g0_1 kcY7_g0_2 kcY7_g0_3 kcY7_g0_4 kcY7_g0_5 kcY7_g0_6 kcY7_g0_7 kcY7_g0_8
          have GY8 : Gr Y7 Y8 := ((by repeat (first | exact Gr.refl _ | apply Gr.ext | apply Gr.alloc | apply Gr.drew)) : Gr Y7 Y7).trans hY8
          have GWY8 : Gr w Y8 := GWY7.trans GY8
          have ZY8 : Y7.heap.size ≤ Y8.heap.size := GY8.size
          have cY8_box_0 : Y8.cell? ⟨w.heap.size, 0, none⟩ = some (.slice ca0 cl0 cc0) := GY8.keep cY7_box_0
          have cY8_box_1 : Y8.cell? ⟨w.heap.size, 1, none⟩ = some (.slice ca1 cl1 cc1) := GY8.keep cY7_box_1
          have cY8_inst_0 : Y8.cell? ⟨w.heap.size + 1, 0, none⟩ = some (.int .i64 d0) := GY8.keep cY7_inst_0
          have cY8_inst_1 : Y8.cell? ⟨w.heap.size + 1, 1, none⟩ = some (.string d1) := GY8.keep cY7_inst_1
          have cY8_w0_0 : Y8.cell? ⟨pw0, 0, none⟩ = some (.int .i64 aw0q00) := GY8.keep cY7_w0_0
          have cY8_w0_1 : Y8.cell? ⟨pw0, 1, none⟩ = some (.string aw0q01) := GY8.keep cY7_w0_1
          have cY8_w0_2 : Y8.cell? ⟨pw0, 2, none⟩ = some (.int .i64 aw0q1) := GY8.keep cY7_w0_2
          have cY8_w0_3 : Y8.cell? ⟨pw0, 3, none⟩ = some (.int .i64 aw0q2) := GY8.keep cY7_w0_3
          have cY8_w0_4 : Y8.cell? ⟨pw0, 4, none⟩ = some (.int .i64 aw0q3) := GY8.keep cY7_w0_4
          have cY8_w0_5 : Y8.cell? ⟨pw0, 5, none⟩ = some (.string aw0q4) := GY8.keep cY7_w0_5
          have cY8_w0_6 : Y8.cell? ⟨pw0, 6, none⟩ = some (.slice aw0q5 lw0q5 cw0q5) := GY8.keep cY7_w0_6
          have cY8_w0_7 : Y8.cell? ⟨pw0, 7, none⟩ = some (.slice aw0q6 lw0q6 cw0q6) := GY8.keep cY7_w0_7
          have cY8_w0_8 : Y8.cell? ⟨pw0, 8, none⟩ = some (.slice aw0q7 lw0q7 cw0q7) := GY8.keep cY7_w0_8
          have cY8_x0_0 : Y8.cell? ⟨Y4.heap.size, 0, none⟩ = some (.slice ax0q0 lx0q0 cx0q0) := GY8.keep cY7_x0_0
          have cY8_x0_1 : Y8.cell? ⟨Y4.heap.size, 1, none⟩ = some (.slice ax0q1 lx0q1 cx0q1) := GY8.keep cY7_x0_1
          have cY8_g0_0 : Y8.cell? ⟨pg0, 0, none⟩ = some (.int .i64 ag0q00) := GY8.keep cY7_g0_0
          have cY8_g0_1 : Y8.cell? ⟨pg0, 1, none⟩ = some (.string ag0q01) := GY8.keep cY7_g0_1
          have cY8_g0_2 : Y8.cell? ⟨pg0, 2, none⟩ = some (.int .i64 ag0q1) := GY8.keep cY7_g0_2
          have cY8_g0_3 : Y8.cell? ⟨pg0, 3, none⟩ = some (.int .i64 ag0q2) := GY8.keep cY7_g0_3
          have cY8_g0_4 : Y8.cell? ⟨pg0, 4, none⟩ = some (.int .i64 ag0q3) := GY8.keep cY7_g0_4
          have cY8_g0_5 : Y8.cell? ⟨pg0, 5, none⟩ = some (.string ag0q4) := GY8.keep cY7_g0_5
          have cY8_g0_6 : Y8.cell? ⟨pg0, 6, none⟩ = some (.slice ag0q5 lg0q5 cg0q5) := GY8.keep cY7_g0_6
          have cY8_g0_7 : Y8.cell? ⟨pg0, 7, none⟩ = some (.slice ag0q6 lg0q6 cg0q6) := GY8.keep cY7_g0_7
          have cY8_g0_8 : Y8.cell? ⟨pg0, 8, none⟩ = some (.slice ag0q7 lg0q7 cg0q7) := GY8.keep cY7_g0_8
          have zY8_box := blk cY8_box_0
          have zY8_inst := blk cY8_inst_0
          have zY8_w0 := blk cY8_w0_0
          have zY8_x0 := blk cY8_x0_0
          have zY8_g0 := blk cY8_g0_0
          have rY8_w0 := Lib.hid (Rd.gr rY7_w0.out GY8)
          have rY8_x0 := Lib.hid (Rd.gr rY7_x0.out GY8)
          have rY8_g0 := Lib.hid (Rd.gr rY7_g0.out GY8)
          clear cY7_box_0 cY7_box_1 cY7_inst_0 cY7_inst_1 cY7_w0_0 cY7_w0_1 cY7_w0_2 cY7_w0_3 cY7_w0_4 cY7_w0_5 cY7_w0_6 cY7_w0_7 cY7_w0_8 cY7_x0_0 cY7_x0_1 cY7_g0_0 cY7_g0_1 cY7_g0_2 cY7_g0_3 cY7_g0_4 cY7_g0_5 cY7_g0_6 cY7_g0_7 cY7_g0_8
          clear s5 fr5
          go_wp2_with fail
          refine (markMemo_any fx0 _ x 1 _ rY8_x0.out F_x0.out.1 (by omega) (by have := vMemo_bd 1 x; omega)).mono ?_
          rintro e Y9 ⟨rfl, sY9, gY9⟩
          have bk1 := vMemo_bd 1 x
          obtain ⟨k1, hk1⟩ : ∃ k, k = (vMemo 1 x).2 := ⟨_, rfl⟩
          rw [← hk1] at bk1 ⊢
          clear hk1
          have rY9_m := Lib.hid sY9
          clear sY9
          have ZY9 : Y8.heap.size ≤ Y9.heap.size := Nat.le_trans (Gr.size ((by repeat (first | exact Gr.refl _ | apply Gr.ext | apply Gr.alloc | apply Gr.drew)) : Gr Y8 Y8)) gY9.size
          have GWY9 : Gr w Y9 := Gr.wr ((GWY8).trans (by repeat (first | exact Gr.refl _ | apply Gr.ext | apply Gr.alloc | apply Gr.drew))) gY9 (fun b hb => by have a1 := F_x0.out.2 b hb; omega)
          have cY9_box_0 : Y9.cell? ⟨w.heap.size, 0, none⟩ = some (.slice ca0 cl0 cc0) := (World.cell?_of_block (gY9.block _ (blk (((by repeat (first | exact Gr.refl _ | apply Gr.ext | apply Gr.alloc | apply Gr.drew)) : Gr Y8 Y8).keep cY8_box_0)) (fun h => by have a1 := F_x0.out.2 (w.heap.size) h; have a2 := L_x0.out (w.heap.size) h; omega))).trans (((by repeat (first | exact Gr.refl _ | apply Gr.ext | apply Gr.alloc | apply Gr.drew)) : Gr Y8 Y8).keep cY8_box_0)
          have cY9_box_1 : Y9.cell? ⟨w.heap.size, 1, none⟩ = some (.slice ca1 cl1 cc1) := (World.cell?_of_block (gY9.block _ (blk (((by repeat (first | exact Gr.refl _ | apply Gr.ext | apply Gr.alloc | apply Gr.drew)) : Gr Y8 Y8).keep cY8_box_1)) (fun h => by have a1 := F_x0.out.2 (w.heap.size) h; have a2 := L_x0.out (w.heap.size) h; omega))).trans (((by repeat (first | exact Gr.refl _ | apply Gr.ext | apply Gr.alloc | apply Gr.drew)) : Gr Y8 Y8).keep cY8_box_1)
          have cY9_inst_0 : Y9.cell? ⟨w.heap.size + 1, 0, none⟩ = some (.int .i64 d0) := (World.cell?_of_block (gY9.block _ (blk (((by repeat (first | exact Gr.refl _ | apply Gr.ext | apply Gr.alloc | apply Gr.drew)) : Gr Y8 Y8).keep cY8_inst_0)) (fun h => by have a1 := F_x0.out.2 (w.heap.size + 1) h; have a2 := L_x0.out (w.heap.size + 1) h; omega))).trans (((by repeat (first | exact Gr.refl _ | apply Gr.ext | apply Gr.alloc | apply Gr.drew)) : Gr Y8 Y8).keep cY8_inst_0)
          have cY9_inst_1 : Y9.cell? ⟨w.heap.size + 1, 1, none⟩ = some (.string d1) := (World.cell?_of_block (gY9.block _ (blk (((by repeat (first | exact Gr.refl _ | apply Gr.ext | apply Gr.alloc | apply Gr.drew)) : Gr Y8 Y8).keep cY8_inst_1)) (fun h => by have a1 := F_x0.out.2 (w.heap.size + 1) h; have a2 := L_x0.out (w.heap.size + 1) h; omega))).trans (((by repeat (first | exact Gr.refl _ | apply Gr.ext | apply Gr.alloc | apply Gr.drew)) : Gr Y8 Y8).keep cY8_inst_1)
          have cY9_w0_0 : Y9.cell? ⟨pw0, 0, none⟩ = some (.int .i64 aw0q00) := (World.cell?_of_block (gY9.block _ (blk (((by repeat (first | exact Gr.refl _ | apply Gr.ext | apply Gr.alloc | apply Gr.drew)) : Gr Y8 Y8).keep cY8_w0_0)) (fun h => by have a1 := F_x0.out.2 (pw0) h; have a2 := L_x0.out (pw0) h; omega))).trans (((by repeat (first | exact Gr.refl _ | apply Gr.ext | apply Gr.alloc | apply Gr.drew)) : Gr Y8 Y8).keep cY8_w0_0)
          have cY9_w0_1 : Y9.cell? ⟨pw0, 1, none⟩ = some (.string aw0q01) := (World.cell?_of_block (gY9.block _ (blk (((by repeat (first | exact Gr.refl _ | apply Gr.ext | apply Gr.alloc | apply Gr.drew)) : Gr Y8 Y8).keep cY8_w0_1)) (fun h => by have a1 := F_x0.out.2 (pw0) h; have a2 := L_x0.out (pw0) h; omega))).trans (((by repeat (first | exact Gr.refl _ | apply Gr.ext | apply Gr.alloc | apply Gr.drew)) : Gr Y8 Y8).keep cY8_w0_1)
          have cY9_w0_2 : Y9.cell? ⟨pw0, 2, none⟩ = some (.int .i64 aw0q1) := (World.cell?_of_block (gY9.block _ (blk (((by repeat (first | exact Gr.refl _ | apply Gr.ext | apply Gr.alloc | apply Gr.drew)) : Gr Y8 Y8).keep cY8_w0_2)) (fun h => by have a1 := F_x0.out.2 (pw0) h; have a2 := L_x0.out (pw0) h; omega))).trans (((by repeat (first | exact Gr.refl _ | apply Gr.ext | apply Gr.alloc | apply Gr.drew)) : Gr Y8 Y8).keep cY8_w0_2)
          have cY9_w0_3 : Y9.cell? ⟨pw0, 3, none⟩ = some (.int .i64 aw0q2) := (World.cell?_of_block (gY9.block _ (blk (((by repeat (first | exact Gr.refl _ | apply Gr.ext | apply Gr.alloc | apply Gr.drew)) : Gr Y8 Y8).keep cY8_w0_3)) (fun h => by have a1 := F_x0.out.2 (pw0) h; have a2 := L_x0.out (pw0) h; omega))).trans (((by repeat (first | exact Gr.refl _ | apply Gr.ext | apply Gr.alloc | apply Gr.drew)) : Gr Y8 Y8).keep cY8_w0_3)
          have cY9_w0_4 : Y9.cell? ⟨pw0, 4, none⟩ = some (.int .i64 aw0q3) := (World.cell?_of_block (gY9.block _ (blk (((by repeat (first | exact Gr.refl _ | apply Gr.ext | apply Gr.alloc | apply Gr.drew)) : Gr Y8 Y8).keep cY8_w0_4)) (fun h => by have a1 := F_x0.out.2 (pw0) h; have a2 := L_x0.out (pw0) h; omega))).trans (((by repeat (first | exact Gr.refl _ | apply Gr.ext | apply Gr.alloc | apply Gr.drew)) : Gr Y8 Y8).keep cY8_w0_4)
          have cY9_w0_5 : Y9.cell? ⟨pw0, 5, none⟩ = some (.string aw0q4) := (World.cell?_of_block (gY9.block _ (blk (((by repeat (first | exact Gr.refl _ | apply Gr.ext | apply Gr.alloc | apply Gr.drew)) : Gr Y8 Y8).keep cY8_w0_5)) (fun h => by have a1 := F_x0.out.2 (pw0) h; have a2 := L_x0.out (pw0) h; omega))).trans (((by repeat (first | exact Gr.refl _ | apply Gr.ext | apply Gr.alloc | apply Gr.drew)) : Gr Y8 Y8).keep cY8_w0_5)
          have cY9_w0_6 : Y9.cell? ⟨pw0, 6, none⟩ = some (.slice aw0q5 lw0q5 cw0q5) := (World.cell?_of_block (gY9.block _ (blk (((by repeat (first | exact Gr.refl _ | apply Gr.ext | apply Gr.alloc | apply Gr.drew)) : Gr Y8 Y8).keep cY8_w0_6)) (fun h => by have a1 := F_x0.out.2 (pw0) h; have a2 := L_x0.out (pw0) h; omega))).trans (((by repeat (first | exact Gr.refl _ | apply Gr.ext | apply Gr.alloc | apply Gr.drew)) : Gr Y8 Y8).keep cY8_w0_6)
          have cY9_w0_7 : Y9.cell? ⟨pw0, 7, none⟩ = some (.slice aw0q6 lw0q6 cw0q6) := (World.cell?_of_block (gY9.block _ (blk (((by repeat (first | exact Gr.refl _ | apply Gr.ext | apply Gr.alloc | apply Gr.drew)) : Gr Y8 Y8).keep cY8_w0_7)) (fun h => by have a1 := F_x0.out.2 (pw0) h; have a2 := L_x0.out (pw0) h; omega))).trans (((by repeat (first | exact Gr.refl _ | apply Gr.ext | apply Gr.alloc | apply Gr.drew)) : Gr Y8 Y8).keep cY8_w0_7)
          have cY9_w0_8 : Y9.cell? ⟨pw0, 8, none⟩ = some (.slice aw0q7 lw0q7 cw0q7) := (World.cell?_of_block (gY9.block _ (blk (((by repeat (first | exact Gr.refl _ | apply Gr.ext | apply Gr.alloc | apply Gr.drew)) : Gr Y8 Y8).keep cY8_w0_8)) (fun h => by have a1 := F_x0.out.2 (pw0) h; have a2 := L_x0.out (pw0) h; omega))).trans (((by repeat (first | exact Gr.refl _ | apply Gr.ext | apply Gr.alloc | apply Gr.drew)) : Gr Y8 Y8).keep cY8_w0_8)
          have cY9_x0_0 : Y9.cell? ⟨Y4.heap.size, 0, none⟩ = some (.slice ax0q0 lx0q0 cx0q0) := (World.cell?_of_block (gY9.block _ (blk (((by repeat (first | exact Gr.refl _ | apply Gr.ext | apply Gr.alloc | apply Gr.drew)) : Gr Y8 Y8).keep cY8_x0_0)) (fun h => by have a1 := F_x0.out.2 (Y4.heap.size) h; have a2 := L_x0.out (Y4.heap.size) h; omega))).trans (((by repeat (first | exact Gr.refl _ | apply Gr.ext | apply Gr.alloc | apply Gr.drew)) : Gr Y8 Y8).keep cY8_x0_0)
          have cY9_x0_1 : Y9.cell? ⟨Y4.heap.size, 1, none⟩ = some (.slice ax0q1 lx0q1 cx0q1) := (World.cell?_of_block (gY9.block _ (blk (((by repeat (first | exact Gr.refl _ | apply Gr.ext | apply Gr.alloc | apply Gr.drew)) : Gr Y8 Y8).keep cY8_x0_1)) (fun h => by have a1 := F_x0.out.2 (Y4.heap.size) h; have a2 := L_x0.out (Y4.heap.size) h; omega))).trans (((by repeat (first | exact Gr.refl _ | apply Gr.ext | apply Gr.alloc | apply Gr.drew)) : Gr Y8 Y8).keep cY8_x0_1)
          have cY9_g0_0 : Y9.cell? ⟨pg0, 0, none⟩ = some (.int .i64 ag0q00) := (World.cell?_of_block (gY9.block _ (blk (((by repeat (first | exact Gr.refl _ | apply Gr.ext | apply Gr.alloc | apply Gr.drew)) : Gr Y8 Y8).keep cY8_g0_0)) (fun h => by have a1 := F_x0.out.2 (pg0) h; have a2 := L_x0.out (pg0) h; omega))).trans (((by repeat (first | exact Gr.refl _ | apply Gr.ext | apply Gr.alloc | apply Gr.drew)) : Gr Y8 Y8).keep cY8_g0_0)
          have cY9_g0_1 : Y9.cell? ⟨pg0, 1, none⟩ = some (.string ag0q01) := (World.cell?_of_block (gY9.block _ (blk (((by repeat (first | exact Gr.refl _ | apply Gr.ext | apply Gr.alloc | apply Gr.drew)) : Gr Y8 Y8).keep cY8_g0_1)) (fun h => by have a1 := F_x0.out.2 (pg0) h; have a2 := L_x0.out (pg0) h; omega))).trans (((by repeat (first | exact Gr.refl _ | apply Gr.ext | apply Gr.alloc | apply Gr.drew)) : Gr Y8 Y8).keep cY8_g0_1)
          have cY9_g0_2 : Y9.cell? ⟨pg0, 2, none⟩ = some (.int .i64 ag0q1) := (World.cell?_of_block (gY9.block _ (blk (((by repeat (first | exact Gr.refl _ | apply Gr.ext | apply Gr.alloc | apply Gr.drew)) : Gr Y8 Y8).keep cY8_g0_2)) (fun h => by have a1 := F_x0.out.2 (pg0) h; have a2 := L_x0.out (pg0) h; omega))).trans (((by repeat (first | exact Gr.refl _ | apply Gr.ext | apply Gr.alloc | apply Gr.drew)) : Gr Y8 Y8).keep cY8_g0_2)
          have cY9_g0_3 : Y9.cell? ⟨pg0, 3, none⟩ = some (.int .i64 ag0q2) := (World.cell?_of_block (gY9.block _ (blk (((by repeat (first | exact Gr.refl _ | apply Gr.ext | apply Gr.alloc | apply Gr.drew)) : Gr Y8 Y8).keep cY8_g0_3)) (fun h => by have a1 := F_x0.out.2 (pg0) h; have a2 := L_x0.out (pg0) h; omega))).trans (((by repeat (first | exact Gr.refl _ | apply Gr.ext | apply Gr.alloc | apply Gr.drew)) : Gr Y8 Y8).keep cY8_g0_3)
          have cY9_g0_4 : Y9.cell? ⟨pg0, 4, none⟩ = some (.int .i64 ag0q3) := (World.cell?_of_block (gY9.block _ (blk (((by repeat (first | exact Gr.refl _ | apply Gr.ext | apply Gr.alloc | apply Gr.drew)) : Gr Y8 Y8).keep cY8_g0_4)) (fun h => by have a1 := F_x0.out.2 (pg0) h; have a2 := L_x0.out (pg0) h; omega))).trans (((by repeat (first | exact Gr.refl _ | apply Gr.ext | apply Gr.alloc | apply Gr.drew)) : Gr Y8 Y8).keep cY8_g0_4)
          have cY9_g0_5 : Y9.cell? ⟨pg0, 5, none⟩ = some (.string ag0q4) := (World.cell?_of_block (gY9.block _ (blk (((by repeat (first | exact Gr.refl _ | apply Gr.ext | apply Gr.alloc | apply Gr.drew)) : Gr Y8 Y8).keep cY8_g0_5)) (fun h => by have a1 := F_x0.out.2 (pg0) h; have a2 := L_x0.out (pg0) h; omega))).trans (((by repeat (first | exact Gr.refl _ | apply Gr.ext | apply Gr.alloc | apply Gr.drew)) : Gr Y8 Y8).keep cY8_g0_5)
          have cY9_g0_6 : Y9.cell? ⟨pg0, 6, none⟩ = some (.slice ag0q5 lg0q5 cg0q5) := (World.cell?_of_block (gY9.block _ (blk (((by repeat (first | exact Gr.refl _ | apply Gr.ext | apply Gr.alloc | apply Gr.drew)) : Gr Y8 Y8).keep cY8_g0_6)) (fun h => by have a1 := F_x0.out.2 (pg0) h; have a2 := L_x0.out (pg0) h; omega))).trans (((by repeat (first | exact Gr.refl _ | apply Gr.ext | apply Gr.alloc | apply Gr.drew)) : Gr Y8 Y8).keep cY8_g0_6)
          have cY9_g0_7 : Y9.cell? ⟨pg0, 7, none⟩ = some (.slice ag0q6 lg0q6 cg0q6) := (World.cell?_of_block (gY9.block _ (blk (((by repeat (first | exact Gr.refl _ | apply Gr.ext | apply Gr.alloc | apply Gr.drew)) : Gr Y8 Y8).keep cY8_g0_7)) (fun h => by have a1 := F_x0.out.2 (pg0) h; have a2 := L_x0.out (pg0) h; omega))).trans (((by repeat (first | exact Gr.refl _ | apply Gr.ext | apply Gr.alloc | apply Gr.drew)) : Gr Y8 Y8).keep cY8_g0_7)
          have cY9_g0_8 : Y9.cell? ⟨pg0, 8, none⟩ = some (.slice ag0q7 lg0q7 cg0q7) := (World.cell?_of_block (gY9.block _ (blk (((by repeat (first | exact Gr.refl _ | apply Gr.ext | apply Gr.alloc | apply Gr.drew)) : Gr Y8 Y8).keep cY8_g0_8)) (fun h => by have a1 := F_x0.out.2 (pg0) h; have a2 := L_x0.out (pg0) h; omega))).trans (((by repeat (first | exact Gr.refl _ | apply Gr.ext | apply Gr.alloc | apply Gr.drew)) : Gr Y8 Y8).keep cY8_g0_8)
          have zY9_box := blk cY9_box_0
          have zY9_inst := blk cY9_inst_0
          have zY9_w0 := blk cY9_w0_0
          have zY9_x0 := blk cY9_x0_0
          have zY9_g0 := blk cY9_g0_0
          have rY9_w0 := Lib.hid (Rd.wr (Rd.gr rY8_w0.out ((by repeat (first | exact Gr.refl _ | apply Gr.ext | apply Gr.alloc | apply Gr.drew)) : Gr Y8 Y8)) gY9 (fun b h1 h2 => by have a1 := F_x0.out.2 _ h2; have a2 := L_x0.out _ h2; have a3 := F_w0.out.2 _ h1; have a4 := L_w0.out _ h1; omega))
          have rY9_g0 := Lib.hid (Rd.wr (Rd.gr rY8_g0.out ((by repeat (first | exact Gr.refl _ | apply Gr.ext | apply Gr.alloc | apply Gr.drew)) : Gr Y8 Y8)) gY9 (fun b h1 h2 => by have a1 := F_x0.out.2 _ h2; have a2 := L_x0.out _ h2; have a3 := F_g0.out.2 _ h1; have a4 := L_g0.out _ h1; omega))
          clear cY8_box_0 cY8_box_1 cY8_inst_0 cY8_inst_1 cY8_w0_0 cY8_w0_1 cY8_w0_2 cY8_w0_3 cY8_w0_4 cY8_w0_5 cY8_w0_6 cY8_w0_7 cY8_w0_8 cY8_x0_0 cY8_x0_1 cY8_g0_0 cY8_g0_1 cY8_g0_2 cY8_g0_3 cY8_g0_4 cY8_g0_5 cY8_g0_6 cY8_g0_7 cY8_g0_8
          go_wp2_with fail
          refine (eqEntry_any _ _ _ _ yv yv _ rY9_g0.out rY9_w0.out).mono ?_
          rintro e Y10 ⟨rfl, gY10⟩
          rw [decide_eq_true rfl]
          have GY10 : Gr Y9 Y10 := ((by repeat (first | exact Gr.refl _ | apply Gr.ext | apply Gr.alloc | apply Gr.drew)) : Gr Y9 Y9).trans gY10
          have GWY10 : Gr w Y10 := GWY9.trans GY10
          have ZY10 : Y9.heap.size ≤ Y10.heap.size := GY10.size
          have cY10_box_0 : Y10.cell? ⟨w.heap.size, 0, none⟩ = some (.slice ca0 cl0 cc0) := GY10.keep cY9_box_0
          have cY10_box_1 : Y10.cell? ⟨w.heap.size, 1, none⟩ = some (.slice ca1 cl1 cc1) := GY10.keep cY9_box_1
          have cY10_inst_0 : Y10.cell? ⟨w.heap.size + 1, 0, none⟩ = some (.int .i64 d0) := GY10.keep cY9_inst_0
          have cY10_inst_1 : Y10.cell? ⟨w.heap.size + 1, 1, none⟩ = some (.string d1) := GY10.keep cY9_inst_1
          have cY10_w0_0 : Y10.cell? ⟨pw0, 0, none⟩ = some (.int .i64 aw0q00) := GY10.keep cY9_w0_0
          have cY10_w0_1 : Y10.cell? ⟨pw0, 1, none⟩ = some (.string aw0q01) := GY10.keep cY9_w0_1
          have cY10_w0_2 : Y10.cell? ⟨pw0, 2, none⟩ = some (.int .i64 aw0q1) := GY10.keep cY9_w0_2
          have cY10_w0_3 : Y10.cell? ⟨pw0, 3, none⟩ = some (.int .i64 aw0q2) := GY10.keep cY9_w0_3
          have cY10_w0_4 : Y10.cell? ⟨pw0, 4, none⟩ = some (.int .i64 aw0q3) := GY10.keep cY9_w0_4
          have cY10_w0_5 : Y10.cell? ⟨pw0, 5, none⟩ = some (.string aw0q4) := GY10.keep cY9_w0_5
          have cY10_w0_6 : Y10.cell? ⟨pw0, 6, none⟩ = some (.slice aw0q5 lw0q5 cw0q5) := GY10.keep cY9_w0_6
          have cY10_w0_7 : Y10.cell? ⟨pw0, 7, none⟩ = some (.slice aw0q6 lw0q6 cw0q6) := GY10.keep cY9_w0_7
          have cY10_w0_8 : Y10.cell? ⟨pw0, 8, none⟩ = some (.slice aw0q7 lw0q7 cw0q7) := GY10.keep cY9_w0_8
          have cY10_x0_0 : Y10.cell? ⟨Y4.heap.size, 0, none⟩ = some (.slice ax0q0 lx0q0 cx0q0) := GY10.keep cY9_x0_0
          have cY10_x0_1 : Y10.cell? ⟨Y4.heap.size, 1, none⟩ = some (.slice ax0q1 lx0q1 cx0q1) := GY10.keep cY9_x0_1
          have cY10_g0_0 : Y10.cell? ⟨pg0, 0, none⟩ = some (.int .i64 ag0q00) := GY10.keep cY9_g0_0
          have cY10_g0_1 : Y10.cell? ⟨pg0, 1, none⟩ = some (.string ag0q01) := GY10.keep cY9_g0_1
          have cY10_g0_2 : Y10.cell? ⟨pg0, 2, none⟩ = some (.int .i64 ag0q1) := GY10.keep cY9_g0_2
          have cY10_g0_3 : Y10.cell? ⟨pg0, 3, none⟩ = some (.int .i64 ag0q2) := GY10.keep cY9_g0_3
          have cY10_g0_4 : Y10.cell? ⟨pg0, 4, none⟩ = some (.int .i64 ag0q3) := GY10.keep cY9_g0_4
          have cY10_g0_5 : Y10.cell? ⟨pg0, 5, none⟩ = some (.string ag0q4) := GY10.keep cY9_g0_5
          have cY10_g0_6 : Y10.cell? ⟨pg0, 6, none⟩ = some (.slice ag0q5 lg0q5 cg0q5) := GY10.keep cY9_g0_6
          have cY10_g0_7 : Y10.cell? ⟨pg0, 7, none⟩ = some (.slice ag0q6 lg0q6 cg0q6) := GY10.keep cY9_g0_7
          have cY10_g0_8 : Y10.cell? ⟨pg0, 8, none⟩ = some (.slice ag0q7 lg0q7 cg0q7) := GY10.keep cY9_g0_8
          have zY10_box := blk cY10_box_0
          have zY10_inst := blk cY10_inst_0
          have zY10_w0 := blk cY10_w0_0
          have zY10_x0 := blk cY10_x0_0
          have zY10_g0 := blk cY10_g0_0
          have rY10_w0 := Lib.hid (Rd.gr rY9_w0.out GY10)
          have rY10_g0 := Lib.hid (Rd.gr rY9_g0.out GY10)
          clear cY9_box_0 cY9_box_1 cY9_inst_0 cY9_inst_1 cY9_w0_0 cY9_w0_1 cY9_w0_2 cY9_w0_3 cY9_w0_4 cY9_w0_5 cY9_w0_6 cY9_w0_7 cY9_w0_8 cY9_x0_0 cY9_x0_1 cY9_g0_0 cY9_g0_1 cY9_g0_2 cY9_g0_3 cY9_g0_4 cY9_g0_5 cY9_g0_6 cY9_g0_7 cY9_g0_8
          go_wp2_with fail
          have mb := vEntry_bd 1 yv
          have mb0 : ¬ (vEntry 1 yv).2 < 0 := by omega
          have MB1 := Lib.hid (show (vEntry 1 yv).2 ≤ 4398046511104 by omega)
          clear mb
          refine (markEntry_any fg0 _ yv 1 _ rY10_g0.out F_g0.out.1 (by omega) MB1.out).mono ?_
          rintro e Y11 ⟨rfl, sY11, gY11⟩
          have rY11_g := Lib.hid sY11
          clear sY11
          have ZY11 : Y10.heap.size ≤ Y11.heap.size := Nat.le_trans (Gr.size ((by repeat (first | exact Gr.refl _ | apply Gr.ext | apply Gr.alloc | apply Gr.drew)) : Gr Y10 Y10)) gY11.size
          have GWY11 : Gr w Y11 := Gr.wr ((GWY10).trans (by repeat (first | exact Gr.refl _ | apply Gr.ext | apply Gr.alloc | apply Gr.drew))) gY11 (fun b hb => by have a1 := F_g0.out.2 b hb; omega)
          have cY11_box_0 : Y11.cell? ⟨w.heap.size, 0, none⟩ = some (.slice ca0 cl0 cc0) := (World.cell?_of_block (gY11.block _ (blk (((by repeat (first | exact Gr.refl _ | apply Gr.ext | apply Gr.alloc | apply Gr.drew)) : Gr Y10 Y10).keep cY10_box_0)) (fun h => by have a1 := F_g0.out.2 (w.heap.size) h; have a2 := L_g0.out (w.heap.size) h; omega))).trans (((by repeat (first | exact Gr.refl _ | apply Gr.ext | apply Gr.alloc | apply Gr.drew)) : Gr Y10 Y10).keep cY10_box_0)
          have cY11_box_1 : Y11.cell? ⟨w.heap.size, 1, none⟩ = some (.slice ca1 cl1 cc1) := (World.cell?_of_block (gY11.block _ (blk (((by repeat (first | exact Gr.refl _ | apply Gr.ext | apply Gr.alloc | apply Gr.drew)) : Gr Y10 Y10).keep cY10_box_1)) (fun h => by have a1 := F_g0.out.2 (w.heap.size) h; have a2 := L_g0.out (w.heap.size) h; omega))).trans (((by repeat (first | exact Gr.refl _ | apply Gr.ext | apply Gr.alloc | apply Gr.drew)) : Gr Y10 Y10).keep cY10_box_1)
          have cY11_inst_0 : Y11.cell? ⟨w.heap.size + 1, 0, none⟩ = some (.int .i64 d0) := (World.cell?_of_block (gY11.block _ (blk (((by repeat (first | exact Gr.refl _ | apply Gr.ext | apply Gr.alloc | apply Gr.drew)) : Gr Y10 Y10).keep cY10_inst_0)) (fun h => by have a1 := F_g0.out.2 (w.heap.size + 1) h; have a2 := L_g0.out (w.heap.size + 1) h; omega))).trans (((by repeat (first | exact Gr.refl _ | apply Gr.ext | apply Gr.alloc | apply Gr.drew)) : Gr Y10 Y10).keep cY10_inst_0)
          have cY11_inst_1 : Y11.cell? ⟨w.heap.size + 1, 1, none⟩ = some (.string d1) := (World.cell?_of_block (gY11.block _ (blk (((by repeat (first | exact Gr.refl _ | apply Gr.ext | apply Gr.alloc | apply Gr.drew)) : Gr Y10 Y10).keep cY10_inst_1)) (fun h => by have a1 := F_g0.out.2 (w.heap.size + 1) h; have a2 := L_g0.out (w.heap.size + 1) h; omega))).trans (((by repeat (first | exact Gr.refl _ | apply Gr.ext | apply Gr.alloc | apply Gr.drew)) : Gr Y10 Y10).keep cY10_inst_1)
          have cY11_w0_0 : Y11.cell? ⟨pw0, 0, none⟩ = some (.int .i64 aw0q00) := (World.cell?_of_block (gY11.block _ (blk (((by repeat (first | exact Gr.refl _ | apply Gr.ext | apply Gr.alloc | apply Gr.drew)) : Gr Y10 Y10).keep cY10_w0_0)) (fun h => by have a1 := F_g0.out.2 (pw0) h; have a2 := L_g0.out (pw0) h; omega))).trans (((by repeat (first | exact Gr.refl _ | apply Gr.ext | apply Gr.alloc | apply Gr.drew)) : Gr Y10 Y10).keep cY10_w0_0)
          have cY11_w0_1 : Y11.cell? ⟨pw0, 1, none⟩ = some (.string aw0q01) := (World.cell?_of_block (gY11.block _ (blk (((by repeat (first | exact Gr.refl _ | apply Gr.ext | apply Gr.alloc | apply Gr.drew)) : Gr Y10 Y10).keep cY10_w0_1)) (fun h => by have a1 := F_g0.out.2 (pw0) h; have a2 := L_g0.out (pw0) h; omega))).trans (((by repeat (first | exact Gr.refl _ | apply Gr.ext | apply Gr.alloc | apply Gr.drew)) : Gr Y10 Y10).keep cY10_w0_1)
          have cY11_w0_2 : Y11.cell? ⟨pw0, 2, none⟩ = some (.int .i64 aw0q1) := (World.cell?_of_block (gY11.block _ (blk (((by repeat (first | exact Gr.refl _ | apply Gr.ext | apply Gr.alloc | apply Gr.drew)) : Gr Y10 Y10).keep cY10_w0_2)) (fun h => by have a1 := F_g0.out.2 (pw0) h; have a2 := L_g0.out (pw0) h; omega))).trans (((by repeat (first | exact Gr.refl _ | apply Gr.ext | apply Gr.alloc | apply Gr.drew)) : Gr Y10 Y10).keep cY10_w0_2)
          have cY11_w0_3 : Y11.cell? ⟨pw0, 3, none⟩ = some (.int .i64 aw0q2) := (World.cell?_of_block (gY11.block _ (blk (((by repeat (first | exact Gr.refl _ | apply Gr.ext | apply Gr.alloc | apply Gr.drew)) : Gr Y10 Y10).keep cY10_w0_3)) (fun h => by have a1 := F_g0.out.2 (pw0) h; have a2 := L_g0.out (pw0) h; omega))).trans (((by repeat (first | exact Gr.refl _ | apply Gr.ext | apply Gr.alloc | apply Gr.drew)) : Gr Y10 Y10).keep cY10_w0_3)
          have cY11_w0_4 : Y11.cell? ⟨pw0, 4, none⟩ = some (.int .i64 aw0q3) := (World.cell?_of_block (gY11.block _ (blk (((by repeat (first | exact Gr.refl _ | apply Gr.ext | apply Gr.alloc | apply Gr.drew)) : Gr Y10 Y10).keep cY10_w0_4)) (fun h => by have a1 := F_g0.out.2 (pw0) h; have a2 := L_g0.out (pw0) h; omega))).trans (((by repeat (first | exact Gr.refl _ | apply Gr.ext | apply Gr.alloc | apply Gr.drew)) : Gr Y10 Y10).keep cY10_w0_4)
          have cY11_w0_5 : Y11.cell? ⟨pw0, 5, none⟩ = some (.string aw0q4) := (World.cell?_of_block (gY11.block _ (blk (((by repeat (first | exact Gr.refl _ | apply Gr.ext | apply Gr.alloc | apply Gr.drew)) : Gr Y10 Y10).keep cY10_w0_5)) (fun h => by have a1 := F_g0.out.2 (pw0) h; have a2 := L_g0.out (pw0) h; omega))).trans (((by repeat (first | exact Gr.refl _ | apply Gr.ext | apply Gr.alloc | apply Gr.drew)) : Gr Y10 Y10).keep cY10_w0_5)
          have cY11_w0_6 : Y11.cell? ⟨pw0, 6, none⟩ = some (.slice aw0q5 lw0q5 cw0q5) := (World.cell?_of_block (gY11.block _ (blk (((by repeat (first | exact Gr.refl _ | apply Gr.ext | apply Gr.alloc | apply Gr.drew)) : Gr Y10 Y10).keep cY10_w0_6)) (fun h => by have a1 := F_g0.out.2 (pw0) h; have a2 := L_g0.out (pw0) h; omega))).trans (((by repeat (first | exact Gr.refl _ | apply Gr.ext | apply Gr.alloc | apply Gr.drew)) : Gr Y10 Y10).keep cY10_w0_6)
          have cY11_w0_7 : Y11.cell? ⟨pw0, 7, none⟩ = some (.slice aw0q6 lw0q6 cw0q6) := (World.cell?_of_block (gY11.block _ (blk (((by repeat (first | exact Gr.refl _ | apply Gr.ext | apply Gr.alloc | apply Gr.drew)) : Gr Y10 Y10).keep cY10_w0_7)) (fun h => by have a1 := F_g0.out.2 (pw0) h; have a2 := L_g0.out (pw0) h; omega))).trans (((by repeat (first | exact Gr.refl _ | apply Gr.ext | apply Gr.alloc | apply Gr.drew)) : Gr Y10 Y10).keep cY10_w0_7)
          have cY11_w0_8 : Y11.cell? ⟨pw0, 8, none⟩ = some (.slice aw0q7 lw0q7 cw0q7) := (World.cell?_of_block (gY11.block _ (blk (((by repeat (first | exact Gr.refl _ | apply Gr.ext | apply Gr.alloc | apply Gr.drew)) : Gr Y10 Y10).keep cY10_w0_8)) (fun h => by have a1 := F_g0.out.2 (pw0) h; have a2 := L_g0.out (pw0) h; omega))).trans (((by repeat (first | exact Gr.refl _ | apply Gr.ext | apply Gr.alloc | apply Gr.drew)) : Gr Y10 Y10).keep cY10_w0_8)
          have cY11_x0_0 : Y11.cell? ⟨Y4.heap.size, 0, none⟩ = some (.slice ax0q0 lx0q0 cx0q0) := (World.cell?_of_block (gY11.block _ (blk (((by repeat (first | exact Gr.refl _ | apply Gr.ext | apply Gr.alloc | apply Gr.drew)) : Gr Y10 Y10).keep cY10_x0_0)) (fun h => by have a1 := F_g0.out.2 (Y4.heap.size) h; have a2 := L_g0.out (Y4.heap.size) h; omega))).trans (((by repeat (first | exact Gr.refl _ | apply Gr.ext | apply Gr.alloc | apply Gr.drew)) : Gr Y10 Y10).keep cY10_x0_0)
          have cY11_x0_1 : Y11.cell? ⟨Y4.heap.size, 1, none⟩ = some (.slice ax0q1 lx0q1 cx0q1) := (World.cell?_of_block (gY11.block _ (blk (((by repeat (first | exact Gr.refl _ | apply Gr.ext | apply Gr.alloc | apply Gr.drew)) : Gr Y10 Y10).keep cY10_x0_1)) (fun h => by have a1 := F_g0.out.2 (Y4.heap.size) h; have a2 := L_g0.out (Y4.heap.size) h; omega))).trans (((by repeat (first | exact Gr.refl _ | apply Gr.ext | apply Gr.alloc | apply Gr.drew)) : Gr Y10 Y10).keep cY10_x0_1)
          have cY11_g0_0 : Y11.cell? ⟨pg0, 0, none⟩ = some (.int .i64 ag0q00) := (World.cell?_of_block (gY11.block _ (blk (((by repeat (first | exact Gr.refl _ | apply Gr.ext | apply Gr.alloc | apply Gr.drew)) : Gr Y10 Y10).keep cY10_g0_0)) (fun h => D_g0.out (pg0) h rfl))).trans (((by repeat (first | exact Gr.refl _ | apply Gr.ext | apply Gr.alloc | apply Gr.drew)) : Gr Y10 Y10).keep cY10_g0_0)
          have cY11_g0_1 : Y11.cell? ⟨pg0, 1, none⟩ = some (.string ag0q01) := (World.cell?_of_block (gY11.block _ (blk (((by repeat (first | exact Gr.refl _ | apply Gr.ext | apply Gr.alloc | apply Gr.drew)) : Gr Y10 Y10).keep cY10_g0_1)) (fun h => D_g0.out (pg0) h rfl))).trans (((by repeat (first | exact Gr.refl _ | apply Gr.ext | apply Gr.alloc | apply Gr.drew)) : Gr Y10 Y10).keep cY10_g0_1)
          have cY11_g0_2 : Y11.cell? ⟨pg0, 2, none⟩ = some (.int .i64 ag0q1) := (World.cell?_of_block (gY11.block _ (blk (((by repeat (first | exact Gr.refl _ | apply Gr.ext | apply Gr.alloc | apply Gr.drew)) : Gr Y10 Y10).keep cY10_g0_2)) (fun h => D_g0.out (pg0) h rfl))).trans (((by repeat (first | exact Gr.refl _ | apply Gr.ext | apply Gr.alloc | apply Gr.drew)) : Gr Y10 Y10).keep cY10_g0_2)
          have cY11_g0_3 : Y11.cell? ⟨pg0, 3, none⟩ = some (.int .i64 ag0q2) := (World.cell?_of_block (gY11.block _ (blk (((by repeat (first | exact Gr.refl _ | apply Gr.ext | apply Gr.alloc | apply Gr.drew)) : Gr Y10 Y10).keep cY10_g0_3)) (fun h => D_g0.out (pg0) h rfl))).trans (((by repeat (first | exact Gr.refl _ | apply Gr.ext | apply Gr.alloc | apply Gr.drew)) : Gr Y10 Y10).keep cY10_g0_3)
          have cY11_g0_4 : Y11.cell? ⟨pg0, 4, none⟩ = some (.int .i64 ag0q3) := (World.cell?_of_block (gY11.block _ (blk (((by repeat (first | exact Gr.refl _ | apply Gr.ext | apply Gr.alloc | apply Gr.drew)) : Gr Y10 Y10).keep cY10_g0_4)) (fun h => D_g0.out (pg0) h rfl))).trans (((by repeat (first | exact Gr.refl _ | apply Gr.ext | apply Gr.alloc | apply Gr.drew)) : Gr Y10 Y10).keep cY10_g0_4)
          have cY11_g0_5 : Y11.cell? ⟨pg0, 5, none⟩ = some (.string ag0q4) := (World.cell?_of_block (gY11.block _ (blk (((by repeat (first | exact Gr.refl _ | apply Gr.ext | apply Gr.alloc | apply Gr.drew)) : Gr Y10 Y10).keep cY10_g0_5)) (fun h => D_g0.out (pg0) h rfl))).trans (((by repeat (first | exact Gr.refl _ | apply Gr.ext | apply Gr.alloc | apply Gr.drew)) : Gr Y10 Y10).keep cY10_g0_5)
          have cY11_g0_6 : Y11.cell? ⟨pg0, 6, none⟩ = some (.slice ag0q5 lg0q5 cg0q5) := (World.cell?_of_block (gY11.block _ (blk (((by repeat (first | exact Gr.refl _ | apply Gr.ext | apply Gr.alloc | apply Gr.drew)) : Gr Y10 Y10).keep cY10_g0_6)) (fun h => D_g0.out (pg0) h rfl))).trans (((by repeat (first | exact Gr.refl _ | apply Gr.ext | apply Gr.alloc | apply Gr.drew)) : Gr Y10 Y10).keep cY10_g0_6)
          have cY11_g0_7 : Y11.cell? ⟨pg0, 7, none⟩ = some (.slice ag0q6 lg0q6 cg0q6) := (World.cell?_of_block (gY11.block _ (blk (((by repeat (first | exact Gr.refl _ | apply Gr.ext | apply Gr.alloc | apply Gr.drew)) : Gr Y10 Y10).keep cY10_g0_7)) (fun h => D_g0.out (pg0) h rfl))).trans (((by repeat (first | exact Gr.refl _ | apply Gr.ext | apply Gr.alloc | apply Gr.drew)) : Gr Y10 Y10).keep cY10_g0_7)
          have cY11_g0_8 : Y11.cell? ⟨pg0, 8, none⟩ = some (.slice ag0q7 lg0q7 cg0q7) := (World.cell?_of_block (gY11.block _ (blk (((by repeat (first | exact Gr.refl _ | apply Gr.ext | apply Gr.alloc | apply Gr.drew)) : Gr Y10 Y10).keep cY10_g0_8)) (fun h => D_g0.out (pg0) h rfl))).trans (((by repeat (first | exact Gr.refl _ | apply Gr.ext | apply Gr.alloc | apply Gr.drew)) : Gr Y10 Y10).keep cY10_g0_8)
          have zY11_box := blk cY11_box_0
          have zY11_inst := blk cY11_inst_0
          have zY11_w0 := blk cY11_w0_0
          have zY11_x0 := blk cY11_x0_0
          have zY11_g0 := blk cY11_g0_0
          have rY11_w0 := Lib.hid (Rd.wr (Rd.gr rY10_w0.out ((by repeat (first | exact Gr.refl _ | apply Gr.ext | apply Gr.alloc | apply Gr.drew)) : Gr Y10 Y10)) gY11 (fun b h1 h2 => by have a1 := F_g0.out.2 _ h2; have a2 := L_g0.out _ h2; have a3 := F_w0.out.2 _ h1; have a4 := L_w0.out _ h1; omega))
          clear cY10_box_0 cY10_box_1 cY10_inst_0 cY10_inst_1 cY10_w0_0 cY10_w0_1 cY10_w0_2 cY10_w0_3 cY10_w0_4 cY10_w0_5 cY10_w0_6 cY10_w0_7 cY10_w0_8 cY10_x0_0 cY10_x0_1 cY10_g0_0 cY10_g0_1 cY10_g0_2 cY10_g0_3 cY10_g0_4 cY10_g0_5 cY10_g0_6 cY10_g0_7 cY10_g0_8
          go_wp2_with fail
          refine (heldEntry_any _ _ yv 1 _ rY11_g.out (by omega) MB1.out).mono ?_
          rintro e Y12 ⟨rfl, gY12⟩
          have GY12 : Gr Y11 Y12 := ((by repeat (first | exact Gr.refl _ | apply Gr.ext | apply Gr.alloc | apply Gr.drew)) : Gr Y11 Y11).trans gY12
          have GWY12 : Gr w Y12 := GWY11.trans GY12
          have ZY12 : Y11.heap.size ≤ Y12.heap.size := GY12.size
          have cY12_box_0 : Y12.cell? ⟨w.heap.size, 0, none⟩ = some (.slice ca0 cl0 cc0) := GY12.keep cY11_box_0
          have cY12_box_1 : Y12.cell? ⟨w.heap.size, 1, none⟩ = some (.slice ca1 cl1 cc1) := GY12.keep cY11_box_1
          have cY12_inst_0 : Y12.cell? ⟨w.heap.size + 1, 0, none⟩ = some (.int .i64 d0) := GY12.keep cY11_inst_0
          have cY12_inst_1 : Y12.cell? ⟨w.heap.size + 1, 1, none⟩ = some (.string d1) := GY12.keep cY11_inst_1
          have cY12_w0_0 : Y12.cell? ⟨pw0, 0, none⟩ = some (.int .i64 aw0q00) := GY12.keep cY11_w0_0
          have cY12_w0_1 : Y12.cell? ⟨pw0, 1, none⟩ = some (.string aw0q01) := GY12.keep cY11_w0_1
          have cY12_w0_2 : Y12.cell? ⟨pw0, 2, none⟩ = some (.int .i64 aw0q1) := GY12.keep cY11_w0_2
          have cY12_w0_3 : Y12.cell? ⟨pw0, 3, none⟩ = some (.int .i64 aw0q2) := GY12.keep cY11_w0_3
          have cY12_w0_4 : Y12.cell? ⟨pw0, 4, none⟩ = some (.int .i64 aw0q3) := GY12.keep cY11_w0_4
          have cY12_w0_5 : Y12.cell? ⟨pw0, 5, none⟩ = some (.string aw0q4) := GY12.keep cY11_w0_5
          have cY12_w0_6 : Y12.cell? ⟨pw0, 6, none⟩ = some (.slice aw0q5 lw0q5 cw0q5) := GY12.keep cY11_w0_6
          have cY12_w0_7 : Y12.cell? ⟨pw0, 7, none⟩ = some (.slice aw0q6 lw0q6 cw0q6) := GY12.keep cY11_w0_7
          have cY12_w0_8 : Y12.cell? ⟨pw0, 8, none⟩ = some (.slice aw0q7 lw0q7 cw0q7) := GY12.keep cY11_w0_8
          have cY12_x0_0 : Y12.cell? ⟨Y4.heap.size, 0, none⟩ = some (.slice ax0q0 lx0q0 cx0q0) := GY12.keep cY11_x0_0
          have cY12_x0_1 : Y12.cell? ⟨Y4.heap.size, 1, none⟩ = some (.slice ax0q1 lx0q1 cx0q1) := GY12.keep cY11_x0_1
          have cY12_g0_0 : Y12.cell? ⟨pg0, 0, none⟩ = some (.int .i64 ag0q00) := GY12.keep cY11_g0_0
          have cY12_g0_1 : Y12.cell? ⟨pg0, 1, none⟩ = some (.string ag0q01) := GY12.keep cY11_g0_1
          have cY12_g0_2 : Y12.cell? ⟨pg0, 2, none⟩ = some (.int .i64 ag0q1) := GY12.keep cY11_g0_2
          have cY12_g0_3 : Y12.cell? ⟨pg0, 3, none⟩ = some (.int .i64 ag0q2) := GY12.keep cY11_g0_3
          have cY12_g0_4 : Y12.cell? ⟨pg0, 4, none⟩ = some (.int .i64 ag0q3) := GY12.keep cY11_g0_4
          have cY12_g0_5 : Y12.cell? ⟨pg0, 5, none⟩ = some (.string ag0q4) := GY12.keep cY11_g0_5
          have cY12_g0_6 : Y12.cell? ⟨pg0, 6, none⟩ = some (.slice ag0q5 lg0q5 cg0q5) := GY12.keep cY11_g0_6
          have cY12_g0_7 : Y12.cell? ⟨pg0, 7, none⟩ = some (.slice ag0q6 lg0q6 cg0q6) := GY12.keep cY11_g0_7
          have cY12_g0_8 : Y12.cell? ⟨pg0, 8, none⟩ = some (.slice ag0q7 lg0q7 cg0q7) := GY12.keep cY11_g0_8
          have zY12_box := blk cY12_box_0
          have zY12_inst := blk cY12_inst_0
          have zY12_w0 := blk cY12_w0_0
          have zY12_x0 := blk cY12_x0_0
          have zY12_g0 := blk cY12_g0_0
          have rY12_w0 := Lib.hid (Rd.gr rY11_w0.out GY12)
          have rY12_g0 := Lib.hid (Rd.gr rY11_g.out GY12)
          clear cY11_box_0 cY11_box_1 cY11_inst_0 cY11_inst_1 cY11_w0_0 cY11_w0_1 cY11_w0_2 cY11_w0_3 cY11_w0_4 cY11_w0_5 cY11_w0_6 cY11_w0_7 cY11_w0_8 cY11_x0_0 cY11_x0_1 cY11_g0_0 cY11_g0_1 cY11_g0_2 cY11_g0_3 cY11_g0_4 cY11_g0_5 cY11_g0_6 cY11_g0_7 cY11_g0_8
          go_wp2_with fail
          go_upto_region 27 with fail
          go_cut [14, 15] (fun sp sb wx => BoxOut Y12 yv bb sp sb wx)
          case first =>
            have kcY12_box_0 : ∀ w' : World, Gr Y12 w' → w'.cell? ⟨w.heap.size, 0, none⟩ = some (.slice ca0 cl0 cc0) := fun w' h => h.keep cY12_box_0
            have kcY12_box_1 : ∀ w' : World, Gr Y12 w' → w'.cell? ⟨w.heap.size, 1, none⟩ = some (.slice ca1 cl1 cc1) := fun w' h => h.keep cY12_box_1
            have kcY12_inst_0 : ∀ w' : World, Gr Y12 w' → w'.cell? ⟨w.heap.size + 1, 0, none⟩ = some (.int .i64 d0) := fun w' h => h.keep cY12_inst_0
            have kcY12_inst_1 : ∀ w' : World, Gr Y12 w' → w'.cell? ⟨w.heap.size + 1, 1, none⟩ = some (.string d1) := fun w' h => h.keep cY12_inst_1
            have kcY12_w0_0 : ∀ w' : World, Gr Y12 w' → w'.cell? ⟨pw0, 0, none⟩ = some (.int .i64 aw0q00) := fun w' h => h.keep cY12_w0_0
            have kcY12_w0_1 : ∀ w' : World, Gr Y12 w' → w'.cell? ⟨pw0, 1, none⟩ = some (.string aw0q01) := fun w' h => h.keep cY12_w0_1
            have kcY12_w0_2 : ∀ w' : World, Gr Y12 w' → w'.cell? ⟨pw0, 2, none⟩ = some (.int .i64 aw0q1) := fun w' h => h.keep cY12_w0_2
            have kcY12_w0_3 : ∀ w' : World, Gr Y12 w' → w'.cell? ⟨pw0, 3, none⟩ = some (.int .i64 aw0q2) := fun w' h => h.keep cY12_w0_3
            have kcY12_w0_4 : ∀ w' : World, Gr Y12 w' → w'.cell? ⟨pw0, 4, none⟩ = some (.int .i64 aw0q3) := fun w' h => h.keep cY12_w0_4
            have kcY12_w0_5 : ∀ w' : World, Gr Y12 w' → w'.cell? ⟨pw0, 5, none⟩ = some (.string aw0q4) := fun w' h => h.keep cY12_w0_5
            have kcY12_w0_6 : ∀ w' : World, Gr Y12 w' → w'.cell? ⟨pw0, 6, none⟩ = some (.slice aw0q5 lw0q5 cw0q5) := fun w' h => h.keep cY12_w0_6
            have kcY12_w0_7 : ∀ w' : World, Gr Y12 w' → w'.cell? ⟨pw0, 7, none⟩ = some (.slice aw0q6 lw0q6 cw0q6) := fun w' h => h.keep cY12_w0_7
            have kcY12_w0_8 : ∀ w' : World, Gr Y12 w' → w'.cell? ⟨pw0, 8, none⟩ = some (.slice aw0q7 lw0q7 cw0q7) := fun w' h => h.keep cY12_w0_8
            have kcY12_x0_0 : ∀ w' : World, Gr Y12 w' → w'.cell? ⟨Y4.heap.size, 0, none⟩ = some (.slice ax0q0 lx0q0 cx0q0) := fun w' h => h.keep cY12_x0_0
            have kcY12_x0_1 : ∀ w' : World, Gr Y12 w' → w'.cell? ⟨Y4.heap.size, 1, none⟩ = some (.slice ax0q1 lx0q1 cx0q1) := fun w' h => h.keep cY12_x0_1
            have kcY12_g0_0 : ∀ w' : World, Gr Y12 w' → w'.cell? ⟨pg0, 0, none⟩ = some (.int .i64 ag0q00) := fun w' h => h.keep cY12_g0_0
            have kcY12_g0_1 : ∀ w' : World, Gr Y12 w' → w'.cell? ⟨pg0, 1, none⟩ = some (.string ag0q01) := fun w' h => h.keep cY12_g0_1
            have kcY12_g0_2 : ∀ w' : World, Gr Y12 w' → w'.cell? ⟨pg0, 2, none⟩ = some (.int .i64 ag0q1) := fun w' h => h.keep cY12_g0_2
            have kcY12_g0_3 : ∀ w' : World, Gr Y12 w' → w'.cell? ⟨pg0, 3, none⟩ = some (.int .i64 ag0q2) := fun w' h => h.keep cY12_g0_3
            have kcY12_g0_4 : ∀ w' : World, Gr Y12 w' → w'.cell? ⟨pg0, 4, none⟩ = some (.int .i64 ag0q3) := fun w' h => h.keep cY12_g0_4
            have kcY12_g0_5 : ∀ w' : World, Gr Y12 w' → w'.cell? ⟨pg0, 5, none⟩ = some (.string ag0q4) := fun w' h => h.keep cY12_g0_5
            have kcY12_g0_6 : ∀ w' : World, Gr Y12 w' → w'.cell? ⟨pg0, 6, none⟩ = some (.slice ag0q5 lg0q5 cg0q5) := fun w' h => h.keep cY12_g0_6
            have kcY12_g0_7 : ∀ w' : World, Gr Y12 w' → w'.cell? ⟨pg0, 7, none⟩ = some (.slice ag0q6 lg0q6 cg0q6) := fun w' h => h.keep cY12_g0_7
            have kcY12_g0_8 : ∀ w' : World, Gr Y12 w' → w'.cell? ⟨pg0, 8, none⟩ = some (.slice ag0q7 lg0q7 cg0q7) := fun w' h => h.keep cY12_g0_8
            go_region_held3 (fun w' => Gr Y12 w') (first | assumption | exact Gr.drew (Gr.refl _) | (repeat (first | assumption | exact Gr.refl _ | apply Gr.ext | apply Gr.alloc | apply Gr.drew)))
              (first
                | (go_at_call 32; refine (toMemo_any _ _ x _ (Rd.gr HX.out (GWY12.trans (by first | assumption | exact (by repeat (first | exact Gr.refl _ | apply Gr.ext | apply Gr.alloc | apply Gr.drew))))) hw).mono ?_; rintro e w' ⟨dsh0, f1, rfl, s1, fr1, x1, rfl⟩)
                | (go_at_call 44; refine (toInstance_any _ _ i _ (Rd.gr HI.out (GWY12.trans (by first | assumption | exact (by repeat (first | exact Gr.refl _ | apply Gr.ext | apply Gr.alloc | apply Gr.drew)))))).mono ?_; rintro e w' ⟨rfl, x2, rfl⟩)
                | (go_at_call 45; refine (implFind_any _ _ _ _ x i _ (Rd.gr s1 (by repeat (first | exact Gr.refl _ | apply Gr.ext | apply Gr.alloc | apply Gr.drew))) (Rd.gr HI.out (GWY12.trans (by first | assumption | exact (by repeat (first | exact Gr.refl _ | apply Gr.ext | apply Gr.alloc | apply Gr.drew))))) hw).mono ?_; rintro e w' ⟨es, fq, rfl, hrh0, hfh0, x3, rfl⟩; rw [← HB.out]; rw [← HYV.out] at hrh0; obtain ⟨bq00, bq01, bq1, bq2, bq3, bq4, bq5, eq5, hq5, bq6, eq6, hq6, bq7, eq7, hq7, rfl⟩ := rdEntry_shape hrh0))
            all_goals
              go_wp2_with fail
              go_meet
              refine ⟨_, #[.int .i64 bq00, .string bq01, .int .i64 bq1, .int .i64 bq2, .int .i64 bq3, .string bq4, .slice bq5 eq5 hq5, .slice bq6 eq6 hq6, .slice bq7 eq7 hq7], fq, rfl, rfl, (by repeat (first | exact Gr.refl _ | apply Gr.ext | apply Gr.alloc | apply Gr.drew)), by (try simp) <;> omega, fun j u hj => ?_, ?_, hfh0.1, fun c hc => ?_⟩
              rotate_left 1
              · first
                | (refine Rd.gr hrh0 ?_; (repeat (first | exact Gr.refl _ | apply Gr.ext | apply Gr.alloc | apply Gr.drew)); done)
                | (exact Rd.moved hrh0 hfh0 (Gr.refl _) (by simp))
              rotate_right 1
              · match j, hj with
                | 0, hj => obtain rfl := Option.some.inj hj; go_simp
                | 1, hj => obtain rfl := Option.some.inj hj; go_simp
                | 2, hj => obtain rfl := Option.some.inj hj; go_simp
                | 3, hj => obtain rfl := Option.some.inj hj; go_simp
                | 4, hj => obtain rfl := Option.some.inj hj; go_simp
                | 5, hj => obtain rfl := Option.some.inj hj; go_simp
                | 6, hj => obtain rfl := Option.some.inj hj; go_simp
                | 7, hj => obtain rfl := Option.some.inj hj; go_simp
                | 8, hj => obtain rfl := Option.some.inj hj; go_simp
              · have h1 := hfh0.2 c hc
                have h2 := Rd.lt hrh0 c hc
                simp at h1 h2
                constructor <;> (try simp) <;> omega
          case rest =>
            obtain ⟨ph0, esh0, fh0, rfl, rfl, gY13, qh0, kh0, rh0, nh0, mh0⟩ := hcut
            obtain ⟨ah0q00, ah0q01, ah0q1, ah0q2, ah0q3, ah0q4, ah0q5, lh0q5, ch0q5, ah0q6, lh0q6, ch0q6, ah0q7, lh0q7, ch0q7, rfl⟩ := rdEntry_shape rh0
            rename World => Y13
            have F_h0 : Hid (fh0.Nodup ∧ ∀ b ∈ fh0, Y12.heap.size + 0 ≤ b) := Lib.hid ⟨nh0, fun b hb => (mh0 b hb).1⟩
            have D_h0 := Lib.hid (fun b (hb : b ∈ fh0) => (mh0 b hb).2)
            have L_h0 := Lib.hid (Rd.lt rh0)
            have ZW0h0 : w.heap.size ≤ Y12.heap.size := Gr.size GWY12
            have cY13_h0_0 : Y13.cell? ⟨ph0, 0, none⟩ = some (.int .i64 ah0q00) := by simpa using kh0 0 _ rfl
            have cY13_h0_1 : Y13.cell? ⟨ph0, 1, none⟩ = some (.string ah0q01) := by simpa using kh0 1 _ rfl
            have cY13_h0_2 : Y13.cell? ⟨ph0, 2, none⟩ = some (.int .i64 ah0q1) := by simpa using kh0 2 _ rfl
            have cY13_h0_3 : Y13.cell? ⟨ph0, 3, none⟩ = some (.int .i64 ah0q2) := by simpa using kh0 3 _ rfl
            have cY13_h0_4 : Y13.cell? ⟨ph0, 4, none⟩ = some (.int .i64 ah0q3) := by simpa using kh0 4 _ rfl
            have cY13_h0_5 : Y13.cell? ⟨ph0, 5, none⟩ = some (.string ah0q4) := by simpa using kh0 5 _ rfl
            have cY13_h0_6 : Y13.cell? ⟨ph0, 6, none⟩ = some (.slice ah0q5 lh0q5 ch0q5) := by simpa using kh0 6 _ rfl
            have cY13_h0_7 : Y13.cell? ⟨ph0, 7, none⟩ = some (.slice ah0q6 lh0q6 ch0q6) := by simpa using kh0 7 _ rfl
            have cY13_h0_8 : Y13.cell? ⟨ph0, 8, none⟩ = some (.slice ah0q7 lh0q7 ch0q7) := by simpa using kh0 8 _ rfl
            have zY13_h0 := blk cY13_h0_0
            have rY13_h0 := Lib.hid rh0
            clear kh0 rh0 nh0 mh0
            have GY13 : Gr Y12 Y13 := ((by repeat (first | exact Gr.refl _ | apply Gr.ext | apply Gr.alloc | apply Gr.drew)) : Gr Y12 Y12).trans gY13
            have GWY13 : Gr w Y13 := GWY12.trans GY13
            have ZY13 : Y12.heap.size ≤ Y13.heap.size := GY13.size
            have cY13_box_0 : Y13.cell? ⟨w.heap.size, 0, none⟩ = some (.slice ca0 cl0 cc0) := GY13.keep cY12_box_0
            have cY13_box_1 : Y13.cell? ⟨w.heap.size, 1, none⟩ = some (.slice ca1 cl1 cc1) := GY13.keep cY12_box_1
            have cY13_inst_0 : Y13.cell? ⟨w.heap.size + 1, 0, none⟩ = some (.int .i64 d0) := GY13.keep cY12_inst_0
            have cY13_inst_1 : Y13.cell? ⟨w.heap.size + 1, 1, none⟩ = some (.string d1) := GY13.keep cY12_inst_1
            have cY13_w0_0 : Y13.cell? ⟨pw0, 0, none⟩ = some (.int .i64 aw0q00) := GY13.keep cY12_w0_0
            have cY13_w0_1 : Y13.cell? ⟨pw0, 1, none⟩ = some (.string aw0q01) := GY13.keep cY12_w0_1
            have cY13_w0_2 : Y13.cell? ⟨pw0, 2, none⟩ = some (.int .i64 aw0q1) := GY13.keep cY12_w0_2
            have cY13_w0_3 : Y13.cell? ⟨pw0, 3, none⟩ = some (.int .i64 aw0q2) := GY13.keep cY12_w0_3
            have cY13_w0_4 : Y13.cell? ⟨pw0, 4, none⟩ = some (.int .i64 aw0q3) := GY13.keep cY12_w0_4
            have cY13_w0_5 : Y13.cell? ⟨pw0, 5, none⟩ = some (.string aw0q4) := GY13.keep cY12_w0_5
            have cY13_w0_6 : Y13.cell? ⟨pw0, 6, none⟩ = some (.slice aw0q5 lw0q5 cw0q5) := GY13.keep cY12_w0_6
            have cY13_w0_7 : Y13.cell? ⟨pw0, 7, none⟩ = some (.slice aw0q6 lw0q6 cw0q6) := GY13.keep cY12_w0_7
            have cY13_w0_8 : Y13.cell? ⟨pw0, 8, none⟩ = some (.slice aw0q7 lw0q7 cw0q7) := GY13.keep cY12_w0_8
            have cY13_x0_0 : Y13.cell? ⟨Y4.heap.size, 0, none⟩ = some (.slice ax0q0 lx0q0 cx0q0) := GY13.keep cY12_x0_0
            have cY13_x0_1 : Y13.cell? ⟨Y4.heap.size, 1, none⟩ = some (.slice ax0q1 lx0q1 cx0q1) := GY13.keep cY12_x0_1
            have cY13_g0_0 : Y13.cell? ⟨pg0, 0, none⟩ = some (.int .i64 ag0q00) := GY13.keep cY12_g0_0
            have cY13_g0_1 : Y13.cell? ⟨pg0, 1, none⟩ = some (.string ag0q01) := GY13.keep cY12_g0_1
            have cY13_g0_2 : Y13.cell? ⟨pg0, 2, none⟩ = some (.int .i64 ag0q1) := GY13.keep cY12_g0_2
            have cY13_g0_3 : Y13.cell? ⟨pg0, 3, none⟩ = some (.int .i64 ag0q2) := GY13.keep cY12_g0_3
            have cY13_g0_4 : Y13.cell? ⟨pg0, 4, none⟩ = some (.int .i64 ag0q3) := GY13.keep cY12_g0_4
            have cY13_g0_5 : Y13.cell? ⟨pg0, 5, none⟩ = some (.string ag0q4) := GY13.keep cY12_g0_5
            have cY13_g0_6 : Y13.cell? ⟨pg0, 6, none⟩ = some (.slice ag0q5 lg0q5 cg0q5) := GY13.keep cY12_g0_6
            have cY13_g0_7 : Y13.cell? ⟨pg0, 7, none⟩ = some (.slice ag0q6 lg0q6 cg0q6) := GY13.keep cY12_g0_7
            have cY13_g0_8 : Y13.cell? ⟨pg0, 8, none⟩ = some (.slice ag0q7 lg0q7 cg0q7) := GY13.keep cY12_g0_8
            have zY13_box := blk cY13_box_0
            have zY13_inst := blk cY13_inst_0
            have zY13_w0 := blk cY13_w0_0
            have zY13_x0 := blk cY13_x0_0
            have zY13_g0 := blk cY13_g0_0
            have rY13_w0 := Lib.hid (Rd.gr rY12_w0.out GY13)
            have rY13_g0 := Lib.hid (Rd.gr rY12_g0.out GY13)
            clear cY12_box_0 cY12_box_1 cY12_inst_0 cY12_inst_1 cY12_w0_0 cY12_w0_1 cY12_w0_2 cY12_w0_3 cY12_w0_4 cY12_w0_5 cY12_w0_6 cY12_w0_7 cY12_w0_8 cY12_x0_0 cY12_x0_1 cY12_g0_0 cY12_g0_1 cY12_g0_2 cY12_g0_3 cY12_g0_4 cY12_g0_5 cY12_g0_6 cY12_g0_7 cY12_g0_8
            go_wp2_with fail
            refine (eqEntry_any _ _ _ _ yv yv _ rY13_h0.out rY13_w0.out).mono ?_
            rintro e Y14 ⟨rfl, gY14⟩
            rw [decide_eq_true rfl]
            have GY14 : Gr Y13 Y14 := ((by repeat (first | exact Gr.refl _ | apply Gr.ext | apply Gr.alloc | apply Gr.drew)) : Gr Y13 Y13).trans gY14
            have GWY14 : Gr w Y14 := GWY13.trans GY14
            have ZY14 : Y13.heap.size ≤ Y14.heap.size := GY14.size
            have cY14_box_0 : Y14.cell? ⟨w.heap.size, 0, none⟩ = some (.slice ca0 cl0 cc0) := GY14.keep cY13_box_0
            have cY14_box_1 : Y14.cell? ⟨w.heap.size, 1, none⟩ = some (.slice ca1 cl1 cc1) := GY14.keep cY13_box_1
            have cY14_inst_0 : Y14.cell? ⟨w.heap.size + 1, 0, none⟩ = some (.int .i64 d0) := GY14.keep cY13_inst_0
            have cY14_inst_1 : Y14.cell? ⟨w.heap.size + 1, 1, none⟩ = some (.string d1) := GY14.keep cY13_inst_1
            have cY14_w0_0 : Y14.cell? ⟨pw0, 0, none⟩ = some (.int .i64 aw0q00) := GY14.keep cY13_w0_0
            have cY14_w0_1 : Y14.cell? ⟨pw0, 1, none⟩ = some (.string aw0q01) := GY14.keep cY13_w0_1
            have cY14_w0_2 : Y14.cell? ⟨pw0, 2, none⟩ = some (.int .i64 aw0q1) := GY14.keep cY13_w0_2
            have cY14_w0_3 : Y14.cell? ⟨pw0, 3, none⟩ = some (.int .i64 aw0q2) := GY14.keep cY13_w0_3
            have cY14_w0_4 : Y14.cell? ⟨pw0, 4, none⟩ = some (.int .i64 aw0q3) := GY14.keep cY13_w0_4
            have cY14_w0_5 : Y14.cell? ⟨pw0, 5, none⟩ = some (.string aw0q4) := GY14.keep cY13_w0_5
            have cY14_w0_6 : Y14.cell? ⟨pw0, 6, none⟩ = some (.slice aw0q5 lw0q5 cw0q5) := GY14.keep cY13_w0_6
            have cY14_w0_7 : Y14.cell? ⟨pw0, 7, none⟩ = some (.slice aw0q6 lw0q6 cw0q6) := GY14.keep cY13_w0_7
            have cY14_w0_8 : Y14.cell? ⟨pw0, 8, none⟩ = some (.slice aw0q7 lw0q7 cw0q7) := GY14.keep cY13_w0_8
            have cY14_x0_0 : Y14.cell? ⟨Y4.heap.size, 0, none⟩ = some (.slice ax0q0 lx0q0 cx0q0) := GY14.keep cY13_x0_0
            have cY14_x0_1 : Y14.cell? ⟨Y4.heap.size, 1, none⟩ = some (.slice ax0q1 lx0q1 cx0q1) := GY14.keep cY13_x0_1
            have cY14_g0_0 : Y14.cell? ⟨pg0, 0, none⟩ = some (.int .i64 ag0q00) := GY14.keep cY13_g0_0
            have cY14_g0_1 : Y14.cell? ⟨pg0, 1, none⟩ = some (.string ag0q01) := GY14.keep cY13_g0_1
            have cY14_g0_2 : Y14.cell? ⟨pg0, 2, none⟩ = some (.int .i64 ag0q1) := GY14.keep cY13_g0_2
            have cY14_g0_3 : Y14.cell? ⟨pg0, 3, none⟩ = some (.int .i64 ag0q2) := GY14.keep cY13_g0_3
            have cY14_g0_4 : Y14.cell? ⟨pg0, 4, none⟩ = some (.int .i64 ag0q3) := GY14.keep cY13_g0_4
            have cY14_g0_5 : Y14.cell? ⟨pg0, 5, none⟩ = some (.string ag0q4) := GY14.keep cY13_g0_5
            have cY14_g0_6 : Y14.cell? ⟨pg0, 6, none⟩ = some (.slice ag0q5 lg0q5 cg0q5) := GY14.keep cY13_g0_6
            have cY14_g0_7 : Y14.cell? ⟨pg0, 7, none⟩ = some (.slice ag0q6 lg0q6 cg0q6) := GY14.keep cY13_g0_7
            have cY14_g0_8 : Y14.cell? ⟨pg0, 8, none⟩ = some (.slice ag0q7 lg0q7 cg0q7) := GY14.keep cY13_g0_8
            have cY14_h0_0 : Y14.cell? ⟨ph0, 0, none⟩ = some (.int .i64 ah0q00) := GY14.keep cY13_h0_0
            have cY14_h0_1 : Y14.cell? ⟨ph0, 1, none⟩ = some (.string ah0q01) := GY14.keep cY13_h0_1
            have cY14_h0_2 : Y14.cell? ⟨ph0, 2, none⟩ = some (.int .i64 ah0q1) := GY14.keep cY13_h0_2
            have cY14_h0_3 : Y14.cell? ⟨ph0, 3, none⟩ = some (.int .i64 ah0q2) := GY14.keep cY13_h0_3
            have cY14_h0_4 : Y14.cell? ⟨ph0, 4, none⟩ = some (.int .i64 ah0q3) := GY14.keep cY13_h0_4
            have cY14_h0_5 : Y14.cell? ⟨ph0, 5, none⟩ = some (.string ah0q4) := GY14.keep cY13_h0_5
            have cY14_h0_6 : Y14.cell? ⟨ph0, 6, none⟩ = some (.slice ah0q5 lh0q5 ch0q5) := GY14.keep cY13_h0_6
            have cY14_h0_7 : Y14.cell? ⟨ph0, 7, none⟩ = some (.slice ah0q6 lh0q6 ch0q6) := GY14.keep cY13_h0_7
            have cY14_h0_8 : Y14.cell? ⟨ph0, 8, none⟩ = some (.slice ah0q7 lh0q7 ch0q7) := GY14.keep cY13_h0_8
            have zY14_box := blk cY14_box_0
            have zY14_inst := blk cY14_inst_0
            have zY14_w0 := blk cY14_w0_0
            have zY14_x0 := blk cY14_x0_0
            have zY14_g0 := blk cY14_g0_0
            have zY14_h0 := blk cY14_h0_0
            have rY14_w0 := Lib.hid (Rd.gr rY13_w0.out GY14)
            have rY14_g0 := Lib.hid (Rd.gr rY13_g0.out GY14)
            have rY14_h0 := Lib.hid (Rd.gr rY13_h0.out GY14)
            clear cY13_box_0 cY13_box_1 cY13_inst_0 cY13_inst_1 cY13_w0_0 cY13_w0_1 cY13_w0_2 cY13_w0_3 cY13_w0_4 cY13_w0_5 cY13_w0_6 cY13_w0_7 cY13_w0_8 cY13_x0_0 cY13_x0_1 cY13_g0_0 cY13_g0_1 cY13_g0_2 cY13_g0_3 cY13_g0_4 cY13_g0_5 cY13_g0_6 cY13_g0_7 cY13_g0_8 cY13_h0_0 cY13_h0_1 cY13_h0_2 cY13_h0_3 cY13_h0_4 cY13_h0_5 cY13_h0_6 cY13_h0_7 cY13_h0_8
            go_wp2_with fail
            refine (heldEntry_any _ _ yv 1 _ rY14_g0.out (by omega) MB1.out).mono ?_
            rintro e Y15 ⟨rfl, gY15⟩
            have GY15 : Gr Y14 Y15 := ((by repeat (first | exact Gr.refl _ | apply Gr.ext | apply Gr.alloc | apply Gr.drew)) : Gr Y14 Y14).trans gY15
            have GWY15 : Gr w Y15 := GWY14.trans GY15
            have ZY15 : Y14.heap.size ≤ Y15.heap.size := GY15.size
            have cY15_box_0 : Y15.cell? ⟨w.heap.size, 0, none⟩ = some (.slice ca0 cl0 cc0) := GY15.keep cY14_box_0
            have cY15_box_1 : Y15.cell? ⟨w.heap.size, 1, none⟩ = some (.slice ca1 cl1 cc1) := GY15.keep cY14_box_1
            have cY15_inst_0 : Y15.cell? ⟨w.heap.size + 1, 0, none⟩ = some (.int .i64 d0) := GY15.keep cY14_inst_0
            have cY15_inst_1 : Y15.cell? ⟨w.heap.size + 1, 1, none⟩ = some (.string d1) := GY15.keep cY14_inst_1
            have cY15_w0_0 : Y15.cell? ⟨pw0, 0, none⟩ = some (.int .i64 aw0q00) := GY15.keep cY14_w0_0
            have cY15_w0_1 : Y15.cell? ⟨pw0, 1, none⟩ = some (.string aw0q01) := GY15.keep cY14_w0_1
            have cY15_w0_2 : Y15.cell? ⟨pw0, 2, none⟩ = some (.int .i64 aw0q1) := GY15.keep cY14_w0_2
            have cY15_w0_3 : Y15.cell? ⟨pw0, 3, none⟩ = some (.int .i64 aw0q2) := GY15.keep cY14_w0_3
            have cY15_w0_4 : Y15.cell? ⟨pw0, 4, none⟩ = some (.int .i64 aw0q3) := GY15.keep cY14_w0_4
            have cY15_w0_5 : Y15.cell? ⟨pw0, 5, none⟩ = some (.string aw0q4) := GY15.keep cY14_w0_5
            have cY15_w0_6 : Y15.cell? ⟨pw0, 6, none⟩ = some (.slice aw0q5 lw0q5 cw0q5) := GY15.keep cY14_w0_6
            have cY15_w0_7 : Y15.cell? ⟨pw0, 7, none⟩ = some (.slice aw0q6 lw0q6 cw0q6) := GY15.keep cY14_w0_7
            have cY15_w0_8 : Y15.cell? ⟨pw0, 8, none⟩ = some (.slice aw0q7 lw0q7 cw0q7) := GY15.keep cY14_w0_8
            have cY15_x0_0 : Y15.cell? ⟨Y4.heap.size, 0, none⟩ = some (.slice ax0q0 lx0q0 cx0q0) := GY15.keep cY14_x0_0
            have cY15_x0_1 : Y15.cell? ⟨Y4.heap.size, 1, none⟩ = some (.slice ax0q1 lx0q1 cx0q1) := GY15.keep cY14_x0_1
            have cY15_g0_0 : Y15.cell? ⟨pg0, 0, none⟩ = some (.int .i64 ag0q00) := GY15.keep cY14_g0_0
            have cY15_g0_1 : Y15.cell? ⟨pg0, 1, none⟩ = some (.string ag0q01) := GY15.keep cY14_g0_1
            have cY15_g0_2 : Y15.cell? ⟨pg0, 2, none⟩ = some (.int .i64 ag0q1) := GY15.keep cY14_g0_2
            have cY15_g0_3 : Y15.cell? ⟨pg0, 3, none⟩ = some (.int .i64 ag0q2) := GY15.keep cY14_g0_3
            have cY15_g0_4 : Y15.cell? ⟨pg0, 4, none⟩ = some (.int .i64 ag0q3) := GY15.keep cY14_g0_4
            have cY15_g0_5 : Y15.cell? ⟨pg0, 5, none⟩ = some (.string ag0q4) := GY15.keep cY14_g0_5
            have cY15_g0_6 : Y15.cell? ⟨pg0, 6, none⟩ = some (.slice ag0q5 lg0q5 cg0q5) := GY15.keep cY14_g0_6
            have cY15_g0_7 : Y15.cell? ⟨pg0, 7, none⟩ = some (.slice ag0q6 lg0q6 cg0q6) := GY15.keep cY14_g0_7
            have cY15_g0_8 : Y15.cell? ⟨pg0, 8, none⟩ = some (.slice ag0q7 lg0q7 cg0q7) := GY15.keep cY14_g0_8
            have cY15_h0_0 : Y15.cell? ⟨ph0, 0, none⟩ = some (.int .i64 ah0q00) := GY15.keep cY14_h0_0
            have cY15_h0_1 : Y15.cell? ⟨ph0, 1, none⟩ = some (.string ah0q01) := GY15.keep cY14_h0_1
            have cY15_h0_2 : Y15.cell? ⟨ph0, 2, none⟩ = some (.int .i64 ah0q1) := GY15.keep cY14_h0_2
            have cY15_h0_3 : Y15.cell? ⟨ph0, 3, none⟩ = some (.int .i64 ah0q2) := GY15.keep cY14_h0_3
            have cY15_h0_4 : Y15.cell? ⟨ph0, 4, none⟩ = some (.int .i64 ah0q3) := GY15.keep cY14_h0_4
            have cY15_h0_5 : Y15.cell? ⟨ph0, 5, none⟩ = some (.string ah0q4) := GY15.keep cY14_h0_5
            have cY15_h0_6 : Y15.cell? ⟨ph0, 6, none⟩ = some (.slice ah0q5 lh0q5 ch0q5) := GY15.keep cY14_h0_6
            have cY15_h0_7 : Y15.cell? ⟨ph0, 7, none⟩ = some (.slice ah0q6 lh0q6 ch0q6) := GY15.keep cY14_h0_7
            have cY15_h0_8 : Y15.cell? ⟨ph0, 8, none⟩ = some (.slice ah0q7 lh0q7 ch0q7) := GY15.keep cY14_h0_8
            have zY15_box := blk cY15_box_0
            have zY15_inst := blk cY15_inst_0
            have zY15_w0 := blk cY15_w0_0
            have zY15_x0 := blk cY15_x0_0
            have zY15_g0 := blk cY15_g0_0
            have zY15_h0 := blk cY15_h0_0
            have rY15_w0 := Lib.hid (Rd.gr rY14_w0.out GY15)
            have rY15_g0 := Lib.hid (Rd.gr rY14_g0.out GY15)
            have rY15_h0 := Lib.hid (Rd.gr rY14_h0.out GY15)
            clear cY14_box_0 cY14_box_1 cY14_inst_0 cY14_inst_1 cY14_w0_0 cY14_w0_1 cY14_w0_2 cY14_w0_3 cY14_w0_4 cY14_w0_5 cY14_w0_6 cY14_w0_7 cY14_w0_8 cY14_x0_0 cY14_x0_1 cY14_g0_0 cY14_g0_1 cY14_g0_2 cY14_g0_3 cY14_g0_4 cY14_g0_5 cY14_g0_6 cY14_g0_7 cY14_g0_8 cY14_h0_0 cY14_h0_1 cY14_h0_2 cY14_h0_3 cY14_h0_4 cY14_h0_5 cY14_h0_6 cY14_h0_7 cY14_h0_8
            go_wp2_with fail
            go_ret
            exact ⟨rfl, ((GWY15).trans (by repeat (first | exact Gr.refl _ | apply Gr.ext | apply Gr.alloc | apply Gr.drew)))⟩
end Go.Proofs.Ytkfaihfgjiahdaa
