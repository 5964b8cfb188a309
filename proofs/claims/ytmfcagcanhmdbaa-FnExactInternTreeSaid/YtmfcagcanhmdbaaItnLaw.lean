/- The walk of the statement on InternTree. Made by mk_itn.py. No condition. -/
import Derived.Test.YtmfcagcanhmdbaaItnX
import Derived.Test.YtmfcagcanhmdbaaItnE
import Derived.Test.YtmfcagcanhmdbaaMarkCell
import Derived.Test.YtmfcagcanhmdbaaMarkTree
import Derived.Deep.RegionHeld3
import Derived.Deep.DeepCutAuto
namespace Go.Proofs.Ytmfcagcanhmdbaa
open Go.RowKit

theorem less_ok {L : Int} {n : Nat} (h : ¬ less L n < 0) : (n : Int) ≤ L := by
  unfold less at h
  split at h <;> omega

/-- What a statement leaves that lays a made value into a new box, beside a number. -/
def BoxNum {α : Type} [Rd α] (W : World) (y : α) (k : Int) (s b : Value) (wx : World) : Prop :=
  ∃ (g : Nat) (es : Array Value) (fq : List Nat), s = .pointer (some ⟨g, 0, none⟩) ∧ b = .int .i64 k ∧ Gr W wx ∧ W.heap.size ≤ g ∧ CellsAt wx g 0 es.toList ∧ Rd.rd fq wx es.toList y ∧ fq.Nodup ∧ ∀ c ∈ fq, W.heap.size ≤ c ∧ c ≠ g

set_option maxRecDepth 10000 in
set_option maxHeartbeats 16000000 in
theorem lawIntern_any (fpx fpt : List Nat) (cx ct : Array Value) (x : GStore) (t : List GNode) (ai : Int) (w : World) (hx : Rd.rd fpx w cx.toList x) (ht : Rd.rd fpt w ct.toList t) :
    Calls Try.prog 3 #[.agg cx, .agg ct, .int .i64 ai] w fun e w' => e = .returned (.bool true) ∧ Gr w w' := by
  have HX := Lib.hid hx
  have HT := Lib.hid ht
  obtain ⟨xa, xl, xc, rfl⟩ := rdStore_shape hx
  clear hx
  obtain ⟨ta, tl, tc, rfl⟩ := rdTree_shape ht
  clear ht
  by_cases hs0 : less 1048576 (wtStore x) < 0
  · have HS0 := Lib.hid hs0
    clear hs0
    go_enter Try.func3, Try.ntmps3
    go_wp2_with fail
    refine (szStore_any _ _ x _ _ (Rd.gr HX.out (by repeat (first | exact Gr.refl _ | apply Gr.ext | apply Gr.alloc | apply Gr.drew))) (by omega) (by omega)).mono ?_
    rintro e w' ⟨rfl, z0, rfl⟩
    have hs0 := HS0.out
    go_wp2_with fail
    go_ret
    exact ⟨rfl, (by repeat (first | exact Gr.refl _ | apply Gr.ext | apply Gr.alloc | apply Gr.drew))⟩
  have wtx : wtStore x ≤ 1048576 := by have := less_ok hs0; omega
  have bb0 := less_le 1048576 (wtStore x) (by omega)
  by_cases hs1 : less (less 1048576 (wtStore x)) (wtTree t) < 0
  · have HS0 := Lib.hid hs0
    have HS1 := Lib.hid hs1
    clear hs0 hs1
    go_enter Try.func3, Try.ntmps3
    go_wp2_with fail
    refine (szStore_any _ _ x _ _ (Rd.gr HX.out (by repeat (first | exact Gr.refl _ | apply Gr.ext | apply Gr.alloc | apply Gr.drew))) (by omega) (by omega)).mono ?_
    rintro e w' ⟨rfl, z0, rfl⟩
    have hs0 := HS0.out
    go_wp2_with fail
    refine (szTree_any _ _ t _ _ (Rd.gr HT.out (by repeat (first | exact Gr.refl _ | apply Gr.ext | apply Gr.alloc | apply Gr.drew))) (by omega) (by omega)).mono ?_
    rintro e w' ⟨rfl, z1, rfl⟩
    have hs1 := HS1.out
    go_wp2_with fail
    go_ret
    exact ⟨rfl, (by repeat (first | exact Gr.refl _ | apply Gr.ext | apply Gr.alloc | apply Gr.drew))⟩
  have wtt : wtTree t ≤ 1048576 := by have := less_ok hs1; omega
  have bb1 := less_le (less 1048576 (wtStore x)) (wtTree t) (by omega)
  have HS0 := Lib.hid hs0
  have HS1 := Lib.hid hs1
  clear hs0 hs1
  obtain ⟨yv, hyv⟩ : ∃ y, y = (itnOf x t ai).1 := ⟨_, rfl⟩
  obtain ⟨kv, hkv⟩ : ∃ k, k = (itnOf x t ai).2 := ⟨_, rfl⟩
  have hwy : wtStore yv ≤ 2097152 := by rw [hyv]; exact itn_wt wtx wtt ai
  have HYV := Lib.hid hyv
  have HKV := Lib.hid hkv
  clear hyv hkv
  go_enter Try.func3, Try.ntmps3
  go_wp2_with fail
  refine (szStore_any _ _ x _ _ (Rd.gr HX.out (by repeat (first | exact Gr.refl _ | apply Gr.ext | apply Gr.alloc | apply Gr.drew))) (by omega) (by omega)).mono ?_
  rintro e Y1 ⟨rfl, gY1⟩
  have hs0 := HS0.out
  have GY1 : Gr w Y1 := ((by repeat (first | exact Gr.refl _ | apply Gr.ext | apply Gr.alloc | apply Gr.drew)) : Gr w ((w.alloc (.cells #[.slice xa xl xc] 24)).alloc (.cells #[.slice ta tl tc] 27))).trans gY1
  have GWY1 : Gr w Y1 := GY1
  have ZY1 : w.heap.size ≤ Y1.heap.size := GY1.size
  have cY1_ax_0 : Y1.cell? ⟨w.heap.size, 0, none⟩ = some (.slice xa xl xc) := (((by repeat (first | exact Gr.refl _ | apply Gr.ext | apply Gr.alloc | apply Gr.drew)) : Gr (w.alloc (.cells #[.slice xa xl xc] 24)) ((w.alloc (.cells #[.slice xa xl xc] 24)).alloc (.cells #[.slice ta tl tc] 27))).trans gY1).keep (box_cell (A := _) (by simp) rfl : ((w.alloc (.cells #[.slice xa xl xc] 24))).cell? ⟨w.heap.size, 0, none⟩ = some (.slice xa xl xc))
  have cY1_at_0 : Y1.cell? ⟨w.heap.size + 1, 0, none⟩ = some (.slice ta tl tc) := (((by repeat (first | exact Gr.refl _ | apply Gr.ext | apply Gr.alloc | apply Gr.drew)) : Gr ((w.alloc (.cells #[.slice xa xl xc] 24)).alloc (.cells #[.slice ta tl tc] 27)) ((w.alloc (.cells #[.slice xa xl xc] 24)).alloc (.cells #[.slice ta tl tc] 27))).trans gY1).keep (box_cell (A := _) (by simp) rfl : (((w.alloc (.cells #[.slice xa xl xc] 24)).alloc (.cells #[.slice ta tl tc] 27))).cell? ⟨w.heap.size + 1, 0, none⟩ = some (.slice ta tl tc))
  have zY1_ax := blk cY1_ax_0
  have zY1_at := blk cY1_at_0
  go_wp2_with fail
  refine (szTree_any _ _ t _ _ (Rd.gr HT.out GWY1) (by omega) (by omega)).mono ?_
  rintro e Y2 ⟨rfl, gY2⟩
  have hs1 := HS1.out
  have GY2 : Gr Y1 Y2 := ((Gr.refl _) : Gr Y1 Y1).trans gY2
  have GWY2 : Gr w Y2 := GWY1.trans GY2
  have ZY2 : Y1.heap.size ≤ Y2.heap.size := GY2.size
  have cY2_ax_0 : Y2.cell? ⟨w.heap.size, 0, none⟩ = some (.slice xa xl xc) := GY2.keep cY1_ax_0
  have cY2_at_0 : Y2.cell? ⟨w.heap.size + 1, 0, none⟩ = some (.slice ta tl tc) := GY2.keep cY1_at_0
  have zY2_ax := blk cY2_ax_0
  have zY2_at := blk cY2_at_0
  clear cY1_ax_0 cY1_at_0
  go_wp2_with fail
  clear hs0 hs1
  go_upto_region 8 with fail
  go_cut [8, 9] (fun sp sb wx => BoxNum Y2 yv kv sp sb wx)
  case first =>
    have kcY2_ax_0 : ∀ w' : World, Gr Y2 w' → w'.cell? ⟨w.heap.size, 0, none⟩ = some (.slice xa xl xc) := fun w' h => h.keep cY2_ax_0
    have kcY2_at_0 : ∀ w' : World, Gr Y2 w' → w'.cell? ⟨w.heap.size + 1, 0, none⟩ = some (.slice ta tl tc) := fun w' h => h.keep cY2_at_0
    go_region_held3 (fun w' => Gr Y2 w') (first | assumption | exact Gr.drew (Gr.refl _) | (repeat (first | assumption | exact Gr.refl _ | apply Gr.ext | apply Gr.alloc | apply Gr.drew)))
      (first
        | (go_at_call_of 9 xa; refine (toStore_any _ _ x _ (Rd.gr HX.out (GWY2.trans (by first | assumption | exact (by repeat (first | exact Gr.refl _ | apply Gr.ext | apply Gr.alloc | apply Gr.drew))))) wtx).mono ?_; rintro e w' ⟨ds0, ff0, rfl, ss0, fr0, ex0, rfl⟩)
        | (go_at_call_of 10 ta; refine (toTree_any _ _ t _ (Rd.gr HT.out (GWY2.trans (by first | assumption | exact (by repeat (first | exact Gr.refl _ | apply Gr.ext | apply Gr.alloc | apply Gr.drew))))) wtt).mono ?_; rintro e w' ⟨ds1, ff1, rfl, ss1, fr1, ex1, rfl⟩)
        | (go_at_call 8; refine (specIntern_any x t ai _ (Rd.gr ss0 (by repeat (first | exact Gr.refl _ | apply Gr.ext | apply Gr.alloc | apply Gr.drew))) (Rd.gr ss1 (by repeat (first | exact Gr.refl _ | apply Gr.ext | apply Gr.alloc | apply Gr.drew))) wtx wtt).mono ?_; rintro e w' ⟨es, fq, rfl, hrw0, hfw0, exz, rfl⟩; rw [← HYV.out] at hrw0; rw [← HKV.out]; obtain ⟨bq0, eq0, hq0, rfl⟩ := rdStore_shape hrw0))
    all_goals
      go_wp2_with fail
      go_meet
      refine ⟨_, #[.slice bq0 eq0 hq0], fq, rfl, rfl, (by repeat (first | exact Gr.refl _ | apply Gr.ext | apply Gr.alloc | apply Gr.drew)), by (try simp) <;> omega, fun j u hj => ?_, ?_, hfw0.1, fun c hc => ?_⟩
      rotate_left 1
      · first
        | (refine Rd.gr hrw0 ?_; (repeat (first | exact Gr.refl _ | apply Gr.ext | apply Gr.alloc | apply Gr.drew)); done)
        | (exact Rd.moved hrw0 hfw0 (Gr.refl _) (by simp))
      rotate_right 1
      · match j, hj with
        | 0, hj => obtain rfl := Option.some.inj hj; go_simp
      · have h1 := hfw0.2 c hc
        have h2 := Rd.lt hrw0 c hc
        simp at h1 h2
        constructor <;> (try simp) <;> omega
  case rest =>
    obtain ⟨pw0, esw0, fw0, rfl, rfl, gY3, qw0, kw0, rw0, nw0, mw0⟩ := hcut
    obtain ⟨aw0, lw0, cw0, rfl⟩ := rdStore_shape rw0
    rename World => Y3
    have F_w0 : Hid (fw0.Nodup ∧ ∀ b ∈ fw0, Y2.heap.size + 0 ≤ b) := Lib.hid ⟨nw0, fun b hb => (mw0 b hb).1⟩
    have D_w0 := Lib.hid (fun b (hb : b ∈ fw0) => (mw0 b hb).2)
    have L_w0 := Lib.hid (Rd.lt rw0)
    have ZW0w0 : w.heap.size ≤ Y2.heap.size := Gr.size GWY2
    have cY3_w0_0 : Y3.cell? ⟨pw0, 0, none⟩ = some (.slice aw0 lw0 cw0) := by simpa using kw0 0 _ rfl
    have zY3_w0 := blk cY3_w0_0
    have rY3_w0 := Lib.hid rw0
    clear kw0 rw0 nw0 mw0
    have GY3 : Gr Y2 Y3 := ((Gr.refl _) : Gr Y2 Y2).trans gY3
    have GWY3 : Gr w Y3 := GWY2.trans GY3
    have ZY3 : Y2.heap.size ≤ Y3.heap.size := GY3.size
    have cY3_ax_0 : Y3.cell? ⟨w.heap.size, 0, none⟩ = some (.slice xa xl xc) := GY3.keep cY2_ax_0
    have cY3_at_0 : Y3.cell? ⟨w.heap.size + 1, 0, none⟩ = some (.slice ta tl tc) := GY3.keep cY2_at_0
    have zY3_ax := blk cY3_ax_0
    have zY3_at := blk cY3_at_0
    clear cY2_ax_0 cY2_at_0
    go_wp2_with fail
    refine (toStore_any _ _ x _ (Rd.gr HX.out GWY3) wtx).mono ?_
    rintro e Y4 ⟨dsx0, fx0, rfl, sx0, frx0, gY4⟩
    obtain ⟨ax0q0, lx0q0, cx0q0, rfl⟩ := rdStore_shape sx0
    have F_x0 : Hid (fx0.Nodup ∧ ∀ b ∈ fx0, Y3.heap.size + 0 ≤ b) := Lib.hid ⟨frx0.1, fun b hb => by have h := frx0.2 b hb; (try simp at h); omega⟩
    have L_x0 := Lib.hid (Rd.lt sx0)
    have ZW0x0 : w.heap.size ≤ Y3.heap.size := Gr.size GWY3
    have rY4_x0 := Lib.hid sx0
    clear sx0 frx0
    have GY4 : Gr Y3 Y4 := ((Gr.refl _) : Gr Y3 Y3).trans gY4
    have GWY4 : Gr w Y4 := GWY3.trans GY4
    have ZY4 : Y3.heap.size ≤ Y4.heap.size := GY4.size
    have cY4_ax_0 : Y4.cell? ⟨w.heap.size, 0, none⟩ = some (.slice xa xl xc) := GY4.keep cY3_ax_0
    have cY4_at_0 : Y4.cell? ⟨w.heap.size + 1, 0, none⟩ = some (.slice ta tl tc) := GY4.keep cY3_at_0
    have cY4_w0_0 : Y4.cell? ⟨pw0, 0, none⟩ = some (.slice aw0 lw0 cw0) := GY4.keep cY3_w0_0
    have zY4_ax := blk cY4_ax_0
    have zY4_at := blk cY4_at_0
    have zY4_w0 := blk cY4_w0_0
    have rY4_w0 := Lib.hid (Rd.gr rY3_w0.out GY4)
    clear cY3_ax_0 cY3_at_0 cY3_w0_0
    go_wp2_with fail
    refine (toTree_any _ _ t _ (Rd.gr HT.out ((GWY4).trans (by repeat (first | exact Gr.refl _ | apply Gr.ext | apply Gr.alloc | apply Gr.drew)))) wtt).mono ?_
    rintro e Y5 ⟨dsx1, fx1, rfl, sx1, frx1, gY5⟩
    obtain ⟨ax1q0, lx1q0, cx1q0, rfl⟩ := rdTree_shape sx1
    have F_x1 : Hid (fx1.Nodup ∧ ∀ b ∈ fx1, Y4.heap.size + 1 ≤ b) := Lib.hid ⟨frx1.1, fun b hb => by have h := frx1.2 b hb; (try simp at h); omega⟩
    have L_x1 := Lib.hid (Rd.lt sx1)
    have ZW0x1 : w.heap.size ≤ Y4.heap.size := Gr.size GWY4
    have rY5_x1 := Lib.hid sx1
    clear sx1 frx1
    have GY5 : Gr Y4 Y5 := ((by repeat (first | exact Gr.refl _ | apply Gr.ext | apply Gr.alloc | apply Gr.drew)) : Gr Y4 (Y4.alloc (.cells #[.slice ax0q0 lx0q0 cx0q0] 32))).trans gY5
    have GWY5 : Gr w Y5 := GWY4.trans GY5
    have ZY5 : Y4.heap.size ≤ Y5.heap.size := GY5.size
    have cY5_ax_0 : Y5.cell? ⟨w.heap.size, 0, none⟩ = some (.slice xa xl xc) := GY5.keep cY4_ax_0
    have cY5_at_0 : Y5.cell? ⟨w.heap.size + 1, 0, none⟩ = some (.slice ta tl tc) := GY5.keep cY4_at_0
    have cY5_w0_0 : Y5.cell? ⟨pw0, 0, none⟩ = some (.slice aw0 lw0 cw0) := GY5.keep cY4_w0_0
    have cY5_x0_0 : Y5.cell? ⟨Y4.heap.size, 0, none⟩ = some (.slice ax0q0 lx0q0 cx0q0) := (((by repeat (first | exact Gr.refl _ | apply Gr.ext | apply Gr.alloc | apply Gr.drew)) : Gr (Y4.alloc (.cells #[.slice ax0q0 lx0q0 cx0q0] 32)) (Y4.alloc (.cells #[.slice ax0q0 lx0q0 cx0q0] 32))).trans gY5).keep (box_cell (A := _) (by simp) rfl : ((Y4.alloc (.cells #[.slice ax0q0 lx0q0 cx0q0] 32))).cell? ⟨Y4.heap.size, 0, none⟩ = some (.slice ax0q0 lx0q0 cx0q0))
    have zY5_ax := blk cY5_ax_0
    have zY5_at := blk cY5_at_0
    have zY5_w0 := blk cY5_w0_0
    have zY5_x0 := blk cY5_x0_0
    have rY5_w0 := Lib.hid (Rd.gr rY4_w0.out GY5)
    have rY5_x0 := Lib.hid (Rd.gr rY4_x0.out GY5)
    clear cY4_ax_0 cY4_at_0 cY4_w0_0
    go_wp2_with fail
    refine (implIntern_any x t ai _ (Rd.gr rY5_x0.out (by repeat (first | exact Gr.refl _ | apply Gr.ext | apply Gr.alloc | apply Gr.drew))) (Rd.gr rY5_x1.out (by repeat (first | exact Gr.refl _ | apply Gr.ext | apply Gr.alloc | apply Gr.drew))) wtx wtt).mono ?_
    rintro e Y6 ⟨esg0, fgg, rfl, sgg, frgg, gY6⟩
    rw [← HYV.out] at sgg
    rw [← HKV.out]
    obtain ⟨ag0, lg0, cg0, rfl⟩ := rdStore_shape sgg
    have F_gg : Hid (fgg.Nodup ∧ ∀ b ∈ fgg, Y5.heap.size + 1 ≤ b) := Lib.hid ⟨frgg.1, fun b hb => by have h := frgg.2 b hb; (try simp at h); omega⟩
    have L_gg := Lib.hid (Rd.lt sgg)
    have ZW0gg : w.heap.size ≤ Y5.heap.size := Gr.size GWY5
    have rY6_gg := Lib.hid sgg
    clear sgg frgg
    have GY6 : Gr Y5 Y6 := ((by repeat (first | exact Gr.refl _ | apply Gr.ext | apply Gr.alloc | apply Gr.drew)) : Gr Y5 (Y5.alloc (.cells #[.slice ax1q0 lx1q0 cx1q0] 38))).trans gY6
    have GWY6 : Gr w Y6 := GWY5.trans GY6
    have ZY6 : Y5.heap.size ≤ Y6.heap.size := GY6.size
    have cY6_ax_0 : Y6.cell? ⟨w.heap.size, 0, none⟩ = some (.slice xa xl xc) := GY6.keep cY5_ax_0
    have cY6_at_0 : Y6.cell? ⟨w.heap.size + 1, 0, none⟩ = some (.slice ta tl tc) := GY6.keep cY5_at_0
    have cY6_w0_0 : Y6.cell? ⟨pw0, 0, none⟩ = some (.slice aw0 lw0 cw0) := GY6.keep cY5_w0_0
    have cY6_x0_0 : Y6.cell? ⟨Y4.heap.size, 0, none⟩ = some (.slice ax0q0 lx0q0 cx0q0) := GY6.keep cY5_x0_0
    have cY6_x1_0 : Y6.cell? ⟨Y5.heap.size, 0, none⟩ = some (.slice ax1q0 lx1q0 cx1q0) := (((by repeat (first | exact Gr.refl _ | apply Gr.ext | apply Gr.alloc | apply Gr.drew)) : Gr (Y5.alloc (.cells #[.slice ax1q0 lx1q0 cx1q0] 38)) (Y5.alloc (.cells #[.slice ax1q0 lx1q0 cx1q0] 38))).trans gY6).keep (box_cell (A := _) (by simp) rfl : ((Y5.alloc (.cells #[.slice ax1q0 lx1q0 cx1q0] 38))).cell? ⟨Y5.heap.size, 0, none⟩ = some (.slice ax1q0 lx1q0 cx1q0))
    have zY6_ax := blk cY6_ax_0
    have zY6_at := blk cY6_at_0
    have zY6_w0 := blk cY6_w0_0
    have zY6_x0 := blk cY6_x0_0
    have zY6_x1 := blk cY6_x1_0
    have rY6_w0 := Lib.hid (Rd.gr rY5_w0.out GY6)
    have rY6_x0 := Lib.hid (Rd.gr rY5_x0.out GY6)
    have rY6_x1 := Lib.hid (Rd.gr rY5_x1.out GY6)
    clear cY5_ax_0 cY5_at_0 cY5_w0_0 cY5_x0_0
    go_wp2_with fail
    refine (eqStore_any _ _ _ _ yv yv _ (Rd.gr rY6_gg.out (by repeat (first | exact Gr.refl _ | apply Gr.ext | apply Gr.alloc | apply Gr.drew))) (Rd.gr rY6_w0.out (by repeat (first | exact Gr.refl _ | apply Gr.ext | apply Gr.alloc | apply Gr.drew)))).mono ?_
    rintro e Y7 ⟨rfl, gY7⟩
    rw [decide_eq_true rfl]
    have GY7 : Gr Y6 Y7 := ((by repeat (first | exact Gr.refl _ | apply Gr.ext | apply Gr.alloc | apply Gr.drew)) : Gr Y6 (Y6.alloc (.cells #[.slice ag0 lg0 cg0] 32))).trans gY7
    have GWY7 : Gr w Y7 := GWY6.trans GY7
    have ZY7 : Y6.heap.size ≤ Y7.heap.size := GY7.size
    have cY7_ax_0 : Y7.cell? ⟨w.heap.size, 0, none⟩ = some (.slice xa xl xc) := GY7.keep cY6_ax_0
    have cY7_at_0 : Y7.cell? ⟨w.heap.size + 1, 0, none⟩ = some (.slice ta tl tc) := GY7.keep cY6_at_0
    have cY7_w0_0 : Y7.cell? ⟨pw0, 0, none⟩ = some (.slice aw0 lw0 cw0) := GY7.keep cY6_w0_0
    have cY7_x0_0 : Y7.cell? ⟨Y4.heap.size, 0, none⟩ = some (.slice ax0q0 lx0q0 cx0q0) := GY7.keep cY6_x0_0
    have cY7_x1_0 : Y7.cell? ⟨Y5.heap.size, 0, none⟩ = some (.slice ax1q0 lx1q0 cx1q0) := GY7.keep cY6_x1_0
    have cY7_gg_0 : Y7.cell? ⟨Y6.heap.size, 0, none⟩ = some (.slice ag0 lg0 cg0) := (((by repeat (first | exact Gr.refl _ | apply Gr.ext | apply Gr.alloc | apply Gr.drew)) : Gr (Y6.alloc (.cells #[.slice ag0 lg0 cg0] 32)) (Y6.alloc (.cells #[.slice ag0 lg0 cg0] 32))).trans gY7).keep (box_cell (A := _) (by simp) rfl : ((Y6.alloc (.cells #[.slice ag0 lg0 cg0] 32))).cell? ⟨Y6.heap.size, 0, none⟩ = some (.slice ag0 lg0 cg0))
    have zY7_ax := blk cY7_ax_0
    have zY7_at := blk cY7_at_0
    have zY7_w0 := blk cY7_w0_0
    have zY7_x0 := blk cY7_x0_0
    have zY7_x1 := blk cY7_x1_0
    have zY7_gg := blk cY7_gg_0
    have rY7_w0 := Lib.hid (Rd.gr rY6_w0.out GY7)
    have rY7_x0 := Lib.hid (Rd.gr rY6_x0.out GY7)
    have rY7_x1 := Lib.hid (Rd.gr rY6_x1.out GY7)
    have rY7_gg := Lib.hid (Rd.gr rY6_gg.out GY7)
    clear cY6_ax_0 cY6_at_0 cY6_w0_0 cY6_x0_0 cY6_x1_0
    go_wp2_with fail
    have kcY7_ax_0 : ∀ w' : World, Gr Y7 w' → w'.cell? ⟨w.heap.size, 0, none⟩ = some (.slice xa xl xc) := fun w' h => h.keep cY7_ax_0
    have kcY7_at_0 : ∀ w' : World, Gr Y7 w' → w'.cell? ⟨w.heap.size + 1, 0, none⟩ = some (.slice ta tl tc) := fun w' h => h.keep cY7_at_0
    have kcY7_w0_0 : ∀ w' : World, Gr Y7 w' → w'.cell? ⟨pw0, 0, none⟩ = some (.slice aw0 lw0 cw0) := fun w' h => h.keep cY7_w0_0
    have kcY7_x0_0 : ∀ w' : World, Gr Y7 w' → w'.cell? ⟨Y4.heap.size, 0, none⟩ = some (.slice ax0q0 lx0q0 cx0q0) := fun w' h => h.keep cY7_x0_0
    have kcY7_x1_0 : ∀ w' : World, Gr Y7 w' → w'.cell? ⟨Y5.heap.size, 0, none⟩ = some (.slice ax1q0 lx1q0 cx1q0) := fun w' h => h.keep cY7_x1_0
    have kcY7_gg_0 : ∀ w' : World, Gr Y7 w' → w'.cell? ⟨Y6.heap.size, 0, none⟩ = some (.slice ag0 lg0 cg0) := fun w' h => h.keep cY7_gg_0
    go_region_held3 (fun w' => Gr Y7 w') (first | assumption | exact Gr.drew (Gr.refl _) | exact Gr.ext (by assumption) _)
      (first
        | ((go_at_call 9; refine (toStore_any _ _ x _ (Rd.gr HX.out (GWY7.trans (by assumption))) wtx).mono ?_; rintro e w' ⟨ds5, f5, rfl, s5, fr5, e1, rfl⟩))
        | ((go_at_call 12; refine (eqStore_any _ _ _ _ x x _ (Rd.gr rY7_x0.out (by assumption)) s5).mono ?_; rintro e w' ⟨rfl, e2, rfl⟩; rw [decide_eq_true rfl])))
    have hY8 : Gr Y7 ((Y7.drew.ext e1).ext e2) := by assumption
    generalize ((Y7.drew.ext e1).ext e2) = Y8 at hY8 ⊢
    clear kcY7_ax_0 kcY7_at_0 kcY7_w0_0 kcY7_x0_0 kcY7_x1_0 kcY7_gg_0
    have GY8 : Gr Y7 Y8 := ((Gr.refl _) : Gr Y7 Y7).trans hY8
    have GWY8 : Gr w Y8 := GWY7.trans GY8
    have ZY8 : Y7.heap.size ≤ Y8.heap.size := GY8.size
    have cY8_ax_0 : Y8.cell? ⟨w.heap.size, 0, none⟩ = some (.slice xa xl xc) := GY8.keep cY7_ax_0
    have cY8_at_0 : Y8.cell? ⟨w.heap.size + 1, 0, none⟩ = some (.slice ta tl tc) := GY8.keep cY7_at_0
    have cY8_w0_0 : Y8.cell? ⟨pw0, 0, none⟩ = some (.slice aw0 lw0 cw0) := GY8.keep cY7_w0_0
    have cY8_x0_0 : Y8.cell? ⟨Y4.heap.size, 0, none⟩ = some (.slice ax0q0 lx0q0 cx0q0) := GY8.keep cY7_x0_0
    have cY8_x1_0 : Y8.cell? ⟨Y5.heap.size, 0, none⟩ = some (.slice ax1q0 lx1q0 cx1q0) := GY8.keep cY7_x1_0
    have cY8_gg_0 : Y8.cell? ⟨Y6.heap.size, 0, none⟩ = some (.slice ag0 lg0 cg0) := GY8.keep cY7_gg_0
    have zY8_ax := blk cY8_ax_0
    have zY8_at := blk cY8_at_0
    have zY8_w0 := blk cY8_w0_0
    have zY8_x0 := blk cY8_x0_0
    have zY8_x1 := blk cY8_x1_0
    have zY8_gg := blk cY8_gg_0
    have rY8_w0 := Lib.hid (Rd.gr rY7_w0.out GY8)
    have rY8_x0 := Lib.hid (Rd.gr rY7_x0.out GY8)
    have rY8_x1 := Lib.hid (Rd.gr rY7_x1.out GY8)
    have rY8_gg := Lib.hid (Rd.gr rY7_gg.out GY8)
    clear cY7_ax_0 cY7_at_0 cY7_w0_0 cY7_x0_0 cY7_x1_0 cY7_gg_0
    clear s5 fr5
    go_wp2_with fail
    have kcY8_ax_0 : ∀ w' : World, Gr Y8 w' → w'.cell? ⟨w.heap.size, 0, none⟩ = some (.slice xa xl xc) := fun w' h => h.keep cY8_ax_0
    have kcY8_at_0 : ∀ w' : World, Gr Y8 w' → w'.cell? ⟨w.heap.size + 1, 0, none⟩ = some (.slice ta tl tc) := fun w' h => h.keep cY8_at_0
    have kcY8_w0_0 : ∀ w' : World, Gr Y8 w' → w'.cell? ⟨pw0, 0, none⟩ = some (.slice aw0 lw0 cw0) := fun w' h => h.keep cY8_w0_0
    have kcY8_x0_0 : ∀ w' : World, Gr Y8 w' → w'.cell? ⟨Y4.heap.size, 0, none⟩ = some (.slice ax0q0 lx0q0 cx0q0) := fun w' h => h.keep cY8_x0_0
    have kcY8_x1_0 : ∀ w' : World, Gr Y8 w' → w'.cell? ⟨Y5.heap.size, 0, none⟩ = some (.slice ax1q0 lx1q0 cx1q0) := fun w' h => h.keep cY8_x1_0
    have kcY8_gg_0 : ∀ w' : World, Gr Y8 w' → w'.cell? ⟨Y6.heap.size, 0, none⟩ = some (.slice ag0 lg0 cg0) := fun w' h => h.keep cY8_gg_0
    go_region_held3 (fun w' => Gr Y8 w') (first | assumption | exact Gr.drew (Gr.refl _) | exact Gr.ext (by assumption) _)
      (first
        | ((go_at_call 10; refine (toTree_any _ _ t _ (Rd.gr HT.out (GWY8.trans (by assumption))) wtt).mono ?_; rintro e w' ⟨ds5, f5, rfl, s5, fr5, e1, rfl⟩))
        | ((go_at_call 13; refine (eqTree_any _ _ _ _ t t _ (Rd.gr rY8_x1.out (by assumption)) s5).mono ?_; rintro e w' ⟨rfl, e2, rfl⟩; rw [decide_eq_true rfl])))
    have hY9 : Gr Y8 ((Y8.drew.ext e1).ext e2) := by assumption
    generalize ((Y8.drew.ext e1).ext e2) = Y9 at hY9 ⊢
    clear kcY8_ax_0 kcY8_at_0 kcY8_w0_0 kcY8_x0_0 kcY8_x1_0 kcY8_gg_0
    have GY9 : Gr Y8 Y9 := ((Gr.refl _) : Gr Y8 Y8).trans hY9
    have GWY9 : Gr w Y9 := GWY8.trans GY9
    have ZY9 : Y8.heap.size ≤ Y9.heap.size := GY9.size
    have cY9_ax_0 : Y9.cell? ⟨w.heap.size, 0, none⟩ = some (.slice xa xl xc) := GY9.keep cY8_ax_0
    have cY9_at_0 : Y9.cell? ⟨w.heap.size + 1, 0, none⟩ = some (.slice ta tl tc) := GY9.keep cY8_at_0
    have cY9_w0_0 : Y9.cell? ⟨pw0, 0, none⟩ = some (.slice aw0 lw0 cw0) := GY9.keep cY8_w0_0
    have cY9_x0_0 : Y9.cell? ⟨Y4.heap.size, 0, none⟩ = some (.slice ax0q0 lx0q0 cx0q0) := GY9.keep cY8_x0_0
    have cY9_x1_0 : Y9.cell? ⟨Y5.heap.size, 0, none⟩ = some (.slice ax1q0 lx1q0 cx1q0) := GY9.keep cY8_x1_0
    have cY9_gg_0 : Y9.cell? ⟨Y6.heap.size, 0, none⟩ = some (.slice ag0 lg0 cg0) := GY9.keep cY8_gg_0
    have zY9_ax := blk cY9_ax_0
    have zY9_at := blk cY9_at_0
    have zY9_w0 := blk cY9_w0_0
    have zY9_x0 := blk cY9_x0_0
    have zY9_x1 := blk cY9_x1_0
    have zY9_gg := blk cY9_gg_0
    have rY9_w0 := Lib.hid (Rd.gr rY8_w0.out GY9)
    have rY9_x0 := Lib.hid (Rd.gr rY8_x0.out GY9)
    have rY9_x1 := Lib.hid (Rd.gr rY8_x1.out GY9)
    have rY9_gg := Lib.hid (Rd.gr rY8_gg.out GY9)
    clear cY8_ax_0 cY8_at_0 cY8_w0_0 cY8_x0_0 cY8_x1_0 cY8_gg_0
    clear s5 fr5
    go_wp2_with fail
    refine (markStore_any fx0 _ x 1 _ rY9_x0.out F_x0.out.1 (by omega) (by have := vStore_bd 1 x; omega)).mono ?_
    rintro e Y10 ⟨rfl, sY10, gY10⟩
    have bk1 := vStore_bd 1 x
    obtain ⟨k1, hk1⟩ : ∃ k, k = (vStore 1 x).2 := ⟨_, rfl⟩
    rw [← hk1] at bk1 ⊢
    clear hk1
    have rY10_m := Lib.hid sY10
    clear sY10
    have ZY10 : Y9.heap.size ≤ Y10.heap.size := Nat.le_trans (Gr.size ((Gr.refl _) : Gr Y9 Y9)) gY10.size
    have GWY10 : Gr w Y10 := Gr.wr GWY9 gY10 (fun b hb => by have a1 := F_x0.out.2 b hb; omega)
    have cY10_ax_0 : Y10.cell? ⟨w.heap.size, 0, none⟩ = some (.slice xa xl xc) := (World.cell?_of_block (gY10.block _ (blk (((Gr.refl _) : Gr Y9 Y9).keep cY9_ax_0)) (fun h => by have a1 := F_x0.out.2 (w.heap.size) h; have a2 := L_x0.out (w.heap.size) h; omega))).trans (((Gr.refl _) : Gr Y9 Y9).keep cY9_ax_0)
    have cY10_at_0 : Y10.cell? ⟨w.heap.size + 1, 0, none⟩ = some (.slice ta tl tc) := (World.cell?_of_block (gY10.block _ (blk (((Gr.refl _) : Gr Y9 Y9).keep cY9_at_0)) (fun h => by have a1 := F_x0.out.2 (w.heap.size + 1) h; have a2 := L_x0.out (w.heap.size + 1) h; omega))).trans (((Gr.refl _) : Gr Y9 Y9).keep cY9_at_0)
    have cY10_w0_0 : Y10.cell? ⟨pw0, 0, none⟩ = some (.slice aw0 lw0 cw0) := (World.cell?_of_block (gY10.block _ (blk (((Gr.refl _) : Gr Y9 Y9).keep cY9_w0_0)) (fun h => by have a1 := F_x0.out.2 (pw0) h; have a2 := L_x0.out (pw0) h; omega))).trans (((Gr.refl _) : Gr Y9 Y9).keep cY9_w0_0)
    have cY10_x0_0 : Y10.cell? ⟨Y4.heap.size, 0, none⟩ = some (.slice ax0q0 lx0q0 cx0q0) := (World.cell?_of_block (gY10.block _ (blk (((Gr.refl _) : Gr Y9 Y9).keep cY9_x0_0)) (fun h => by have a1 := F_x0.out.2 (Y4.heap.size) h; have a2 := L_x0.out (Y4.heap.size) h; omega))).trans (((Gr.refl _) : Gr Y9 Y9).keep cY9_x0_0)
    have cY10_x1_0 : Y10.cell? ⟨Y5.heap.size, 0, none⟩ = some (.slice ax1q0 lx1q0 cx1q0) := (World.cell?_of_block (gY10.block _ (blk (((Gr.refl _) : Gr Y9 Y9).keep cY9_x1_0)) (fun h => by have a1 := F_x0.out.2 (Y5.heap.size) h; have a2 := L_x0.out (Y5.heap.size) h; omega))).trans (((Gr.refl _) : Gr Y9 Y9).keep cY9_x1_0)
    have cY10_gg_0 : Y10.cell? ⟨Y6.heap.size, 0, none⟩ = some (.slice ag0 lg0 cg0) := (World.cell?_of_block (gY10.block _ (blk (((Gr.refl _) : Gr Y9 Y9).keep cY9_gg_0)) (fun h => by have a1 := F_x0.out.2 (Y6.heap.size) h; have a2 := L_x0.out (Y6.heap.size) h; omega))).trans (((Gr.refl _) : Gr Y9 Y9).keep cY9_gg_0)
    have zY10_ax := blk cY10_ax_0
    have zY10_at := blk cY10_at_0
    have zY10_w0 := blk cY10_w0_0
    have zY10_x0 := blk cY10_x0_0
    have zY10_x1 := blk cY10_x1_0
    have zY10_gg := blk cY10_gg_0
    have rY10_w0 := Lib.hid (Rd.wr (Rd.gr rY9_w0.out ((Gr.refl _) : Gr Y9 Y9)) gY10 (fun b h1 h2 => by have a1 := F_x0.out.2 _ h2; have a2 := L_x0.out _ h2; have a3 := F_w0.out.2 _ h1; have a4 := L_w0.out _ h1; omega))
    have rY10_x1 := Lib.hid (Rd.wr (Rd.gr rY9_x1.out ((Gr.refl _) : Gr Y9 Y9)) gY10 (fun b h1 h2 => by have a1 := F_x0.out.2 _ h2; have a2 := L_x0.out _ h2; have a3 := F_x1.out.2 _ h1; have a4 := L_x1.out _ h1; omega))
    have rY10_gg := Lib.hid (Rd.wr (Rd.gr rY9_gg.out ((Gr.refl _) : Gr Y9 Y9)) gY10 (fun b h1 h2 => by have a1 := F_x0.out.2 _ h2; have a2 := L_x0.out _ h2; have a3 := F_gg.out.2 _ h1; have a4 := L_gg.out _ h1; omega))
    clear cY9_ax_0 cY9_at_0 cY9_w0_0 cY9_x0_0 cY9_x1_0 cY9_gg_0
    go_wp2_with fail
    refine (markTree_any fx1 _ t k1 _ rY10_x1.out F_x1.out.1 (by omega) (by have := vTree_bd k1 t; omega)).mono ?_
    rintro e Y11 ⟨rfl, sY11, gY11⟩
    have bk2 := vTree_bd k1 t
    obtain ⟨k2, hk2⟩ : ∃ k, k = (vTree k1 t).2 := ⟨_, rfl⟩
    rw [← hk2] at bk2 ⊢
    clear hk2
    have rY11_m := Lib.hid sY11
    clear sY11
    have ZY11 : Y10.heap.size ≤ Y11.heap.size := Nat.le_trans (Gr.size ((Gr.refl _) : Gr Y10 Y10)) gY11.size
    have GWY11 : Gr w Y11 := Gr.wr GWY10 gY11 (fun b hb => by have a1 := F_x1.out.2 b hb; omega)
    have cY11_ax_0 : Y11.cell? ⟨w.heap.size, 0, none⟩ = some (.slice xa xl xc) := (World.cell?_of_block (gY11.block _ (blk (((Gr.refl _) : Gr Y10 Y10).keep cY10_ax_0)) (fun h => by have a1 := F_x1.out.2 (w.heap.size) h; have a2 := L_x1.out (w.heap.size) h; omega))).trans (((Gr.refl _) : Gr Y10 Y10).keep cY10_ax_0)
    have cY11_at_0 : Y11.cell? ⟨w.heap.size + 1, 0, none⟩ = some (.slice ta tl tc) := (World.cell?_of_block (gY11.block _ (blk (((Gr.refl _) : Gr Y10 Y10).keep cY10_at_0)) (fun h => by have a1 := F_x1.out.2 (w.heap.size + 1) h; have a2 := L_x1.out (w.heap.size + 1) h; omega))).trans (((Gr.refl _) : Gr Y10 Y10).keep cY10_at_0)
    have cY11_w0_0 : Y11.cell? ⟨pw0, 0, none⟩ = some (.slice aw0 lw0 cw0) := (World.cell?_of_block (gY11.block _ (blk (((Gr.refl _) : Gr Y10 Y10).keep cY10_w0_0)) (fun h => by have a1 := F_x1.out.2 (pw0) h; have a2 := L_x1.out (pw0) h; omega))).trans (((Gr.refl _) : Gr Y10 Y10).keep cY10_w0_0)
    have cY11_x0_0 : Y11.cell? ⟨Y4.heap.size, 0, none⟩ = some (.slice ax0q0 lx0q0 cx0q0) := (World.cell?_of_block (gY11.block _ (blk (((Gr.refl _) : Gr Y10 Y10).keep cY10_x0_0)) (fun h => by have a1 := F_x1.out.2 (Y4.heap.size) h; have a2 := L_x1.out (Y4.heap.size) h; omega))).trans (((Gr.refl _) : Gr Y10 Y10).keep cY10_x0_0)
    have cY11_x1_0 : Y11.cell? ⟨Y5.heap.size, 0, none⟩ = some (.slice ax1q0 lx1q0 cx1q0) := (World.cell?_of_block (gY11.block _ (blk (((Gr.refl _) : Gr Y10 Y10).keep cY10_x1_0)) (fun h => by have a1 := F_x1.out.2 (Y5.heap.size) h; have a2 := L_x1.out (Y5.heap.size) h; omega))).trans (((Gr.refl _) : Gr Y10 Y10).keep cY10_x1_0)
    have cY11_gg_0 : Y11.cell? ⟨Y6.heap.size, 0, none⟩ = some (.slice ag0 lg0 cg0) := (World.cell?_of_block (gY11.block _ (blk (((Gr.refl _) : Gr Y10 Y10).keep cY10_gg_0)) (fun h => by have a1 := F_x1.out.2 (Y6.heap.size) h; have a2 := L_x1.out (Y6.heap.size) h; omega))).trans (((Gr.refl _) : Gr Y10 Y10).keep cY10_gg_0)
    have zY11_ax := blk cY11_ax_0
    have zY11_at := blk cY11_at_0
    have zY11_w0 := blk cY11_w0_0
    have zY11_x0 := blk cY11_x0_0
    have zY11_x1 := blk cY11_x1_0
    have zY11_gg := blk cY11_gg_0
    have rY11_w0 := Lib.hid (Rd.wr (Rd.gr rY10_w0.out ((Gr.refl _) : Gr Y10 Y10)) gY11 (fun b h1 h2 => by have a1 := F_x1.out.2 _ h2; have a2 := L_x1.out _ h2; have a3 := F_w0.out.2 _ h1; have a4 := L_w0.out _ h1; omega))
    have rY11_gg := Lib.hid (Rd.wr (Rd.gr rY10_gg.out ((Gr.refl _) : Gr Y10 Y10)) gY11 (fun b h1 h2 => by have a1 := F_x1.out.2 _ h2; have a2 := L_x1.out _ h2; have a3 := F_gg.out.2 _ h1; have a4 := L_gg.out _ h1; omega))
    clear cY10_ax_0 cY10_at_0 cY10_w0_0 cY10_x0_0 cY10_x1_0 cY10_gg_0
    go_wp2_with fail
    refine (eqStore_any _ _ _ _ yv yv _ rY11_gg.out rY11_w0.out).mono ?_
    rintro e Y12 ⟨rfl, gY12⟩
    rw [decide_eq_true rfl]
    have GY12 : Gr Y11 Y12 := ((Gr.refl _) : Gr Y11 Y11).trans gY12
    have GWY12 : Gr w Y12 := GWY11.trans GY12
    have ZY12 : Y11.heap.size ≤ Y12.heap.size := GY12.size
    have cY12_ax_0 : Y12.cell? ⟨w.heap.size, 0, none⟩ = some (.slice xa xl xc) := GY12.keep cY11_ax_0
    have cY12_at_0 : Y12.cell? ⟨w.heap.size + 1, 0, none⟩ = some (.slice ta tl tc) := GY12.keep cY11_at_0
    have cY12_w0_0 : Y12.cell? ⟨pw0, 0, none⟩ = some (.slice aw0 lw0 cw0) := GY12.keep cY11_w0_0
    have cY12_x0_0 : Y12.cell? ⟨Y4.heap.size, 0, none⟩ = some (.slice ax0q0 lx0q0 cx0q0) := GY12.keep cY11_x0_0
    have cY12_x1_0 : Y12.cell? ⟨Y5.heap.size, 0, none⟩ = some (.slice ax1q0 lx1q0 cx1q0) := GY12.keep cY11_x1_0
    have cY12_gg_0 : Y12.cell? ⟨Y6.heap.size, 0, none⟩ = some (.slice ag0 lg0 cg0) := GY12.keep cY11_gg_0
    have zY12_ax := blk cY12_ax_0
    have zY12_at := blk cY12_at_0
    have zY12_w0 := blk cY12_w0_0
    have zY12_x0 := blk cY12_x0_0
    have zY12_x1 := blk cY12_x1_0
    have zY12_gg := blk cY12_gg_0
    have rY12_w0 := Lib.hid (Rd.gr rY11_w0.out GY12)
    have rY12_gg := Lib.hid (Rd.gr rY11_gg.out GY12)
    clear cY11_ax_0 cY11_at_0 cY11_w0_0 cY11_x0_0 cY11_x1_0 cY11_gg_0
    go_wp2_with fail
    have mb := vStore_bd 1 yv
    have mb0 : ¬ (vStore 1 yv).2 < 0 := by omega
    have MB1 := Lib.hid (show (vStore 1 yv).2 ≤ 4398046511104 by omega)
    clear mb
    refine (markStore_any fgg _ yv 1 _ rY12_gg.out F_gg.out.1 (by omega) MB1.out).mono ?_
    rintro e Y13 ⟨rfl, sY13, gY13⟩
    have rY13_g := Lib.hid sY13
    clear sY13
    have ZY13 : Y12.heap.size ≤ Y13.heap.size := Nat.le_trans (Gr.size ((Gr.refl _) : Gr Y12 Y12)) gY13.size
    have GWY13 : Gr w Y13 := Gr.wr GWY12 gY13 (fun b hb => by have a1 := F_gg.out.2 b hb; omega)
    have cY13_ax_0 : Y13.cell? ⟨w.heap.size, 0, none⟩ = some (.slice xa xl xc) := (World.cell?_of_block (gY13.block _ (blk (((Gr.refl _) : Gr Y12 Y12).keep cY12_ax_0)) (fun h => by have a1 := F_gg.out.2 (w.heap.size) h; have a2 := L_gg.out (w.heap.size) h; omega))).trans (((Gr.refl _) : Gr Y12 Y12).keep cY12_ax_0)
    have cY13_at_0 : Y13.cell? ⟨w.heap.size + 1, 0, none⟩ = some (.slice ta tl tc) := (World.cell?_of_block (gY13.block _ (blk (((Gr.refl _) : Gr Y12 Y12).keep cY12_at_0)) (fun h => by have a1 := F_gg.out.2 (w.heap.size + 1) h; have a2 := L_gg.out (w.heap.size + 1) h; omega))).trans (((Gr.refl _) : Gr Y12 Y12).keep cY12_at_0)
    have cY13_w0_0 : Y13.cell? ⟨pw0, 0, none⟩ = some (.slice aw0 lw0 cw0) := (World.cell?_of_block (gY13.block _ (blk (((Gr.refl _) : Gr Y12 Y12).keep cY12_w0_0)) (fun h => by have a1 := F_gg.out.2 (pw0) h; have a2 := L_gg.out (pw0) h; omega))).trans (((Gr.refl _) : Gr Y12 Y12).keep cY12_w0_0)
    have cY13_x0_0 : Y13.cell? ⟨Y4.heap.size, 0, none⟩ = some (.slice ax0q0 lx0q0 cx0q0) := (World.cell?_of_block (gY13.block _ (blk (((Gr.refl _) : Gr Y12 Y12).keep cY12_x0_0)) (fun h => by have a1 := F_gg.out.2 (Y4.heap.size) h; have a2 := L_gg.out (Y4.heap.size) h; omega))).trans (((Gr.refl _) : Gr Y12 Y12).keep cY12_x0_0)
    have cY13_x1_0 : Y13.cell? ⟨Y5.heap.size, 0, none⟩ = some (.slice ax1q0 lx1q0 cx1q0) := (World.cell?_of_block (gY13.block _ (blk (((Gr.refl _) : Gr Y12 Y12).keep cY12_x1_0)) (fun h => by have a1 := F_gg.out.2 (Y5.heap.size) h; have a2 := L_gg.out (Y5.heap.size) h; omega))).trans (((Gr.refl _) : Gr Y12 Y12).keep cY12_x1_0)
    have cY13_gg_0 : Y13.cell? ⟨Y6.heap.size, 0, none⟩ = some (.slice ag0 lg0 cg0) := (World.cell?_of_block (gY13.block _ (blk (((Gr.refl _) : Gr Y12 Y12).keep cY12_gg_0)) (fun h => by have a1 := F_gg.out.2 (Y6.heap.size) h; have a2 := L_gg.out (Y6.heap.size) h; omega))).trans (((Gr.refl _) : Gr Y12 Y12).keep cY12_gg_0)
    have zY13_ax := blk cY13_ax_0
    have zY13_at := blk cY13_at_0
    have zY13_w0 := blk cY13_w0_0
    have zY13_x0 := blk cY13_x0_0
    have zY13_x1 := blk cY13_x1_0
    have zY13_gg := blk cY13_gg_0
    have rY13_w0 := Lib.hid (Rd.wr (Rd.gr rY12_w0.out ((Gr.refl _) : Gr Y12 Y12)) gY13 (fun b h1 h2 => by have a1 := F_gg.out.2 _ h2; have a2 := L_gg.out _ h2; have a3 := F_w0.out.2 _ h1; have a4 := L_w0.out _ h1; omega))
    clear cY12_ax_0 cY12_at_0 cY12_w0_0 cY12_x0_0 cY12_x1_0 cY12_gg_0
    go_wp2_with fail
    refine (heldStore_any _ _ yv 1 _ rY13_g.out (by omega) MB1.out).mono ?_
    rintro e Y14 ⟨rfl, gY14⟩
    have GY14 : Gr Y13 Y14 := ((Gr.refl _) : Gr Y13 Y13).trans gY14
    have GWY14 : Gr w Y14 := GWY13.trans GY14
    have ZY14 : Y13.heap.size ≤ Y14.heap.size := GY14.size
    have cY14_ax_0 : Y14.cell? ⟨w.heap.size, 0, none⟩ = some (.slice xa xl xc) := GY14.keep cY13_ax_0
    have cY14_at_0 : Y14.cell? ⟨w.heap.size + 1, 0, none⟩ = some (.slice ta tl tc) := GY14.keep cY13_at_0
    have cY14_w0_0 : Y14.cell? ⟨pw0, 0, none⟩ = some (.slice aw0 lw0 cw0) := GY14.keep cY13_w0_0
    have cY14_x0_0 : Y14.cell? ⟨Y4.heap.size, 0, none⟩ = some (.slice ax0q0 lx0q0 cx0q0) := GY14.keep cY13_x0_0
    have cY14_x1_0 : Y14.cell? ⟨Y5.heap.size, 0, none⟩ = some (.slice ax1q0 lx1q0 cx1q0) := GY14.keep cY13_x1_0
    have cY14_gg_0 : Y14.cell? ⟨Y6.heap.size, 0, none⟩ = some (.slice ag0 lg0 cg0) := GY14.keep cY13_gg_0
    have zY14_ax := blk cY14_ax_0
    have zY14_at := blk cY14_at_0
    have zY14_w0 := blk cY14_w0_0
    have zY14_x0 := blk cY14_x0_0
    have zY14_x1 := blk cY14_x1_0
    have zY14_gg := blk cY14_gg_0
    have rY14_w0 := Lib.hid (Rd.gr rY13_w0.out GY14)
    have rY14_gg := Lib.hid (Rd.gr rY13_g.out GY14)
    clear cY13_ax_0 cY13_at_0 cY13_w0_0 cY13_x0_0 cY13_x1_0 cY13_gg_0
    go_wp2_with fail
    go_upto_region 31 with fail
    go_cut [17, 18] (fun sp sb wx => BoxNum Y14 yv kv sp sb wx)
    case first =>
      have kcY14_ax_0 : ∀ w' : World, Gr Y14 w' → w'.cell? ⟨w.heap.size, 0, none⟩ = some (.slice xa xl xc) := fun w' h => h.keep cY14_ax_0
      have kcY14_at_0 : ∀ w' : World, Gr Y14 w' → w'.cell? ⟨w.heap.size + 1, 0, none⟩ = some (.slice ta tl tc) := fun w' h => h.keep cY14_at_0
      have kcY14_w0_0 : ∀ w' : World, Gr Y14 w' → w'.cell? ⟨pw0, 0, none⟩ = some (.slice aw0 lw0 cw0) := fun w' h => h.keep cY14_w0_0
      have kcY14_x0_0 : ∀ w' : World, Gr Y14 w' → w'.cell? ⟨Y4.heap.size, 0, none⟩ = some (.slice ax0q0 lx0q0 cx0q0) := fun w' h => h.keep cY14_x0_0
      have kcY14_x1_0 : ∀ w' : World, Gr Y14 w' → w'.cell? ⟨Y5.heap.size, 0, none⟩ = some (.slice ax1q0 lx1q0 cx1q0) := fun w' h => h.keep cY14_x1_0
      have kcY14_gg_0 : ∀ w' : World, Gr Y14 w' → w'.cell? ⟨Y6.heap.size, 0, none⟩ = some (.slice ag0 lg0 cg0) := fun w' h => h.keep cY14_gg_0
      go_region_held3 (fun w' => Gr Y14 w') (first | assumption | exact Gr.drew (Gr.refl _) | (repeat (first | assumption | exact Gr.refl _ | apply Gr.ext | apply Gr.alloc | apply Gr.drew)))
        (first
          | (go_at_call_of 9 xa; refine (toStore_any _ _ x _ (Rd.gr HX.out (GWY14.trans (by first | assumption | exact (by repeat (first | exact Gr.refl _ | apply Gr.ext | apply Gr.alloc | apply Gr.drew))))) wtx).mono ?_; rintro e w' ⟨ds0, ff0, rfl, ss0, fr0, ex0, rfl⟩)
          | (go_at_call_of 10 ta; refine (toTree_any _ _ t _ (Rd.gr HT.out (GWY14.trans (by first | assumption | exact (by repeat (first | exact Gr.refl _ | apply Gr.ext | apply Gr.alloc | apply Gr.drew))))) wtt).mono ?_; rintro e w' ⟨ds1, ff1, rfl, ss1, fr1, ex1, rfl⟩)
          | (go_at_call 11; refine (implIntern_any x t ai _ (Rd.gr ss0 (by repeat (first | exact Gr.refl _ | apply Gr.ext | apply Gr.alloc | apply Gr.drew))) (Rd.gr ss1 (by repeat (first | exact Gr.refl _ | apply Gr.ext | apply Gr.alloc | apply Gr.drew))) wtx wtt).mono ?_; rintro e w' ⟨es, fq, rfl, hrh0, hfh0, exz, rfl⟩; rw [← HYV.out] at hrh0; rw [← HKV.out]; obtain ⟨bq0, eq0, hq0, rfl⟩ := rdStore_shape hrh0))
      all_goals
        go_wp2_with fail
        go_meet
        refine ⟨_, #[.slice bq0 eq0 hq0], fq, rfl, rfl, (by repeat (first | exact Gr.refl _ | apply Gr.ext | apply Gr.alloc | apply Gr.drew)), by (try simp) <;> omega, fun j u hj => ?_, ?_, hfh0.1, fun c hc => ?_⟩
        rotate_left 1
        · first
          | (refine Rd.gr hrh0 ?_; (repeat (first | exact Gr.refl _ | apply Gr.ext | apply Gr.alloc | apply Gr.drew)); done)
          | (exact Rd.moved hrh0 hfh0 (Gr.refl _) (by simp))
        rotate_right 1
        · match j, hj with
          | 0, hj => obtain rfl := Option.some.inj hj; go_simp
        · have h1 := hfh0.2 c hc
          have h2 := Rd.lt hrh0 c hc
          simp at h1 h2
          constructor <;> (try simp) <;> omega
    case rest =>
      obtain ⟨ph0, esh0, fh0, rfl, rfl, gY15, qh0, kh0, rh0, nh0, mh0⟩ := hcut
      obtain ⟨ah0, lh0, ch0, rfl⟩ := rdStore_shape rh0
      rename World => Y15
      have F_h0 : Hid (fh0.Nodup ∧ ∀ b ∈ fh0, Y14.heap.size + 0 ≤ b) := Lib.hid ⟨nh0, fun b hb => (mh0 b hb).1⟩
      have D_h0 := Lib.hid (fun b (hb : b ∈ fh0) => (mh0 b hb).2)
      have L_h0 := Lib.hid (Rd.lt rh0)
      have ZW0h0 : w.heap.size ≤ Y14.heap.size := Gr.size GWY14
      have cY15_h0_0 : Y15.cell? ⟨ph0, 0, none⟩ = some (.slice ah0 lh0 ch0) := by simpa using kh0 0 _ rfl
      have zY15_h0 := blk cY15_h0_0
      have rY15_h0 := Lib.hid rh0
      clear kh0 rh0 nh0 mh0
      have GY15 : Gr Y14 Y15 := ((Gr.refl _) : Gr Y14 Y14).trans gY15
      have GWY15 : Gr w Y15 := GWY14.trans GY15
      have ZY15 : Y14.heap.size ≤ Y15.heap.size := GY15.size
      have cY15_ax_0 : Y15.cell? ⟨w.heap.size, 0, none⟩ = some (.slice xa xl xc) := GY15.keep cY14_ax_0
      have cY15_at_0 : Y15.cell? ⟨w.heap.size + 1, 0, none⟩ = some (.slice ta tl tc) := GY15.keep cY14_at_0
      have cY15_w0_0 : Y15.cell? ⟨pw0, 0, none⟩ = some (.slice aw0 lw0 cw0) := GY15.keep cY14_w0_0
      have cY15_x0_0 : Y15.cell? ⟨Y4.heap.size, 0, none⟩ = some (.slice ax0q0 lx0q0 cx0q0) := GY15.keep cY14_x0_0
      have cY15_x1_0 : Y15.cell? ⟨Y5.heap.size, 0, none⟩ = some (.slice ax1q0 lx1q0 cx1q0) := GY15.keep cY14_x1_0
      have cY15_gg_0 : Y15.cell? ⟨Y6.heap.size, 0, none⟩ = some (.slice ag0 lg0 cg0) := GY15.keep cY14_gg_0
      have zY15_ax := blk cY15_ax_0
      have zY15_at := blk cY15_at_0
      have zY15_w0 := blk cY15_w0_0
      have zY15_x0 := blk cY15_x0_0
      have zY15_x1 := blk cY15_x1_0
      have zY15_gg := blk cY15_gg_0
      have rY15_w0 := Lib.hid (Rd.gr rY14_w0.out GY15)
      have rY15_gg := Lib.hid (Rd.gr rY14_gg.out GY15)
      clear cY14_ax_0 cY14_at_0 cY14_w0_0 cY14_x0_0 cY14_x1_0 cY14_gg_0
      go_wp2_with fail
      refine (eqStore_any _ _ _ _ yv yv _ rY15_h0.out rY15_w0.out).mono ?_
      rintro e Y16 ⟨rfl, gY16⟩
      rw [decide_eq_true rfl]
      have GY16 : Gr Y15 Y16 := ((Gr.refl _) : Gr Y15 Y15).trans gY16
      have GWY16 : Gr w Y16 := GWY15.trans GY16
      have ZY16 : Y15.heap.size ≤ Y16.heap.size := GY16.size
      have cY16_ax_0 : Y16.cell? ⟨w.heap.size, 0, none⟩ = some (.slice xa xl xc) := GY16.keep cY15_ax_0
      have cY16_at_0 : Y16.cell? ⟨w.heap.size + 1, 0, none⟩ = some (.slice ta tl tc) := GY16.keep cY15_at_0
      have cY16_w0_0 : Y16.cell? ⟨pw0, 0, none⟩ = some (.slice aw0 lw0 cw0) := GY16.keep cY15_w0_0
      have cY16_x0_0 : Y16.cell? ⟨Y4.heap.size, 0, none⟩ = some (.slice ax0q0 lx0q0 cx0q0) := GY16.keep cY15_x0_0
      have cY16_x1_0 : Y16.cell? ⟨Y5.heap.size, 0, none⟩ = some (.slice ax1q0 lx1q0 cx1q0) := GY16.keep cY15_x1_0
      have cY16_gg_0 : Y16.cell? ⟨Y6.heap.size, 0, none⟩ = some (.slice ag0 lg0 cg0) := GY16.keep cY15_gg_0
      have cY16_h0_0 : Y16.cell? ⟨ph0, 0, none⟩ = some (.slice ah0 lh0 ch0) := GY16.keep cY15_h0_0
      have zY16_ax := blk cY16_ax_0
      have zY16_at := blk cY16_at_0
      have zY16_w0 := blk cY16_w0_0
      have zY16_x0 := blk cY16_x0_0
      have zY16_x1 := blk cY16_x1_0
      have zY16_gg := blk cY16_gg_0
      have zY16_h0 := blk cY16_h0_0
      have rY16_w0 := Lib.hid (Rd.gr rY15_w0.out GY16)
      have rY16_gg := Lib.hid (Rd.gr rY15_gg.out GY16)
      have rY16_h0 := Lib.hid (Rd.gr rY15_h0.out GY16)
      clear cY15_ax_0 cY15_at_0 cY15_w0_0 cY15_x0_0 cY15_x1_0 cY15_gg_0 cY15_h0_0
      go_wp2_with fail
      refine (heldStore_any _ _ yv 1 _ rY16_gg.out (by omega) MB1.out).mono ?_
      rintro e Y17 ⟨rfl, gY17⟩
      have GY17 : Gr Y16 Y17 := ((Gr.refl _) : Gr Y16 Y16).trans gY17
      have GWY17 : Gr w Y17 := GWY16.trans GY17
      have ZY17 : Y16.heap.size ≤ Y17.heap.size := GY17.size
      have cY17_ax_0 : Y17.cell? ⟨w.heap.size, 0, none⟩ = some (.slice xa xl xc) := GY17.keep cY16_ax_0
      have cY17_at_0 : Y17.cell? ⟨w.heap.size + 1, 0, none⟩ = some (.slice ta tl tc) := GY17.keep cY16_at_0
      have cY17_w0_0 : Y17.cell? ⟨pw0, 0, none⟩ = some (.slice aw0 lw0 cw0) := GY17.keep cY16_w0_0
      have cY17_x0_0 : Y17.cell? ⟨Y4.heap.size, 0, none⟩ = some (.slice ax0q0 lx0q0 cx0q0) := GY17.keep cY16_x0_0
      have cY17_x1_0 : Y17.cell? ⟨Y5.heap.size, 0, none⟩ = some (.slice ax1q0 lx1q0 cx1q0) := GY17.keep cY16_x1_0
      have cY17_gg_0 : Y17.cell? ⟨Y6.heap.size, 0, none⟩ = some (.slice ag0 lg0 cg0) := GY17.keep cY16_gg_0
      have cY17_h0_0 : Y17.cell? ⟨ph0, 0, none⟩ = some (.slice ah0 lh0 ch0) := GY17.keep cY16_h0_0
      have zY17_ax := blk cY17_ax_0
      have zY17_at := blk cY17_at_0
      have zY17_w0 := blk cY17_w0_0
      have zY17_x0 := blk cY17_x0_0
      have zY17_x1 := blk cY17_x1_0
      have zY17_gg := blk cY17_gg_0
      have zY17_h0 := blk cY17_h0_0
      have rY17_w0 := Lib.hid (Rd.gr rY16_w0.out GY17)
      have rY17_gg := Lib.hid (Rd.gr rY16_gg.out GY17)
      have rY17_h0 := Lib.hid (Rd.gr rY16_h0.out GY17)
      clear cY16_ax_0 cY16_at_0 cY16_w0_0 cY16_x0_0 cY16_x1_0 cY16_gg_0 cY16_h0_0
      go_wp2_with fail
      go_ret
      exact ⟨rfl, GWY17⟩
end Go.Proofs.Ytmfcagcanhmdbaa
