/- The walk of the statement on ExpandCell. Made by mk_expand.py. No condition. -/
import Derived.Test.YtadoalpcakninaaExpX
import Derived.Test.YtadoalpcakninaaMarkCell
import Derived.Test.YtadoalpcakninaaMarkTree
import Derived.Deep.RegionHeld3
namespace Go.Proofs.Ytadoalpcakninaa
open Go.RowKit

theorem wtExp {s : GStore} (h : wtStore s ≤ 1048576) (a first : Int) : wtTree ((expOf s a first).getD []) ≤ 16777232 * 16 := by
  by_cases hk : ExpOk s a first
  · rw [expOf_yes hk, Option.getD_some]
    have h16 := hk.2.2.2
    have hrule : ∀ c ∈ s, c.1.size ≤ 1048576 := fun c hc => by
      obtain ⟨i, hi, rfl⟩ := List.mem_iff_getElem.1 hc
      have h1 := wtL_at wtCell s hi
      have h2 : s[i].1.size ≤ wtCell s[i] := Nat.le_add_right _ _
      have h0 : wtL wtCell s ≤ 1048576 := h
      omega
    have hall := wt_idN (first := first) (M := 2097152) (exN_wt s (cells_small h).2 hrule s.length a.toNat 0 (-1) 0) (j := 0)
    have hl : (idN first 0 (exN s s.length a.toNat 0 (-1) 0)).length ≤ 16 := by rw [idN_len, exN_len]; exact h16
    have := wtS_le (idN first 0 (exN s s.length a.toNat 0 (-1) 0)) hall
    have h3 : (idN first 0 (exN s s.length a.toNat 0 (-1) 0)).length * 2097153 ≤ 16 * 2097153 := Nat.mul_le_mul_right _ hl
    show wtL wtNode _ ≤ _
    omega
  · rw [expOf_no hk]
    show wtL wtNode [] ≤ _
    simp [wtL]

set_option maxRecDepth 10000 in
set_option maxHeartbeats 16000000 in
theorem lawExpand_any (fp : List Nat) (cs : Array Value) (x : GStore) (a1 a2 : Int) (w : World) (hx : Rd.rd fp w cs.toList x) :
    Calls Try.prog 3 #[.agg cs, .int .i64 a1, .int .i64 a2] w fun e w' => e = .returned (.bool true) ∧ Gr w w' := by
  have HX := Lib.hid hx
  obtain ⟨ca0, cl0, cc0, rfl⟩ := rdStore_shape hx
  clear hx
  by_cases hn : less 1048576 (wtStore x) < 0
  · have HN := Lib.hid hn
    clear hn
    go_enter Try.func3, Try.ntmps3
    go_wp2_with fail
    refine (szStore_any _ _ x _ _ (Rd.gr HX.out (by repeat (first | exact Gr.refl _ | apply Gr.ext | apply Gr.alloc | apply Gr.drew))) (by omega) (by omega)).mono ?_
    rintro e w' ⟨rfl, x0, rfl⟩
    have hn := HN.out
    go_wp2_with fail
    go_ret
    exact ⟨rfl, (by repeat (first | exact Gr.refl _ | apply Gr.ext | apply Gr.alloc | apply Gr.drew))⟩
  · have hw : wtStore x ≤ 1048576 := by unfold less at hn; split at hn <;> omega
    have hb := less_le 1048576 (wtStore x) (by omega)
    have HN := Lib.hid hn
    obtain ⟨bb, hbb⟩ : ∃ bb, bb = (expOf x a1 a2).isSome := ⟨_, rfl⟩
    obtain ⟨yv, hyv⟩ : ∃ y, y = (expOf x a1 a2).getD [] := ⟨_, rfl⟩
    have hwy : wtTree yv ≤ 268435712 := by rw [hyv]; exact wtExp hw a1 a2
    have HB := Lib.hid hbb
    have HYV := Lib.hid hyv
    clear hn hbb hyv
    go_enter Try.func3, Try.ntmps3
    go_wp2_with fail
    refine (szStore_any _ _ x _ _ (Rd.gr HX.out (by repeat (first | exact Gr.refl _ | apply Gr.ext | apply Gr.alloc | apply Gr.drew))) (by omega) (by omega)).mono ?_
    rintro e Y1 ⟨rfl, gY1⟩
    have hn := HN.out
    have GY1 : Gr w Y1 := ((by repeat (first | exact Gr.refl _ | apply Gr.ext | apply Gr.alloc | apply Gr.drew)) : Gr w (w.alloc (.cells #[.slice ca0 cl0 cc0] 24))).trans gY1
    have GWY1 : Gr w Y1 := GY1
    have ZY1 : w.heap.size ≤ Y1.heap.size := GY1.size
    have cY1_box_0 : Y1.cell? ⟨w.heap.size, 0, none⟩ = some (.slice ca0 cl0 cc0) := (((by repeat (first | exact Gr.refl _ | apply Gr.ext | apply Gr.alloc | apply Gr.drew)) : Gr (w.alloc (.cells #[.slice ca0 cl0 cc0] 24)) (w.alloc (.cells #[.slice ca0 cl0 cc0] 24))).trans gY1).keep (box_cell (A := _) (by simp) rfl : ((w.alloc (.cells #[.slice ca0 cl0 cc0] 24))).cell? ⟨w.heap.size, 0, none⟩ = some (.slice ca0 cl0 cc0))
    have zY1_box := blk cY1_box_0
    go_wp2_with fail
    clear hn
    refine (toStore_any _ _ x _ (Rd.gr HX.out GWY1) hw).mono ?_
    rintro e Y2 ⟨dsxa, fxa, rfl, sxa, frxa, gY2⟩
    obtain ⟨axaq0, lxaq0, cxaq0, rfl⟩ := rdStore_shape sxa
    have F_xa : Hid (fxa.Nodup ∧ ∀ b ∈ fxa, Y1.heap.size + 0 ≤ b) := Lib.hid ⟨frxa.1, fun b hb => by have h := frxa.2 b hb; (try simp at h); omega⟩
    have L_xa := Lib.hid (Rd.lt sxa)
    have ZW0xa : w.heap.size ≤ Y1.heap.size := Gr.size GWY1
    have rY2_xa := Lib.hid sxa
    clear sxa frxa
    have GY2 : Gr Y1 Y2 := ((Gr.refl _) : Gr Y1 Y1).trans gY2
    have GWY2 : Gr w Y2 := GWY1.trans GY2
    have ZY2 : Y1.heap.size ≤ Y2.heap.size := GY2.size
    have cY2_box_0 : Y2.cell? ⟨w.heap.size, 0, none⟩ = some (.slice ca0 cl0 cc0) := GY2.keep cY1_box_0
    have zY2_box := blk cY2_box_0
    clear cY1_box_0
    go_wp2_with fail
    refine (specExpand_any x a1 a2 _ rY2_xa.out hw).mono ?_
    rintro e Y3 ⟨eswa, fwa, rfl, swa, frwa, gY3⟩
    rw [← HB.out]
    rw [← HYV.out] at swa
    obtain ⟨awa, lwa, cwa, rfl⟩ := rdTree_shape swa
    have F_wa : Hid (fwa.Nodup ∧ ∀ b ∈ fwa, Y2.heap.size + 0 ≤ b) := Lib.hid ⟨frwa.1, fun b hb => by have h := frwa.2 b hb; (try simp at h); omega⟩
    have L_wa := Lib.hid (Rd.lt swa)
    have ZW0wa : w.heap.size ≤ Y2.heap.size := Gr.size GWY2
    have rY3_wa := Lib.hid swa
    clear swa frwa
    have GY3 : Gr Y2 Y3 := ((Gr.refl _) : Gr Y2 Y2).trans gY3
    have GWY3 : Gr w Y3 := GWY2.trans GY3
    have ZY3 : Y2.heap.size ≤ Y3.heap.size := GY3.size
    have cY3_box_0 : Y3.cell? ⟨w.heap.size, 0, none⟩ = some (.slice ca0 cl0 cc0) := GY3.keep cY2_box_0
    have zY3_box := blk cY3_box_0
    have rY3_xa := Lib.hid (Rd.gr rY2_xa.out GY3)
    clear cY2_box_0
    go_wp2_with fail
    refine (toStore_any _ _ x _ (Rd.gr HX.out ((GWY3).trans (by repeat (first | exact Gr.refl _ | apply Gr.ext | apply Gr.alloc | apply Gr.drew)))) hw).mono ?_
    rintro e Y4 ⟨dsx0, fx0, rfl, sx0, frx0, gY4⟩
    obtain ⟨ax0q0, lx0q0, cx0q0, rfl⟩ := rdStore_shape sx0
    have F_x0 : Hid (fx0.Nodup ∧ ∀ b ∈ fx0, Y3.heap.size + 1 ≤ b) := Lib.hid ⟨frx0.1, fun b hb => by have h := frx0.2 b hb; (try simp at h); omega⟩
    have L_x0 := Lib.hid (Rd.lt sx0)
    have ZW0x0 : w.heap.size ≤ Y3.heap.size := Gr.size GWY3
    have rY4_x0 := Lib.hid sx0
    clear sx0 frx0
    have GY4 : Gr Y3 Y4 := ((by repeat (first | exact Gr.refl _ | apply Gr.ext | apply Gr.alloc | apply Gr.drew)) : Gr Y3 (Y3.alloc (.cells #[.slice awa lwa cwa] 28))).trans gY4
    have GWY4 : Gr w Y4 := GWY3.trans GY4
    have ZY4 : Y3.heap.size ≤ Y4.heap.size := GY4.size
    have cY4_box_0 : Y4.cell? ⟨w.heap.size, 0, none⟩ = some (.slice ca0 cl0 cc0) := GY4.keep cY3_box_0
    have cY4_wa_0 : Y4.cell? ⟨Y3.heap.size, 0, none⟩ = some (.slice awa lwa cwa) := (((by repeat (first | exact Gr.refl _ | apply Gr.ext | apply Gr.alloc | apply Gr.drew)) : Gr (Y3.alloc (.cells #[.slice awa lwa cwa] 28)) (Y3.alloc (.cells #[.slice awa lwa cwa] 28))).trans gY4).keep (box_cell (A := _) (by simp) rfl : ((Y3.alloc (.cells #[.slice awa lwa cwa] 28))).cell? ⟨Y3.heap.size, 0, none⟩ = some (.slice awa lwa cwa))
    have zY4_box := blk cY4_box_0
    have zY4_wa := blk cY4_wa_0
    have rY4_wa := Lib.hid (Rd.gr rY3_wa.out GY4)
    clear cY3_box_0
    go_wp2_with fail
    refine (implExpand_any x a1 a2 _ (Rd.gr rY4_x0.out (by repeat (first | exact Gr.refl _ | apply Gr.ext | apply Gr.alloc | apply Gr.drew))) hw).mono ?_
    rintro e Y5 ⟨esga, fga, rfl, sga, frga, gY5⟩
    rw [← HB.out]
    rw [← HYV.out] at sga
    obtain ⟨aga, lga, cga, rfl⟩ := rdTree_shape sga
    have F_ga : Hid (fga.Nodup ∧ ∀ b ∈ fga, Y4.heap.size + 1 ≤ b) := Lib.hid ⟨frga.1, fun b hb => by have h := frga.2 b hb; (try simp at h); omega⟩
    have L_ga := Lib.hid (Rd.lt sga)
    have ZW0ga : w.heap.size ≤ Y4.heap.size := Gr.size GWY4
    have rY5_ga := Lib.hid sga
    clear sga frga
    have GY5 : Gr Y4 Y5 := ((by repeat (first | exact Gr.refl _ | apply Gr.ext | apply Gr.alloc | apply Gr.drew)) : Gr Y4 (Y4.alloc (.cells #[.slice ax0q0 lx0q0 cx0q0] 33))).trans gY5
    have GWY5 : Gr w Y5 := GWY4.trans GY5
    have ZY5 : Y4.heap.size ≤ Y5.heap.size := GY5.size
    have cY5_box_0 : Y5.cell? ⟨w.heap.size, 0, none⟩ = some (.slice ca0 cl0 cc0) := GY5.keep cY4_box_0
    have cY5_wa_0 : Y5.cell? ⟨Y3.heap.size, 0, none⟩ = some (.slice awa lwa cwa) := GY5.keep cY4_wa_0
    have cY5_x0_0 : Y5.cell? ⟨Y4.heap.size, 0, none⟩ = some (.slice ax0q0 lx0q0 cx0q0) := (((by repeat (first | exact Gr.refl _ | apply Gr.ext | apply Gr.alloc | apply Gr.drew)) : Gr (Y4.alloc (.cells #[.slice ax0q0 lx0q0 cx0q0] 33)) (Y4.alloc (.cells #[.slice ax0q0 lx0q0 cx0q0] 33))).trans gY5).keep (box_cell (A := _) (by simp) rfl : ((Y4.alloc (.cells #[.slice ax0q0 lx0q0 cx0q0] 33))).cell? ⟨Y4.heap.size, 0, none⟩ = some (.slice ax0q0 lx0q0 cx0q0))
    have zY5_box := blk cY5_box_0
    have zY5_wa := blk cY5_wa_0
    have zY5_x0 := blk cY5_x0_0
    have rY5_wa := Lib.hid (Rd.gr rY4_wa.out GY5)
    have rY5_x0 := Lib.hid (Rd.gr rY4_x0.out GY5)
    clear cY4_box_0 cY4_wa_0
    go_wp2_with fail
    refine (eqTree_any _ _ _ _ yv yv _ (Rd.gr rY5_ga.out (by repeat (first | exact Gr.refl _ | apply Gr.ext | apply Gr.alloc | apply Gr.drew))) (Rd.gr rY5_wa.out (by repeat (first | exact Gr.refl _ | apply Gr.ext | apply Gr.alloc | apply Gr.drew)))).mono ?_
    rintro e Y6 ⟨rfl, gY6⟩
    rw [decide_eq_true rfl]
    have GY6 : Gr Y5 Y6 := ((by repeat (first | exact Gr.refl _ | apply Gr.ext | apply Gr.alloc | apply Gr.drew)) : Gr Y5 (Y5.alloc (.cells #[.slice aga lga cga] 28))).trans gY6
    have GWY6 : Gr w Y6 := GWY5.trans GY6
    have ZY6 : Y5.heap.size ≤ Y6.heap.size := GY6.size
    have cY6_box_0 : Y6.cell? ⟨w.heap.size, 0, none⟩ = some (.slice ca0 cl0 cc0) := GY6.keep cY5_box_0
    have cY6_wa_0 : Y6.cell? ⟨Y3.heap.size, 0, none⟩ = some (.slice awa lwa cwa) := GY6.keep cY5_wa_0
    have cY6_x0_0 : Y6.cell? ⟨Y4.heap.size, 0, none⟩ = some (.slice ax0q0 lx0q0 cx0q0) := GY6.keep cY5_x0_0
    have cY6_ga_0 : Y6.cell? ⟨Y5.heap.size, 0, none⟩ = some (.slice aga lga cga) := (((by repeat (first | exact Gr.refl _ | apply Gr.ext | apply Gr.alloc | apply Gr.drew)) : Gr (Y5.alloc (.cells #[.slice aga lga cga] 28)) (Y5.alloc (.cells #[.slice aga lga cga] 28))).trans gY6).keep (box_cell (A := _) (by simp) rfl : ((Y5.alloc (.cells #[.slice aga lga cga] 28))).cell? ⟨Y5.heap.size, 0, none⟩ = some (.slice aga lga cga))
    have zY6_box := blk cY6_box_0
    have zY6_wa := blk cY6_wa_0
    have zY6_x0 := blk cY6_x0_0
    have zY6_ga := blk cY6_ga_0
    have rY6_wa := Lib.hid (Rd.gr rY5_wa.out GY6)
    have rY6_x0 := Lib.hid (Rd.gr rY5_x0.out GY6)
    have rY6_ga := Lib.hid (Rd.gr rY5_ga.out GY6)
    clear cY5_box_0 cY5_wa_0 cY5_x0_0
    go_wp2_with fail
    have kcY6_box_0 : ∀ w' : World, Gr Y6 w' → w'.cell? ⟨w.heap.size, 0, none⟩ = some (.slice ca0 cl0 cc0) := fun w' h => h.keep cY6_box_0
    have kcY6_wa_0 : ∀ w' : World, Gr Y6 w' → w'.cell? ⟨Y3.heap.size, 0, none⟩ = some (.slice awa lwa cwa) := fun w' h => h.keep cY6_wa_0
    have kcY6_x0_0 : ∀ w' : World, Gr Y6 w' → w'.cell? ⟨Y4.heap.size, 0, none⟩ = some (.slice ax0q0 lx0q0 cx0q0) := fun w' h => h.keep cY6_x0_0
    have kcY6_ga_0 : ∀ w' : World, Gr Y6 w' → w'.cell? ⟨Y5.heap.size, 0, none⟩ = some (.slice aga lga cga) := fun w' h => h.keep cY6_ga_0
    go_region_held3 (fun w' => Gr Y6 w') (first | assumption | exact Gr.drew (Gr.refl _) | exact Gr.ext (by assumption) _)
      (first
        | ((go_at_call 9; refine (toStore_any _ _ x _ (Rd.gr HX.out (GWY6.trans (by assumption))) hw).mono ?_; rintro e w' ⟨ds5, f5, rfl, s5, fr5, e1, rfl⟩))
        | ((go_at_call 12; refine (eqStore_any _ _ _ _ x x _ (Rd.gr rY6_x0.out (by assumption)) s5).mono ?_; rintro e w' ⟨rfl, e2, rfl⟩; rw [decide_eq_true rfl])))
    have hY7 : Gr Y6 ((Y6.drew.ext e1).ext e2) := by assumption
    generalize ((Y6.drew.ext e1).ext e2) = Y7 at hY7 ⊢
    clear kcY6_box_0 kcY6_wa_0 kcY6_x0_0 kcY6_ga_0
    have GY7 : Gr Y6 Y7 := ((Gr.refl _) : Gr Y6 Y6).trans hY7
    have GWY7 : Gr w Y7 := GWY6.trans GY7
    have ZY7 : Y6.heap.size ≤ Y7.heap.size := GY7.size
    have cY7_box_0 : Y7.cell? ⟨w.heap.size, 0, none⟩ = some (.slice ca0 cl0 cc0) := GY7.keep cY6_box_0
    have cY7_wa_0 : Y7.cell? ⟨Y3.heap.size, 0, none⟩ = some (.slice awa lwa cwa) := GY7.keep cY6_wa_0
    have cY7_x0_0 : Y7.cell? ⟨Y4.heap.size, 0, none⟩ = some (.slice ax0q0 lx0q0 cx0q0) := GY7.keep cY6_x0_0
    have cY7_ga_0 : Y7.cell? ⟨Y5.heap.size, 0, none⟩ = some (.slice aga lga cga) := GY7.keep cY6_ga_0
    have zY7_box := blk cY7_box_0
    have zY7_wa := blk cY7_wa_0
    have zY7_x0 := blk cY7_x0_0
    have zY7_ga := blk cY7_ga_0
    have rY7_wa := Lib.hid (Rd.gr rY6_wa.out GY7)
    have rY7_x0 := Lib.hid (Rd.gr rY6_x0.out GY7)
    have rY7_ga := Lib.hid (Rd.gr rY6_ga.out GY7)
    clear cY6_box_0 cY6_wa_0 cY6_x0_0 cY6_ga_0
    clear s5 fr5
    go_wp2_with fail
    refine (markStore_any fx0 _ x 1 _ rY7_x0.out F_x0.out.1 (by omega) (by have := vStore_bd 1 x; omega)).mono ?_
    rintro e Y8 ⟨rfl, sY8, gY8⟩
    have bk1 := vStore_bd 1 x
    obtain ⟨k1, hk1⟩ : ∃ k, k = (vStore 1 x).2 := ⟨_, rfl⟩
    rw [← hk1] at bk1 ⊢
    clear hk1
    have rY8_m := Lib.hid sY8
    clear sY8
    have ZY8 : Y7.heap.size ≤ Y8.heap.size := Nat.le_trans (Gr.size ((Gr.refl _) : Gr Y7 Y7)) gY8.size
    have GWY8 : Gr w Y8 := Gr.wr GWY7 gY8 (fun b hb => by have a1 := F_x0.out.2 b hb; omega)
    have cY8_box_0 : Y8.cell? ⟨w.heap.size, 0, none⟩ = some (.slice ca0 cl0 cc0) := (World.cell?_of_block (gY8.block _ (blk (((Gr.refl _) : Gr Y7 Y7).keep cY7_box_0)) (fun h => by have a1 := F_x0.out.2 (w.heap.size) h; have a2 := L_x0.out (w.heap.size) h; omega))).trans (((Gr.refl _) : Gr Y7 Y7).keep cY7_box_0)
    have cY8_wa_0 : Y8.cell? ⟨Y3.heap.size, 0, none⟩ = some (.slice awa lwa cwa) := (World.cell?_of_block (gY8.block _ (blk (((Gr.refl _) : Gr Y7 Y7).keep cY7_wa_0)) (fun h => by have a1 := F_x0.out.2 (Y3.heap.size) h; have a2 := L_x0.out (Y3.heap.size) h; omega))).trans (((Gr.refl _) : Gr Y7 Y7).keep cY7_wa_0)
    have cY8_x0_0 : Y8.cell? ⟨Y4.heap.size, 0, none⟩ = some (.slice ax0q0 lx0q0 cx0q0) := (World.cell?_of_block (gY8.block _ (blk (((Gr.refl _) : Gr Y7 Y7).keep cY7_x0_0)) (fun h => by have a1 := F_x0.out.2 (Y4.heap.size) h; have a2 := L_x0.out (Y4.heap.size) h; omega))).trans (((Gr.refl _) : Gr Y7 Y7).keep cY7_x0_0)
    have cY8_ga_0 : Y8.cell? ⟨Y5.heap.size, 0, none⟩ = some (.slice aga lga cga) := (World.cell?_of_block (gY8.block _ (blk (((Gr.refl _) : Gr Y7 Y7).keep cY7_ga_0)) (fun h => by have a1 := F_x0.out.2 (Y5.heap.size) h; have a2 := L_x0.out (Y5.heap.size) h; omega))).trans (((Gr.refl _) : Gr Y7 Y7).keep cY7_ga_0)
    have zY8_box := blk cY8_box_0
    have zY8_wa := blk cY8_wa_0
    have zY8_x0 := blk cY8_x0_0
    have zY8_ga := blk cY8_ga_0
    have rY8_wa := Lib.hid (Rd.wr (Rd.gr rY7_wa.out ((Gr.refl _) : Gr Y7 Y7)) gY8 (fun b h1 h2 => by have a1 := F_x0.out.2 _ h2; have a2 := L_x0.out _ h2; have a3 := F_wa.out.2 _ h1; have a4 := L_wa.out _ h1; omega))
    have rY8_ga := Lib.hid (Rd.wr (Rd.gr rY7_ga.out ((Gr.refl _) : Gr Y7 Y7)) gY8 (fun b h1 h2 => by have a1 := F_x0.out.2 _ h2; have a2 := L_x0.out _ h2; have a3 := F_ga.out.2 _ h1; have a4 := L_ga.out _ h1; omega))
    clear cY7_box_0 cY7_wa_0 cY7_x0_0 cY7_ga_0
    go_wp2_with fail
    refine (eqTree_any _ _ _ _ yv yv _ rY8_ga.out rY8_wa.out).mono ?_
    rintro e Y9 ⟨rfl, gY9⟩
    rw [decide_eq_true rfl]
    have GY9 : Gr Y8 Y9 := ((Gr.refl _) : Gr Y8 Y8).trans gY9
    have GWY9 : Gr w Y9 := GWY8.trans GY9
    have ZY9 : Y8.heap.size ≤ Y9.heap.size := GY9.size
    have cY9_box_0 : Y9.cell? ⟨w.heap.size, 0, none⟩ = some (.slice ca0 cl0 cc0) := GY9.keep cY8_box_0
    have cY9_wa_0 : Y9.cell? ⟨Y3.heap.size, 0, none⟩ = some (.slice awa lwa cwa) := GY9.keep cY8_wa_0
    have cY9_x0_0 : Y9.cell? ⟨Y4.heap.size, 0, none⟩ = some (.slice ax0q0 lx0q0 cx0q0) := GY9.keep cY8_x0_0
    have cY9_ga_0 : Y9.cell? ⟨Y5.heap.size, 0, none⟩ = some (.slice aga lga cga) := GY9.keep cY8_ga_0
    have zY9_box := blk cY9_box_0
    have zY9_wa := blk cY9_wa_0
    have zY9_x0 := blk cY9_x0_0
    have zY9_ga := blk cY9_ga_0
    have rY9_wa := Lib.hid (Rd.gr rY8_wa.out GY9)
    have rY9_ga := Lib.hid (Rd.gr rY8_ga.out GY9)
    clear cY8_box_0 cY8_wa_0 cY8_x0_0 cY8_ga_0
    go_wp2_with fail
    have mb := vTree_bd 1 yv
    have mb0 : ¬ (vTree 1 yv).2 < 0 := by omega
    have MB1 := Lib.hid (show (vTree 1 yv).2 ≤ 4398046511104 by omega)
    clear mb
    refine (markTree_any fga _ yv 1 _ rY9_ga.out F_ga.out.1 (by omega) MB1.out).mono ?_
    rintro e Y10 ⟨rfl, sY10, gY10⟩
    have rY10_g := Lib.hid sY10
    clear sY10
    have ZY10 : Y9.heap.size ≤ Y10.heap.size := Nat.le_trans (Gr.size ((Gr.refl _) : Gr Y9 Y9)) gY10.size
    have GWY10 : Gr w Y10 := Gr.wr GWY9 gY10 (fun b hb => by have a1 := F_ga.out.2 b hb; omega)
    have cY10_box_0 : Y10.cell? ⟨w.heap.size, 0, none⟩ = some (.slice ca0 cl0 cc0) := (World.cell?_of_block (gY10.block _ (blk (((Gr.refl _) : Gr Y9 Y9).keep cY9_box_0)) (fun h => by have a1 := F_ga.out.2 (w.heap.size) h; have a2 := L_ga.out (w.heap.size) h; omega))).trans (((Gr.refl _) : Gr Y9 Y9).keep cY9_box_0)
    have cY10_wa_0 : Y10.cell? ⟨Y3.heap.size, 0, none⟩ = some (.slice awa lwa cwa) := (World.cell?_of_block (gY10.block _ (blk (((Gr.refl _) : Gr Y9 Y9).keep cY9_wa_0)) (fun h => by have a1 := F_ga.out.2 (Y3.heap.size) h; have a2 := L_ga.out (Y3.heap.size) h; omega))).trans (((Gr.refl _) : Gr Y9 Y9).keep cY9_wa_0)
    have cY10_x0_0 : Y10.cell? ⟨Y4.heap.size, 0, none⟩ = some (.slice ax0q0 lx0q0 cx0q0) := (World.cell?_of_block (gY10.block _ (blk (((Gr.refl _) : Gr Y9 Y9).keep cY9_x0_0)) (fun h => by have a1 := F_ga.out.2 (Y4.heap.size) h; have a2 := L_ga.out (Y4.heap.size) h; omega))).trans (((Gr.refl _) : Gr Y9 Y9).keep cY9_x0_0)
    have cY10_ga_0 : Y10.cell? ⟨Y5.heap.size, 0, none⟩ = some (.slice aga lga cga) := (World.cell?_of_block (gY10.block _ (blk (((Gr.refl _) : Gr Y9 Y9).keep cY9_ga_0)) (fun h => by have a1 := F_ga.out.2 (Y5.heap.size) h; have a2 := L_ga.out (Y5.heap.size) h; omega))).trans (((Gr.refl _) : Gr Y9 Y9).keep cY9_ga_0)
    have zY10_box := blk cY10_box_0
    have zY10_wa := blk cY10_wa_0
    have zY10_x0 := blk cY10_x0_0
    have zY10_ga := blk cY10_ga_0
    have rY10_wa := Lib.hid (Rd.wr (Rd.gr rY9_wa.out ((Gr.refl _) : Gr Y9 Y9)) gY10 (fun b h1 h2 => by have a1 := F_ga.out.2 _ h2; have a2 := L_ga.out _ h2; have a3 := F_wa.out.2 _ h1; have a4 := L_wa.out _ h1; omega))
    clear cY9_box_0 cY9_wa_0 cY9_x0_0 cY9_ga_0
    go_wp2_with fail
    refine (heldTree_any _ _ yv 1 _ rY10_g.out (by omega) MB1.out).mono ?_
    rintro e Y11 ⟨rfl, gY11⟩
    have GY11 : Gr Y10 Y11 := ((Gr.refl _) : Gr Y10 Y10).trans gY11
    have GWY11 : Gr w Y11 := GWY10.trans GY11
    have ZY11 : Y10.heap.size ≤ Y11.heap.size := GY11.size
    have cY11_box_0 : Y11.cell? ⟨w.heap.size, 0, none⟩ = some (.slice ca0 cl0 cc0) := GY11.keep cY10_box_0
    have cY11_wa_0 : Y11.cell? ⟨Y3.heap.size, 0, none⟩ = some (.slice awa lwa cwa) := GY11.keep cY10_wa_0
    have cY11_x0_0 : Y11.cell? ⟨Y4.heap.size, 0, none⟩ = some (.slice ax0q0 lx0q0 cx0q0) := GY11.keep cY10_x0_0
    have cY11_ga_0 : Y11.cell? ⟨Y5.heap.size, 0, none⟩ = some (.slice aga lga cga) := GY11.keep cY10_ga_0
    have zY11_box := blk cY11_box_0
    have zY11_wa := blk cY11_wa_0
    have zY11_x0 := blk cY11_x0_0
    have zY11_ga := blk cY11_ga_0
    have rY11_wa := Lib.hid (Rd.gr rY10_wa.out GY11)
    have rY11_ga := Lib.hid (Rd.gr rY10_g.out GY11)
    clear cY10_box_0 cY10_wa_0 cY10_x0_0 cY10_ga_0
    go_wp2_with fail
    refine (toStore_any _ _ x _ (Rd.gr HX.out GWY11) hw).mono ?_
    rintro e Y12 ⟨dsxh, fxh, rfl, sxh, frxh, gY12⟩
    obtain ⟨axhq0, lxhq0, cxhq0, rfl⟩ := rdStore_shape sxh
    have F_xh : Hid (fxh.Nodup ∧ ∀ b ∈ fxh, Y11.heap.size + 0 ≤ b) := Lib.hid ⟨frxh.1, fun b hb => by have h := frxh.2 b hb; (try simp at h); omega⟩
    have L_xh := Lib.hid (Rd.lt sxh)
    have ZW0xh : w.heap.size ≤ Y11.heap.size := Gr.size GWY11
    have rY12_xh := Lib.hid sxh
    clear sxh frxh
    have GY12 : Gr Y11 Y12 := ((Gr.refl _) : Gr Y11 Y11).trans gY12
    have GWY12 : Gr w Y12 := GWY11.trans GY12
    have ZY12 : Y11.heap.size ≤ Y12.heap.size := GY12.size
    have cY12_box_0 : Y12.cell? ⟨w.heap.size, 0, none⟩ = some (.slice ca0 cl0 cc0) := GY12.keep cY11_box_0
    have cY12_wa_0 : Y12.cell? ⟨Y3.heap.size, 0, none⟩ = some (.slice awa lwa cwa) := GY12.keep cY11_wa_0
    have cY12_x0_0 : Y12.cell? ⟨Y4.heap.size, 0, none⟩ = some (.slice ax0q0 lx0q0 cx0q0) := GY12.keep cY11_x0_0
    have cY12_ga_0 : Y12.cell? ⟨Y5.heap.size, 0, none⟩ = some (.slice aga lga cga) := GY12.keep cY11_ga_0
    have zY12_box := blk cY12_box_0
    have zY12_wa := blk cY12_wa_0
    have zY12_x0 := blk cY12_x0_0
    have zY12_ga := blk cY12_ga_0
    have rY12_wa := Lib.hid (Rd.gr rY11_wa.out GY12)
    have rY12_ga := Lib.hid (Rd.gr rY11_ga.out GY12)
    clear cY11_box_0 cY11_wa_0 cY11_x0_0 cY11_ga_0
    go_wp2_with fail
    refine (implExpand_any x a1 a2 _ rY12_xh.out hw).mono ?_
    rintro e Y13 ⟨esha, fha, rfl, sha, frha, gY13⟩
    rw [← HB.out]
    rw [← HYV.out] at sha
    obtain ⟨aha, lha, cha, rfl⟩ := rdTree_shape sha
    have F_ha : Hid (fha.Nodup ∧ ∀ b ∈ fha, Y12.heap.size + 0 ≤ b) := Lib.hid ⟨frha.1, fun b hb => by have h := frha.2 b hb; (try simp at h); omega⟩
    have L_ha := Lib.hid (Rd.lt sha)
    have ZW0ha : w.heap.size ≤ Y12.heap.size := Gr.size GWY12
    have rY13_ha := Lib.hid sha
    clear sha frha
    have GY13 : Gr Y12 Y13 := ((Gr.refl _) : Gr Y12 Y12).trans gY13
    have GWY13 : Gr w Y13 := GWY12.trans GY13
    have ZY13 : Y12.heap.size ≤ Y13.heap.size := GY13.size
    have cY13_box_0 : Y13.cell? ⟨w.heap.size, 0, none⟩ = some (.slice ca0 cl0 cc0) := GY13.keep cY12_box_0
    have cY13_wa_0 : Y13.cell? ⟨Y3.heap.size, 0, none⟩ = some (.slice awa lwa cwa) := GY13.keep cY12_wa_0
    have cY13_x0_0 : Y13.cell? ⟨Y4.heap.size, 0, none⟩ = some (.slice ax0q0 lx0q0 cx0q0) := GY13.keep cY12_x0_0
    have cY13_ga_0 : Y13.cell? ⟨Y5.heap.size, 0, none⟩ = some (.slice aga lga cga) := GY13.keep cY12_ga_0
    have zY13_box := blk cY13_box_0
    have zY13_wa := blk cY13_wa_0
    have zY13_x0 := blk cY13_x0_0
    have zY13_ga := blk cY13_ga_0
    have rY13_wa := Lib.hid (Rd.gr rY12_wa.out GY13)
    have rY13_ga := Lib.hid (Rd.gr rY12_ga.out GY13)
    have rY13_xh := Lib.hid (Rd.gr rY12_xh.out GY13)
    clear cY12_box_0 cY12_wa_0 cY12_x0_0 cY12_ga_0
    go_wp2_with fail
    refine (eqTree_any _ _ _ _ yv yv _ (Rd.gr rY13_ha.out (by repeat (first | exact Gr.refl _ | apply Gr.ext | apply Gr.alloc | apply Gr.drew))) (Rd.gr rY13_wa.out (by repeat (first | exact Gr.refl _ | apply Gr.ext | apply Gr.alloc | apply Gr.drew)))).mono ?_
    rintro e Y14 ⟨rfl, gY14⟩
    rw [decide_eq_true rfl]
    have GY14 : Gr Y13 Y14 := ((by repeat (first | exact Gr.refl _ | apply Gr.ext | apply Gr.alloc | apply Gr.drew)) : Gr Y13 (Y13.alloc (.cells #[.slice aha lha cha] 28))).trans gY14
    have GWY14 : Gr w Y14 := GWY13.trans GY14
    have ZY14 : Y13.heap.size ≤ Y14.heap.size := GY14.size
    have cY14_box_0 : Y14.cell? ⟨w.heap.size, 0, none⟩ = some (.slice ca0 cl0 cc0) := GY14.keep cY13_box_0
    have cY14_wa_0 : Y14.cell? ⟨Y3.heap.size, 0, none⟩ = some (.slice awa lwa cwa) := GY14.keep cY13_wa_0
    have cY14_x0_0 : Y14.cell? ⟨Y4.heap.size, 0, none⟩ = some (.slice ax0q0 lx0q0 cx0q0) := GY14.keep cY13_x0_0
    have cY14_ga_0 : Y14.cell? ⟨Y5.heap.size, 0, none⟩ = some (.slice aga lga cga) := GY14.keep cY13_ga_0
    have cY14_ha_0 : Y14.cell? ⟨Y13.heap.size, 0, none⟩ = some (.slice aha lha cha) := (((by repeat (first | exact Gr.refl _ | apply Gr.ext | apply Gr.alloc | apply Gr.drew)) : Gr (Y13.alloc (.cells #[.slice aha lha cha] 28)) (Y13.alloc (.cells #[.slice aha lha cha] 28))).trans gY14).keep (box_cell (A := _) (by simp) rfl : ((Y13.alloc (.cells #[.slice aha lha cha] 28))).cell? ⟨Y13.heap.size, 0, none⟩ = some (.slice aha lha cha))
    have zY14_box := blk cY14_box_0
    have zY14_wa := blk cY14_wa_0
    have zY14_x0 := blk cY14_x0_0
    have zY14_ga := blk cY14_ga_0
    have zY14_ha := blk cY14_ha_0
    have rY14_wa := Lib.hid (Rd.gr rY13_wa.out GY14)
    have rY14_ga := Lib.hid (Rd.gr rY13_ga.out GY14)
    have rY14_ha := Lib.hid (Rd.gr rY13_ha.out GY14)
    clear cY13_box_0 cY13_wa_0 cY13_x0_0 cY13_ga_0
    go_wp2_with fail
    refine (heldTree_any _ _ yv 1 _ rY14_ga.out (by omega) MB1.out).mono ?_
    rintro e Y15 ⟨rfl, gY15⟩
    have GY15 : Gr Y14 Y15 := ((Gr.refl _) : Gr Y14 Y14).trans gY15
    have GWY15 : Gr w Y15 := GWY14.trans GY15
    have ZY15 : Y14.heap.size ≤ Y15.heap.size := GY15.size
    have cY15_box_0 : Y15.cell? ⟨w.heap.size, 0, none⟩ = some (.slice ca0 cl0 cc0) := GY15.keep cY14_box_0
    have cY15_wa_0 : Y15.cell? ⟨Y3.heap.size, 0, none⟩ = some (.slice awa lwa cwa) := GY15.keep cY14_wa_0
    have cY15_x0_0 : Y15.cell? ⟨Y4.heap.size, 0, none⟩ = some (.slice ax0q0 lx0q0 cx0q0) := GY15.keep cY14_x0_0
    have cY15_ga_0 : Y15.cell? ⟨Y5.heap.size, 0, none⟩ = some (.slice aga lga cga) := GY15.keep cY14_ga_0
    have cY15_ha_0 : Y15.cell? ⟨Y13.heap.size, 0, none⟩ = some (.slice aha lha cha) := GY15.keep cY14_ha_0
    have zY15_box := blk cY15_box_0
    have zY15_wa := blk cY15_wa_0
    have zY15_x0 := blk cY15_x0_0
    have zY15_ga := blk cY15_ga_0
    have zY15_ha := blk cY15_ha_0
    have rY15_wa := Lib.hid (Rd.gr rY14_wa.out GY15)
    have rY15_ga := Lib.hid (Rd.gr rY14_ga.out GY15)
    have rY15_ha := Lib.hid (Rd.gr rY14_ha.out GY15)
    clear cY14_box_0 cY14_wa_0 cY14_x0_0 cY14_ga_0 cY14_ha_0
    go_wp2_with fail
    go_ret
    exact ⟨rfl, GWY15⟩
end Go.Proofs.Ytadoalpcakninaa
