/- l33Reach of the reference. No condition. -/
import Derived.Test.YtcphimmkkfpohaaReachI
namespace Go.Proofs.Ytcphimmkkfpohaa
open Go.RowKit

theorem Try.infoBoolS : (Try.prog.info? 37).map (fun i => (i.zero, i.size, i.bytes)) = some (some (.slice none 0 0), 1, 24) := by kernel_rfl

theorem mem_ins_at {T : List (List Int)} {x : Nat} (hx : x < T.length) {y : Int} : y ∈ insOf T x ↔ y ∈ T[x] ∧ 0 ≤ y ∧ y ≤ (T.length : Int) - 1 := by
  rw [insOf_at hx, List.mem_filter, inR_iff]

set_option maxRecDepth 10000 in
set_option maxHeartbeats 8000000 in
theorem l33Reach_any (fp : List Nat) (u : Value) (T : List (List Int)) (w : World) (hu : SlR fp w u T) (hlen : T.length ≤ 1048576) :
    Calls Try.prog 19 #[u] w fun e w' => ∃ v fq, e = .returned v ∧ SlR fq w' v (reachAll T) ∧ Gr w w' := by
  have HU := Lib.hid hu
  obtain ⟨aT, cT, rfl, h1, h2, h3⟩ := hu.open
  obtain ⟨i0, hi, hz0, hz1, hz2⟩ := info_parts Try.infoBool
  have hmk := fun (W : World) => run_make (P := Try.prog) W 37 4 i0 (.bool false) Try.underlying37 hi hz0 .i64 .i64 T.length T.length (by omega) (by omega) (by rw [hz2]; omega) (by omega)
  rw [hz1] at hmk
  clear hi hz0 hz1 hz2
  obtain ⟨i1, hi, hz0, hz1, hz2⟩ := info_parts Try.infoInt
  have HZ := Lib.hid (And.intro hi (And.intro hz0 (And.intro hz1 hz2)))
  clear hi hz0 hz1 hz2
  obtain ⟨i2, hi, hz0, hz1, hz2⟩ := info_parts Try.infoBoolS
  have HY := Lib.hid (And.intro hi (And.intro hz0 (And.intro hz1 hz2)))
  simp only [Int.toNat_natCast, Nat.mul_one] at hmk
  have HB0 := Lib.hid (fun W : World => BRow.made W T.length 4)
  have hce : (Value.bool false).cells = #[.bool false] := rfl
  rw [hce] at hmk
  generalize madeCells #[.bool false] T.length = C0 at hmk HB0
  clear hi hz0 hz1 hz2 hu hce
  go_enter Try.func19, Try.ntmps19
  go_wp2_with fail
  go_loopg [4, 5] T.length (fun gg s4 s5 wr => ∃ (i : Nat) (fps : List (List Nat)), OwnR w 37 wr s4 fps ((List.range i).map (reachRow T)) ∧ Fresh w fps.flatten ∧ Gr w wr ∧ s5 = .int .i64 i ∧ i ≤ T.length ∧ T.length - i ≤ gg)
  case atStart => exact ⟨0, [], by simpa using OwnR.lit0 (α := List Bool) (w0 := w) (w := w) 37 (Nat.le_refl _) rfl, Fresh.nil _, (by repeat (first | exact Gr.refl _ | apply Gr.ext | apply Gr.alloc | apply Gr.drew)), rfl, by omega, by omega⟩
  case round =>
    obtain ⟨i, fps, hown, hfr, hg, rfl, hin, hgg⟩ := hrel
    rename World => W1
    have HG := Lib.hid hg
    have HO := Lib.hid hown
    have HF := Lib.hid hfr
    obtain ⟨ra, rc, hform⟩ := hown.form
    have hLl : ((List.range i).map (reachRow T)).length = i := by simp
    rw [hLl] at hform
    have HL := Lib.hid hLl
    subst hform
    clear hg hown hLl hfr
    by_cases hlt : i < T.length
    · go_wp2_with fail
      have HB1 := Lib.hid (HB0.out W1)
      go_loopg [7, 8] (T.length + 1) (fun gg s7 s8 wr => ∃ (k : Nat) (R : List Nat) (fl : List Bool), RInv T i k R fl ∧ Que (W1.heap.size + 1) 3 wr s7 (castL (i :: R)) ∧ BRow wr W1.heap.size 4 fl ∧ Gr W1 wr ∧ s8 = .int .i64 k ∧ T.length + 1 - k ≤ gg)
      case atStart =>
        refine ⟨0, [], _, RInv.start hlt, ⟨W1.heap.size + 1, 0, 1, #[.int .i64 i], rfl, Nat.le_refl _, ?_, by simp [castL], by decide, by simp, ?_⟩, HB1.out.gr (by repeat (first | exact Gr.refl _ | apply Gr.ext | apply Gr.alloc | apply Gr.drew)), (by repeat (first | exact Gr.refl _ | apply Gr.ext | apply Gr.alloc | apply Gr.drew)), rfl, by omega⟩
        · have := heap_alloc_new (W1.alloc (Obj.cells C0 4)) (.cells #[.int .i64 (i : Int)] 3)
          simpa using this
        · intro j u hj
          cases j with
          | zero => simpa [castL] using hj
          | succ j => simp [castL] at hj
      case round =>
        obtain ⟨k, R, fl, hI, hq, hb, hg, rfl, hgg2⟩ := hrel
        rename World => W2
        have hRl0 := hI.le
        have hile := hI.ile
        have HI := Lib.hid hI
        have HQ := Lib.hid hq
        have HB := Lib.hid hb
        have HG2 := Lib.hid hg
        obtain ⟨g, off, cap, rfl, hgl, hgw, hqc, hcm, hcell⟩ := hq.form
        have hcl : (castL (i :: R)).length = R.length + 1 := by rw [castL_len]; rfl
        rw [hcl] at hqc HQ ⊢
        have HCL := Lib.hid hcl
        have hbl := hb.lt
        by_cases hkl : k < R.length + 1
        · have hat := hI.at_lt (m := k) (by simpa using hkl)
          have hc0 : W2.cell? ⟨g, off + k, none⟩ = some (.int .i64 (((i :: R)[k]'(by simpa using hkl) : Nat) : Int)) := by
            rw [hcell k (by rw [hcl]; exact hkl)]
            simp only [castL, List.getElem_map]
            rfl
          obtain ⟨x, hx⟩ : ∃ x, x = (i :: R)[k]'(by simpa using hkl) := ⟨_, rfl⟩
          rw [← hx] at hat hc0
          have hx2 : (i :: R)[k]? = some x := by rw [List.getElem?_eq_getElem (by simpa using hkl), hx]
          have HX := Lib.hid hx2
          obtain ⟨b0, off0, rfl, hb0⟩ := h3 x hat
          obtain ⟨r1, f1, x1, hr1, _⟩ := HU.out.sl_at (i := x) hat
          obtain ⟨yrow, hyrow⟩ : ∃ y, y = T[x] := ⟨_, rfl⟩
          rw [← hyrow] at hr1
          have HYR := Lib.hid hyrow
          obtain ⟨ar, cr, rfl, q1, q2, q3⟩ := hr1.open
          have gw2 : Gr w W2 := HG.out.trans hg
          have z1 := gw2.keep x1
          have HR := Lib.hid hr1
          have zb := blk z1
          have zg := blk hc0
          have hkd : decide ((k : Int) < (R.length : Int) + 1) = true := decide_eq_true (by omega)
          have hwz := HG.out.size
          clear hI hq hb hg hcell hx hx2 x1 hr1 h3 hcl hyrow gw2
          go_wp2_with fail
          go_loopg [7, 10] yrow.length (fun gg s7 s10 wr => ∃ (j : Nat) (R : List Nat) (fl : List Bool), RInv T i k R fl ∧ (i :: R)[k]? = some x ∧ (∀ m, m < j → ∀ z : Nat, yrow[m]? = some (z : Int) → z < T.length → z ∈ R) ∧ Que (W1.heap.size + 1) 3 wr s7 (castL (i :: R)) ∧ BRow wr W1.heap.size 4 fl ∧ Gr W1 wr ∧ W1.heap.size + 1 ≤ wr.heap.size ∧ s10 = .int .i64 j ∧ j ≤ yrow.length ∧ yrow.length - j ≤ gg)
          case atStart => exact ⟨0, R, fl, HI.out, HX.out, by omega, HQ.out, HB.out, HG2.out, by omega, rfl, by omega, by omega⟩
          case round =>
            obtain ⟨j, R, fl, hI, hX, hall, hq, hb, hg, hz, rfl, hj, hgj⟩ := hrel
            rename World => W3
            have hRl := hI.le
            obtain ⟨g2, off2, cap2, rfl, hg2l, hg2w, -, -, -⟩ := hq.form
            have hcl : (castL (i :: R)).length = R.length + 1 := by rw [castL_len]; rfl
            rw [hcl] at hq ⊢
            have HCL2 := Lib.hid hcl
            have HI2 := Lib.hid hI
            have HX2 := Lib.hid hX
            have HA2 := Lib.hid hall
            have HQ2 := Lib.hid hq
            have HB2 := Lib.hid hb
            have HG3 := Lib.hid hg
            have gw3 : Gr w W3 := HG.out.trans hg
            by_cases hjl : j < yrow.length
            · obtain ⟨bq, oq, rfl, hbq⟩ := q3 j hjl
              obtain ⟨y, hy⟩ : ∃ y, y = yrow[j] := ⟨_, rfl⟩
              have c1 : W3.cell? ⟨bq, oq + j, none⟩ = some (.int .i64 y) := by rw [hy]; exact gw3.keep (HR.out.int_at hjl).1
              have HYJ : Hid (yrow[j]? = some y) := Lib.hid (by rw [List.getElem?_eq_getElem hjl, hy])
              have c0 := blk c1
              by_cases hin2 : 0 ≤ y ∧ y ≤ (T.length : Int) - 1
              · have HIN := Lib.hid hin2
                obtain ⟨z, rfl⟩ : ∃ z : Nat, y = z := ⟨y.toNat, by omega⟩
                have hzn : z < T.length := by omega
                have hzi : Hid ((z : Int) ∈ insOf T x) := Lib.hid ((mem_ins_at hat).2 ⟨by rw [← HYR.out, hy]; exact List.getElem_mem hjl, hin2⟩)
                have hzf : z < fl.length := by rw [hI.len]; exact hzn
                have c2 := hb.cell hzf
                have hbl2 := hb.lt
                have hflg := hI.flg z hzf
                clear hI hX hall hq hb hy q3 hin2 hcl gw3
                cases hfz : fl[z] with
                | true =>
                  rw [hfz] at c2 hflg
                  have HF := Lib.hid (hflg.1 rfl)
                  clear hflg hg
                  go_wp2_with fail
                  refine (l1In_yes _ _ _ _ HIN.out.1 HIN.out.2).mono ?_
                  rintro e W4 ⟨rfl, g4⟩
                  have c3 := g4.keep c2
                  have c4 := g4.keep c1
                  have z3 := blk c3
                  have z4 := blk c4
                  have hz4 := g4.size
                  clear c1 c2 c0 hbl2
                  go_wp2_with fail
                  go_roundg (yrow.length - (j + 1))
                  case measure => omega
                  case rel =>
                    refine ⟨j + 1, R, fl, HI2.out, HX2.out, fun m hm y hy hyl => ?_, by have h := HQ2.out.gr g4; exact h, HB2.out.gr g4, HG3.out.trans g4, by omega, by go_num, by omega, by omega⟩
                    by_cases hmj : m < j
                    · exact HA2.out m hmj y hy hyl
                    · obtain rfl : m = j := by omega
                      rw [HYJ.out] at hy
                      obtain rfl : z = y := by simp at hy; omega
                      exact HF.out
                | false =>
                  rw [hfz] at c2 hflg
                  have HF : Hid (z ∉ R) := Lib.hid fun h => by have := hflg.2 h; cases this
                  have HDL : Hid ((castL (i :: R)).length ≤ 1048576) := Lib.hid (by
                    obtain ⟨hil2, hix⟩ := List.getElem?_eq_some_iff.1 HX2.out
                    have := (HI2.out.push hil2 (by rw [hix]; exact hzi.out) HF.out).le
                    rw [HCL2.out]; simp at this; omega)
                  clear hflg hg hfz
                  go_wp2_with fail
                  refine (l1In_yes _ _ _ _ HIN.out.1 HIN.out.2).mono ?_
                  rintro e W4 ⟨rfl, g4⟩
                  have c3 := g4.keep c2
                  have c4 := g4.keep c1
                  have b4 := HB2.out.gr g4
                  have f3 := b4.frozen z
                  have z3 := blk c3
                  have z4 := blk c4
                  have hz4 := g4.size
                  have HB4 := Lib.hid b4
                  have r1 : ∀ (W : World) (v : Value), (W.setCell ⟨W1.heap.size, z, none⟩ v).cell? ⟨bq, oq + j, none⟩ = W.cell? ⟨bq, oq + j, none⟩ := fun W v => cell_setCell_blk (by omega)
                  have HQ5 : Hid (Que (W1.heap.size + 1) 3 (W4.setCell ⟨W1.heap.size, z, none⟩ (.bool true)) (.slice (some ⟨g2, off2, none⟩) (R.length + 1) cap2) (castL (i :: R))) := Lib.hid (by
                    have h := HQ2.out.gr g4
                    exact h.wr ((Wr.refl [W1.heap.size] _).setCell (by simp) (.bool true)) fun b hb hm => by
                      have hb2 : g2 = b := by injection hb
                      simp at hm
                      omega)
                  clear c1 c2 c0 hbl2 b4
                  go_wp2_with (first | (at_builtin; refine wpList_append_que (base := W1.heap.size + 1) (w0 := W1) (((HG3.out.trans g4).setCell (Nat.le_refl _) _).alloc _) (by omega) (by simp; omega) rfl _ _ 30 rfl 3 i1 Try.underlying30 HZ.out.1 HZ.out.2.1 HZ.out.2.2.1 HZ.out.2.2.2 _ (castL (i :: R)) (by rfl) (HQ5.out.gr (by repeat (first | exact Gr.refl _ | apply Gr.ext | apply Gr.alloc | apply Gr.drew))) _ _ (z : Int) (by rfl) (box_cell (by simp) rfl) HDL.out ?_; intro v4 w4 k1 k2 k3 k4; obtain ⟨g5, hg5, hw5⟩ := k2; have hb5 := ((HB4.out.set z true).gr ((Gr.refl _).alloc _)).wr hw5 (have hg6 : g2 = g5 := by injection hg5
                      by subst hg6; simp; omega); have K5 := Lib.hid hb5; have K7 := hw5.size; replace k1 := Lib.hid k1; replace k3 := Lib.hid k3; clear hb5 hw5 hg5 k4))
                  go_roundg (yrow.length - (j + 1))
                  case measure => omega
                  case rel =>
                    obtain ⟨hil2, hix⟩ := List.getElem?_eq_some_iff.1 HX2.out
                    refine ⟨j + 1, R ++ [z], fl.set z true, HI2.out.push hil2 (by rw [hix]; exact hzi.out) HF.out, ?_, fun m hm y hy hyl => ?_, ?_, K5.out, k3.out, by have := k3.out.size; have hx1 := K5.out.lt; omega, by go_num, by omega, by omega⟩
                    · show ((i :: R) ++ [z])[k]? = some x
                      rw [List.getElem?_append_left hil2]
                      exact HX2.out
                    · by_cases hmj : m < j
                      · exact List.mem_append_left _ (HA2.out m hmj y hy hyl)
                      · obtain rfl : m = j := by omega
                        rw [HYJ.out] at hy
                        obtain rfl : z = y := by simp at hy; omega
                        simp
                    · have e : castL (i :: (R ++ [z])) = castL (i :: R) ++ [(z : Int)] := by
                        show castL ((i :: R) ++ [z]) = _
                        rw [castL_app]
                        rfl
                      rw [e]
                      exact k1.out
              · have hor : y < 0 ∨ (T.length : Int) - 1 < y := by omega
                have HIN := Lib.hid hor
                clear hI hX hall hq hb hy q3 hin2 hcl gw3 hor hg
                go_wp2_with fail
                refine (l1In_no _ _ _ _ HIN.out).mono ?_
                rintro e W4 ⟨rfl, g4⟩
                have hz4 := g4.size
                clear c1 c0
                go_wp2_with fail
                go_roundg (yrow.length - (j + 1))
                case measure => omega
                case rel =>
                  refine ⟨j + 1, R, fl, HI2.out, HX2.out, fun m hm y' hy hyl => ?_, by have h := HQ2.out.gr g4; exact h, HB2.out.gr g4, HG3.out.trans g4, by omega, by go_num, by omega, by omega⟩
                  by_cases hmj : m < j
                  · exact HA2.out m hmj y' hy hyl
                  · obtain rfl : m = j := by omega
                    rw [HYJ.out] at hy
                    have := HIN.out
                    simp at hy
                    omega
            · have hjn : j = yrow.length := by omega
              subst hjn
              clear hI hX hall hq hb hg q3 hcl gw3
              go_wp2_with fail
              go_roundg (T.length + 1 - (k + 1))
              case measure => omega
              case rel =>
                obtain ⟨hil2, hix⟩ := List.getElem?_eq_some_iff.1 HX2.out
                refine ⟨k + 1, R, fl, HI2.out.next hil2 fun z hz => ?_, HQ2.out, HB2.out, HG3.out, by go_num, by omega⟩
                rw [hix] at hz
                have hz2 := (mem_ins_at hat).1 hz
                rw [← HYR.out] at hz2
                obtain ⟨m, hm, e⟩ := List.mem_iff_getElem.1 hz2.1
                exact HA2.out m hm z (by rw [List.getElem?_eq_getElem hm, e]) (by omega)
        · have hk : k = R.length + 1 := by omega
          subst hk
          have hfin := hI.fin
          have hln := hI.len
          obtain ⟨fq, hs, hfq⟩ := hb.slR (by unfold reachLen; omega) (cap := T.length) (by omega)
          rw [hln, hfin] at hs
          have HS := Lib.hid hs
          have hF2 : Fresh W1 fq := Fresh.of_flat hfq (Nat.le_refl _)
          have HF2 := Lib.hid hF2
          have hap : Hid (∀ b, (Value.slice ra i rc).ownBlock = some b → b ∉ fq) := Lib.hid fun b hb2 hm => by have := (HO.out.base b hb2).2; have := hF2.2 b hm; omega
          have hG2 : Gr w W2 := HG.out.trans hg
          clear hI hq hb hcell hs hfq hfin hln hqc hF2 hcl
          go_wp2_with (first | (at_builtin; refine wpList_append_R (α := List Bool) (w0 := w) (hG2.trans (by repeat (first | exact Gr.refl _ | apply Gr.ext | apply Gr.alloc | apply Gr.drew))) rfl _ _ 35 rfl 37 i2 (.slice none 0 0) 24 Try.underlying35 HY.out.1 HY.out.2.1 HY.out.2.2.1 HY.out.2.2.2 rfl _ fps _ (by rfl) ((HO.out.gr hg).gr (by repeat (first | exact Gr.refl _ | apply Gr.ext | apply Gr.alloc | apply Gr.drew))) _ [fq] [reachRow T i] (by rfl) (SrcR.one (by simp) ⟨_, rfl, HS.out.gr (by repeat (first | exact Gr.refl _ | apply Gr.ext | apply Gr.alloc | apply Gr.drew))⟩) (by simpa using hap.out) (by rw [HL.out]; unfold maxLen; simp; omega) (by rw [HL.out]; simp; omega) ?_; intro v4 w4 h1 h2 h3 h4; replace h1 := Lib.hid h1; replace h4 := Lib.hid h4; clear h2 h3))
          go_roundg (T.length - (i + 1))
          case measure => omega
          case rel =>
            refine ⟨i + 1, fps ++ [fq], ?_, ?_, h4.out, by go_num, by omega, by omega⟩
            · rw [List.range_succ, List.map_append]; exact h1.out
            · rw [List.flatten_append]
              simp only [List.flatten_cons, List.flatten_nil, List.append_nil]
              exact HF.out.append (w1 := W1) HG.out.size (fun b hb => HO.out.lt b hb) HF2.out
    · obtain rfl : i = T.length := by omega
      obtain ⟨fq, hs, hfr⟩ := HO.out.fresh (by rw [HL.out]; unfold reachLen; omega) HF.out
      have HS := Lib.hid hs
      clear hs
      go_wp2_with fail
      go_ret
      exact ⟨_, fq, rfl, HS.out, HG.out⟩
end Go.Proofs.Ytcphimmkkfpohaa
