/- reachable of the program. No condition. -/
import Derived.Test.YtcphimmkkfpohaaInsB
import Derived.Test.YtcphimmkkfpohaaCompR
import Derived.Deep.LoopGhost
namespace Go.Proofs.Ytcphimmkkfpohaa
open Go.RowKit

theorem Try.infoBool : (Try.prog.info? 4).map (fun i => (i.zero, i.size, i.bytes)) = some (some (.bool false), 1, 1) := by kernel_rfl

theorem drop_cons' {α : Type} {l : List α} {i : Nat} (h : i < l.length) : l.drop i = l[i] :: l.drop (i + 1) := List.drop_eq_getElem_cons h

def castL (l : List Nat) : List Int := l.map Int.ofNat
theorem castL_len (l : List Nat) : (castL l).length = l.length := by simp [castL]
theorem castL_app (l m : List Nat) : castL (l ++ m) = castL l ++ castL m := by simp [castL]

set_option maxRecDepth 10000 in
set_option maxHeartbeats 8000000 in
theorem reachable_any (fp : List Nat) (u : Value) (T : List (List Int)) (a : Nat) (w : World) (hu : SlR fp w u (insAll T)) (hlen : T.length ≤ 1048576) (ha : a < T.length) :
    Calls Try.prog 23 #[u, .int .i64 a] w fun e w' => ∃ v fq, e = .returned v ∧ SlR fq w' v (reachRow T a) ∧ Fresh w fq ∧ Gr w w' := by
  have HU := Lib.hid hu
  obtain ⟨aT, cT, rfl, h1, h2, h3⟩ := hu.open
  have hil : (insAll T).length = T.length := insAll_len T
  rw [hil] at h1 h2
  have HIL := Lib.hid hil
  obtain ⟨i0, hi, hz0, hz1, hz2⟩ := info_parts Try.infoBool
  have hmk := fun (W : World) => run_make (P := Try.prog) W 37 4 i0 (.bool false) Try.underlying37 hi hz0 .i64 .i64 T.length T.length (by omega) (by omega) (by rw [hz2]; omega) (by omega)
  rw [hz1] at hmk
  clear hi hz0 hz1 hz2
  obtain ⟨i1, hi, hz0, hz1, hz2⟩ := info_parts Try.infoInt
  have HZ := Lib.hid (And.intro hi (And.intro hz0 (And.intro hz1 hz2)))
  simp only [Int.toNat_natCast, Nat.mul_one] at hmk
  have HB0 := Lib.hid (fun W : World => BRow.made W T.length 4)
  have hce : (Value.bool false).cells = #[.bool false] := rfl
  rw [hce] at hmk
  generalize madeCells #[.bool false] T.length = C0 at hmk HB0
  clear hi hz0 hz1 hz2 hu hce
  have hform : Value.slice aT (insAll T).length cT = .slice aT T.length cT := by rw [hil]
  rw [hform]
  clear hil hform
  go_enter Try.func23, Try.ntmps23
  go_wp2_with fail
  have HB1 := Lib.hid (HB0.out w)
  clear hmk HB0
  go_loopg [6] (T.length + 1) (fun gg s6 wr => ∃ (i : Nat) (R : List Nat) (fl : List Bool), RInv T a i R fl ∧ Que (w.heap.size + 1) 3 wr s6 (castL ((a :: R).drop i)) ∧ BRow wr w.heap.size 4 fl ∧ Gr w wr ∧ T.length + 1 - i ≤ gg)
  case atStart =>
    refine ⟨0, [], _, RInv.start ha, ⟨w.heap.size + 1, 0, 1, #[.int .i64 a], rfl, Nat.le_refl _, ?_, by simp [castL], by decide, by simp, ?_⟩, HB1.out.gr (by repeat (first | exact Gr.refl _ | apply Gr.ext | apply Gr.alloc | apply Gr.drew)), (by repeat (first | exact Gr.refl _ | apply Gr.ext | apply Gr.alloc | apply Gr.drew)), by omega⟩
    · have := heap_alloc_new (w.alloc (Obj.cells C0 4)) (.cells #[.int .i64 (a : Int)] 3)
      simpa using this
    · intro j u hj
      cases j with
      | zero => simpa [castL] using hj
      | succ j => simp [castL] at hj
  case round =>
    obtain ⟨i, R, fl, hI, hq, hb, hg, hgg⟩ := hrel
    rename World => W1
    have HI := Lib.hid hI
    have HQ := Lib.hid hq
    have HB := Lib.hid hb
    have HG := Lib.hid hg
    obtain ⟨g, off, cap, rfl, hgl, hgw, hqc, hcm, hcell⟩ := hq.form
    have hbl := hb.lt
    have hRl0 := hI.le
    by_cases hlt : i < (a :: R).length
    · have hd := List.drop_eq_getElem_cons hlt
      have hlen2 : (castL ((a :: R).drop i)).length = R.length + 1 - i := by rw [castL_len]; simp
      have hat := hI.at_lt hlt
      have hc0 : W1.cell? ⟨g, off, none⟩ = some (.int .i64 (((a :: R)[i] : Nat) : Int)) := by
        have := hcell 0 (by rw [hlen2]; simp at hlt; omega)
        rw [Nat.add_zero] at this
        rw [this]
        simp [castL, hd]
      obtain ⟨x, hx⟩ : ∃ x, x = (a :: R)[i] := ⟨_, rfl⟩
      rw [← hx] at hat hc0 hd
      have hx2 : (a :: R)[i]? = some x := by rw [List.getElem?_eq_getElem hlt, hx]
      have HX := Lib.hid hx2
      have HD := Lib.hid hd
      have hlt' : i < R.length + 1 := by simpa using hlt
      rw [hlen2] at hqc HQ ⊢
      have HL2 := Lib.hid hlen2
      obtain ⟨b0, off0, rfl, hb0⟩ := h3 x (by rw [HIL.out]; exact hat)
      obtain ⟨r1, f1, x1, hr1, _⟩ := HU.out.sl_at (i := x) (by rw [HIL.out]; exact hat)
      rw [insAll_at] at hr1
      obtain ⟨ar, cr, rfl, q1, q2, q3⟩ := hr1.open
      have z1 := hg.keep x1
      have HR := Lib.hid hr1
      have zb := blk z1
      have hpos : 0 < R.length + 1 - i := by omega
      clear hI hq hb hg hcell hd hx hlen2 hlt hx2 x1 hr1 h3
      by_cases hc1 : cap = 1
      · subst hc1
        have hq0 : Que (w.heap.size + 1) 3 W1 (.slice (some ⟨g, off, none⟩) 0 0) (castL ((a :: R).drop (i + 1))) := by
          have h := HQ.out
          rw [HD.out] at h
          exact h.tail.2 rfl
        have HQ0 := Lib.hid hq0
        clear hq0 HQ
        go_wp2_with fail
        go_loopg [6, 9, 28] (insOf T x).length (fun gg s6 _ s28 wr => ∃ (j : Nat) (R : List Nat) (fl : List Bool), RInv T a i R fl ∧ (a :: R)[i]? = some x ∧ (∀ m, m < j → ∀ z : Nat, (insOf T x)[m]? = some (z : Int) → z ∈ R) ∧ Que (w.heap.size + 1) 3 wr s6 (castL ((a :: R).drop (i + 1))) ∧ BRow wr w.heap.size 4 fl ∧ Gr w wr ∧ w.heap.size + 1 ≤ wr.heap.size ∧ s28 = .int .i64 j ∧ j ≤ (insOf T x).length ∧ (insOf T x).length - j ≤ gg)
        case atStart => exact ⟨0, R, fl, HI.out, HX.out, by omega, HQ0.out, HB.out, HG.out, by omega, rfl, by omega, by omega⟩
        case round =>
          obtain ⟨j, R, fl, hI, hX, hall, hq, hb, hg, hz, rfl, hj, hgj⟩ := hrel
          rename World => W2
          have hRl := hI.le
          obtain ⟨g2, off2, cap2, rfl, hg2l, hg2w, -, -, -⟩ := hq.form
          have HI2 := Lib.hid hI
          have HX2 := Lib.hid hX
          have HA2 := Lib.hid hall
          have HQ2 := Lib.hid hq
          have HB2 := Lib.hid hb
          have HG2 := Lib.hid hg
          by_cases hjl : j < (insOf T x).length
          · obtain ⟨bq, oq, rfl, hbq⟩ := q3 j hjl
            have hyr := mem_insOf.1 (List.getElem_mem hjl)
            obtain ⟨z, hyz⟩ : ∃ z : Nat, (insOf T x)[j] = z := ⟨(insOf T x)[j].toNat, by omega⟩
            have hzn : z < T.length := by omega
            have c1 : W2.cell? ⟨bq, oq + j, none⟩ = some (.int .i64 (z : Int)) := by rw [← hyz]; exact hg.keep (HR.out.int_at hjl).1
            have hzi : Hid ((z : Int) ∈ insOf T x) := Lib.hid (by rw [← hyz]; exact List.getElem_mem hjl)
            have HYZ : Hid ((insOf T x)[j]? = some (z : Int)) := Lib.hid (by rw [List.getElem?_eq_getElem hjl, hyz])
            have c0 := blk c1
            have hzf : z < fl.length := by rw [hI.len]; exact hzn
            have c2 := hb.cell hzf
            have hbl2 := hb.lt
            have hflg := hI.flg z hzf
            clear hI hX hall hq hb hyr hyz q3
            cases hfz : fl[z] with
            | true =>
              rw [hfz] at c2 hflg
              have HF := Lib.hid (hflg.1 rfl)
              clear hflg hg
              go_wp2_with fail
              go_roundg ((insOf T x).length - (j + 1))
              case measure => omega
              case rel =>
                refine ⟨j + 1, R, fl, HI2.out, HX2.out, fun m hm y hy => ?_, HQ2.out, HB2.out, HG2.out, by omega, by go_num, by omega, by omega⟩
                by_cases hmj : m < j
                · exact HA2.out m hmj y hy
                · obtain rfl : m = j := by omega
                  rw [HYZ.out] at hy
                  obtain rfl : z = y := by simp at hy; omega
                  exact HF.out
            | false =>
              rw [hfz] at c2 hflg
              have HF : Hid (z ∉ R) := Lib.hid fun h => by have := hflg.2 h; cases this
              have hdl : (castL ((a :: R).drop (i + 1))).length ≤ 1048576 := by rw [castL_len]; simp; omega
              have HDL := Lib.hid hdl
              clear hflg hdl hg hfz
              go_wp2_with (first | (at_builtin; refine wpList_append_que (base := w.heap.size + 1) (w0 := w) (HG2.out.alloc _) (by omega) (by simp; omega) rfl _ _ 30 rfl 3 i1 Try.underlying30 HZ.out.1 HZ.out.2.1 HZ.out.2.2.1 HZ.out.2.2.2 _ _ (by rfl) (HQ2.out.gr (by repeat (first | exact Gr.refl _ | apply Gr.ext | apply Gr.alloc | apply Gr.drew))) _ _ (z : Int) (by rfl) (World.cell?_alloc_new _ _ _ _) HDL.out ?_; intro v4 w4 k1 k2 k3 k4; obtain ⟨g5, hg5, hw5⟩ := k2; have hb5 := (HB2.out.gr ((Gr.refl _).alloc _)).wr hw5 (by injection hg5 with hg5; subst hg5; simp; omega); have c5 := hb5.cell hzf; have f5 := hb5.frozen z; have z5 := hb5.lt; replace k1 := Lib.hid k1; replace k3 := Lib.hid k3; have K5 := Lib.hid hb5; have K6 := Lib.hid k4; have K7 := hw5.size; clear hb5 hw5 hg5 k4 c2))
              go_roundg ((insOf T x).length - (j + 1))
              case measure => omega
              case rel =>
                obtain ⟨hil2, hix⟩ := List.getElem?_eq_some_iff.1 HX2.out
                refine ⟨j + 1, R ++ [z], fl.set z true, HI2.out.push hil2 (by rw [hix]; exact hzi.out) HF.out, ?_, fun m hm y hy => ?_, ?_, K5.out.set z true, k3.out.setCell (Nat.le_refl _) _, by simp at K7; rw [size_setCell']; omega, by go_num, by omega, by omega⟩
                · show ((a :: R) ++ [z])[i]? = some x
                  rw [List.getElem?_append_left hil2]
                  exact HX2.out
                · by_cases hmj : m < j
                  · exact List.mem_append_left _ (HA2.out m hmj y hy)
                  · obtain rfl : m = j := by omega
                    rw [HYZ.out] at hy
                    obtain rfl : z = y := by simp at hy; omega
                    simp
                · have e : castL ((a :: (R ++ [z])).drop (i + 1)) = castL ((a :: R).drop (i + 1)) ++ [(z : Int)] := by
                    show castL (((a :: R) ++ [z]).drop (i + 1)) = _
                    rw [List.drop_append_of_le_length (by simp at hil2 ⊢; omega), castL_app]
                    rfl
                  rw [e]
                  obtain ⟨gq, hgq, hgq2, _⟩ := k1.out.blk
                  exact k1.out.wr ((Wr.refl [w.heap.size] _).setCell (by simp) _) fun b hb hm => by
                    rw [hgq] at hb
                    injection hb with hb
                    simp at hm
                    omega
          · have hjn : j = (insOf T x).length := by omega
            subst hjn
            clear hI hX hall hq hb hg q3
            go_wp2_with fail
            go_roundg (T.length + 1 - (i + 1))
            case measure => omega
            case rel =>
              obtain ⟨hil2, hix⟩ := List.getElem?_eq_some_iff.1 HX2.out
              refine ⟨i + 1, R, fl, HI2.out.next hil2 fun z hz => ?_, HQ2.out, HB2.out, HG2.out, by omega⟩
              rw [hix] at hz
              obtain ⟨m, hm, e⟩ := List.mem_iff_getElem.1 hz
              exact HA2.out m hm z (by rw [List.getElem?_eq_getElem hm, e])
      · have hc2 : 1 < cap := by omega
        have hq0 : Que (w.heap.size + 1) 3 W1 (.slice (some ⟨g, off + 1, none⟩) (R.length + 1 - i - 1) (cap - 1)) (castL ((a :: R).drop (i + 1))) := by
          have h := HQ.out
          rw [HD.out] at h
          have h2 := h.tail.1
          have e : (List.map Int.ofNat ((a :: R).drop (i + 1))).length = R.length + 1 - i - 1 := by simp; omega
          rw [e] at h2
          exact h2
        have HQ0 := Lib.hid hq0
        clear hq0 HQ
        go_wp2_with fail
        go_loopg [6, 9, 28] (insOf T x).length (fun gg s6 _ s28 wr => ∃ (j : Nat) (R : List Nat) (fl : List Bool), RInv T a i R fl ∧ (a :: R)[i]? = some x ∧ (∀ m, m < j → ∀ z : Nat, (insOf T x)[m]? = some (z : Int) → z ∈ R) ∧ Que (w.heap.size + 1) 3 wr s6 (castL ((a :: R).drop (i + 1))) ∧ BRow wr w.heap.size 4 fl ∧ Gr w wr ∧ w.heap.size + 1 ≤ wr.heap.size ∧ s28 = .int .i64 j ∧ j ≤ (insOf T x).length ∧ (insOf T x).length - j ≤ gg)
        case atStart => exact ⟨0, R, fl, HI.out, HX.out, by omega, HQ0.out, HB.out, HG.out, by omega, rfl, by omega, by omega⟩
        case round =>
          obtain ⟨j, R, fl, hI, hX, hall, hq, hb, hg, hz, rfl, hj, hgj⟩ := hrel
          rename World => W2
          have hRl := hI.le
          obtain ⟨g2, off2, cap2, rfl, hg2l, hg2w, -, -, -⟩ := hq.form
          have HI2 := Lib.hid hI
          have HX2 := Lib.hid hX
          have HA2 := Lib.hid hall
          have HQ2 := Lib.hid hq
          have HB2 := Lib.hid hb
          have HG2 := Lib.hid hg
          by_cases hjl : j < (insOf T x).length
          · obtain ⟨bq, oq, rfl, hbq⟩ := q3 j hjl
            have hyr := mem_insOf.1 (List.getElem_mem hjl)
            obtain ⟨z, hyz⟩ : ∃ z : Nat, (insOf T x)[j] = z := ⟨(insOf T x)[j].toNat, by omega⟩
            have hzn : z < T.length := by omega
            have c1 : W2.cell? ⟨bq, oq + j, none⟩ = some (.int .i64 (z : Int)) := by rw [← hyz]; exact hg.keep (HR.out.int_at hjl).1
            have hzi : Hid ((z : Int) ∈ insOf T x) := Lib.hid (by rw [← hyz]; exact List.getElem_mem hjl)
            have HYZ : Hid ((insOf T x)[j]? = some (z : Int)) := Lib.hid (by rw [List.getElem?_eq_getElem hjl, hyz])
            have c0 := blk c1
            have hzf : z < fl.length := by rw [hI.len]; exact hzn
            have c2 := hb.cell hzf
            have hbl2 := hb.lt
            have hflg := hI.flg z hzf
            clear hI hX hall hq hb hyr hyz q3
            cases hfz : fl[z] with
            | true =>
              rw [hfz] at c2 hflg
              have HF := Lib.hid (hflg.1 rfl)
              clear hflg hg
              go_wp2_with fail
              go_roundg ((insOf T x).length - (j + 1))
              case measure => omega
              case rel =>
                refine ⟨j + 1, R, fl, HI2.out, HX2.out, fun m hm y hy => ?_, HQ2.out, HB2.out, HG2.out, by omega, by go_num, by omega, by omega⟩
                by_cases hmj : m < j
                · exact HA2.out m hmj y hy
                · obtain rfl : m = j := by omega
                  rw [HYZ.out] at hy
                  obtain rfl : z = y := by simp at hy; omega
                  exact HF.out
            | false =>
              rw [hfz] at c2 hflg
              have HF : Hid (z ∉ R) := Lib.hid fun h => by have := hflg.2 h; cases this
              have hdl : (castL ((a :: R).drop (i + 1))).length ≤ 1048576 := by rw [castL_len]; simp; omega
              have HDL := Lib.hid hdl
              clear hflg hdl hg hfz
              go_wp2_with (first | (at_builtin; refine wpList_append_que (base := w.heap.size + 1) (w0 := w) (HG2.out.alloc _) (by omega) (by simp; omega) rfl _ _ 30 rfl 3 i1 Try.underlying30 HZ.out.1 HZ.out.2.1 HZ.out.2.2.1 HZ.out.2.2.2 _ _ (by rfl) (HQ2.out.gr (by repeat (first | exact Gr.refl _ | apply Gr.ext | apply Gr.alloc | apply Gr.drew))) _ _ (z : Int) (by rfl) (World.cell?_alloc_new _ _ _ _) HDL.out ?_; intro v4 w4 k1 k2 k3 k4; obtain ⟨g5, hg5, hw5⟩ := k2; have hb5 := (HB2.out.gr ((Gr.refl _).alloc _)).wr hw5 (by injection hg5 with hg5; subst hg5; simp; omega); have c5 := hb5.cell hzf; have f5 := hb5.frozen z; have z5 := hb5.lt; replace k1 := Lib.hid k1; replace k3 := Lib.hid k3; have K5 := Lib.hid hb5; have K6 := Lib.hid k4; have K7 := hw5.size; clear hb5 hw5 hg5 k4 c2))
              go_roundg ((insOf T x).length - (j + 1))
              case measure => omega
              case rel =>
                obtain ⟨hil2, hix⟩ := List.getElem?_eq_some_iff.1 HX2.out
                refine ⟨j + 1, R ++ [z], fl.set z true, HI2.out.push hil2 (by rw [hix]; exact hzi.out) HF.out, ?_, fun m hm y hy => ?_, ?_, K5.out.set z true, k3.out.setCell (Nat.le_refl _) _, by simp at K7; rw [size_setCell']; omega, by go_num, by omega, by omega⟩
                · show ((a :: R) ++ [z])[i]? = some x
                  rw [List.getElem?_append_left hil2]
                  exact HX2.out
                · by_cases hmj : m < j
                  · exact List.mem_append_left _ (HA2.out m hmj y hy)
                  · obtain rfl : m = j := by omega
                    rw [HYZ.out] at hy
                    obtain rfl : z = y := by simp at hy; omega
                    simp
                · have e : castL ((a :: (R ++ [z])).drop (i + 1)) = castL ((a :: R).drop (i + 1)) ++ [(z : Int)] := by
                    show castL (((a :: R) ++ [z]).drop (i + 1)) = _
                    rw [List.drop_append_of_le_length (by simp at hil2 ⊢; omega), castL_app]
                    rfl
                  rw [e]
                  obtain ⟨gq, hgq, hgq2, _⟩ := k1.out.blk
                  exact k1.out.wr ((Wr.refl [w.heap.size] _).setCell (by simp) _) fun b hb hm => by
                    rw [hgq] at hb
                    injection hb with hb
                    simp at hm
                    omega
          · have hjn : j = (insOf T x).length := by omega
            subst hjn
            clear hI hX hall hq hb hg q3
            go_wp2_with fail
            go_roundg (T.length + 1 - (i + 1))
            case measure => omega
            case rel =>
              obtain ⟨hil2, hix⟩ := List.getElem?_eq_some_iff.1 HX2.out
              refine ⟨i + 1, R, fl, HI2.out.next hil2 fun z hz => ?_, HQ2.out, HB2.out, HG2.out, by omega⟩
              rw [hix] at hz
              obtain ⟨m, hm, e⟩ := List.mem_iff_getElem.1 hz
              exact HA2.out m hm z (by rw [List.getElem?_eq_getElem hm, e])
    · have hi : i = R.length + 1 := by have := hI.ile; simp at hlt; omega
      subst hi
      have hfin := hI.fin
      have hln := hI.len
      have hd0 : castL ((a :: R).drop (R.length + 1)) = [] := by simp [castL]
      obtain ⟨fq, hs, hfq⟩ := hb.slR (by unfold reachLen; omega) (cap := T.length) (by omega)
      rw [hln, hfin] at hs
      have HS := Lib.hid hs
      have HFQ := Lib.hid hfq
      have hd1 : (castL ((a :: R).drop (R.length + 1))).length = 0 := by rw [hd0]; rfl
      rw [hd1]
      clear hI hq hb hg hcell hs hfq hfin hln hd0 hd1 hqc
      go_wp2_with fail
      go_ret
      exact ⟨_, fq, rfl, HS.out, Fresh.of_flat HFQ.out (Nat.le_refl _), HG.out⟩
end Go.Proofs.Ytcphimmkkfpohaa
