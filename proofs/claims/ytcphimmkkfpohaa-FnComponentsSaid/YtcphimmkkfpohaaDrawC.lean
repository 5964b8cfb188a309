/- A table drawn. No condition. -/
import Derived.Test.YtcphimmkkfpohaaDrawB
import Derived.Test.YtcphimmkkfpohaaInsA
namespace Go.Proofs.Ytcphimmkkfpohaa
open Go.RowKit

def TableAt (w : World) (b : Nat) (e : Ending) (w' : World) : Prop := ∃ v fq T, e = .returned v ∧ SlR fq w' v T ∧ (T : List (List Int)).length ≤ 8 ∧ (∀ r ∈ T, r.length ≤ 4) ∧ Wr [b] w w'

theorem Wr.setCell_new {fp : List Nat} {a c : World} (h : Wr fp a c) {g o : Nat} {v : Value} (hg : a.heap.size ≤ g) : Wr fp a (c.setCell ⟨g, o, none⟩ v) :=
  h.new (Wr.setCell (b := g) (Wr.refl [g] c) (by simp) v) (by simpa using hg)

theorem table_fin {w W : World} {b : Nat} {v : Value} {fps : List (List Nat)} {xs : List (ORow w.heap.size 3)} (h : OwnR w 30 W v fps xs) (hl : xs.length ≤ 8) (hx : ∀ x ∈ xs, x.out.length ≤ 4) (hw : Wr [b] w W) : TableAt w b (.returned v) W := by
  obtain ⟨gps, hO, _, _⟩ := h.read (fun x hx' => by have := hx x hx'; unfold reachLen; omega)
  obtain ⟨fq, hs, _⟩ := hO.slR (by simp; unfold reachLen; omega)
  exact ⟨v, fq, _, rfl, hs, by simpa using hl, fun r hr => by
    obtain ⟨x, hx', rfl⟩ := List.mem_map.1 hr
    exact hx x hx', hw⟩

set_option linter.unusedSimpArgs false
set_option maxRecDepth 100000 in
set_option maxHeartbeats 8000000 in
theorem l33Table_any (b : Nat) (w : World) (h : CurR w b) : Calls Try.prog 31 #[.pointer (some ⟨b, 0, none⟩)] w (TableAt w b) := by
  have HC := Lib.hid h
  have hbw := h.lt
  obtain ⟨i1, hi, hz0, hz1, hz2⟩ := info_parts Try.infoInt
  have HZ := Lib.hid (And.intro hi (And.intro hz0 (And.intro hz1 hz2)))
  clear hi hz0 hz1 hz2
  obtain ⟨i2, hi, hz0, hz1, hz2⟩ := info_parts Try.infoIntS
  have HY := Lib.hid (And.intro hi (And.intro hz0 (And.intro hz1 hz2)))
  clear hi hz0 hz1 hz2 h
  go_enter Try.func31, Try.ntmps31
  go_wp2_with fail
  refine (l1Below_any b 9 _ (HC.out.gr (by repeat (first | exact Gr.refl _ | apply Gr.ext | apply Gr.alloc | apply Gr.drew))) (by omega) (by omega)).mono ?_
  rintro e W0 ⟨nz, rfl, hn0, hn1, hc0, hw0⟩
  obtain ⟨n, rfl⟩ : ∃ n : Nat, nz = n := ⟨nz.toNat, by omega⟩
  have hO0 : OwnR (α := ORow w.heap.size 3) w 30 W0 (.slice (some ⟨w.heap.size, 0, none⟩) 0 0) [] [] := ((OwnR.lit0 (α := ORow w.heap.size 3) (w0 := w) (w := w) 30 (Nat.le_refl _) rfl).wr hw0 (by simp) (fun x hx hm => by have := ownB hx; simp at hm; omega))
  have hW0 : Wr [b] w W0 := (((by repeat (first | exact Gr.refl _ | apply Gr.ext | apply Gr.alloc | apply Gr.drew)) : Gr w (w.alloc (Obj.cells #[] 30))).toWr [b]).trans hw0
  have HO0 := Lib.hid hO0
  have HW0 := Lib.hid hW0
  have HC0 := Lib.hid hc0
  clear hO0 hW0 hc0 hw0
  go_wp2_with fail
  go_loopg [3, 5] n (fun gg s3 s5 wr => ∃ (i : Nat) (xs : List (ORow w.heap.size 3)) (fps : List (List Nat)), OwnR w 30 wr s3 fps xs ∧ fps.flatten.Nodup ∧ (∀ x ∈ fps.flatten, w.heap.size ≤ x) ∧ xs.length = i ∧ (∀ x ∈ xs, x.out.length ≤ 2) ∧ CurR wr b ∧ Wr [b] w wr ∧ s5 = .int .i64 i ∧ i ≤ n ∧ n - i ≤ gg)
  case atStart => exact ⟨0, [], [], HO0.out, by simp, by simp, rfl, by simp, HC0.out, HW0.out, rfl, by omega, by omega⟩
  case round =>
    obtain ⟨i, xs, fps, hown, hnd, hge, hxl, hxs, hcr, hwr, rfl, hin, hgg⟩ := hrel
    rename World => W1
    have HO := Lib.hid hown
    have HND := Lib.hid hnd
    have HGE := Lib.hid hge
    have HXL := Lib.hid hxl
    have HXS := Lib.hid hxs
    have HC1 := Lib.hid hcr
    have HW1 := Lib.hid hwr
    obtain ⟨ra, rc, hform⟩ := hown.form
    rw [hxl] at hform
    subst hform
    have hz1 := hwr.size
    clear hown hnd hge hxl hxs hcr hwr
    by_cases hlt : i < n
    · go_wp2_with fail
      refine (l1Below_any b 3 _ (HC1.out.gr (by repeat (first | exact Gr.refl _ | apply Gr.ext | apply Gr.alloc | apply Gr.drew))) (by omega) (by omega)).mono ?_
      rintro e W2 ⟨mz, rfl, hm0, hm1, hc2, hw2⟩
      obtain ⟨m, rfl⟩ : ∃ m : Nat, mz = m := ⟨mz.toNat, by omega⟩
      have hR2 : OwnR (α := Int) W1 3 W2 (.slice (some ⟨W1.heap.size, 0, none⟩) 0 0) [] [] := ((OwnR.lit0 (α := Int) (w0 := W1) (w := W1) 3 (Nat.le_refl _) rfl).wr hw2 (by simp) (fun x hx hm => by have := ownB hx; simp at hm; omega))
      have hW2 : Wr [b] W1 W2 := (((by repeat (first | exact Gr.refl _ | apply Gr.ext | apply Gr.alloc | apply Gr.drew)) : Gr W1 (W1.alloc (Obj.cells #[] 3))).toWr [b]).trans hw2
      have HR2 := Lib.hid hR2
      have HW2 := Lib.hid hW2
      have HC2 := Lib.hid hc2
      clear hR2 hW2 hc2 hw2
      go_wp2_with fail
      go_loopg [6, 8] m (fun gg s6 s8 wr => ∃ (j : Nat) (ys : List Int) (fpy : List (List Nat)), OwnR W1 3 wr s6 fpy ys ∧ Hid (fpy.flatten = []) ∧ ys.length = j ∧ CurR wr b ∧ Wr [b] W1 wr ∧ s8 = .int .i64 j ∧ j ≤ m ∧ m - j ≤ gg)
      case atStart => exact ⟨0, [], [], HR2.out, Lib.hid rfl, rfl, HC2.out, HW2.out, rfl, by omega, by omega⟩
      case round =>
        obtain ⟨j, ys, fpy, hown, hf, hyl, hcr, hwr, rfl, hjm, hgg2⟩ := hrel
        rename World => W3
        have HO3 := Lib.hid hown
        have HC3 := Lib.hid hcr
        have HW3 := Lib.hid hwr
        have HYL := Lib.hid hyl
        obtain ⟨ya, yc, hform2⟩ := hown.form
        rw [hyl] at hform2
        subst hform2
        have hz3 := hwr.size
        clear hown hyl hcr hwr
        by_cases hjl : j < m
        · go_wp2_with fail
          refine (l1Below_any b (n : Int) _ HC3.out (by omega) (by omega)).mono ?_
          rintro e W4 ⟨x, rfl, hx0, hx1, hc4, hw4⟩
          have HC4 := Lib.hid hc4
          have HO4 := Lib.hid (HO3.out.wr hw4 (fun y hy => by rw [hf.out] at hy; simp at hy) (fun y hy hm => by have := (HO3.out.base y hy).1; simp at hm; omega))
          have HW4 := Lib.hid (HW3.out.trans hw4)
          have hz4 := hw4.size
          clear hc4 hw4
          go_wp2_with (first | (at_builtin; refine wpList_append_RB (α := Int) (w0 := W1) (gr_first (n := w.heap.size) (by simp; omega)) (by rw [size_first (by simp; omega)]; omega) (by simp; omega) rfl _ _ 30 rfl 3 i1 (.int .i64 0) 8 Try.underlying30 HZ.out.1 HZ.out.2.1 HZ.out.2.2.1 HZ.out.2.2.2 rfl _ fpy _ (by rfl) (HO4.out.gr (by repeat (first | exact Gr.refl _ | apply Gr.ext | apply Gr.alloc | apply Gr.drew))) _ [[]] [x] (by rfl) (SrcR.one (by simp) (intRd (wf_small (by omega) (by omega)) _)) (fun y _ => by simp) (by rw [HYL.out]; unfold maxLen; simp; omega) (by rw [HYL.out]; simp; omega) ?_; intro v5 w5 k1 k2 k3 k4; have hnw : ∀ y ∈ (Value.slice ya j yc).ownBlock.toList, W1.heap.size ≤ y := (fun y hy => (HO3.out.base y (by simpa using hy)).1); have hw5 := (((by repeat (first | exact Gr.refl _ | apply Gr.ext | apply Gr.alloc | apply Gr.drew)) : Gr W4 (W4.alloc (Obj.cells #[.int .i64 x] 3))).toWr (Value.slice ya j yc).ownBlock.toList).trans k2; have K1 := Lib.hid k1; have K5 := Lib.hid hw5; have KN := Lib.hid hnw; clear k1 k2 k3 k4 hw5 hnw))
          go_roundg (m - (j + 1))
          case measure => omega
          case rel => exact ⟨j + 1, ys ++ [x], fpy ++ [[]], K1.out, Lib.hid (by rw [List.flatten_append, hf.out]; rfl), by rw [List.length_append, HYL.out]; rfl, HC4.out.wr K5.out (fun y hy => by have := KN.out y hy; omega), HW4.out.new K5.out KN.out, by go_num, by omega, by omega⟩
        · have hjm2 : j = m := by omega
          subst hjm2
          have hO1 : OwnR w 30 W3 (.slice ra i rc) fps xs := HO.out.wr HW3.out (fun y hy hm => by have := HGE.out y hy; simp at hm; omega) (fun y hy hm => by have := (HO.out.base y hy).1; simp at hm; omega)
          have HO1 := Lib.hid hO1
          have hrow : Rd.rd (Value.slice ya j yc).ownBlock.toList W3 [.slice ya j yc] (ORow.mk w.heap.size 3 ys) := (HO3.out.base_eq (w1 := w) (by omega)).toORow
          have HROW := Lib.hid hrow
          have hnw : ∀ y ∈ (Value.slice ya j yc).ownBlock.toList, W1.heap.size ≤ y := fun y hy => (HO3.out.base y (by simpa using hy)).1
          have HNW := Lib.hid hnw
          have hyl2 : ys.length ≤ 2 := by rw [HYL.out]; omega
          have HYL2 := Lib.hid hyl2
          clear hO1 hrow hnw hyl2
          go_wp2_with (first | (at_builtin; refine wpList_append_RB (α := ORow w.heap.size 3) (w0 := w) (gr_first (n := w.heap.size) (by simp; omega)) (by rw [size_first (by simp; omega)]; omega) (by simp; omega) rfl _ _ 22 rfl 30 i2 (.slice none 0 0) 24 Try.underlying22 HY.out.1 HY.out.2.1 HY.out.2.2.1 HY.out.2.2.2 rfl _ fps _ (by rfl) (HO1.out.gr (by repeat (first | exact Gr.refl _ | apply Gr.ext | apply Gr.alloc | apply Gr.drew))) _ [(Value.slice ya j yc).ownBlock.toList] [ORow.mk w.heap.size 3 ys] (by rfl) (SrcR.one (by simp) (Rd.gr HROW.out (by repeat (first | exact Gr.refl _ | apply Gr.ext | apply Gr.alloc | apply Gr.drew)))) (fun y hy hm => by have := (HO.out.base y hy).2; have := HNW.out y (by simpa using hm); omega) (by rw [HXL.out]; unfold maxLen; simp; omega) (by rw [HXL.out]; simp; omega) ?_; intro v5 w5 k1 k2 k3 k4; have hnw : ∀ y ∈ (Value.slice ra i rc).ownBlock.toList, w.heap.size ≤ y := (fun y hy => (HO.out.base y (by simpa using hy)).1); have hw5 := (((by repeat (first | exact Gr.refl _ | apply Gr.ext | apply Gr.alloc | apply Gr.drew)) : Gr W3 (W3.alloc (Obj.cells #[.slice ya j yc] 30))).toWr (Value.slice ra i rc).ownBlock.toList).trans k2; have K1 := Lib.hid k1; have K5 := Lib.hid hw5; have KN := Lib.hid hnw; clear k1 k2 k3 k4 hw5 hnw))
          go_roundg (n - (i + 1))
          case measure => omega
          case rel =>
            refine ⟨i + 1, xs ++ [ORow.mk w.heap.size 3 ys], fps ++ [(Value.slice ya j yc).ownBlock.toList], K1.out, ?_, ?_, by rw [List.length_append, HXL.out]; rfl, ?_, HC3.out.wr K5.out (fun y hy => by have := KN.out y hy; omega), (HW1.out.trans HW3.out).new K5.out KN.out, by go_num, by omega, by omega⟩
            · rw [List.flatten_append]
              simp only [List.flatten_cons, List.flatten_nil, List.append_nil]
              refine List.nodup_append.2 ⟨HND.out, by cases (Value.slice ya j yc).ownBlock <;> simp, fun y hy z hz e => ?_⟩
              have := HO.out.lt y hy
              have := HNW.out z hz
              omega
            · intro y hy
              rw [List.flatten_append] at hy
              simp only [List.flatten_cons, List.flatten_nil, List.append_nil, List.mem_append] at hy
              rcases hy with hy | hy
              · exact HGE.out y hy
              · have := HNW.out y hy; omega
            · intro y hy
              rcases List.mem_append.1 hy with hy | hy
              · exact HXS.out y hy
              · simp only [List.mem_singleton] at hy; subst hy; exact HYL2.out
    · have hin2 : i = n := by omega
      subst hin2
      by_cases hi0 : i = 0
      · have hii : ((i : Nat) : Int) ≤ 0 := by omega
        have hdec : decide ((0 : Int) < (i : Int)) = false := decide_eq_false (by omega)
        clear hlt
        go_wp2_with fail
        go_ret
        exact table_fin HO.out (by rw [HXL.out]; omega) (fun y hy => by have := HXS.out y hy; omega) HW1.out
      · have hii : (0 : Int) < (i : Int) := by omega
        clear hlt
        go_wp2_with fail
        refine (l1Once_any b 8 _ HC1.out (by omega) (by omega)).mono ?_
        rintro e W4 ⟨x, rfl, hc4, hw4⟩
        have HC4 := Lib.hid hc4
        have hO4 := HO.out.wr hw4 (fun y hy hm => by have := HGE.out y hy; simp at hm; omega) (fun y hy hm => by have := (HO.out.base y hy).1; simp at hm; omega)
        have HO4 := Lib.hid hO4
        have HW4 := Lib.hid (HW1.out.trans hw4)
        have hz4 := hw4.size
        clear hc4 hw4 hO4
        cases x with
        | false =>
          go_wp2_with fail
          go_ret
          exact table_fin HO4.out (by rw [HXL.out]; omega) (fun y hy => by have := HXS.out y hy; omega) HW4.out
        | true =>
          go_wp2_with fail
          obtain ⟨g, cap, vj, fpj, hpv, hgl, hgb, hcap, cj, fj, hOj, hflj, hgn, -⟩ := HO4.out.grow HND.out HGE.out (j := 0) (by rw [HXL.out]; omega)
          obtain ⟨X0, hX0⟩ : ∃ X : List Int, X = (xs[0]'(by rw [HXL.out]; omega)).out := ⟨_, rfl⟩
          rw [← hX0] at hOj
          have hx02 : X0.length ≤ 2 := by rw [hX0]; exact HXS.out _ (List.getElem_mem _)
          have HX0 := Lib.hid hX0
          obtain ⟨aj, lcj, hvj⟩ := hOj.form
          subst hvj
          have hra : ra = some ⟨g, 0, none⟩ := by injection hpv
          subst hra
          have hlit : ∃ f, SlR f ((W4.alloc (Obj.cells #[Value.int .i64 (-1), .int .i64 9, .int .i64 20] 3)).drew) (.slice (some ⟨W4.heap.size, 0, none⟩) 3 3) [-1, 9, 20] ∧ f.Sublist [W4.heap.size] := SlR.ofInts (xs := [-1, 9, 20]) (cap := 3) (fun q hq => by
            have hb := heap_alloc_new W4 (Obj.cells #[Value.int .i64 (-1), .int .i64 9, .int .i64 20] 3)
            have hb' : ((W4.alloc (Obj.cells #[Value.int .i64 (-1), .int .i64 9, .int .i64 20] 3)).drew).heap[W4.heap.size]? = some (Obj.cells #[Value.int .i64 (-1), .int .i64 9, .int .i64 20] 3) := hb
            refine ⟨?_, frozen_block hb' _, ?_⟩
            · rw [cell_of_row _ _ _ _ _ _ hb']
              match q, hq with
              | 0, _ => rfl
              | 1, _ => rfl
              | 2, _ => rfl
            · match q, hq with
              | 0, _ => exact (by show (Lit.int .i64 (-1)).wf = true; decide)
              | 1, _ => exact (by show (Lit.int .i64 9).wf = true; decide)
              | 2, _ => exact (by show (Lit.int .i64 20).wf = true; decide)) (by simp) (by unfold reachLen; simp)
          obtain ⟨flit, hlit, hlf⟩ := hlit
          have HLIT := Lib.hid hlit
          have HLF : Hid (∀ y ∈ flit, W4.heap.size ≤ y) := Lib.hid fun y hy => by have := hlf.subset hy; simp at this; omega
          have zg := blk cj
          clear hpv hX0 hOj hlit hlf hflj hgn
          refine wp_region_held_drew (S := fun _ => True) (by kernel_rfl) trivial (fun _ => ?_)
          refine wpAnyH_take (i := 0) (v := ?_) rfl (by kernel_rfl) (by kernel_rfl) (by kernel_rfl) (fun _ _ _ h => h) (Or.inl ⟨by rfl, ?_⟩) (by assumption) ?_
          rotate_left 1
          · intro w hSw; (try dsimp only at hSw); go_simp; all_goals with_reducible rfl
          try simp only [Act.put, List.setIfInBounds_toArray, List.set_cons_zero, List.set_cons_succ]
          refine wpAnyH_take (i := 1) (v := ?_) rfl (by kernel_rfl) (by kernel_rfl) (by kernel_rfl) (fun _ _ _ h => h) (Or.inl ⟨by rfl, ?_⟩) (by assumption) ?_
          rotate_left 1
          · intro w hSw; (try dsimp only at hSw); go_simp; all_goals with_reducible rfl
          try simp only [Act.put, List.setIfInBounds_toArray, List.set_cons_zero, List.set_cons_succ]
          refine wpAnyH_take (i := 2) (v := ?_) rfl (by kernel_rfl) (by kernel_rfl) (by kernel_rfl) (fun _ _ _ h => h) (Or.inl ⟨by rfl, ?_⟩) (by assumption) ?_
          rotate_left 1
          · intro w hSw; (try dsimp only at hSw); go_simp; all_goals with_reducible rfl
          try simp only [Act.put, List.setIfInBounds_toArray, List.set_cons_zero, List.set_cons_succ]
          refine wpAnyH_take (i := 4) (v := ?_) rfl (by kernel_rfl) (by kernel_rfl) (by kernel_rfl) (fun _ _ _ h => h) (Or.inl ⟨by rfl, ?_⟩) (by assumption) ?_
          rotate_left 1
          · intro w hSw; (try dsimp only at hSw); go_simp; all_goals with_reducible rfl
          try simp only [Act.put, List.setIfInBounds_toArray, List.set_cons_zero, List.set_cons_succ]
          refine wpAnyH_ready (rs := [3, 5]) (by kernel_rfl) (by simp) ?_
          refine AllReadyH.cons rfl (fun K hK => ?_) (AllReadyH.cons rfl (fun K hK => ?_) AllReadyH.nil)
          · go_simp
            refine hK.out _ _ trivial (fun _ => ?_)
            clear hK K
            try simp only [Act.put, List.setIfInBounds_toArray, List.set_cons_zero, List.set_cons_succ]
            refine wpAnyH_ready (rs := [5]) (by kernel_rfl) (by simp) ?_
            refine AllReadyH.cons rfl (fun K hK => ?_) AllReadyH.nil
            go_simp
            refine hK.out _ _ trivial (fun _ => ?_)
            clear hK K
            try simp only [Act.put, List.setIfInBounds_toArray, List.set_cons_zero, List.set_cons_succ]
            refine wpAnyH_ready (rs := [6]) (by kernel_rfl) (by simp) ?_
            refine AllReadyH.cons rfl (fun K hK => ?_) AllReadyH.nil
            go_simp
            go_at_call 44
            refine (l1PickInt_any b _ _ [-1, 9, 20] _ (HC4.out.gr (by repeat (first | exact Gr.refl _ | apply Gr.ext | apply Gr.alloc | apply Gr.drew))) (HLIT.out.gr (by repeat (first | exact Gr.refl _ | apply Gr.ext | apply Gr.alloc | apply Gr.drew))) (fun hm => by have := HLF.out b hm; omega) (by simp) (by simp)).mono ?_
            rintro e w6 ⟨x, hxm, rfl, hc6, hw6⟩
            have HC6 := Lib.hid hc6
            have hG45 : Gr W4 ((W4.alloc (Obj.cells #[Value.int .i64 (-1), .int .i64 9, .int .i64 20] 3)).drew) := (by repeat (first | exact Gr.refl _ | apply Gr.ext | apply Gr.alloc | apply Gr.drew))
            have hO6 := (HO4.out.gr hG45).wr hw6 (fun y hy hm => by have := HGE.out y hy; simp at hm; omega) (fun y hy hm => by have := (HO4.out.base y hy).1; simp at hm; omega)
            have HO6 := Lib.hid hO6
            have hW6 : Wr [b] W4 w6 := (hG45.toWr [b]).trans hw6
            have HW6 := Lib.hid hW6
            have hz6 := hW6.size
            have cj6 : w6.cell? ⟨g, 0, none⟩ = some (.slice aj X0.length lcj) := by rw [World.cell?_of_block (a := ⟨g, 0, none⟩) (hW6.block g hgl (by simp; omega))]; exact cj
            have zg6 := blk cj6
            have hxwf : (Lit.int .i64 x).wf = true := by
              simp only [List.mem_cons, List.not_mem_nil, or_false] at hxm
              rcases hxm with rfl | rfl | rfl <;> decide
            have HXW := Lib.hid hxwf
            clear hc6 hw6 hO6 hW6 hG45 hxm hxwf
            try go_simp
            refine hK.out _ _ trivial (fun _ => ?_)
            clear hK K
            try simp only [Act.put, List.setIfInBounds_toArray, List.set_cons_zero, List.set_cons_succ]
            refine wpAnyH_ready (rs := [7]) (by kernel_rfl) (by simp) ?_
            refine AllReadyH.cons rfl (fun K hK => ?_) AllReadyH.nil
            go_simp
            refine hK.out _ _ trivial (fun _ => ?_)
            clear hK K
            try simp only [Act.put, List.setIfInBounds_toArray, List.set_cons_zero, List.set_cons_succ]
            refine wpAnyH_ready (rs := [8]) (by kernel_rfl) (by simp) ?_
            refine AllReadyH.cons rfl (fun K hK => ?_) AllReadyH.nil
            obtain ⟨g6, cap6, vj6, fpj6, hpv6, hg6l, hg6b, hcap6, cj6', fj6, hOj6, hflj6, hgn6, hgrow6⟩ := HO6.out.grow HND.out HGE.out (j := 0) (by rw [HXL.out]; omega)
            have eg : g = g6 := by injection hpv6 with e1 _ _; injection e1 with e1; injection e1
            subst eg
            have ev : Value.slice aj X0.length lcj = vj6 := by rw [cj6] at cj6'; exact Option.some.inj cj6'
            subst ev
            have HOj6 := Lib.hid hOj6
            have HGR6 := Lib.hid hgrow6
            have HGN6 := Lib.hid hgn6
            have HX0' := Lib.hid HX0.out
            rw [← HX0.out] at HOj6
            clear hpv6 hOj6 hgrow6 hgn6 cj6' hflj6
            refine step_append_RB (α := Int) (w0 := w) (gr_first (n := w.heap.size) (by simp; omega)) (by rw [size_first (by simp; omega)]; omega) (by simp; omega) (by rfl) _ _ _ (by rfl) 3 i1 (.int .i64 0) 8 Try.underlying30 HZ.out.1 HZ.out.2.1 HZ.out.2.2.1 HZ.out.2.2.2 rfl _ fpj6 _ (by rfl) (HOj6.out.gr (by repeat (first | exact Gr.refl _ | apply Gr.ext | apply Gr.alloc | apply Gr.drew))) (.slice (some ⟨w6.heap.size, 0, none⟩) 1 1) [[]] [x] (by rfl) ((SrcR.one (w := w6) (g := w6.heap.size) rfl (intRd HXW.out _)).gr (by repeat (first | exact Gr.refl _ | apply Gr.ext | apply Gr.alloc | apply Gr.drew))) (fun y _ => by simp) (by unfold maxLen; simp; omega) (by simp; omega) ?_
            intro v9 w9 k1 k2 k3 k4
            have hkk : w9.heap[g]? = w6.heap[g]? := (k2.block g (by simp; omega) HGN6.out).trans (((by repeat (first | exact Gr.refl _ | apply Gr.ext | apply Gr.alloc | apply Gr.drew)) : Gr w6 (w6.alloc (Obj.cells #[.int .i64 x] 3))).below.block g zg6)
            have c9 := (World.cell?_of_block (a := ⟨g, 0, none⟩) hkk).trans cj6
            have f9 := (World.frozen?_of_block (a := ⟨g, 0, none⟩) hkk).trans fj6
            have z9 := blk c9
            have hw9 := (((by repeat (first | exact Gr.refl _ | apply Gr.ext | apply Gr.alloc | apply Gr.drew)) : Gr w6 (w6.alloc (Obj.cells #[.int .i64 x] 3))).toWr (Value.slice aj X0.length lcj).ownBlock.toList).trans k2
            have HW9 := Lib.hid hw9
            have K1 := Lib.hid k1
            have K3 := Lib.hid k3
            obtain ⟨a9, l9, hv9⟩ := k1.form
            clear hkk hw9 k1 k2 k3 k4
            subst hv9
            refine hK.out _ _ trivial (fun _ => ?_)
            clear hK K
            try simp only [Act.put, List.setIfInBounds_toArray, List.set_cons_zero, List.set_cons_succ]
            refine wpAnyH_take (i := 9) (v := ?_) rfl (by kernel_rfl) (by kernel_rfl) (by kernel_rfl) (fun _ _ _ h => h) (Or.inl ⟨by rfl, ?_⟩) (by assumption) ?_
            rotate_left 1
            · intro w hSw; (try dsimp only at hSw); go_simp; all_goals with_reducible rfl
            try simp only [Act.put, List.setIfInBounds_toArray, List.set_cons_zero, List.set_cons_succ]
            refine wpAnyH_ready (rs := [10]) (by kernel_rfl) (by simp) ?_
            refine AllReadyH.cons rfl (fun K hK => ?_) AllReadyH.nil
            go_simp
            refine hK.out _ _ trivial (fun _ => ?_)
            clear hK K
            try simp only [Act.put, List.setIfInBounds_toArray, List.set_cons_zero, List.set_cons_succ]
            refine wpAnyH_done (by kernel_rfl) ?_ _
            go_wp2_with fail
            go_ret
            obtain ⟨fps9, hO9, hN9, hG9⟩ := HGR6.out w9 _ _ HW9.out K1.out (by
              rcases K3.out with h | h
              · exact .inl h
              · exact .inr ⟨_, h, by simp⟩)
            rw [show (X0 ++ [x]).length = X0.length + 1 by simp] at hO9
            exact table_fin hO9 (by rw [List.length_set, HXL.out]; omega) (fun y hy => by
              rcases List.mem_or_eq_of_mem_set hy with hy | rfl
              · have := HXS.out y hy; omega
              · show (X0 ++ [x]).length ≤ 4; simp; omega) (Wr.setCell_new ((HW4.out.trans HW6.out).new HW9.out (fun y hy => (HOj6.out.base y (by simpa using hy)).1)) (by omega))
          · go_simp
            refine hK.out _ _ trivial (fun _ => ?_)
            clear hK K
            try simp only [Act.put, List.setIfInBounds_toArray, List.set_cons_zero, List.set_cons_succ]
            refine wpAnyH_ready (rs := [3, 6]) (by kernel_rfl) (by simp) ?_
            refine AllReadyH.cons rfl (fun K hK => ?_) (AllReadyH.cons rfl (fun K hK => ?_) AllReadyH.nil)
            · go_simp
              refine hK.out _ _ trivial (fun _ => ?_)
              clear hK K
              try simp only [Act.put, List.setIfInBounds_toArray, List.set_cons_zero, List.set_cons_succ]
              refine wpAnyH_ready (rs := [6]) (by kernel_rfl) (by simp) ?_
              refine AllReadyH.cons rfl (fun K hK => ?_) AllReadyH.nil
              go_simp
              go_at_call 44
              refine (l1PickInt_any b _ _ [-1, 9, 20] _ (HC4.out.gr (by repeat (first | exact Gr.refl _ | apply Gr.ext | apply Gr.alloc | apply Gr.drew))) (HLIT.out.gr (by repeat (first | exact Gr.refl _ | apply Gr.ext | apply Gr.alloc | apply Gr.drew))) (fun hm => by have := HLF.out b hm; omega) (by simp) (by simp)).mono ?_
              rintro e w6 ⟨x, hxm, rfl, hc6, hw6⟩
              have HC6 := Lib.hid hc6
              have hG45 : Gr W4 ((W4.alloc (Obj.cells #[Value.int .i64 (-1), .int .i64 9, .int .i64 20] 3)).drew) := (by repeat (first | exact Gr.refl _ | apply Gr.ext | apply Gr.alloc | apply Gr.drew))
              have hO6 := (HO4.out.gr hG45).wr hw6 (fun y hy hm => by have := HGE.out y hy; simp at hm; omega) (fun y hy hm => by have := (HO4.out.base y hy).1; simp at hm; omega)
              have HO6 := Lib.hid hO6
              have hW6 : Wr [b] W4 w6 := (hG45.toWr [b]).trans hw6
              have HW6 := Lib.hid hW6
              have hz6 := hW6.size
              have cj6 : w6.cell? ⟨g, 0, none⟩ = some (.slice aj X0.length lcj) := by rw [World.cell?_of_block (a := ⟨g, 0, none⟩) (hW6.block g hgl (by simp; omega))]; exact cj
              have zg6 := blk cj6
              have hxwf : (Lit.int .i64 x).wf = true := by
                simp only [List.mem_cons, List.not_mem_nil, or_false] at hxm
                rcases hxm with rfl | rfl | rfl <;> decide
              have HXW := Lib.hid hxwf
              clear hc6 hw6 hO6 hW6 hG45 hxm hxwf
              try go_simp
              refine hK.out _ _ trivial (fun _ => ?_)
              clear hK K
              try simp only [Act.put, List.setIfInBounds_toArray, List.set_cons_zero, List.set_cons_succ]
              refine wpAnyH_ready (rs := [7]) (by kernel_rfl) (by simp) ?_
              refine AllReadyH.cons rfl (fun K hK => ?_) AllReadyH.nil
              go_simp
              refine hK.out _ _ trivial (fun _ => ?_)
              clear hK K
              try simp only [Act.put, List.setIfInBounds_toArray, List.set_cons_zero, List.set_cons_succ]
              refine wpAnyH_ready (rs := [8]) (by kernel_rfl) (by simp) ?_
              refine AllReadyH.cons rfl (fun K hK => ?_) AllReadyH.nil
              obtain ⟨g6, cap6, vj6, fpj6, hpv6, hg6l, hg6b, hcap6, cj6', fj6, hOj6, hflj6, hgn6, hgrow6⟩ := HO6.out.grow HND.out HGE.out (j := 0) (by rw [HXL.out]; omega)
              have eg : g = g6 := by injection hpv6 with e1 _ _; injection e1 with e1; injection e1
              subst eg
              have ev : Value.slice aj X0.length lcj = vj6 := by rw [cj6] at cj6'; exact Option.some.inj cj6'
              subst ev
              have HOj6 := Lib.hid hOj6
              have HGR6 := Lib.hid hgrow6
              have HGN6 := Lib.hid hgn6
              have HX0' := Lib.hid HX0.out
              rw [← HX0.out] at HOj6
              clear hpv6 hOj6 hgrow6 hgn6 cj6' hflj6
              refine step_append_RB (α := Int) (w0 := w) (gr_first (n := w.heap.size) (by simp; omega)) (by rw [size_first (by simp; omega)]; omega) (by simp; omega) (by rfl) _ _ _ (by rfl) 3 i1 (.int .i64 0) 8 Try.underlying30 HZ.out.1 HZ.out.2.1 HZ.out.2.2.1 HZ.out.2.2.2 rfl _ fpj6 _ (by rfl) (HOj6.out.gr (by repeat (first | exact Gr.refl _ | apply Gr.ext | apply Gr.alloc | apply Gr.drew))) (.slice (some ⟨w6.heap.size, 0, none⟩) 1 1) [[]] [x] (by rfl) ((SrcR.one (w := w6) (g := w6.heap.size) rfl (intRd HXW.out _)).gr (by repeat (first | exact Gr.refl _ | apply Gr.ext | apply Gr.alloc | apply Gr.drew))) (fun y _ => by simp) (by unfold maxLen; simp; omega) (by simp; omega) ?_
              intro v9 w9 k1 k2 k3 k4
              have hkk : w9.heap[g]? = w6.heap[g]? := (k2.block g (by simp; omega) HGN6.out).trans (((by repeat (first | exact Gr.refl _ | apply Gr.ext | apply Gr.alloc | apply Gr.drew)) : Gr w6 (w6.alloc (Obj.cells #[.int .i64 x] 3))).below.block g zg6)
              have c9 := (World.cell?_of_block (a := ⟨g, 0, none⟩) hkk).trans cj6
              have f9 := (World.frozen?_of_block (a := ⟨g, 0, none⟩) hkk).trans fj6
              have z9 := blk c9
              have hw9 := (((by repeat (first | exact Gr.refl _ | apply Gr.ext | apply Gr.alloc | apply Gr.drew)) : Gr w6 (w6.alloc (Obj.cells #[.int .i64 x] 3))).toWr (Value.slice aj X0.length lcj).ownBlock.toList).trans k2
              have HW9 := Lib.hid hw9
              have K1 := Lib.hid k1
              have K3 := Lib.hid k3
              obtain ⟨a9, l9, hv9⟩ := k1.form
              clear hkk hw9 k1 k2 k3 k4
              subst hv9
              refine hK.out _ _ trivial (fun _ => ?_)
              clear hK K
              try simp only [Act.put, List.setIfInBounds_toArray, List.set_cons_zero, List.set_cons_succ]
              refine wpAnyH_take (i := 9) (v := ?_) rfl (by kernel_rfl) (by kernel_rfl) (by kernel_rfl) (fun _ _ _ h => h) (Or.inl ⟨by rfl, ?_⟩) (by assumption) ?_
              rotate_left 1
              · intro w hSw; (try dsimp only at hSw); go_simp; all_goals with_reducible rfl
              try simp only [Act.put, List.setIfInBounds_toArray, List.set_cons_zero, List.set_cons_succ]
              refine wpAnyH_ready (rs := [10]) (by kernel_rfl) (by simp) ?_
              refine AllReadyH.cons rfl (fun K hK => ?_) AllReadyH.nil
              go_simp
              refine hK.out _ _ trivial (fun _ => ?_)
              clear hK K
              try simp only [Act.put, List.setIfInBounds_toArray, List.set_cons_zero, List.set_cons_succ]
              refine wpAnyH_done (by kernel_rfl) ?_ _
              go_wp2_with fail
              go_ret
              obtain ⟨fps9, hO9, hN9, hG9⟩ := HGR6.out w9 _ _ HW9.out K1.out (by
                rcases K3.out with h | h
                · exact .inl h
                · exact .inr ⟨_, h, by simp⟩)
              rw [show (X0 ++ [x]).length = X0.length + 1 by simp] at hO9
              exact table_fin hO9 (by rw [List.length_set, HXL.out]; omega) (fun y hy => by
                rcases List.mem_or_eq_of_mem_set hy with hy | rfl
                · have := HXS.out y hy; omega
                · show (X0 ++ [x]).length ≤ 4; simp; omega) (Wr.setCell_new ((HW4.out.trans HW6.out).new HW9.out (fun y hy => (HOj6.out.base y (by simpa using hy)).1)) (by omega))
            · go_simp
              go_at_call 44
              refine (l1PickInt_any b _ _ [-1, 9, 20] _ (HC4.out.gr (by repeat (first | exact Gr.refl _ | apply Gr.ext | apply Gr.alloc | apply Gr.drew))) (HLIT.out.gr (by repeat (first | exact Gr.refl _ | apply Gr.ext | apply Gr.alloc | apply Gr.drew))) (fun hm => by have := HLF.out b hm; omega) (by simp) (by simp)).mono ?_
              rintro e w6 ⟨x, hxm, rfl, hc6, hw6⟩
              have HC6 := Lib.hid hc6
              have hG45 : Gr W4 ((W4.alloc (Obj.cells #[Value.int .i64 (-1), .int .i64 9, .int .i64 20] 3)).drew) := (by repeat (first | exact Gr.refl _ | apply Gr.ext | apply Gr.alloc | apply Gr.drew))
              have hO6 := (HO4.out.gr hG45).wr hw6 (fun y hy hm => by have := HGE.out y hy; simp at hm; omega) (fun y hy hm => by have := (HO4.out.base y hy).1; simp at hm; omega)
              have HO6 := Lib.hid hO6
              have hW6 : Wr [b] W4 w6 := (hG45.toWr [b]).trans hw6
              have HW6 := Lib.hid hW6
              have hz6 := hW6.size
              have cj6 : w6.cell? ⟨g, 0, none⟩ = some (.slice aj X0.length lcj) := by rw [World.cell?_of_block (a := ⟨g, 0, none⟩) (hW6.block g hgl (by simp; omega))]; exact cj
              have zg6 := blk cj6
              have hxwf : (Lit.int .i64 x).wf = true := by
                simp only [List.mem_cons, List.not_mem_nil, or_false] at hxm
                rcases hxm with rfl | rfl | rfl <;> decide
              have HXW := Lib.hid hxwf
              clear hc6 hw6 hO6 hW6 hG45 hxm hxwf
              try go_simp
              refine hK.out _ _ trivial (fun _ => ?_)
              clear hK K
              try simp only [Act.put, List.setIfInBounds_toArray, List.set_cons_zero, List.set_cons_succ]
              refine wpAnyH_ready (rs := [3, 7]) (by kernel_rfl) (by simp) ?_
              refine AllReadyH.cons rfl (fun K hK => ?_) (AllReadyH.cons rfl (fun K hK => ?_) AllReadyH.nil)
              · go_simp
                refine hK.out _ _ trivial (fun _ => ?_)
                clear hK K
                try simp only [Act.put, List.setIfInBounds_toArray, List.set_cons_zero, List.set_cons_succ]
                refine wpAnyH_ready (rs := [7]) (by kernel_rfl) (by simp) ?_
                refine AllReadyH.cons rfl (fun K hK => ?_) AllReadyH.nil
                go_simp
                refine hK.out _ _ trivial (fun _ => ?_)
                clear hK K
                try simp only [Act.put, List.setIfInBounds_toArray, List.set_cons_zero, List.set_cons_succ]
                refine wpAnyH_ready (rs := [8]) (by kernel_rfl) (by simp) ?_
                refine AllReadyH.cons rfl (fun K hK => ?_) AllReadyH.nil
                obtain ⟨g6, cap6, vj6, fpj6, hpv6, hg6l, hg6b, hcap6, cj6', fj6, hOj6, hflj6, hgn6, hgrow6⟩ := HO6.out.grow HND.out HGE.out (j := 0) (by rw [HXL.out]; omega)
                have eg : g = g6 := by injection hpv6 with e1 _ _; injection e1 with e1; injection e1
                subst eg
                have ev : Value.slice aj X0.length lcj = vj6 := by rw [cj6] at cj6'; exact Option.some.inj cj6'
                subst ev
                have HOj6 := Lib.hid hOj6
                have HGR6 := Lib.hid hgrow6
                have HGN6 := Lib.hid hgn6
                have HX0' := Lib.hid HX0.out
                rw [← HX0.out] at HOj6
                clear hpv6 hOj6 hgrow6 hgn6 cj6' hflj6
                refine step_append_RB (α := Int) (w0 := w) (gr_first (n := w.heap.size) (by simp; omega)) (by rw [size_first (by simp; omega)]; omega) (by simp; omega) (by rfl) _ _ _ (by rfl) 3 i1 (.int .i64 0) 8 Try.underlying30 HZ.out.1 HZ.out.2.1 HZ.out.2.2.1 HZ.out.2.2.2 rfl _ fpj6 _ (by rfl) (HOj6.out.gr (by repeat (first | exact Gr.refl _ | apply Gr.ext | apply Gr.alloc | apply Gr.drew))) (.slice (some ⟨w6.heap.size, 0, none⟩) 1 1) [[]] [x] (by rfl) ((SrcR.one (w := w6) (g := w6.heap.size) rfl (intRd HXW.out _)).gr (by repeat (first | exact Gr.refl _ | apply Gr.ext | apply Gr.alloc | apply Gr.drew))) (fun y _ => by simp) (by unfold maxLen; simp; omega) (by simp; omega) ?_
                intro v9 w9 k1 k2 k3 k4
                have hkk : w9.heap[g]? = w6.heap[g]? := (k2.block g (by simp; omega) HGN6.out).trans (((by repeat (first | exact Gr.refl _ | apply Gr.ext | apply Gr.alloc | apply Gr.drew)) : Gr w6 (w6.alloc (Obj.cells #[.int .i64 x] 3))).below.block g zg6)
                have c9 := (World.cell?_of_block (a := ⟨g, 0, none⟩) hkk).trans cj6
                have f9 := (World.frozen?_of_block (a := ⟨g, 0, none⟩) hkk).trans fj6
                have z9 := blk c9
                have hw9 := (((by repeat (first | exact Gr.refl _ | apply Gr.ext | apply Gr.alloc | apply Gr.drew)) : Gr w6 (w6.alloc (Obj.cells #[.int .i64 x] 3))).toWr (Value.slice aj X0.length lcj).ownBlock.toList).trans k2
                have HW9 := Lib.hid hw9
                have K1 := Lib.hid k1
                have K3 := Lib.hid k3
                obtain ⟨a9, l9, hv9⟩ := k1.form
                clear hkk hw9 k1 k2 k3 k4
                subst hv9
                refine hK.out _ _ trivial (fun _ => ?_)
                clear hK K
                try simp only [Act.put, List.setIfInBounds_toArray, List.set_cons_zero, List.set_cons_succ]
                refine wpAnyH_take (i := 9) (v := ?_) rfl (by kernel_rfl) (by kernel_rfl) (by kernel_rfl) (fun _ _ _ h => h) (Or.inl ⟨by rfl, ?_⟩) (by assumption) ?_
                rotate_left 1
                · intro w hSw; (try dsimp only at hSw); go_simp; all_goals with_reducible rfl
                try simp only [Act.put, List.setIfInBounds_toArray, List.set_cons_zero, List.set_cons_succ]
                refine wpAnyH_ready (rs := [10]) (by kernel_rfl) (by simp) ?_
                refine AllReadyH.cons rfl (fun K hK => ?_) AllReadyH.nil
                go_simp
                refine hK.out _ _ trivial (fun _ => ?_)
                clear hK K
                try simp only [Act.put, List.setIfInBounds_toArray, List.set_cons_zero, List.set_cons_succ]
                refine wpAnyH_done (by kernel_rfl) ?_ _
                go_wp2_with fail
                go_ret
                obtain ⟨fps9, hO9, hN9, hG9⟩ := HGR6.out w9 _ _ HW9.out K1.out (by
                  rcases K3.out with h | h
                  · exact .inl h
                  · exact .inr ⟨_, h, by simp⟩)
                rw [show (X0 ++ [x]).length = X0.length + 1 by simp] at hO9
                exact table_fin hO9 (by rw [List.length_set, HXL.out]; omega) (fun y hy => by
                  rcases List.mem_or_eq_of_mem_set hy with hy | rfl
                  · have := HXS.out y hy; omega
                  · show (X0 ++ [x]).length ≤ 4; simp; omega) (Wr.setCell_new ((HW4.out.trans HW6.out).new HW9.out (fun y hy => (HOj6.out.base y (by simpa using hy)).1)) (by omega))
              · go_simp
                refine hK.out _ _ trivial (fun _ => ?_)
                clear hK K
                try simp only [Act.put, List.setIfInBounds_toArray, List.set_cons_zero, List.set_cons_succ]
                refine wpAnyH_ready (rs := [3]) (by kernel_rfl) (by simp) ?_
                refine AllReadyH.cons rfl (fun K hK => ?_) AllReadyH.nil
                go_simp
                refine hK.out _ _ trivial (fun _ => ?_)
                clear hK K
                try simp only [Act.put, List.setIfInBounds_toArray, List.set_cons_zero, List.set_cons_succ]
                refine wpAnyH_ready (rs := [8]) (by kernel_rfl) (by simp) ?_
                refine AllReadyH.cons rfl (fun K hK => ?_) AllReadyH.nil
                obtain ⟨g6, cap6, vj6, fpj6, hpv6, hg6l, hg6b, hcap6, cj6', fj6, hOj6, hflj6, hgn6, hgrow6⟩ := HO6.out.grow HND.out HGE.out (j := 0) (by rw [HXL.out]; omega)
                have eg : g = g6 := by injection hpv6 with e1 _ _; injection e1 with e1; injection e1
                subst eg
                have ev : Value.slice aj X0.length lcj = vj6 := by rw [cj6] at cj6'; exact Option.some.inj cj6'
                subst ev
                have HOj6 := Lib.hid hOj6
                have HGR6 := Lib.hid hgrow6
                have HGN6 := Lib.hid hgn6
                have HX0' := Lib.hid HX0.out
                rw [← HX0.out] at HOj6
                clear hpv6 hOj6 hgrow6 hgn6 cj6' hflj6
                refine step_append_RB (α := Int) (w0 := w) (gr_first (n := w.heap.size) (by simp; omega)) (by rw [size_first (by simp; omega)]; omega) (by simp; omega) (by rfl) _ _ _ (by rfl) 3 i1 (.int .i64 0) 8 Try.underlying30 HZ.out.1 HZ.out.2.1 HZ.out.2.2.1 HZ.out.2.2.2 rfl _ fpj6 _ (by rfl) (HOj6.out.gr (by repeat (first | exact Gr.refl _ | apply Gr.ext | apply Gr.alloc | apply Gr.drew))) (.slice (some ⟨w6.heap.size, 0, none⟩) 1 1) [[]] [x] (by rfl) ((SrcR.one (w := w6) (g := w6.heap.size) rfl (intRd HXW.out _)).gr (by repeat (first | exact Gr.refl _ | apply Gr.ext | apply Gr.alloc | apply Gr.drew))) (fun y _ => by simp) (by unfold maxLen; simp; omega) (by simp; omega) ?_
                intro v9 w9 k1 k2 k3 k4
                have hkk : w9.heap[g]? = w6.heap[g]? := (k2.block g (by simp; omega) HGN6.out).trans (((by repeat (first | exact Gr.refl _ | apply Gr.ext | apply Gr.alloc | apply Gr.drew)) : Gr w6 (w6.alloc (Obj.cells #[.int .i64 x] 3))).below.block g zg6)
                have c9 := (World.cell?_of_block (a := ⟨g, 0, none⟩) hkk).trans cj6
                have f9 := (World.frozen?_of_block (a := ⟨g, 0, none⟩) hkk).trans fj6
                have z9 := blk c9
                have hw9 := (((by repeat (first | exact Gr.refl _ | apply Gr.ext | apply Gr.alloc | apply Gr.drew)) : Gr w6 (w6.alloc (Obj.cells #[.int .i64 x] 3))).toWr (Value.slice aj X0.length lcj).ownBlock.toList).trans k2
                have HW9 := Lib.hid hw9
                have K1 := Lib.hid k1
                have K3 := Lib.hid k3
                obtain ⟨a9, l9, hv9⟩ := k1.form
                clear hkk hw9 k1 k2 k3 k4
                subst hv9
                refine hK.out _ _ trivial (fun _ => ?_)
                clear hK K
                try simp only [Act.put, List.setIfInBounds_toArray, List.set_cons_zero, List.set_cons_succ]
                refine wpAnyH_take (i := 9) (v := ?_) rfl (by kernel_rfl) (by kernel_rfl) (by kernel_rfl) (fun _ _ _ h => h) (Or.inl ⟨by rfl, ?_⟩) (by assumption) ?_
                rotate_left 1
                · intro w hSw; (try dsimp only at hSw); go_simp; all_goals with_reducible rfl
                try simp only [Act.put, List.setIfInBounds_toArray, List.set_cons_zero, List.set_cons_succ]
                refine wpAnyH_ready (rs := [10]) (by kernel_rfl) (by simp) ?_
                refine AllReadyH.cons rfl (fun K hK => ?_) AllReadyH.nil
                go_simp
                refine hK.out _ _ trivial (fun _ => ?_)
                clear hK K
                try simp only [Act.put, List.setIfInBounds_toArray, List.set_cons_zero, List.set_cons_succ]
                refine wpAnyH_done (by kernel_rfl) ?_ _
                go_wp2_with fail
                go_ret
                obtain ⟨fps9, hO9, hN9, hG9⟩ := HGR6.out w9 _ _ HW9.out K1.out (by
                  rcases K3.out with h | h
                  · exact .inl h
                  · exact .inr ⟨_, h, by simp⟩)
                rw [show (X0 ++ [x]).length = X0.length + 1 by simp] at hO9
                exact table_fin hO9 (by rw [List.length_set, HXL.out]; omega) (fun y hy => by
                  rcases List.mem_or_eq_of_mem_set hy with hy | rfl
                  · have := HXS.out y hy; omega
                  · show (X0 ++ [x]).length ≤ 4; simp; omega) (Wr.setCell_new ((HW4.out.trans HW6.out).new HW9.out (fun y hy => (HOj6.out.base y (by simpa using hy)).1)) (by omega))
end Go.Proofs.Ytcphimmkkfpohaa
