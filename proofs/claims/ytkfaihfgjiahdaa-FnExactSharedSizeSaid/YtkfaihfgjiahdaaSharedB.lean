/- SharedSize of the reference. No condition. -/
import Derived.Test.YtkfaihfgjiahdaaSharedA
import Derived.Test.YtkfaihfgjiahdaaBfs
import Derived.Maps.AppendAt
namespace Go.Proofs.Ytkfaihfgjiahdaa
open Go.RowKit

theorem ownsRow_gr {w w' : World} {base n size : Nat} {e : TypeId} {v : Value} {xs : List Value} (h : w.ownsRow base e size v n xs) (hg : Gr w w') : w'.ownsRow base e size v n xs :=
  h.kept (row := none) ⟨hg.below.os, hg.below.tape, hg.below.output, hg.below.size, fun k hk _ => hg.below.block k hk⟩ (by cases hb : v.ownBlock <;> simp)

theorem intRd {y : Int} (h : (Lit.int .i64 y).wf = true) (w : World) : Rd.rd (α := Int) [] w [.int .i64 y] y := ⟨rfl, rfl, h⟩

/-- A row of one's own that has an element has an address. -/
theorem ownForm {w : World} {base size n : Nat} {e : TypeId} {v : Value} {xs : List Value} (h : w.ownsRow base e size v n xs) (hn : 0 < n) :
    ∃ g cap, v = .slice (some ⟨g, 0, none⟩) n cap ∧ base ≤ g ∧ g < w.heap.size := by
  rcases h.2 with ⟨_, h0⟩ | ⟨g, cap, cur, hv, hb, hg, _⟩
  · omega
  · refine ⟨g, cap, hv, hb, ?_⟩
    rcases Nat.lt_or_ge g w.heap.size with hlt | hge
    · exact hlt
    · rw [Array.getElem?_eq_none hge] at hg; cases hg

theorem wf_small {y : Int} (h0 : 0 ≤ y) (h1 : y ≤ 140737488351232) : (Lit.int .i64 y).wf = true := by
  simp only [Lit.wf, Bool.and_eq_true, decide_eq_true_eq]
  have e1 : IntKind.i64.min = -9223372036854775808 := by decide
  have e2 : IntKind.i64.max = 9223372036854775807 := by decide
  omega

set_option maxRecDepth 10000 in
set_option maxHeartbeats 8000000 in
theorem specShared_any (fp : List Nat) (cs : Array Value) (xs : List GCell) (a : Int) (w : World) (hx : Rd.rd fp w cs.toList xs) (hlen : xs.length ≤ 1048576) :
    Calls Try.prog 12 #[.agg cs, .int .i64 a] w fun e w' => e = .returned (.int .i64 (sharedN xs a)) ∧ Gr w w' := by
  have hrx := hx
  obtain ⟨v, f, rfl, -, hu⟩ := rdStore_inv xs hx
  obtain ⟨aa, ca, rfl, h1, h2, h3⟩ := hu.open
  clear hx
  by_cases hv : ValidStore xs
  · have HV := Lib.hid hv
    clear hv
    by_cases hin : 0 ≤ a ∧ a ≤ (xs.length : Int) - 1
    · obtain ⟨n, rfl⟩ : ∃ n : Nat, a = n := ⟨a.toNat, by omega⟩
      have HI := Lib.hid hin
      have hn : n < xs.length := by omega
      clear hin
      go_enter Try.func12, Try.ntmps12
      go_wp2_with fail
      refine (specValid_any _ _ xs _ (Rd.gr hrx (by repeat (first | exact Gr.refl _ | apply Gr.ext | apply Gr.alloc | apply Gr.drew)))).mono ?_
      rintro e w' ⟨rfl, x1, rfl⟩
      rw [validB_true HV.out]
      go_wp2_with fail
      refine (l1In_yes _ _ _ _ HI.out.1 HI.out.2).mono ?_
      rintro e w' ⟨rfl, x2, rfl⟩
      go_wp2_with fail
      obtain ⟨i0, hi0, hz0, hz1, hz2⟩ := info_parts Try.infoInt
      generalize hB : (w.alloc (Obj.cells #[Value.slice aa xs.length ca] 31)) = B
      have gB : Gr w B := by rw [← hB]; exact (by repeat (first | exact Gr.refl _ | apply Gr.ext | apply Gr.alloc | apply Gr.drew))
      have bB : ∀ w' : World, Gr B w' → w'.cell? ⟨w.heap.size, 0, none⟩ = some (.slice aa xs.length ca) := fun w' hg => hg.keep (by rw [← hB]; exact box_cell rfl rfl)
      have sB : B.heap.size = w.heap.size + 1 := by rw [← hB]; simp
      clear hB
      have HZ := Lib.hid (And.intro hi0 (And.intro hz0 (And.intro hz1 hz2)))
      clear hi0 hz0 hz1 hz2
      go_loopw [5, 6] (fun s5 s6 wr => ∃ (i : Nat) (L : List Int), BfsInv xs n i L ∧ Gr B wr ∧ wr.ownsRow B.heap.size 3 1 s5 L.length (L.map (Value.int .i64)) ∧ s6 = .int .i64 i) (fun s5 s6 _ => xs.length - (intOf s6).toNat)
      case atStart =>
        refine ⟨0, [(n : Int)], BfsInv.start hn, ((Gr.refl B).ext x1).ext x2 |>.alloc _, ?_, rfl⟩
        have := World.ownsRow_lit (base := B.heap.size) (e := 3) (size := 1) ((B.ext x1).ext x2) #[.int .i64 n] 1 (by simp; omega) (by decide) rfl
        simpa [sB] using this
      case round =>
        obtain ⟨i, L, hI, hg, hown, rfl⟩ := hrel
        rename World => W1
        have HI2 := Lib.hid hI
        have hLn : L.length ≤ xs.length := hI.length_le
        have hL0 : 0 < L.length := List.length_pos_of_mem hI.2.2.2.1
        obtain ⟨g, cap, rfl, hbg, hgl⟩ := ownForm hown hL0
        have HOW := Lib.hid hown
        have HGR := Lib.hid hg
        have hbox := bB _ hg
        by_cases hlt : i < L.length
        · obtain ⟨p, hpe, hpl, hpr⟩ := hI.2.2.1 _ (List.getElem_mem hlt)
          have hcell : W1.cell? ⟨g, i, none⟩ = some (.int .i64 (p : Int)) := by
            rw [hown.cellAt i (by omega), List.getElem?_map, List.getElem?_eq_getElem hlt, ← hpe]; rfl
          have HP := Lib.hid hpe
          have gw : Gr w W1 := gB.trans hg
          clear hI hown hpe hpr hg
          obtain ⟨b, off, rfl, hb⟩ := h3 p hpl
          obtain ⟨csq, feq, hcq, hrq, -⟩ := hu.at hpl
          generalize hyq : xs[p] = yq at hrq
          obtain ⟨q0, q1, q2⟩ := yq
          obtain ⟨vq2, fq2, hcsq, -, hq0, hq1, hq2⟩ := rdCell_inv (cs := csq.toArray) q0 q1 q2 (by simpa using hrq)
          obtain rfl : csq = [.string q0, .int .i64 q1, vq2] := by have := congrArg Array.toList hcsq; simpa using this
          obtain ⟨aq, cq, rfl, k1, k2, k3⟩ := hq2.open
          have z2 : W1.cell? ⟨b, off + p * 3 + 2, none⟩ = some (.slice aq q2.length cq) := gw.keep (hcq 2 _ rfl)
          have zb := blk z2
          have zg := blk hcell
          have zx := blk hbox
          have HY := Lib.hid hyq
          clear h3 hcsq hcq hrq hyq
          go_wp2_with fail
          refine wp_region_grown (by kernel_rfl) (by kernel_rfl) ?_
          repeat (go_big_quiet_step (fail))
          refine wpQuiet_nil ?_
          intro _ hw'
          obtain ⟨nx, hw''⟩ := hw'
          subst hw''
          go_wp2_with fail
          have HB2 := Lib.hid hbox
          go_loopw [5, 8] (fun s5 s8 wr => ∃ (k : Nat) (M : List Int), k ≤ q2.length ∧ BfsInv xs n i M ∧ (∃ h : i < M.length, M[i] = (p : Int)) ∧ (∀ m (h : m < q2.length), m < k → q2[m] ∈ M) ∧ Gr B wr ∧ wr.ownsRow B.heap.size 3 1 s5 M.length (M.map (Value.int .i64)) ∧ s8 = .int .i64 k) (fun s5 s8 _ => q2.length - (intOf s8).toNat)
          case atStart => exact ⟨0, L, by omega, HI2.out, ⟨hlt, HP.out⟩, by omega, HGR.out.ext nx, ownsRow_gr HOW.out ((Gr.refl W1).ext nx), rfl⟩
          case round =>
            obtain ⟨k, M, hk, hJ, hMi, hin, hg2, hown2, rfl⟩ := hrel
            have hMn : M.length ≤ xs.length := hJ.length_le
            have hM0 : 0 < M.length := List.length_pos_of_mem hJ.2.2.2.1
            obtain ⟨g2, cap2, rfl, hbg2, hgl2⟩ := ownForm hown2 hM0
            have HJ := Lib.hid hJ
            have HMI := Lib.hid hMi
            have HIN := Lib.hid hin
            have HOW2 := Lib.hid hown2
            have HG2 := Lib.hid hg2
            have hall := hJ.2.2.1
            have hwf : ∀ y ∈ M, (Lit.int .i64 y).wf = true := fun y hy => by
              obtain ⟨j, rfl, hjl, _⟩ := hall y hy
              exact wf_small (by omega) (by omega)
            obtain ⟨fm, hsM, -, -, -⟩ := ownsFlat rfl (Value.int .i64) hown2 (fun y hy => intRd (hwf y hy) _) (by unfold reachLen; omega)
            have HSM := Lib.hid hsM
            clear hJ hMi hin hown2 hg2 hall hwf hsM
            by_cases hkl : k < q2.length
            · obtain ⟨bq, oq, rfl, hbq⟩ := k3 k hkl
              have c1 : wr.cell? ⟨bq, oq + k, none⟩ = some (.int .i64 q2[k]) := (gB.trans HG2.out).keep (hq2.int_at hkl).1
              have c0 := blk c1
              clear k3
              by_cases hy : q2[k] ∈ M
              · have hany : M.any (fun z => q2[k] == z) = true := List.any_eq_true.2 ⟨_, hy, by simp⟩
                have HA := Lib.hid hany
                have HY2 := Lib.hid hy
                clear hany hy
                go_wp2_with fail
                refine (l1HasInt_any _ _ M _ _ HSM.out).mono ?_
                rintro e w2 ⟨rfl, x4, rfl⟩
                rw [HA.out]
                go_wp2_with fail
                refine ⟨⟨k + 1, M, by omega, HJ.out, HMI.out, fun m hm hmk => ?_, HG2.out.ext x4, ownsRow_gr HOW2.out ((Gr.refl _).ext x4), by go_num⟩, by simp [intOf]; omega⟩
                by_cases hmk2 : m < k
                · exact HIN.out m hm hmk2
                · obtain rfl : m = k := by omega
                  exact HY2.out
              · have hany : M.any (fun z => q2[k] == z) = false := by
                  rw [List.any_eq_false]
                  intro z hz e
                  have e2 : q2[k] = z := by simpa using e
                  exact hy (by rw [e2]; exact hz)
                have HA := Lib.hid hany
                have HY2 := Lib.hid hy
                clear hany hy
                go_wp2_with fail
                refine (l1HasInt_any _ _ M _ _ HSM.out).mono ?_
                rintro e w2 ⟨rfl, x4, rfl⟩
                rw [HA.out]
                have hown3 := ownsRow_gr HOW2.out ((Gr.refl wr).ext x4)
                have hg3 : Gr B (wr.ext x4) := HG2.out.ext x4
                have c2 := ((Gr.refl wr).ext x4).keep c1
                clear c1 c0 hgl2
                generalize wr.ext x4 = W2 at hown3 hg3 c2 ⊢
                have c3 := blk c2
                have HOW3 := Lib.hid hown3
                have HG3 := Lib.hid hg3
                clear hown3 hg3
                have hi0 := HZ.out.1
                go_wp2_with (first | (at_builtin; refine wpList_append_gr (w0 := B) (HG3.out.alloc _) rfl _ _ 43 rfl 3 i0 (.int .i64 0) 1 8 Try.underlying43 HZ.out.1 HZ.out.2.1 HZ.out.2.2.1 HZ.out.2.2.2 rfl (by decide) _ _ _ rfl (HOW3.out.alloc _) ⟨W2.heap.size, 0, none⟩ 1 1 [.int .i64 q2[k]] rfl rfl (cell_one_new _ _ _) (fun u hu => by simp at hu; subst hu; rfl) (by decide) (by unfold maxLen; omega) (by omega) ?_; intro v' w3 hown4 hgrow4 hg4))
                obtain ⟨hiM, hMp⟩ := HMI.out
                have hyx : q2[k] ∈ xs[p].2.2 := by rw [HY.out]; exact List.getElem_mem hkl
                refine ⟨⟨k + 1, M ++ [q2[k]], by omega, HJ.out.push HV.out hiM hpl hMp hyx HY2.out, ⟨by simp; omega, by rw [List.getElem_append_left hiM]; exact hMp⟩, fun m hm hmk => ?_, hg4, by simpa using hown4, by go_num⟩, by simp [intOf]; omega⟩
                by_cases hmk2 : m < k
                · exact List.mem_append_left _ (HIN.out m hm hmk2)
                · obtain rfl : m = k := by omega
                  exact List.mem_append_right _ (by simp)
            · obtain ⟨hiM, hMp⟩ := HMI.out
              have hMn2 := HJ.out.length_le
              have HMP := Lib.hid hMp
              clear hMp
              go_wp2_with fail
              refine ⟨⟨i + 1, M, HJ.out.next hiM HMP.out hpl fun y hy => ?_, HG2.out, HOW2.out, by go_num⟩, by simp [intOf]; omega⟩
              rw [HY.out] at hy
              obtain ⟨m, hm, rfl⟩ := List.mem_iff_getElem.1 hy
              have hm2 : m < q2.length := hm
              exact HIN.out m hm2 (by omega)
        · have hi : i = L.length := by have := hI.1; omega
          subst hi
          have hR : L.length = reachN xs n 0 := hI.done
          have HR := Lib.hid hR
          clear hR hI
          go_wp2_with fail
          go_ret
          exact ⟨ret_int (by rw [sharedN_yes HV.out hn, HR.out]), gB.trans HGR.out⟩
    · have HI := Lib.hid hin
      have hor : a < 0 ∨ (xs.length : Int) - 1 < a := by omega
      have HO := Lib.hid hor
      clear hin hor
      go_enter Try.func12, Try.ntmps12
      go_wp2_with fail
      refine (specValid_any _ _ xs _ (Rd.gr hrx (by repeat (first | exact Gr.refl _ | apply Gr.ext | apply Gr.alloc | apply Gr.drew)))).mono ?_
      rintro e w' ⟨rfl, x1, rfl⟩
      rw [validB_true HV.out]
      go_wp2_with fail
      refine (l1In_no _ _ _ _ HO.out).mono ?_
      rintro e w' ⟨rfl, x2, rfl⟩
      go_wp2_with fail
      go_ret
      exact ⟨ret_int (sharedN_no fun h => HI.out h.2).symm, (by repeat (first | exact Gr.refl _ | apply Gr.ext | apply Gr.alloc | apply Gr.drew))⟩
  · have HV := Lib.hid hv
    clear hv
    go_enter Try.func12, Try.ntmps12
    go_wp2_with fail
    refine (specValid_any _ _ xs _ (Rd.gr hrx (by repeat (first | exact Gr.refl _ | apply Gr.ext | apply Gr.alloc | apply Gr.drew)))).mono ?_
    rintro e w' ⟨rfl, x1, rfl⟩
    rw [validB_false HV.out]
    go_wp2_with fail
    go_ret
    exact ⟨ret_int (sharedN_no fun h => HV.out h.1).symm, (by repeat (first | exact Gr.refl _ | apply Gr.ext | apply Gr.alloc | apply Gr.drew))⟩
end Go.Proofs.Ytkfaihfgjiahdaa
