/- SharedSize of the program. No condition. -/
import Derived.Test.YtkfaihfgjiahdaaSharedB
namespace Go.Proofs.Ytkfaihfgjiahdaa
open Go.RowKit

theorem Try.infoBool : (Try.prog.info? 4).map (fun i => (i.zero, i.size, i.bytes)) = some (some (.bool false), 1, 1) := by kernel_rfl

/-- Which cells the program has marked when it has looked through those from m on. -/
def Met (xs : List GCell) (a m : Nat) (β : Nat → Bool) : Prop :=
  ∀ j, j < xs.length → (β j = true ↔ j = a ∨ ∃ p, ∃ hp : p < xs.length, m ≤ p ∧ Reach xs a p ∧ (j : Int) ∈ xs[p].2.2)

/-- In a valid store the mark of cell m, all above looked through, tells whether it is reached. -/
theorem Met.here {xs : List GCell} (hv : ValidStore xs) {a m : Nat} {β : Nat → Bool} (h : Met xs a (m + 1) β) (hm : m < xs.length) : β m = true ↔ Reach xs a m := by
  rw [h m hm]
  constructor
  · rintro (rfl | ⟨p, hp, _, hr, hc⟩)
    · exact Reach.self _ _
    · exact Reach.step hp hr hc
  · intro hr
    rcases hr.cases with rfl | ⟨p, hp, hr2, hc⟩
    · exact .inl rfl
    · have := (hv p hp).2 _ hc
      exact .inr ⟨p, hp, by omega, hr2, hc⟩

theorem Met.skip {xs : List GCell} {a m : Nat} {β : Nat → Bool} (h : Met xs a (m + 1) β) (hr : ¬ Reach xs a m) : Met xs a m β := by
  intro j hj
  rw [h j hj]
  constructor
  · rintro (rfl | ⟨p, hp, h1, h2, h3⟩)
    · exact .inl rfl
    · exact .inr ⟨p, hp, by omega, h2, h3⟩
  · rintro (rfl | ⟨p, hp, h1, h2, h3⟩)
    · exact .inl rfl
    · by_cases e : p = m
      · subst e; exact absurd h2 hr
      · exact .inr ⟨p, hp, by omega, h2, h3⟩

theorem Met.take {xs : List GCell} {a m : Nat} {β β' : Nat → Bool} (h : Met xs a (m + 1) β) (hm : m < xs.length) (hr : Reach xs a m)
    (hb : ∀ j, j < xs.length → (β' j = true ↔ β j = true ∨ (j : Int) ∈ xs[m].2.2)) : Met xs a m β' := by
  intro j hj
  rw [hb j hj, h j hj]
  constructor
  · rintro ((rfl | ⟨p, hp, h1, h2, h3⟩) | hc)
    · exact .inl rfl
    · exact .inr ⟨p, hp, by omega, h2, h3⟩
    · exact .inr ⟨m, hm, Nat.le_refl _, hr, hc⟩
  · rintro (rfl | ⟨p, hp, h1, h2, h3⟩)
    · exact .inl (.inl rfl)
    · by_cases e : p = m
      · subst e; exact .inr h3
      · exact .inl (.inr ⟨p, hp, by omega, h2, h3⟩)

theorem reachN_le (xs : List GCell) (a k : Nat) : reachN xs a k ≤ xs.length := by
  unfold reachN
  have := List.length_filter_le (reachB xs a k) (List.range xs.length)
  simpa using this

set_option maxRecDepth 10000 in
set_option maxHeartbeats 8000000 in
theorem implShared_any (fp : List Nat) (cs : Array Value) (xs : List GCell) (a : Int) (w : World) (hx : Rd.rd fp w cs.toList xs) (hlen : xs.length ≤ 1048576) :
    Calls Try.prog 14 #[.agg cs, .int .i64 a] w fun e w' => e = .returned (.int .i64 (sharedN xs a)) ∧ Gr w w' := by
  have hrx := hx
  obtain ⟨v, f, rfl, -, hu⟩ := rdStore_inv xs hx
  obtain ⟨aa, ca, rfl, h1, h2, h3⟩ := hu.open
  clear hx
  by_cases hall : ValidStore xs ∧ 0 ≤ a ∧ a ≤ (xs.length : Int) - 1
  · obtain ⟨hv, hin0, hin1⟩ := hall
    obtain ⟨n, rfl⟩ : ∃ n : Nat, a = n := ⟨a.toNat, by omega⟩
    have HV := Lib.hid hv
    have hn : n < xs.length := by omega
    have hB : (validB xs && (decide (0 ≤ (n : Int)) && decide ((n : Int) ≤ (xs.length : Int) - 1))) = true := by
      rw [validB_true hv, decide_eq_true hin0, decide_eq_true hin1]; rfl
    have HB := Lib.hid hB
    clear hv hin0 hin1 hB
    obtain ⟨i0, hi, hz0, hz1, hz2⟩ := info_parts Try.infoBool
    have hmk := fun (W : World) => run_make (P := Try.prog) W 90 4 i0 (.bool false) Try.underlying90 hi hz0 .i64 .i64 xs.length xs.length (by omega) (by omega) (by rw [hz2]; omega) (by omega)
    rw [hz1] at hmk
    clear hi hz0 hz1 hz2
    simp only [Int.toNat_natCast, Nat.mul_one] at hmk
    have hms := size_madeCells (Value.bool false).cells xs.length
    have hmc : ∀ j, j < xs.length → (madeCells (Value.bool false).cells xs.length)[j]? = some (.bool false) := by
      intro j hj
      show (madeCells #[Value.bool false] xs.length)[j]? = _
      rw [← Array.getElem?_toList, toList_madeCells_one, List.getElem?_replicate, if_pos hj]
    generalize madeCells (Value.bool false).cells xs.length = C0 at hmk hms hmc
    have HS := Lib.hid hms
    have HC := Lib.hid hmc
    have y0 : n < C0.size := by have : C0.size = xs.length := by simpa using hms
                                omega
    clear hms hmc
    go_enter Try.func14, Try.ntmps14
    go_wp2_with fail
    refine (isCell_any _ _ xs _ _ (Rd.gr hrx (by repeat (first | exact Gr.refl _ | apply Gr.ext | apply Gr.alloc | apply Gr.drew)))).mono ?_
    rintro e w' ⟨rfl, x1, rfl⟩
    rw [HB.out]
    generalize hW0 : (w.alloc (Obj.cells #[Value.slice aa xs.length ca] 31)).ext x1 = W0
    have gW : Gr w W0 := by rw [← hW0]; exact (by repeat (first | exact Gr.refl _ | apply Gr.ext | apply Gr.alloc | apply Gr.drew))
    have gB : Gr (w.alloc (Obj.cells #[Value.slice aa xs.length ca] 31)) W0 := by rw [← hW0]; exact (by repeat (first | exact Gr.refl _ | apply Gr.ext | apply Gr.alloc | apply Gr.drew))
    have hbox : W0.cell? ⟨w.heap.size, 0, none⟩ = some (.slice aa xs.length ca) := gB.keep (box_cell rfl rfl)
    have zx := blk hbox
    clear hW0 gB
    go_wp2_with fail
    go_loopw [6, 7] (fun s6 s7 wr => ∃ (m : Nat) (C : Array Value) (β : Nat → Bool), m ≤ n + 1 ∧ C.size = xs.length ∧ (∀ j, j < xs.length → C[j]? = some (.bool (β j))) ∧ Met xs n m β ∧ wr = W0.alloc (.cells C 4) ∧ s6 = .int .i64 (reachN xs n m : Int) ∧ s7 = .int .i64 ((m : Int) - 1)) (fun s6 s7 _ => (intOf s7 + 1).toNat)
    case atStart =>
      refine ⟨n + 1, _, fun j => decide (j = n), by omega, by simpa using HS.out, fun j hj => ?_, fun j hj => ?_, rfl, by rw [reachN_top HV.out]; rfl, by go_num⟩
      · rw [Array.getElem?_setIfInBounds]
        by_cases e : n = j
        · subst e; simp [y0]
        · rw [if_neg e, HC.out j hj]; simp [Ne.symm e]
      · simp only [decide_eq_true_eq]
        constructor
        · exact fun e => .inl e
        · rintro (e | ⟨p, hp, h1, h2, h3⟩)
          · exact e
          · have := h2.le HV.out
            omega
    case round =>
      obtain ⟨m, C, β, hm, hCs, hC, hM, rfl, rfl, rfl⟩ := hrel
      have HCS := Lib.hid hCs
      have HC2 := Lib.hid hC
      have HM := Lib.hid hM
      clear hC hM
      cases m with
      | zero =>
        go_wp2_with fail
        go_ret
        exact ⟨ret_int (by rw [sharedN_yes HV.out hn]), gW.alloc _⟩
      | succ m =>
        have e : ((m + 1 : Nat) : Int) - 1 = m := by omega
        rw [e]
        have HE := Lib.hid e
        have hml : m < xs.length := by omega
        have c1 := HC2.out m hml
        have y1 : m < C.size := by omega
        clear e hCs
        have hrn := reachN_le xs n (m + 1)
        by_cases hr : Reach xs n m
        · have HR := Lib.hid hr
          have hb : β m = true := (HM.out.here HV.out hml).2 hr
          rw [hb] at c1
          have c2 : C[m] = .bool true := by simpa [y1] using c1
          obtain ⟨b, off, rfl, hbk⟩ := h3 m hml
          obtain ⟨csq, feq, hcq, hrq, -⟩ := hu.at hml
          generalize hyq : xs[m] = yq at hrq
          obtain ⟨q0, q1, q2⟩ := yq
          obtain ⟨vq2, fq2, hcsq, -, hq0, hq1, hq2⟩ := rdCell_inv (cs := csq.toArray) q0 q1 q2 (by simpa using hrq)
          obtain rfl : csq = [.string q0, .int .i64 q1, vq2] := by have := congrArg Array.toList hcsq; simpa using this
          obtain ⟨aq, cq, rfl, k1, k2, k3⟩ := hq2.open
          have z2 : W0.cell? ⟨b, off + m * 3 + 2, none⟩ = some (.slice aq q2.length cq) := gW.keep (hcq 2 _ rfl)
          have zb := blk z2
          have HY := Lib.hid hyq
          clear h3 hcsq hcq hrq hyq
          clear hr hb c1
          go_wp2_with fail
          go_loopw [9, 40] (fun s9 s40 wr => ∃ (k : Nat) (D : Array Value) (γ : Nat → Bool), k ≤ q2.length ∧ D.size = xs.length ∧ (∀ j, j < xs.length → D[j]? = some (.bool (γ j))) ∧ (∀ j, j < xs.length → (γ j = true ↔ β j = true ∨ ∃ i, ∃ h : i < q2.length, i < k ∧ q2[i] = (j : Int))) ∧ wr = W0.alloc (.cells D 4) ∧ s40 = .int .i64 k) (fun s9 s40 _ => q2.length - (intOf s40).toNat)
          case atStart => exact ⟨0, C, β, by omega, HCS.out, HC2.out, fun j hj => ⟨.inl, fun h => h.elim id fun ⟨i, _, h, _⟩ => absurd h (by omega)⟩, rfl, rfl⟩
          case round =>
            obtain ⟨k, D, γ, hk, hDs, hD, hG, rfl, rfl⟩ := hrel
            have HDS := Lib.hid hDs
            have HD := Lib.hid hD
            have HG := Lib.hid hG
            clear hD hG
            by_cases hkl : k < q2.length
            · obtain ⟨bq, oq, rfl, hbq⟩ := k3 k hkl
              have hch : 0 ≤ q2[k] ∧ q2[k] ≤ (m : Int) - 1 := (HV.out m hml).2 _ (by rw [HY.out]; exact List.getElem_mem hkl)
              obtain ⟨d, hd⟩ : ∃ d : Nat, q2[k] = d := ⟨q2[k].toNat, by omega⟩
              have d1 : W0.cell? ⟨bq, oq + k, none⟩ = some (.int .i64 (d : Int)) := by rw [← hd]; exact gW.keep (hq2.int_at hkl).1
              have d0 := blk d1
              have hdl : d < xs.length := by omega
              have y2 : d < D.size := by omega
              have HDD := Lib.hid hd
              clear k3 hch hd hDs
              go_wp2_with fail
              refine ⟨⟨k + 1, _, fun j => decide (j = d) || γ j, by omega, by simp [HDS.out], fun j hj => ?_, fun j hj => ?_, rfl, by go_num⟩, by simp [intOf] <;> omega⟩
              · rw [Array.getElem?_setIfInBounds]
                by_cases e : d = j
                · subst e; simp [y2]
                · rw [if_neg e, HD.out j hj]; simp [Ne.symm e]
              · rw [Bool.or_eq_true, decide_eq_true_eq, HG.out j hj]
                constructor
                · rintro (rfl | h | ⟨i, h, h1, h2⟩)
                  · exact .inr ⟨k, hkl, by omega, HDD.out⟩
                  · exact .inl h
                  · exact .inr ⟨i, h, by omega, h2⟩
                · rintro (h | ⟨i, h, h1, h2⟩)
                  · exact .inr (.inl h)
                  · by_cases e : i = k
                    · subst e
                      have := HDD.out
                      exact .inl (by omega)
                    · exact .inr (.inr ⟨i, h, by omega, h2⟩)
            · clear hDs
              go_wp2_with fail
              refine ⟨⟨m, D, γ, by omega, HDS.out, HD.out, HM.out.take hml HR.out fun j hj => ?_, rfl, by rw [reachN_yes hml HR.out]; go_num, by go_num⟩, by simp [intOf] <;> omega⟩
              rw [HG.out j hj, HY.out]
              refine or_congr Iff.rfl ⟨fun ⟨i, h, _, e⟩ => by rw [← e]; exact List.getElem_mem h, fun h => ?_⟩
              obtain ⟨i, hi, e⟩ := List.mem_iff_getElem.1 h
              have hi2 : i < q2.length := hi
              exact ⟨i, hi2, by omega, e⟩
        · have HR := Lib.hid hr
          have hb : β m = false := Bool.eq_false_iff.2 fun h => hr ((HM.out.here HV.out hml).1 h)
          rw [hb] at c1
          have c2 : C[m] = .bool false := by simpa [y1] using c1
          clear hr hb c1
          go_wp2_with fail
          refine ⟨⟨m, C, β, by omega, HCS.out, HC2.out, HM.out.skip HR.out, rfl, by rw [reachN_no HR.out], by go_num⟩, by simp [intOf] <;> omega⟩
  · have HA := Lib.hid hall
    have hB : (validB xs && (decide (0 ≤ a) && decide (a ≤ (xs.length : Int) - 1))) = false := by
      rw [Bool.eq_false_iff]
      intro h
      simp only [Bool.and_eq_true, decide_eq_true_eq] at h
      exact hall ⟨validB_iff.1 h.1, h.2⟩
    have HB := Lib.hid hB
    clear hall hB
    go_enter Try.func14, Try.ntmps14
    go_wp2_with fail
    refine (isCell_any _ _ xs _ _ (Rd.gr hrx (by repeat (first | exact Gr.refl _ | apply Gr.ext | apply Gr.alloc | apply Gr.drew)))).mono ?_
    rintro e w' ⟨rfl, x1, rfl⟩
    rw [HB.out]
    go_wp2_with fail
    go_ret
    exact ⟨ret_int (sharedN_no HA.out).symm, (by repeat (first | exact Gr.refl _ | apply Gr.ext | apply Gr.alloc | apply Gr.drew))⟩
end Go.Proofs.Ytkfaihfgjiahdaa
