/- Components of the reference: the classes. No condition. -/
import Derived.Test.YtcphimmkkfpohaaOpenS
import Derived.Test.YtcphimmkkfpohaaOwnBox
namespace Go.Proofs.Ytcphimmkkfpohaa
open Go.RowKit
variable {T : List (List Int)}

theorem clsI_wf {i a : Nat} (hi : i ≤ 1048576) : ∀ y ∈ clsI T i a, (Lit.int .i64 y).wf = true := fun y hy => by
  obtain ⟨k, rfl, hk, _⟩ := mem_clsI.1 hy
  exact wf_small (by omega) (by omega)

theorem first_rdy {L : List Nat} (hlt : L.length < (parts T).length) (hb : ∀ q ∈ L, q < (parts T).length) : ∃ p, Rdy T L p ∧ ∀ q, q < p → ¬ Rdy T L q := by
  obtain ⟨p, hp⟩ := rdy_exists hlt hb
  induction p using Nat.strongRecOn with
  | ind p ih =>
    by_cases h : ∃ q, q < p ∧ Rdy T L q
    · obtain ⟨q, hq, hr⟩ := h
      exact ih q hq hr
    · exact ⟨p, hp, fun q hq hr => h ⟨q, hq, hr⟩⟩

theorem Run.len_le {L : List Nat} (h : Run T L) : L.length ≤ (parts T).length := by
  have := len_le_of_sub (R := L) (L := List.range (parts T).length) h.facts.1 fun p hp => List.mem_range.2 (h.facts.2 p hp)
  simpa using this

theorem BRow.of_eq {w : World} {b : Nat} {t : TypeId} {fl fl' : List Bool} (h : BRow w b t fl) (e : fl = fl') : BRow w b t fl' := e ▸ h

set_option maxRecDepth 100000 in
set_option maxHeartbeats 16000000 in
theorem specComps_any (fp : List Nat) (u : Value) (T : List (List Int)) (w : World) (hu : SlR fp w u T) (hlen : T.length ≤ 1048576) :
    Calls Try.prog 6 #[u] w fun e w' => ∃ v fq, e = .returned v ∧ SlR fq w' v (compsOf T) ∧ Gr w w' := by
  have HU := Lib.hid hu
  obtain ⟨aT, cT, rfl, h1, h2, h3⟩ := hu.open
  obtain ⟨i0, hi, hz0, hz1, hz2⟩ := info_parts Try.infoBool
  have hmk := fun (W : World) => run_make (P := Try.prog) W 37 4 i0 (.bool false) Try.underlying37 hi hz0 .i64 .i64 T.length T.length (by omega) (by omega) (by rw [hz2]; omega) (by omega)
  rw [hz1] at hmk
  clear hi hz0 hz1 hz2
  obtain ⟨i1, hi, hz0, hz1, hz2⟩ := info_parts Try.infoInt
  have HZ := Lib.hid (And.intro hi (And.intro hz0 (And.intro hz1 hz2)))
  clear hi hz0 hz1 hz2
  obtain ⟨i2, hi, hz0, hz1, hz2⟩ := info_parts Try.infoIntS
  have HY := Lib.hid (And.intro hi (And.intro hz0 (And.intro hz1 hz2)))
  simp only [Int.toNat_natCast, Nat.mul_one] at hmk
  have HB0 := Lib.hid (fun W : World => BRow.made W T.length 4)
  have hce : (Value.bool false).cells = #[.bool false] := rfl
  rw [hce] at hmk
  generalize madeCells #[.bool false] T.length = C0 at hmk HB0
  clear hi hz0 hz1 hz2 hu hce h3
  go_enter Try.func6, Try.ntmps6
  go_wp2_with fail
  refine (l33Reach_any _ _ T _ HU.out hlen).mono ?_
  rintro e W0 ⟨vR, fR, rfl, sR, gR⟩
  obtain ⟨aR, cR, hvR, r1, r2, r3⟩ := sR.open
  have hRl : (reachAll T).length = T.length := reachAll_len
  rw [hRl] at hvR r1 r2 r3
  subst hvR
  have HSR := Lib.hid sR
  have HGR := Lib.hid gR
  clear sR gR hRl
  go_wp2_with fail
  have hb00 : BRow ((W0.alloc (.cells #[] 30)).alloc (.cells C0 4)) (W0.heap.size + 1) 4 (List.replicate T.length false) := by
    have h := HB0.out (W0.alloc (.cells #[] 30))
    rwa [show (W0.alloc (.cells #[] 30)).heap.size = W0.heap.size + 1 by simp] at h
  have HB1 := Lib.hid hb00
  clear hb00
  go_loopg [4, 6] T.length (fun gg s4 s6 wr => ∃ (i : Nat) (fps : List (List Nat)) (fl : List Bool), OwnR W0 30 wr s4 fps ((ldrs T i).map (clsI T T.length)) ∧ (∀ b, s4.ownBlock = some b → b ≠ W0.heap.size + 1) ∧ W0.heap.size + 1 ∉ fps.flatten ∧ Fresh W0 fps.flatten ∧ MetK T i 0 fl ∧ BRow wr (W0.heap.size + 1) 4 fl ∧ Gr W0 wr ∧ s6 = .int .i64 i ∧ i ≤ T.length ∧ T.length - i ≤ gg)
  case atStart => exact ⟨0, [], _, by simpa [ldrs] using (OwnR.lit0 (α := List Int) (w0 := W0) (w := W0) 30 (Nat.le_refl _) rfl).gr ((Gr.refl _).alloc _), fun b hb => (by have := ownB hb; omega), by simp, Fresh.nil _, MetK.start, HB1.out, (by repeat (first | exact Gr.refl _ | apply Gr.ext | apply Gr.alloc | apply Gr.drew)), rfl, by omega, by omega⟩
  case round =>
    obtain ⟨i, fps, fl, hown, hne, hnf, hfr, hM, hb, hg, rfl, hin, hgg⟩ := hrel
    rename World => W1
    have HG := Lib.hid hg
    have HO := Lib.hid hown
    have HF := Lib.hid hfr
    have HM := Lib.hid hM
    have HB := Lib.hid hb
    have HNE := Lib.hid hne
    have HNF := Lib.hid hnf
    have hbl := hb.lt
    obtain ⟨ra, rc, hform⟩ := hown.form
    have hLl : ((ldrs T i).map (clsI T T.length)).length = (ldrs T i).length := by simp
    rw [hLl] at hform
    have HL := Lib.hid hLl
    have hldl := ldrs_le (T := T) i
    subst hform
    by_cases hlt : i < T.length
    · have hif : i < fl.length := by rw [hM.len]; exact hlt
      have hc := hb.cell hif
      rw [hM.here hif] at hc
      clear hg hown hLl hfr hM hb hne hnf
      cases hld : isLdr T i with
      | false =>
        rw [hld] at hc
        have HLD := Lib.hid hld
        clear hld
        go_wp2_with fail
        go_roundg (T.length - (i + 1))
        case measure => omega
        case rel => exact ⟨i + 1, fps, fl, by rw [ldrs_no HLD.out]; exact HO.out, HNE.out, HNF.out, HF.out, HM.out.skip HLD.out, HB.out, HG.out, by go_num, by omega, by omega⟩
      | true =>
        rw [hld] at hc
        have HLD := Lib.hid hld
        have hzW := HG.out.size
        clear hld
        go_wp2_with fail
        have hcl0 : clsI T i i = [] := clsI_ldr HLD.out
        have HCL0 := Lib.hid hcl0
        clear hcl0
        go_loopg [7, 8] (T.length - i) (fun gg s7 s8 wr => ∃ (k : Nat) (fl : List Bool) (fps2 : List (List Nat)), OwnR W1 3 wr s7 fps2 (clsI T k i) ∧ Hid (fps2.flatten = []) ∧ MetK T i k fl ∧ BRow wr (W0.heap.size + 1) 4 fl ∧ (∀ b, b < W1.heap.size → b ≠ W0.heap.size + 1 → wr.heap[b]? = W1.heap[b]?) ∧ W1.heap.size ≤ wr.heap.size ∧ Gr W0 wr ∧ s8 = .int .i64 k ∧ i ≤ k ∧ k ≤ T.length ∧ T.length - k ≤ gg)
        case atStart => exact ⟨i, fl, [], by rw [HCL0.out]; exact OwnR.lit0 (α := Int) (w0 := W1) (w := W1) 3 (Nat.le_refl _) rfl, Lib.hid rfl, HM.out.zero HLD.out (Nat.le_refl _), HB.out.gr (by repeat (first | exact Gr.refl _ | apply Gr.ext | apply Gr.alloc | apply Gr.drew)), fun b hb _ => heap_alloc_old W1 _ hb, by simp, HG.out.alloc _, rfl, by omega, by omega, by omega⟩
        case round =>
          obtain ⟨k, fl, fps2, hown2, hf2, hM2, hb2, hkeep, hsz2, hg2, rfl, hik, hkn, hgg2⟩ := hrel
          rename World => W2
          have HG2 := Lib.hid hg2
          have HO2 := Lib.hid hown2
          have HM2 := Lib.hid hM2
          have HB2 := Lib.hid hb2
          have HK2 := Lib.hid hkeep
          obtain ⟨la, lc, hlform⟩ := hown2.form
          subst hlform
          have hcll := clsI_len (T := T) k i
          have hbl2 := hb2.lt
          by_cases hkl : k < T.length
          · have hkf : k < fl.length := by rw [hM2.len]; exact hkl
            clear hown2 hM2 hb2 hkeep
            by_cases hki : k = i
            · subst hki
              have HE := Lib.hid (eqB_iff.2 (Eqv.refl (T := T) k))
              clear hg2 r3
              go_wp2_with (first | (at_builtin; refine wpList_append_RB (α := Int) (wg := W0) (w0 := W1) (HG2.out.alloc _) (by omega) (by simp; omega) rfl _ _ 30 rfl 3 i1 (.int .i64 0) 8 Try.underlying30 HZ.out.1 HZ.out.2.1 HZ.out.2.2.1 HZ.out.2.2.2 rfl _ fps2 _ (by rfl) (HO2.out.gr (by repeat (first | exact Gr.refl _ | apply Gr.ext | apply Gr.alloc | apply Gr.drew))) _ [[]] [(k : Int)] (by rfl) (SrcR.one (by simp) (intRd (wf_small (by omega) (by omega)) _)) (fun b _ => by simp) (by unfold maxLen; simp; omega) (by simp; omega) ?_; intro v4 w4 k1 k2 k3 k4; have hb5 := (HB2.out.gr ((Gr.refl _).alloc _)).wr k2 (fun hm => by (have := (HO2.out.base _ (by simpa using hm)).1; omega)); have c5 := hb5.cell hkf; have f5 := hb5.frozen k; have z5 := hb5.lt; have K5 := Lib.hid hb5; replace k1 := Lib.hid k1; replace k4 := Lib.hid k4; have K2 := Lib.hid k2; clear hb5 k3 k2))
              go_roundg (T.length - (k + 1))
              case measure => omega
              case rel =>
                refine ⟨k + 1, fl.set k true, fps2 ++ [[]], ?_, Lib.hid (by rw [List.flatten_append, hf2.out]; rfl), HM2.out.yes HE.out, K5.out.set k true, fun b hb1 hb2 => ?_, ?_, k4.out.setCell (by show W0.heap.size ≤ W0.heap.size + 1; omega) _, by go_num, by omega, by omega, by omega⟩
                · rw [clsI_yes HE.out]
                  refine k1.out.wr ((Wr.refl [W0.heap.size + 1] _).setCell (by simp) _) (fun b hb' => ?_) (fun b hb' => ?_)
                  · rw [List.flatten_append, hf2.out] at hb'; simp at hb'
                  · have := (k1.out.base b hb').1; simp; omega
                · rw [heap_setCell hb2, K2.out.block b (by simp; omega) (fun hm => by have := (HO2.out.base b (by simpa using hm)).1; omega), heap_alloc_old _ _ (by omega)]
                  exact HK2.out b hb1 hb2
                · rw [size_setCell']; have := K2.out.size; simp at this; omega
            · have hkb : ((k : Int) == (i : Int)) = false := beq_eq_false_iff_ne.2 (by omega)
              obtain ⟨br, or1, rfl, hbr⟩ := r3 i hlt
              obtain ⟨vi, fi, xi, hri, _⟩ := HSR.out.sl_at (i := i) (by rw [reachAll_len]; exact hlt)
              obtain ⟨vk, fk, xk, hrk, _⟩ := HSR.out.sl_at (i := k) (by rw [reachAll_len]; exact hkl)
              rw [reachAll_at] at hri hrk
              obtain ⟨ai, ci, hvi, i1', i2', i3'⟩ := hri.open
              rw [reachRow_len] at hvi i1' i3'
              obtain ⟨bi, oi, rfl, hbi⟩ := i3' k hkl
              subst hvi
              obtain ⟨ak, ck, hvk, k1', k2', k3'⟩ := hrk.open
              rw [reachRow_len] at hvk k1' k3'
              obtain ⟨bk, ok, rfl, hbk⟩ := k3' i hlt
              subst hvk
              have d1 := hg2.keep xi
              have d2 := hg2.keep xk
              have e1 := hri.bool_at (i := k) (by rw [reachRow_len]; exact hkl)
              have e2 := hrk.bool_at (i := i) (by rw [reachRow_len]; exact hlt)
              rw [reachRow_at] at e1 e2
              have e1 := hg2.keep e1
              have e2 := hg2.keep e2
              have z1 := blk d1
              have z2 := blk e1
              have z3 := blk e2
              have HEQ := Lib.hid (eqB_rc (T := T) (a := i) (c := k) (fun h => hki h.symm))
              clear hg2 r3 hri hrk i3' k3' xi xk
              cases hq1 : rcB T i k with
              | false =>
                rw [hq1] at e1
                have HE : Hid (eqB T i k = false) := Lib.hid (by rw [HEQ.out, hq1]; rfl)
                clear hq1
                go_wp2_with fail
                go_roundg (T.length - (k + 1))
                case measure => omega
                case rel => exact ⟨k + 1, fl, fps2, by rw [clsI_no HE.out]; exact HO2.out, hf2, HM2.out.no HE.out, HB2.out, HK2.out, hsz2, HG2.out, by go_num, by omega, by omega, by omega⟩
              | true =>
                rw [hq1] at e1
                cases hq2 : rcB T k i with
                | false =>
                  rw [hq2] at e2
                  have HE : Hid (eqB T i k = false) := Lib.hid (by rw [HEQ.out, hq1, hq2]; rfl)
                  clear hq1 hq2
                  go_wp2_with fail
                  go_roundg (T.length - (k + 1))
                  case measure => omega
                  case rel => exact ⟨k + 1, fl, fps2, by rw [clsI_no HE.out]; exact HO2.out, hf2, HM2.out.no HE.out, HB2.out, HK2.out, hsz2, HG2.out, by go_num, by omega, by omega, by omega⟩
                | true =>
                  rw [hq2] at e2
                  have HE : Hid (eqB T i k = true) := Lib.hid (by rw [HEQ.out, hq1, hq2]; rfl)
                  clear hq1 hq2
                  go_wp2_with (first | (at_builtin; refine wpList_append_RB (α := Int) (wg := W0) (w0 := W1) (HG2.out.alloc _) (by omega) (by simp; omega) rfl _ _ 30 rfl 3 i1 (.int .i64 0) 8 Try.underlying30 HZ.out.1 HZ.out.2.1 HZ.out.2.2.1 HZ.out.2.2.2 rfl _ fps2 _ (by rfl) (HO2.out.gr (by repeat (first | exact Gr.refl _ | apply Gr.ext | apply Gr.alloc | apply Gr.drew))) _ [[]] [(k : Int)] (by rfl) (SrcR.one (by simp) (intRd (wf_small (by omega) (by omega)) _)) (fun b _ => by simp) (by unfold maxLen; simp; omega) (by simp; omega) ?_; intro v4 w4 k1 k2 k3 k4; have hb5 := (HB2.out.gr ((Gr.refl _).alloc _)).wr k2 (fun hm => by (have := (HO2.out.base _ (by simpa using hm)).1; omega)); have c5 := hb5.cell hkf; have f5 := hb5.frozen k; have z5 := hb5.lt; have K5 := Lib.hid hb5; replace k1 := Lib.hid k1; replace k4 := Lib.hid k4; have K2 := Lib.hid k2; clear hb5 k3 k2))
                  go_roundg (T.length - (k + 1))
                  case measure => omega
                  case rel =>
                    refine ⟨k + 1, fl.set k true, fps2 ++ [[]], ?_, Lib.hid (by rw [List.flatten_append, hf2.out]; rfl), HM2.out.yes HE.out, K5.out.set k true, fun b hb1 hb2 => ?_, ?_, k4.out.setCell (by show W0.heap.size ≤ W0.heap.size + 1; omega) _, by go_num, by omega, by omega, by omega⟩
                    · rw [clsI_yes HE.out]
                      refine k1.out.wr ((Wr.refl [W0.heap.size + 1] _).setCell (by simp) _) (fun b hb' => ?_) (fun b hb' => ?_)
                      · rw [List.flatten_append, hf2.out] at hb'; simp at hb'
                      · have := (k1.out.base b hb').1; simp; omega
                    · rw [heap_setCell hb2, K2.out.block b (by simp; omega) (fun hm => by have := (HO2.out.base b (by simpa using hm)).1; omega), heap_alloc_old _ _ (by omega)]
                      exact HK2.out b hb1 hb2
                    · rw [size_setCell']; have := K2.out.size; simp at this; omega
          · obtain rfl : k = T.length := by omega
            obtain ⟨fq, hs, hfq⟩ := HO2.out.fresh (by unfold reachLen; omega) (by rw [hf2.out]; exact Fresh.nil _)
            have HS := Lib.hid hs
            have HFQ := Lib.hid hfq
            have hOA : OwnR W0 30 W2 (.slice ra (ldrs T i).length rc) fps ((ldrs T i).map (clsI T T.length)) := by
              exact HO.out.same (fun b hb' => HK2.out b (HO.out.lt b hb') (fun e => HNF.out (e ▸ hb'))) (fun b hb' => HK2.out b (HO.out.base b hb').2 (HNE.out b hb'))
            have HOA := Lib.hid hOA
            clear hown2 hM2 hb2 hkeep hg2 hs hfq hOA r3
            go_wp2_with (first | (at_builtin; refine wpList_append_RB (α := List Int) (wg := W0) (w0 := W0) (HG2.out.alloc _) (by omega) (by simp; omega) rfl _ _ 22 rfl 30 i2 (.slice none 0 0) 24 Try.underlying22 HY.out.1 HY.out.2.1 HY.out.2.2.1 HY.out.2.2.2 rfl _ fps _ (by rfl) (HOA.out.gr (by repeat (first | exact Gr.refl _ | apply Gr.ext | apply Gr.alloc | apply Gr.drew))) _ [fq] [clsI T T.length i] (by rfl) (SrcR.one (by simp) ⟨_, rfl, HS.out.gr (by repeat (first | exact Gr.refl _ | apply Gr.ext | apply Gr.alloc | apply Gr.drew))⟩) (fun b hb' hm => by have := (HO.out.base b hb').2; have := HFQ.out.2 b (by simpa using hm); omega) (by rw [HL.out]; unfold maxLen; simp; omega) (by rw [HL.out]; simp; omega) ?_; intro v4 w4 k1 k2 k3 k4; replace k1 := Lib.hid k1; replace k4 := Lib.hid k4; have K2 := Lib.hid k2; have K3 := Lib.hid k3; clear k3 k2))
            go_roundg (T.length - (i + 1))
            case measure => omega
            case rel =>
              refine ⟨i + 1, fps ++ [fq], fl, ?_, fun b hb' => ?_, ?_, ?_, HM2.out.fin HLD.out, (HB2.out.gr ((Gr.refl _).alloc _)).wr K2.out (fun hm => HNE.out _ (by simpa using hm) rfl), k4.out, by go_num, by omega, by omega⟩
              · rw [ldrs_yes HLD.out, List.map_append]; exact k1.out
              · rcases K3.out with h | h
                · rw [h] at hb'; exact HNE.out b hb'
                · rw [h] at hb'
                  have : (W2.alloc (Obj.cells #[Value.slice la (clsI T T.length i).length lc] 30)).heap.size = b := by injection hb'
                  simp at this
                  omega
              · rw [List.flatten_append]
                simp only [List.flatten_cons, List.flatten_nil, List.append_nil, List.mem_append, not_or]
                exact ⟨HNF.out, fun hm => by have := HFQ.out.2 _ hm; omega⟩
              · rw [List.flatten_append]
                simp only [List.flatten_cons, List.flatten_nil, List.append_nil]
                exact HF.out.append (w1 := W1) HG.out.size (fun b hb => HO.out.lt b hb) HFQ.out
    · obtain rfl : i = T.length := by omega
      have hml : (parts T).length = (ldrs T T.length).length := partsI_len _
      have hOp : OwnR W0 30 W1 (.slice ra (ldrs T T.length).length rc) fps (parts T) := HO.out
      obtain ⟨fA, hSA, hFA⟩ := hOp.fresh (by rw [hml]; unfold reachLen; omega) HF.out
      obtain ⟨mm, hmm⟩ : ∃ mm, mm = (parts T).length := ⟨_, rfl⟩
      have hform2 : Value.slice ra (ldrs T T.length).length rc = .slice ra mm rc := by rw [hmm, hml]
      rw [hform2] at hSA ⊢
      have hmT : mm ≤ T.length := by rw [hmm]; exact parts_le
      have HMM := Lib.hid hmm
      obtain ⟨aA, cA, hvA, -, -, p3⟩ := hSA.open
      have HSA := Lib.hid hSA
      have hb01 : BRow ((W1.alloc (.cells #[] 30)).alloc (.cells C0 4)) (W1.heap.size + 1) 4 (List.replicate T.length false) := by
        have h := HB0.out (W1.alloc (.cells #[] 30))
        rwa [show (W1.alloc (.cells #[] 30)).heap.size = W1.heap.size + 1 by simp] at h
      have HB5 := Lib.hid hb01
      injection hvA with e1 e2 e3
      subst e1
      clear hg hown hLl hfr hM hb hne hnf hml hOp hSA hform2 hmm hb01 HM HB HNE HNF HO HF HL r3 hFA e2 e3
      go_wp2_with fail
      go_loopg [9] mm (fun gg s9 wr => ∃ (L : List Nat) (fpo : List (List Nat)) (fl : List Bool), Run T L ∧ OwnR W1 30 wr s9 fpo (outOfRun T L) ∧ (∀ b, s9.ownBlock = some b → b ≠ W1.heap.size + 1) ∧ (∀ b ∈ fpo.flatten, b < W1.heap.size) ∧ DoneK T L 0 0 fl ∧ BRow wr (W1.heap.size + 1) 4 fl ∧ Gr W1 wr ∧ mm - L.length ≤ gg)
      case atStart => exact ⟨[], [], _, Run.nil, by simpa [outOfRun] using (OwnR.lit0 (α := List Int) (w0 := W1) (w := W1) 30 (Nat.le_refl _) rfl).gr ((Gr.refl _).alloc _), fun b hb => (by have := ownB hb; omega), by simp, DoneK.start 0, HB5.out, (by repeat (first | exact Gr.refl _ | apply Gr.ext | apply Gr.alloc | apply Gr.drew)), by omega⟩
      case round =>
        obtain ⟨L, fpo, fl, hR, hown, hne, hlt3, hD, hb, hg, hgg3⟩ := hrel
        rename World => W4
        have hLm := hR.len_le
        rw [← HMM.out] at hLm
        have hLL : (outOfRun T L).length = L.length := by simp [outOfRun]
        have HLL := Lib.hid hLL
        obtain ⟨oa, oc, hform⟩ := hown.form
        rw [hLL] at hform
        subst hform
        have HR := Lib.hid hR
        have HO4 := Lib.hid hown
        have HNE4 := Lib.hid hne
        have HLT4 := Lib.hid hlt3
        have HD4 := Lib.hid hD
        have HB4 := Lib.hid hb
        have HG4 := Lib.hid hg
        have hz4 := hg.size
        by_cases hLlt : L.length < mm
        · obtain ⟨p, hp, hpf⟩ := first_rdy (T := T) (L := L) (by rw [← HMM.out]; exact hLlt) hR.facts.2
          have hpm : p < mm := by rw [HMM.out]; exact hp.2.1
          have HP := Lib.hid hp
          have HPF := Lib.hid hpf
          clear hR hown hne hlt3 hD hb hg hLL hp hpf
          go_wp2_with fail
          go_loopg [9, 11] p (fun gg s9 s11 wr => ∃ i : Nat, s9 = .slice oa L.length oc ∧ s11 = .int .i64 i ∧ i ≤ p ∧ Gr W4 wr ∧ p - i ≤ gg)
          case atStart => exact ⟨0, rfl, rfl, by omega, Gr.refl _, by omega⟩
          case round =>
            obtain ⟨i, rfl, rfl, hip, hg5, hgg5⟩ := hrel
            rename World => W5
            have him : i < (parts T).length := by rw [← HMM.out]; omega
            obtain ⟨bA, oA, rfl, hbA⟩ := p3 i him
            obtain ⟨vP, fP, xP, hrP, hsP⟩ := HSA.out.sl_at (i := i) him
            obtain ⟨row, hrow⟩ : ∃ r, r = (parts T)[i] := ⟨_, rfl⟩
            rw [← hrow] at hrP
            have HROW := Lib.hid hrow
            obtain ⟨a, r, har, haT⟩ := parts_head him
            rw [← hrow] at har
            obtain ⟨aP, cP, rfl, u1, u2, u3⟩ := hrP.open
            have hrl : 0 < row.length := by rw [har]; simp
            obtain ⟨bP, oP, rfl, hbP⟩ := u3 0 hrl
            have gW5 : Gr W1 W5 := HG4.out.trans hg5
            have c1 := gW5.keep xP
            have c2 : W5.cell? ⟨bP, oP, none⟩ = some (.int .i64 (a : Int)) := by
              have := gW5.keep (hrP.int_at hrl).1
              simpa [har] using this
            have hb5 := HB4.out.gr hg5
            have haf : a < fl.length := by rw [HD4.out.len]; exact haT
            have c3 := hb5.cell haf
            have hgd : fl.getD a false = fl[a] := by rw [List.getD_eq_getElem?_getD, List.getElem?_eq_getElem haf]; rfl
            have hspec := rdy_spec HD4.out HR.out.facts.2 him (hrow ▸ har) haT
            rw [hgd, ← hrow] at hspec
            have HSPEC := Lib.hid hspec
            have HRP := Lib.hid hrP
            have HSP := Lib.hid hsP
            have HAR := Lib.hid har
            have HB5' := Lib.hid hb5
            have HG5 := Lib.hid hg5
            have z1 := blk c1
            have z2 := blk c2
            have z3 := blk c3
            have hmi : (i : Int) < (mm : Int) := by omega
            clear hrow har xP hrP hsP hb5 hspec hgd hg5 p3 u3 gW5
            by_cases hipe : i = p
            · subst hipe
              have hrd := HSPEC.out.1 HP.out
              have hc3 : fl[a] = false := hrd.1
              have HOP := Lib.hid hrd.2
              rw [hc3] at c3
              have hlrow : ∀ y ∈ row, 0 ≤ y ∧ y ≤ (T.length : Int) - 1 := fun y hy => by
                rw [HROW.out] at hy
                obtain ⟨k, rfl, hk, _⟩ := (mem_parts him).1 hy
                omega
              have HLR := Lib.hid hlrow
              have hrlen : row.length ≤ T.length := by rw [HROW.out]; exact parts_size him
              obtain ⟨fD, hsD, -⟩ := HB5'.out.slR (by have := HD4.out.len; unfold reachLen; omega) (cap := T.length) (by have := HD4.out.len; omega)
              rw [HD4.out.len] at hsD
              have HSD := Lib.hid hsD
              have gW5 : Gr w W5 := ((HGR.out.trans HG.out).trans HG4.out).trans HG5.out
              have HGW5 := Lib.hid gW5
              have gW15 : Gr W1 W5 := HG4.out.trans HG5.out
              have HGW15 := Lib.hid gW15
              clear hrd hc3 hlrow hsD gW5 gW15
              go_wp2_with fail
              refine (l33Open_any _ _ _ _ _ _ T row fl _ (HU.out.gr HGW5.out) (HRP.out.gr HGW15.out) HSD.out hlen HLR.out HD4.out.len).mono ?_
              rintro e W6 ⟨rfl, g6⟩
              rw [HOP.out]
              have d1 := g6.keep c1
              have y1 := blk d1
              have HB6 := Lib.hid (HB5'.out.gr g6)
              have HG6 := Lib.hid g6
              have hz6 := g6.size
              have hz5 := HG5.out.size
              clear c1 c2 c3 z1 z2 z3 g6
              go_wp2_with fail
              go_loopg [12] row.length (fun gg s12 wr => ∃ (j : Nat) (fl2 : List Bool), DoneK T L i j fl2 ∧ BRow wr (W1.heap.size + 1) 4 fl2 ∧ Gr W1 wr ∧ Wr [W1.heap.size + 1] W6 wr ∧ s12 = .int .i64 j ∧ j ≤ row.length ∧ row.length - j ≤ gg)
              case atStart => exact ⟨0, fl, HD4.out.other i, HB6.out, HGW15.out.trans HG6.out, Wr.refl _ _, rfl, by omega, by omega⟩
              case round =>
                obtain ⟨j, fl2, hD, hb, hg, hw, rfl, hj, hgj⟩ := hrel
                rename World => W7
                have x1 : W7.cell? ⟨bA, oA + i, none⟩ = some (.slice (some ⟨bP, oP, none⟩) row.length cP) := by
                  rw [World.cell?_of_block (a := ⟨bA, oA + i, none⟩) (hw.block bA y1 (by simp; omega))]; exact d1
                have y7 := blk x1
                have HW7 := Lib.hid hw
                have HG7 := Lib.hid hg
                have HB7 := Lib.hid hb
                by_cases hjl : j < row.length
                · obtain ⟨z, hz, hzT, -⟩ := (mem_parts him).1 (by rw [← HROW.out]; exact List.getElem_mem hjl)
                  have x2 : W7.cell? ⟨bP, oP + j, none⟩ = some (.int .i64 (z : Int)) := by rw [← hz]; exact hg.keep (HRP.out.int_at hjl).1
                  have hzf : z < fl2.length := by rw [hD.len]; exact hzT
                  have x3 := hb.cell hzf
                  have x4 := hb.frozen z
                  have x5 := blk x2
                  have x6 := blk x3
                  have hgz : Hid (((parts T).getD i [])[j]? = some (z : Int)) := Lib.hid (by rw [parts_getD him, ← HROW.out, List.getElem?_eq_getElem hjl, hz])
                  have HD7 := Lib.hid hD
                  clear hz hb hD hg hw
                  generalize fl2[z] = oldf at x3
                  go_wp2_with fail
                  go_roundg (row.length - (j + 1))
                  case measure => omega
                  case rel => exact ⟨j + 1, fl2.set z true, HD7.out.step hgz.out, HB7.out.set z true, HG7.out.setCell (by show W1.heap.size ≤ W1.heap.size + 1; omega) _, HW7.out.setCell (by simp) _, by go_num, by omega, by omega⟩
                · obtain rfl : j = row.length := by omega
                  have HD7 := Lib.hid (hD.fin (by rw [parts_getD him, ← HROW.out]; exact Nat.le_refl _) 0)
                  have hO7 : OwnR W1 30 W7 (.slice oa L.length oc) fpo (outOfRun T L) := ((HO4.out.gr (HG5.out.trans HG6.out)).wr hw (fun b hb' hm => by have := HLT4.out b hb'; simp at hm; omega) (fun b hb' hm => by have := HNE4.out b hb'; simp at hm; omega))
                  have HO7 := Lib.hid hO7
                  have hbl7 := hb.lt
                  have hPf : Hid (∀ b ∈ fP, b < W1.heap.size) := Lib.hid fun b hb' => HRP.out.lt b hb'
                  clear hb hD hg hw hO7
                  go_wp2_with (first | (at_builtin; refine wpList_append_RB (α := List Int) (wg := W1) (w0 := W1) (HG7.out.alloc _) (by omega) (by simp; omega) rfl _ _ 22 rfl 30 i2 (.slice none 0 0) 24 Try.underlying22 HY.out.1 HY.out.2.1 HY.out.2.2.1 HY.out.2.2.2 rfl _ fpo _ (by rfl) (HO7.out.gr (by repeat (first | exact Gr.refl _ | apply Gr.ext | apply Gr.alloc | apply Gr.drew))) _ [fP] [row] (by rfl) (SrcR.one (by simp) ⟨_, rfl, HRP.out.gr (HG7.out.trans (by repeat (first | exact Gr.refl _ | apply Gr.ext | apply Gr.alloc | apply Gr.drew)))⟩) (fun b hb' hm => by have := (HO4.out.base b hb').1; have := hPf.out b (by simpa using hm); omega) (by rw [HLL.out]; unfold maxLen; simp; omega) (by rw [HLL.out]; simp; omega) ?_; intro v4 w4 k1 k2 k3 k4; replace k1 := Lib.hid k1; replace k4 := Lib.hid k4; have K2 := Lib.hid k2; have K3 := Lib.hid k3; clear k3 k2))
                  go_roundg (mm - (L.length + 1))
                  case measure => omega
                  case rel =>
                    refine ⟨L ++ [i], fpo ++ [fP], fl2, HR.out.snoc HP.out HPF.out, ?_, fun b hb' => ?_, fun b hb' => ?_, HD7.out, (HB7.out.gr ((Gr.refl _).alloc _)).wr K2.out (fun hm => HNE4.out _ (by simpa using hm) rfl), k4.out, by simp⟩
                    · have e : outOfRun T (L ++ [i]) = outOfRun T L ++ [row] := by
                        unfold outOfRun
                        rw [List.map_append, List.map_cons, List.map_nil, parts_getD him, ← HROW.out]
                      rw [e]; exact k1.out
                    · rcases K3.out with h | h
                      · rw [h] at hb'; exact HNE4.out b hb'
                      · rw [h] at hb'
                        have : (W7.alloc (Obj.cells #[Value.slice (some ⟨bP, oP, none⟩) row.length cP] 30)).heap.size = b := by injection hb'
                        simp at this
                        omega
                    · rw [List.flatten_append] at hb'
                      simp only [List.flatten_cons, List.flatten_nil, List.append_nil, List.mem_append] at hb'
                      rcases hb' with hb' | hb'
                      · exact HLT4.out b hb'
                      · exact hPf.out b hb'
            · have hlt' : i < p := by omega
              have hnr : ¬ (fl[a] = false ∧ openB T row fl = true) := fun h => HPF.out i hlt' (HSPEC.out.2 h)
              cases hfa : fl[a] with
              | true =>
                rw [hfa] at c3
                clear hnr hfa
                go_wp2_with fail
                go_roundg (p - (i + 1))
                case measure => omega
                case rel => exact ⟨i + 1, rfl, by go_num, by omega, HG5.out, by omega⟩
              | false =>
                rw [hfa] at c3
                have hop : openB T row fl = false := by
                  cases h : openB T row fl with
                  | false => rfl
                  | true => exact absurd ⟨hfa, h⟩ hnr
                have HOP := Lib.hid hop
                have hlrow : ∀ y ∈ row, 0 ≤ y ∧ y ≤ (T.length : Int) - 1 := fun y hy => by
                  rw [HROW.out] at hy
                  obtain ⟨k, rfl, hk, _⟩ := (mem_parts him).1 hy
                  omega
                have HLR := Lib.hid hlrow
                obtain ⟨fD, hsD, -⟩ := HB5'.out.slR (by have := HD4.out.len; unfold reachLen; omega) (cap := T.length) (by have := HD4.out.len; omega)
                rw [HD4.out.len] at hsD
                have HSD := Lib.hid hsD
                have HGW5 := Lib.hid (((HGR.out.trans HG.out).trans HG4.out).trans HG5.out)
                have HGW15 := Lib.hid (HG4.out.trans HG5.out)
                clear hnr hfa hlrow hsD hop
                go_wp2_with fail
                refine (l33Open_any _ _ _ _ _ _ T row fl _ (HU.out.gr HGW5.out) (HRP.out.gr HGW15.out) HSD.out hlen HLR.out HD4.out.len).mono ?_
                rintro e W6 ⟨rfl, g6⟩
                rw [HOP.out]
                have HG6 := Lib.hid g6
                clear c1 c2 c3 z1 z2 z3 g6
                go_wp2_with fail
                go_roundg (p - (i + 1))
                case measure => omega
                case rel => exact ⟨i + 1, rfl, by go_num, by omega, HG5.out.trans HG6.out, by omega⟩
        · have hLe : L.length = mm := by omega
          have hfin := compsOf_run hR (by rw [hLe]; exact HMM.out)
          obtain ⟨fq, hs, -⟩ := hown.slR (by rw [hLL]; unfold reachLen; omega)
          rw [← hfin] at hs
          have HS := Lib.hid hs
          clear hR hown hne hlt3 hD hb hg hLL hs hfin
          go_wp2_with fail
          go_ret
          exact ⟨_, fq, rfl, HS.out, (HGR.out.trans HG.out).trans HG4.out⟩
end Go.Proofs.Ytcphimmkkfpohaa
