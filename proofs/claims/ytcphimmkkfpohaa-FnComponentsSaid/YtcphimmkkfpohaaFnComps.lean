/- The walk of the statement on what components are. No condition. -/
import Derived.Test.YtcphimmkkfpohaaCompsLaw
import Derived.Test.YtcphimmkkfpohaaCompF
import Derived.Test.YtcphimmkkfpohaaCyclic
import Derived.Test.YtcphimmkkfpohaaLawInts
import Derived.Test.YtcphimmkkfpohaaDrawC
namespace Go.Proofs.Ytcphimmkkfpohaa
open Go.RowKit

theorem big_any (fp : List Nat) (u : Value) (code : List U8) (w : World) (hu : SlR fp w u code) :
    Calls Try.prog 12 #[u] w fun e w' => e = .returned (.bool (decide ((1048576 : Int) < (code.length : Int)))) ∧ w = w' := by
  obtain ⟨a, ca, rfl, h1, h2, h3⟩ := hu.open
  clear h3
  go_enter Try.func12, Try.ntmps12
  go_wp2
  all_goals
    go_ret
    refine ⟨?_, rfl⟩
    first | rfl | (congr 2; simp; done) | simp

theorem sameInts_self (fp fq : List Nat) (u v : Value) (xs : List Int) (w : World) (hu : SlR fp w u xs) (hv : SlR fq w v xs) :
    Calls Try.prog 14 #[u, v] w fun e w' => e = .returned (.bool true) ∧ Gr w w' :=
  (sameInts_any fp fq u v xs xs w hu hv).mono fun e w' ⟨he, hg⟩ => ⟨by rw [he, decide_eq_true rfl], hg⟩

def DrawnT (w : World) (e : Ending) (w' : World) : Prop := ∃ v fq T, e = .returned v ∧ SlR fq w' v T ∧ (T : List (List Int)).length ≤ 8 ∧ (∀ r ∈ T, r.length ≤ 4) ∧ Gr w w'

theorem drawComps_any (fp : List Nat) (u : Value) (code : List U8) (w : World) (hu : SlR fp w u code) (hlen : code.length ≤ 1048576) : Calls Try.prog 13 #[u] w (DrawnT w) := by
  have HU := Lib.hid hu
  obtain ⟨a, ca, rfl, h1, h2, h3⟩ := hu.open
  clear hu h3
  go_enter Try.func13, Try.ntmps13
  go_wp2_with fail
  refine (l1New_any _ _ code _ HU.out hlen).mono ?_
  rintro e w1 ⟨b, rfl, hc, hb, g1⟩
  have HC := Lib.hid hc
  have HG := Lib.hid g1
  clear hc g1
  go_wp2_with fail
  refine (l33Table_any b _ HC.out).mono ?_
  rintro e w2 ⟨v, fq, T, rfl, hs, hl, hr, hw⟩
  have HS := Lib.hid hs
  have HR := Lib.hid hr
  have HW := Lib.hid hw
  obtain ⟨a2, c2, rfl, -, -, -⟩ := hs.open
  clear hs hr hw
  go_wp2_with fail
  go_ret
  exact ⟨_, fq, T, rfl, HS.out, hl, HR.out, HG.out.wr HW.out (fun y hy => by simp at hy; omega)⟩

set_option maxRecDepth 10000 in
set_option maxHeartbeats 8000000 in
theorem fnComps_any (fp : List Nat) (u : Value) (code : List U8) (w : World) (hu : SlR fp w u code) :
    Calls Try.prog 4 #[u] w fun e w' => e = .returned (.bool true) ∧ Gr w w' := by
  have HU := Lib.hid hu
  obtain ⟨ac, cc, rfl, -, -, -⟩ := hu.open
  clear hu
  by_cases hbig : (1048576 : Int) < (code.length : Int)
  · have HB := Lib.hid (decide_eq_true hbig)
    clear hbig
    go_enter Try.func4, Try.ntmps4
    go_wp2_with fail
    refine (big_any _ _ code _ HU.out).mono ?_
    rintro e w1 ⟨rfl, rfl⟩
    rw [HB.out]
    go_wp2_with fail
    go_ret
    exact ⟨rfl, Gr.refl _⟩
  · have hcl : code.length ≤ 1048576 := by omega
    have HB := Lib.hid (decide_eq_false hbig)
    obtain ⟨i1, hi, hz0, hz1, hz2⟩ := info_parts Try.infoInt
    have HZ := Lib.hid (And.intro hi (And.intro hz0 (And.intro hz1 hz2)))
    clear hi hz0 hz1 hz2 hbig
    go_enter Try.func4, Try.ntmps4
    go_wp2_with fail
    refine (big_any _ _ code _ HU.out).mono ?_
    rintro e w1 ⟨rfl, rfl⟩
    rw [HB.out]
    go_wp2_with fail
    refine (drawComps_any _ _ code _ HU.out hcl).mono ?_
    rintro e W1 ⟨v1, f1, T, rfl, s1, hT8, hT4, g1⟩
    have hlen : T.length ≤ 1048576 := by omega
    have hlens : ∀ r ∈ T, r.length ≤ 1048576 := fun r hr => by have := hT4 r hr; omega
    have HLS := Lib.hid hlens
    have HS1 := Lib.hid s1
    obtain ⟨a1, c1, rfl, p1, p2, p3⟩ := s1.open
    have HG1 := Lib.hid g1
    clear s1 hlens hT4 g1
    go_wp2_with fail
    refine (implComps_any _ _ T _ HS1.out hlen HLS.out).mono ?_
    rintro e W2 ⟨v2, f2, rfl, s2, -, g2⟩
    have HS2 := Lib.hid s2
    obtain ⟨a2, c2, rfl, q1, q2, q3⟩ := s2.open
    have HG2 := Lib.hid g2
    clear s2 g2
    go_wp2_with fail
    refine (specComps_any _ _ T _ (HS1.out.gr HG2.out) hlen).mono ?_
    rintro e W3 ⟨v3, f3, rfl, s3, g3⟩
    have HS3 := Lib.hid s3
    obtain ⟨a3, c3, rfl, -, -, r3⟩ := s3.open
    have HG3 := Lib.hid g3
    have HG23 := Lib.hid (HG2.out.trans g3)
    have hcb := comps_bound T
    have hcl8 : (compsOf T).length ≤ 8 := by omega
    have HCB := Lib.hid hcb
    obtain ⟨mm, hmm⟩ : ∃ mm, mm = (compsOf T).length := ⟨_, rfl⟩
    rw [← hmm] at hcl8 HS2 HS3 ⊢
    have HMM := Lib.hid hmm
    clear s3 g3 hcb hmm
    go_wp2_with fail
    go_loopg [6, 7] mm (fun gg s6 s7 wr => ∃ (i : Nat) (fps : List (List Nat)), OwnR (α := Int) W3 3 wr s6 fps ((compsOf T).take i).flatten ∧ Hid (fps.flatten = []) ∧ Gr W3 wr ∧ s7 = .int .i64 i ∧ i ≤ mm ∧ mm - i ≤ gg)
    case atStart => exact ⟨0, [], by simpa using OwnR.lit0 (α := Int) (w0 := W3) (w := W3) 3 (Nat.le_refl _) rfl, Lib.hid rfl, (by repeat (first | exact Gr.refl _ | apply Gr.ext | apply Gr.alloc | apply Gr.drew)), rfl, by omega, by omega⟩
    case round =>
      obtain ⟨i, fps, hown, hf, hg, rfl, him, hgg⟩ := hrel
      rename World => W4
      obtain ⟨M0, hM0⟩ : ∃ M, M = ((compsOf T).take i).flatten := ⟨_, rfl⟩
      rw [← hM0] at hown
      have HM0 := Lib.hid hM0
      have HO := Lib.hid hown
      have HG4 := Lib.hid hg
      obtain ⟨ma, mc, hform⟩ := hown.form
      have hml : M0.length ≤ T.length := by
        rw [hM0]
        have h1 := comps_count T
        have h2 := List.take_append_drop i (compsOf T)
        have h3 : (compsOf T).flatten.length = ((compsOf T).take i).flatten.length + ((compsOf T).drop i).flatten.length := by rw [← List.length_append, ← List.flatten_append, h2]
        omega
      subst hform
      clear hown hM0
      by_cases hlt : i < mm
      · have hiC : i < (compsOf T).length := by rw [← HMM.out]; exact hlt
        obtain ⟨b2, o2, rfl, hb2⟩ := q3 i hiC
        obtain ⟨b3, o3, rfl, hb3⟩ := r3 i hiC
        obtain ⟨r1, f1', x1, hr1, _⟩ := HS2.out.sl_at (i := i) hiC
        obtain ⟨r2, f2', x2, hr2, _⟩ := HS3.out.sl_at (i := i) hiC
        obtain ⟨row, hrow⟩ : ∃ r, r = (compsOf T)[i] := ⟨_, rfl⟩
        rw [← hrow] at hr1 hr2
        have HROW := Lib.hid hrow
        obtain ⟨ra, rc, rfl, t1, t2, t3⟩ := hr1.open
        obtain ⟨rb, rd, rfl, -, -, -⟩ := hr2.open
        have g24 : Gr W2 W4 := HG3.out.trans hg
        have z1 := g24.keep x1
        have z2 := hg.keep x2
        have y1 := blk z1
        have y2 := blk z2
        have x1w := HG3.out.keep x1
        have HR1 := Lib.hid hr1
        have HR2 := Lib.hid hr2
        have G24 := Lib.hid g24
        have hrl : row.length ≤ T.length := by rw [hrow]; exact HCB.out.2 _ (List.getElem_mem hiC)
        clear hrow hr1 hr2 x1 x2 hg q3 r3 g24
        go_wp2_with fail
        refine wp_region_grown (by kernel_rfl) (by kernel_rfl) ?_
        repeat (go_big_quiet_step (first
          | (go_at_call 14; refine grown_call (sameInts_self _ _ _ _ row _ (HR1.out.gr (G24.out.trans ?_)) (HR2.out.gr (HG4.out.trans ?_))) <;> exact Gr.ext (Gr.refl _) _)
          | (go_at_call 15; refine grown_call (implCyclic_any _ _ _ _ T row _ (HS1.out.gr ((HG2.out.trans G24.out).trans ?_)) (HR1.out.gr (G24.out.trans ?_))) <;> exact Gr.ext (Gr.refl _) _)
          | (go_at_call 16; refine grown_call (specCyclic_any _ _ _ _ T row _ (HS1.out.gr ((HG2.out.trans G24.out).trans ?_)) (HR1.out.gr (G24.out.trans ?_))) <;> exact Gr.ext (Gr.refl _) _)))
        refine wpQuiet_nil ?_
        intro _ hw'
        obtain ⟨nx, hw''⟩ := hw'
        subst hw''
        generalize hW5 : W4.ext nx = W5
        have g45 : Gr W4 W5 := by rw [← hW5]; exact (by repeat (first | exact Gr.refl _ | apply Gr.ext | apply Gr.alloc | apply Gr.drew))
        have u1 := g45.keep z1
        have u2 := blk u1
        have HO5 := Lib.hid (HO.out.gr g45)
        have G35 : Gr W3 W5 := HG4.out.trans g45
        have G25 : Gr W2 W5 := G24.out.trans g45
        have HG35 := Lib.hid G35
        have HG25 := Lib.hid G25
        obtain ⟨gps, hS, -, -⟩ := SrcR.of_slR (HR1.out.gr G25)
        have hgf : gps.flatten = [] := hS.flat flatInt
        have HSRC := Lib.hid hS
        have HGF := Lib.hid hgf
        have hz5 := G35.size
        clear hW5 z1 z2 y1 y2 g45 G35 G25 hS hgf
        go_wp2_with (first | (at_builtin; refine wpList_append_RB (α := Int) (wg := W3) (w0 := W3) HG35.out (by omega) (by omega) rfl _ _ 30 rfl 3 i1 (.int .i64 0) 8 Try.underlying30 HZ.out.1 HZ.out.2.1 HZ.out.2.2.1 HZ.out.2.2.2 rfl _ fps _ (by rfl) HO5.out _ gps row (by rfl) HSRC.out (fun y _ => by rw [HGF.out]; simp) (by unfold maxLen; omega) (by omega) ?_; intro v6 w6 k1 k2 k3 k4; obtain ⟨a6, c6, hv6⟩ := k1.form; rw [List.length_append] at hv6; have K1 := Lib.hid k1; have HG6 := Lib.hid k4; have d1 := k4.keep x1w; clear k1 k2 k3 k4; subst hv6))
        have hM : M0 ++ row = ((compsOf T).take (i + 1)).flatten := by
          rw [HM0.out, List.take_succ_eq_append_getElem hiC, List.flatten_append, HROW.out]
          simp
        have hml2 : (M0 ++ row).length ≤ 281474976 := by rw [List.length_append]; omega
        obtain ⟨fM, hsM, -⟩ := K1.out.slR (by unfold reachLen; omega)
        have HSM := Lib.hid hsM
        have HM := Lib.hid hM
        have hz6 := HG6.out.size
        have zd1 := blk d1
        clear hM hsM hml2
        go_loopg [8] row.length (fun gg s8 wr => ∃ k : Nat, k ≤ row.length ∧ Gr w6 wr ∧ s8 = .int .i64 k ∧ row.length - k ≤ gg)
        case atStart => exact ⟨0, by omega, Gr.refl _, rfl, by omega⟩
        case round =>
          obtain ⟨k, hk, hg7, rfl, hgg2⟩ := hrel
          rename World => W7
          have d7 := hg7.keep d1
          have zd7 := blk d7
          have HG7 := Lib.hid hg7
          have G37 : Gr W3 W7 := HG6.out.trans hg7
          have HG37 := Lib.hid G37
          by_cases hkl : k < row.length
          · obtain ⟨bq, oq, rfl, hbq⟩ := t3 k hkl
            obtain ⟨n, hn, hnT⟩ := comps_range hiC (y := row[k]) (by rw [← HROW.out]; exact List.getElem_mem hkl)
            have e1 : W7.cell? ⟨bq, oq + k, none⟩ = some (.int .i64 (n : Int)) := by rw [← hn]; exact G37.keep (HG3.out.keep (HR1.out.int_at hkl).1)
            have HN := Lib.hid hn
            obtain ⟨bt, ot, rfl, hbt⟩ := p3 n hnT
            obtain ⟨rt, ft, xt, hrt, _⟩ := HS1.out.sl_at (i := n) hnT
            obtain ⟨tr, htr⟩ : ∃ r, r = T[n] := ⟨_, rfl⟩
            rw [← htr] at hrt
            have HTR := Lib.hid htr
            obtain ⟨at_, ct, rfl, v1, v2, v3⟩ := hrt.open
            have G17 : Gr W1 W7 := HG23.out.trans G37
            have e2 := G17.keep xt
            have z7a := blk e1
            have z7b := blk e2
            have HRT := Lib.hid hrt
            have HG17 := Lib.hid G17
            clear hn htr hrt xt hg7 G37 G17 p3 t3
            go_wp2_with fail
            go_loopg [10] tr.length (fun gg s10 wr => ∃ j : Nat, j ≤ tr.length ∧ Gr W7 wr ∧ s10 = .int .i64 j ∧ tr.length - j ≤ gg)
            case atStart => exact ⟨0, by omega, Gr.refl _, rfl, by omega⟩
            case round =>
              obtain ⟨j, hj, hg8, rfl, hgg3⟩ := hrel
              rename World => W8
              have HG8 := Lib.hid hg8
              by_cases hjl : j < tr.length
              · obtain ⟨bz, oz, rfl, hbz⟩ := v3 j hjl
                obtain ⟨z, hz⟩ : ∃ z, z = tr[j] := ⟨_, rfl⟩
                have e3 : W8.cell? ⟨bz, oz + j, none⟩ = some (.int .i64 z) := by rw [hz]; exact hg8.keep (HG17.out.keep (HRT.out.int_at hjl).1)
                have HZZ := Lib.hid hz
                have z8 := blk e3
                clear hz hg8 v3
                by_cases hin : 0 ≤ z ∧ z < (T.length : Int)
                · have hzm : z ∈ M0 ++ row := by
                    rw [HM.out]
                    refine comps_inputs hiC (y := row[k]) (by rw [← HROW.out]; exact List.getElem_mem hkl) ?_
                    rw [HN.out, Int.toNat_natCast, mem_insOf]
                    refine ⟨?_, hin.1, by omega⟩
                    rw [List.getD_eq_getElem?_getD, List.getElem?_eq_getElem hnT]
                    show z ∈ T[n]
                    rw [← HTR.out, HZZ.out]
                    exact List.getElem_mem hjl
                  have HZM := Lib.hid hzm
                  obtain ⟨hi1, hi2⟩ := hin
                  clear hzm
                  go_wp2_with fail
                  refine (has_yes _ _ _ z _ (HSM.out.gr (HG7.out.trans HG8.out)) HZM.out).mono ?_
                  rintro e W9 ⟨rfl, g9⟩
                  have HG9 := Lib.hid g9
                  clear g9 e3 z8
                  go_wp2_with fail
                  go_roundg (tr.length - (j + 1))
                  case measure => omega
                  case rel => exact ⟨j + 1, by omega, HG8.out.trans HG9.out, by go_num, by omega⟩
                · by_cases hz0 : 0 ≤ z
                  · have hz1 : (T.length : Int) ≤ z := by omega
                    clear hin
                    go_wp2_with fail
                    go_roundg (tr.length - (j + 1))
                    case measure => omega
                    case rel => exact ⟨j + 1, by omega, HG8.out, by go_num, by omega⟩
                  · have hz1 : z < 0 := by omega
                    clear hin hz0
                    go_wp2_with fail
                    go_roundg (tr.length - (j + 1))
                    case measure => omega
                    case rel => exact ⟨j + 1, by omega, HG8.out, by go_num, by omega⟩
              · have hje : j = tr.length := by omega
                subst hje
                clear hg8 v3
                go_wp2_with fail
                go_roundg (row.length - (k + 1))
                case measure => omega
                case rel => exact ⟨k + 1, by omega, HG7.out.trans HG8.out, by go_num, by omega⟩
          · have hke : k = row.length := by omega
            subst hke
            clear hg7 G37 p3 t3
            go_wp2_with fail
            go_roundg (mm - (i + 1))
            case measure => omega
            case rel => exact ⟨i + 1, fps ++ gps, by rw [← HM.out]; exact K1.out.gr HG7.out, Lib.hid (by rw [List.flatten_append, hf.out, HGF.out]; rfl), HG6.out.trans HG7.out, by go_num, by omega, by omega⟩
      · have hie : i = mm := by omega
        subst hie
        have hcnt := comps_count T
        have htk : M0.length = T.length := by rw [HM0.out, List.take_of_length_le (by rw [← HMM.out]; omega)]; exact hcnt
        have HCT := Lib.hid htk
        rw [htk]
        clear hcnt htk hg p3 q3 r3
        go_wp2_with fail
        go_ret
        exact ⟨rfl, ((HG1.out.trans HG23.out).trans HG4.out)⟩
end Go.Proofs.Ytcphimmkkfpohaa
