/- l33Open of the reference. No condition. -/
import Derived.Test.YtcphimmkkfpohaaReachS
import Derived.Test.YtcphimmkkfpohaaCompD
namespace Go.Proofs.Ytcphimmkkfpohaa
open Go.RowKit

set_option maxRecDepth 10000 in
set_option maxHeartbeats 8000000 in
theorem l33Open_any (fp fq fr : List Nat) (u v x : Value) (T : List (List Int)) (l : List Int) (fl : List Bool) (w : World) (hu : SlR fp w u T) (hv : SlR fq w v l) (hx : SlR fr w x fl) (hlen : T.length ≤ 1048576)
    (hl : ∀ y ∈ l, 0 ≤ y ∧ y ≤ (T.length : Int) - 1) (hfl : fl.length = T.length) :
    Calls Try.prog 20 #[u, v, x] w fun e w' => e = .returned (.bool (openB T l fl)) ∧ Gr w w' := by
  have HU := Lib.hid hu
  have HV := Lib.hid hv
  have HX := Lib.hid hx
  have HFL := Lib.hid hfl
  have HL := Lib.hid hl
  obtain ⟨aT, cT, rfl, h1, h2, h3⟩ := hu.open
  obtain ⟨aL, cL, rfl, k1, k2, k3⟩ := hv.open
  obtain ⟨aF, cF, hxe, m1, m2, m3⟩ := hx.open
  rw [hfl] at hxe m1 m2 m3
  subst hxe
  clear hu hv hx hfl hl
  go_enter Try.func20, Try.ntmps20
  go_wp2_with fail
  go_loopg [7] l.length (fun gg s7 wr => ∃ i : Nat, i ≤ l.length ∧ Hid (∀ i2 (hi : i2 < l.length), i2 < i → ∀ z ∈ insOf T l[i2].toNat, (fl.getD z.toNat false || l.any (fun v => z == v)) = true) ∧ Gr w wr ∧ s7 = .int .i64 i ∧ l.length - i ≤ gg)
  case atStart => exact ⟨0, by omega, Lib.hid (by omega), Gr.refl w, rfl, by omega⟩
  case round =>
    obtain ⟨i, hi, ht, hg, rfl, hgg⟩ := hrel
    rename World => W1
    have HG := Lib.hid hg
    by_cases hlt : i < l.length
    · obtain ⟨bl, ol, rfl, hbl⟩ := k3 i hlt
      have hc0 := hg.keep (HV.out.int_at hlt).1
      have hyr := HL.out _ (List.getElem_mem hlt)
      obtain ⟨n, hn⟩ : ∃ n : Nat, l[i] = n := ⟨l[i].toNat, by omega⟩
      rw [hn] at hc0
      have HN := Lib.hid hn
      have hnT : n < T.length := by omega
      obtain ⟨b0, off0, rfl, hb0⟩ := h3 n hnT
      obtain ⟨r1, f1, x1, hr1, _⟩ := HU.out.sl_at hnT
      obtain ⟨yrow, hyrow⟩ : ∃ y, y = T[n] := ⟨_, rfl⟩
      rw [← hyrow] at hr1
      have HYR := Lib.hid hyrow
      obtain ⟨ar, cr, rfl, q1, q2, q3⟩ := hr1.open
      have z1 := hg.keep x1
      have HR := Lib.hid hr1
      have zb := blk z1
      have zl := blk hc0
      clear hg hyr hn x1 hr1 hyrow h3
      go_wp2_with fail
      go_loopg [9] yrow.length (fun gg s9 wr => ∃ j : Nat, j ≤ yrow.length ∧ Hid (∀ m (hm : m < yrow.length), m < j → ∀ z, z = yrow[m] → 0 ≤ z → z ≤ (T.length : Int) - 1 → (fl.getD z.toNat false || l.any (fun v => z == v)) = true) ∧ Gr w wr ∧ s9 = .int .i64 j ∧ yrow.length - j ≤ gg)
      case atStart => exact ⟨0, by omega, Lib.hid (by omega), HG.out, rfl, by omega⟩
      case round =>
        obtain ⟨j, hj, ht2, hg2, rfl, hgg2⟩ := hrel
        rename World => W2
        have HG2 := Lib.hid hg2
        by_cases hjl : j < yrow.length
        · obtain ⟨bq, oq, rfl, hbq⟩ := q3 j hjl
          obtain ⟨y, hy⟩ : ∃ y, y = yrow[j] := ⟨_, rfl⟩
          have c1 : W2.cell? ⟨bq, oq + j, none⟩ = some (.int .i64 y) := by rw [hy]; exact hg2.keep (HR.out.int_at hjl).1
          have HY := Lib.hid hy
          have c0 := blk c1
          by_cases hin2 : 0 ≤ y ∧ y ≤ (T.length : Int) - 1
          · have HIN := Lib.hid hin2
            obtain ⟨z, rfl⟩ : ∃ z : Nat, y = z := ⟨y.toNat, by omega⟩
            have hzn : z < T.length := by omega
            obtain ⟨bf, of, rfl, hbf⟩ := m3 z hzn
            have c2 : W2.cell? ⟨bf, of + z, none⟩ = some (.bool (fl[z]'(by rw [HFL.out]; exact hzn))) := hg2.keep (HX.out.bool_at (by rw [HFL.out]; exact hzn))
            have hgd : fl.getD z false = fl[z]'(by rw [HFL.out]; exact hzn) := by rw [List.getD_eq_getElem?_getD, List.getElem?_eq_getElem]; rfl
            have zf := blk c2
            cases hfz : fl[z]'(by rw [HFL.out]; exact hzn) with
            | true =>
              rw [hfz] at c2 hgd
              have HGD := Lib.hid hgd
              clear hgd hfz hy hin2 q3 hg2 m3
              go_wp2_with fail
              refine (l1In_yes _ _ _ _ HIN.out.1 HIN.out.2).mono ?_
              rintro e W3 ⟨rfl, g3⟩
              have d1 := g3.keep c1
              have d2 := g3.keep c2
              have e1 := blk d1
              have e2 := blk d2
              clear c1 c2 c0 zf
              go_wp2_with fail
              go_roundg (yrow.length - (j + 1))
              case measure => omega
              case rel =>
                refine ⟨j + 1, by omega, Lib.hid fun m hm hmj z' hz' h0 h1 => ?_, HG2.out.trans g3, by go_num, by omega⟩
                by_cases hmj2 : m < j
                · exact ht2.out m hm hmj2 z' hz' h0 h1
                · obtain rfl : m = j := by omega
                  rw [hz', ← HY.out]
                  rw [Int.toNat_natCast, HGD.out]; rfl
            | false =>
              rw [hfz] at c2 hgd
              have HGD := Lib.hid hgd
              have HV2 := Lib.hid (HV.out.gr HG2.out)
              cases hla : l.any (fun v => (z : Int) == v) with
              | true =>
                have HLA := Lib.hid hla
                clear hgd hfz hy hin2 q3 hg2 m3 hla
                go_wp2_with fail
                refine (l1In_yes _ _ _ _ HIN.out.1 HIN.out.2).mono ?_
                rintro e W3 ⟨rfl, g3⟩
                have d1 := g3.keep c1
                have d2 := g3.keep c2
                have e1 := blk d1
                have e2 := blk d2
                clear c1 c2 c0 zf
                go_wp2_with fail
                refine (l1HasInt_any _ _ l _ _ (HV2.out.gr g3)).mono ?_
                rintro e W4 ⟨rfl, g4⟩
                rw [HLA.out]
                go_wp2_with fail
                go_roundg (yrow.length - (j + 1))
                case measure => omega
                case rel =>
                  refine ⟨j + 1, by omega, Lib.hid fun m hm hmj z' hz' h0 h1 => ?_, (HG2.out.trans g3).trans g4, by go_num, by omega⟩
                  by_cases hmj2 : m < j
                  · exact ht2.out m hm hmj2 z' hz' h0 h1
                  · obtain rfl : m = j := by omega
                    rw [hz', ← HY.out, HLA.out, Bool.or_true]
              | false =>
                have HLA := Lib.hid hla
                clear hgd hfz hy hin2 q3 hg2 m3 hla
                go_wp2_with fail
                refine (l1In_yes _ _ _ _ HIN.out.1 HIN.out.2).mono ?_
                rintro e W3 ⟨rfl, g3⟩
                have d1 := g3.keep c1
                have d2 := g3.keep c2
                have e1 := blk d1
                have e2 := blk d2
                clear c1 c2 c0 zf
                go_wp2_with fail
                refine (l1HasInt_any _ _ l _ _ (HV2.out.gr g3)).mono ?_
                rintro e W4 ⟨rfl, g4⟩
                rw [HLA.out]
                go_wp2_with fail
                go_ret
                refine ⟨ret_bool (openB_no hlt (z := (z : Int)) ?_ (by rw [Int.toNat_natCast]; exact HGD.out) HLA.out).symm, (HG2.out.trans g3).trans g4⟩
                rw [HN.out, Int.toNat_natCast]
                exact (mem_ins_at hnT).2 ⟨by rw [← HYR.out, HY.out]; exact List.getElem_mem hjl, HIN.out⟩
          · have hor : y < 0 ∨ (T.length : Int) - 1 < y := by omega
            have HIN := Lib.hid hor
            clear hy hin2 q3 hg2 hor m3
            go_wp2_with fail
            refine (l1In_no _ _ _ _ HIN.out).mono ?_
            rintro e W3 ⟨rfl, g3⟩
            clear c1 c0
            go_wp2_with fail
            go_roundg (yrow.length - (j + 1))
            case measure => omega
            case rel =>
              refine ⟨j + 1, by omega, Lib.hid fun m hm hmj z' hz' h0 h1 => ?_, HG2.out.trans g3, by go_num, by omega⟩
              by_cases hmj2 : m < j
              · exact ht2.out m hm hmj2 z' hz' h0 h1
              · obtain rfl : m = j := by omega
                rw [← HY.out] at hz'
                have := HIN.out
                omega
        · obtain rfl : j = yrow.length := by omega
          clear hg2 q3
          go_wp2_with fail
          go_roundg (l.length - (i + 1))
          case measure => omega
          case rel =>
            refine ⟨i + 1, by omega, Lib.hid fun i2 hi2 hii z hz => ?_, HG2.out, by go_num, by omega⟩
            by_cases hii2 : i2 < i
            · exact ht.out i2 hi2 hii2 z hz
            · obtain rfl : i2 = i := by omega
              rw [HN.out, Int.toNat_natCast] at hz
              have hz2 := (mem_ins_at hnT).1 hz
              rw [← HYR.out] at hz2
              obtain ⟨m, hm, e⟩ := List.mem_iff_getElem.1 hz2.1
              exact ht2.out m hm hm z e.symm hz2.2.1 hz2.2.2
    · obtain rfl : i = l.length := by omega
      clear hg
      go_wp2_with fail
      go_ret
      exact ⟨ret_bool (openB_yes fun i2 hi2 => ht.out i2 hi2 hi2).symm, HG.out⟩
end Go.Proofs.Ytcphimmkkfpohaa
