/- The number of nodes of a cell's tree: the reference's count, up to a little more than the most. No condition. -/
import Derived.Test.YtadoalpcakninaaExpP
import Derived.Test.YtadoalpcakninaaRegC
namespace Go.Proofs.Ytadoalpcakninaa
open Go.RowKit
set_option linter.unusedVariables false

/-- What the count answers: the number where it is at most sixteen, else more than sixteen. -/
def CntP (s : GStore) (f a : Nat) (w : World) (e : Ending) (w' : World) : Prop :=
  ∃ c : Int, e = .returned (.int .i64 c) ∧ Gr w w' ∧ 0 ≤ c ∧ (exL s f a ≤ 16 → c = exL s f a) ∧ (16 < exL s f a → 16 < c) ∧ c ≤ 17 * ((a : Int) + 1)

set_option maxRecDepth 10000 in
set_option maxHeartbeats 4000000 in
theorem l39Count_any (s : GStore) (hv : ValidStore s) (hl : s.length ≤ 1048576) : ∀ (f a : Nat) (fs : List Nat) (cs : Array Value) (w : World) (hs : Rd.rd fs w cs.toList s) (ha : a < s.length) (hf : a < f),
    Calls Try.prog 33 #[.agg cs, .int .i64 (a : Int)] w (CntP s f a w) := by
  intro f
  induction f with
  | zero => intro a fs cs w hs ha hf; omega
  | succ f ih =>
    intro a fs cs w hs hlt hf
    have HV := Lib.hid hv
    have HIH := Lib.hid ih
    have hex := exL_at s f hlt
    have hkid : ∀ k (hk : k < s[a].2.2.length), ∃ m : Nat, s[a].2.2[k] = m ∧ m < a := fun k hk => valid_kid hv hlt hk
    clear hv ih
    have HS := Lib.hid hs
    obtain ⟨s0, rfl⟩ : ∃ y, y = s := ⟨s, rfl⟩
    obtain ⟨vs0, fs0, rfl, hfps, hs0⟩ := rdStore_inv s0 hs
    have FPs := Lib.hid hfps
    clear hfps
    obtain ⟨as0, ks0, rfl, os01, os02, os03⟩ := hs0.open
    clear hs
    obtain ⟨b, off, rfl, hbb⟩ := os03 a hlt
    obtain ⟨csq, feq, hcq, hrq, -⟩ := hs0.at hlt
    obtain ⟨yq, hyq⟩ : ∃ y, y = s0[a] := ⟨_, rfl⟩
    rw [← hyq] at hrq
    have HYq := Lib.hid hyq
    have HRq := Lib.hid hrq
    obtain ⟨q0, q1, q2⟩ := yq
    obtain ⟨vq2, fq2, hcsq, -, hq0, hq1, hq2⟩ := rdCell_inv (cs := csq.toArray) q0 q1 q2 (by simpa using hrq)
    obtain rfl : csq = [.string q0, .int .i64 q1, vq2] := by have := congrArg Array.toList hcsq; simpa using this
    obtain ⟨aq2, kq2, rfl, oq21, oq22, oq23⟩ := hq2.open
    have qz0 : w.cell? ⟨b, off + a * 3, none⟩ = some (.string q0) := by simpa [Rd.n] using hcq 0 _ rfl
    have qz1 : w.cell? ⟨b, off + a * 3 + 1, none⟩ = some (.int .i64 q1) := hcq 1 _ rfl
    have qz2 : w.cell? ⟨b, off + a * 3 + 2, none⟩ = some (.slice aq2 q2.length kq2) := hcq 2 _ rfl
    have qzb := blk qz0
    clear hcsq hcq hrq hyq
    rw [← HYq.out] at hex
    have hkid2 : ∀ k (hk : k < q2.length), ∃ m : Nat, q2[k] = m ∧ m < a := by
      have e : q2 = s0[a].2.2 := congrArg (fun x : GCell => x.2.2) HYq.out
      subst e
      exact hkid
    simp only at hex
    have HEX := Lib.hid hex
    have HK := Lib.hid hkid2
    have HQ2 := Lib.hid hq2
    clear hkid hkid2 hex hq0 hq1 hq2
    go_enter Try.func33, Try.ntmps33
    go_wp2_with fail
    generalize hB : (w.alloc (.cells #[.slice (some ⟨b, off, none⟩) s0.length ks0] 33)) = B
    have gB : Gr w B := by rw [← hB]; exact (by repeat (first | exact Gr.refl _ | apply Gr.ext | apply Gr.alloc | apply Gr.drew))
    have bB0 : ∀ w' : World, Gr B w' → w'.cell? ⟨w.heap.size, 0, none⟩ = some (.slice (some ⟨b, off, none⟩) s0.length ks0) := fun w' hg => hg.keep (by rw [← hB]; repeat (first | ((with_reducible refine box_cell ?_ ?_) <;> first | omega | (simp; done) | (simp; omega) | rfl) | (with_reducible refine Gr.keep (Gr.alloc (Gr.refl _) _) ?_) | (with_reducible refine Gr.keep (Gr.ext (Gr.refl _) _) ?_) | (with_reducible refine Gr.keep (Gr.drew (Gr.refl _)) ?_)))
    have sB : B.heap.size = w.heap.size + 1 := by rw [← hB]; first | (simp; done) | (simp; omega)
    have EB := Lib.hid hB
    clear hB
    go_loopw [5, 6] (fun s5 s6 wr => ∃ (k : Nat) (c : Int), k ≤ q2.length ∧ Gr B wr ∧ Hid (0 ≤ c ∧ (1 + ((q2.take k).map fun q => exL s0 f q.toNat).sum ≤ 16 → c = ((1 + ((q2.take k).map fun q => exL s0 f q.toNat).sum : Nat) : Int)) ∧ (16 < 1 + ((q2.take k).map fun q => exL s0 f q.toNat).sum → 16 < c) ∧ c ≤ 17 * ((a : Int) + 1)) ∧ s5 = .int .i64 c ∧ s6 = .int .i64 k) (fun _ s6 _ => q2.length - (intOf s6).toNat)
    case atStart => exact ⟨0, 1, by omega, (by repeat (first | exact Gr.refl _ | apply Gr.ext | apply Gr.alloc | apply Gr.drew)), Lib.hid (by simp; omega), rfl, rfl⟩
    case round =>
      obtain ⟨k, c, hk, hg, HC, rfl, rfl⟩ := hrel
      rename World => W3
      have HGR := Lib.hid hg
      have hgw := gB.trans hg
      have HGW := Lib.hid hgw
      have y0 := bB0 _ hg
      have zy0 := blk y0
      have u0 := hgw.keep qz0
      have u1 := hgw.keep qz1
      have u2 := hgw.keep qz2
      have zu := blk u2
      have i0' : (0 : Int) ≤ (a : Int) := by omega
      have i1' : (a : Int) < (s0.length : Int) := by omega
      clear hg hgw
      by_cases hlk : k < q2.length
      · have j0 : (0 : Int) ≤ (k : Int) := by omega
        have j1 : (k : Int) < (q2.length : Int) := by omega
        by_cases hc16 : c ≤ 16
        · obtain ⟨m, hm, hma⟩ := HK.out k hlk
          obtain ⟨bL, oL, rfl, hbL⟩ := oq23 k hlk
          have cL := HGW.out.keep (HQ2.out.int_at hlk).1
          rw [hm] at cL
          have zcL := blk cL
          have HM := Lib.hid hm
          clear hm
          go_wp2_with fail
          have k0 := fun (w' : World) (h : Gr W3 w') => h.keep y0
          have k1 := fun (w' : World) (h : Gr W3 w') => h.keep u2
          have k2 := fun (w' : World) (h : Gr W3 w') => h.keep cL
          go_region_held3 (fun w' => Gr W3 w') (first | assumption | exact Gr.drew (Gr.refl _) | (repeat (first | assumption | exact Gr.refl _ | apply Gr.ext | apply Gr.alloc | apply Gr.drew)))
            (first | (go_at_call 33; refine (HIH.out m _ _ _ (Rd.gr HS.out (HGW.out.trans (by first | assumption | exact (by repeat (first | exact Gr.refl _ | apply Gr.ext | apply Gr.alloc | apply Gr.drew))))) (by omega) (by omega)).mono ?_; rintro e w' ⟨d, rfl, ⟨x2, rfl⟩, hd0, hd1, hd2, hd3⟩; have HD := Lib.hid (And.intro hd0 (And.intro hd1 (And.intro hd2 hd3))); clear hd0 hd1 hd2 hd3))
          all_goals
            have hcd := HC.out
            have hdd := HD.out
            have hsm : ((q2.take (k + 1)).map fun q => exL s0 f q.toNat).sum = ((q2.take k).map fun q => exL s0 f q.toNat).sum + exL s0 f m := by
              rw [sum_take_succ (fun q : Int => exL s0 f q.toNat) q2 k hlk, HM.out]; rfl
            have HSM := Lib.hid hsm
            have b1 : 0 ≤ c ∧ 0 ≤ d ∧ d ≤ 17 * ((a : Int) + 1) := ⟨hcd.1, hdd.1, by omega⟩
            have B1 := b1.1
            have B2 := b1.2.1
            have B3 := b1.2.2
            have iw : IntKind.i64.wrap (c + d) = c + d := IntWalk.i64_in _ (by omega)
            clear hcd hdd hsm b1
            go_wp2_with fail
            refine ⟨⟨k + 1, c + d, by omega, HGR.out.trans (by first | assumption | exact (by repeat (first | exact Gr.refl _ | apply Gr.ext | apply Gr.alloc | apply Gr.drew))), Lib.hid ?_, by first | go_num | (rw [iw]), by go_num⟩, by simp [intOf]; omega⟩
            have hcd := HC.out
            have hdd := HD.out
            rw [HSM.out]
            omega
        · have HE := HC.out
          have hsum : ((q2.take k).map fun q => exL s0 f q.toNat).sum ≤ (q2.map fun q => exL s0 f q.toNat).sum := sum_take_le (fun q : Int => exL s0 f q.toNat) q2 k
          have hb : ¬ (1 + ((q2.take k).map fun q => exL s0 f q.toNat).sum ≤ 16) := fun h => by have := HE.2.1 h; omega
          have hfin : CntP s0 (f + 1) a w (.returned (.int .i64 c)) W3 := ⟨c, rfl, HGW.out, HE.1, fun h => by have := HEX.out; omega, fun _ => by omega, HE.2.2.2⟩
          have HF := Lib.hid hfin
          clear HE hsum hb hfin
          go_wp2_with fail
          go_ret
          exact HF.out
      · have hk2 : k = q2.length := by omega
        subst hk2
        have HE := HC.out
        rw [List.take_length] at HE
        have hfin : CntP s0 (f + 1) a w (.returned (.int .i64 c)) W3 := ⟨c, rfl, HGW.out, HE.1, fun h => by have := HEX.out; rw [this] at h ⊢; exact HE.2.1 h, fun h => by have := HEX.out; rw [this] at h; exact HE.2.2.1 h, HE.2.2.2⟩
        have HF := Lib.hid hfin
        clear HE hfin
        go_wp2_with fail
        go_ret
        exact HF.out
end Go.Proofs.Ytadoalpcakninaa
