/- inputs of the program. No condition. -/
import Derived.Test.YtcphimmkkfpohaaInsA
namespace Go.Proofs.Ytcphimmkkfpohaa
open Go.RowKit

theorem inTest_any (y : Int) (n : Nat) (aT : Option Addr) (c b : Nat) (W : World) (hc : W.cell? ⟨b, 0, none⟩ = some (.slice aT n c)) (hn : n ≤ 1048576) :
    Calls Try.prog 40 #[.int .i64 y, .pointer (some ⟨b, 0, none⟩)] W fun e w' => e = .returned (.bool (!inR n y)) ∧ Gr W w' := by
  have hb := blk hc
  by_cases h : 0 ≤ y ∧ y ≤ (n : Int) - 1
  · have HR := Lib.hid (inR_yes h.1 h.2)
    have H := Lib.hid h
    clear h
    go_enter Try.func40, Try.ntmps40
    go_wp2_with fail
    refine (within_yes _ _ _ _ H.out.1 H.out.2).mono ?_
    rintro e w1 ⟨rfl, x1, rfl⟩
    go_wp2_with fail
    go_ret
    exact ⟨ret_bool (by rw [HR.out]; rfl), (by repeat (first | exact Gr.refl _ | apply Gr.ext | apply Gr.alloc | apply Gr.drew))⟩
  · have hor : y < 0 ∨ (n : Int) - 1 < y := by omega
    have HR := Lib.hid (inR_no hor)
    have H := Lib.hid hor
    clear h hor
    go_enter Try.func40, Try.ntmps40
    go_wp2_with fail
    refine (within_no _ _ _ _ H.out).mono ?_
    rintro e w1 ⟨rfl, x1, rfl⟩
    go_wp2_with fail
    go_ret
    exact ⟨ret_bool (by rw [HR.out]; rfl), (by repeat (first | exact Gr.refl _ | apply Gr.ext | apply Gr.alloc | apply Gr.drew))⟩

theorem not_not_in (n : Nat) (xs : List Int) : xs.filter (fun y => !!inR n y) = xs.filter (inR n) := by
  simp

set_option maxRecDepth 10000 in
set_option maxHeartbeats 4000000 in
theorem inputs_any (fp : List Nat) (u : Value) (T : List (List Int)) (w : World) (hu : SlR fp w u T) (hlen : T.length ≤ 1048576) (hlens : ∀ r ∈ T, r.length ≤ 1048576) :
    Calls Try.prog 22 #[u] w fun e w' => ∃ v fq, e = .returned v ∧ SlR fq w' v (insAll T) ∧ Fresh w fq ∧ Gr w w' := by
  have HU := Lib.hid hu
  obtain ⟨aT, cT, rfl, h1, h2, h3⟩ := hu.open
  obtain ⟨i0, hi, hz0, hz1, hz2⟩ := info_parts Try.infoIntS
  have HZ := Lib.hid (And.intro hi (And.intro hz0 (And.intro hz1 hz2)))
  have HLS := Lib.hid hlens
  clear hi hz0 hz1 hz2 hu hlens
  go_enter Try.func22, Try.ntmps22
  go_wp2_with fail
  generalize hB : (w.alloc (Obj.cells #[Value.slice aT T.length cT] 22)) = B
  have gB : Gr w B := by rw [← hB]; exact (by repeat (first | exact Gr.refl _ | apply Gr.ext | apply Gr.alloc | apply Gr.drew))
  have bB : ∀ w' : World, Gr B w' → w'.cell? ⟨w.heap.size, 0, none⟩ = some (.slice aT T.length cT) := fun w' hg => hg.keep (by rw [← hB]; exact box_cell rfl rfl)
  have sB : B.heap.size = w.heap.size + 1 := by rw [← hB]; simp
  clear hB
  go_loopw [3, 5, 9] (fun s3 _ s9 wr => ∃ (k : Nat) (fps : List (List Nat)), k ≤ T.length ∧ Gr B wr ∧ OwnR B 30 wr s3 fps ((List.range k).map (insOf T)) ∧ Fresh B fps.flatten ∧ s9 = .int .i64 k) (fun _ _ s9 _ => T.length - (intOf s9).toNat)
  case atStart => exact ⟨0, [], by omega, (by repeat (first | exact Gr.refl _ | apply Gr.ext | apply Gr.alloc | apply Gr.drew)), by simpa using OwnR.lit0 (α := List Int) (w0 := B) (w := B) 30 (Nat.le_refl _) sB.symm, Fresh.nil _, rfl⟩
  case round =>
    obtain ⟨k, fps, hk, hg, hown, hfr, rfl⟩ := hrel
    rename World => W1
    have HG := Lib.hid hg
    have HO := Lib.hid hown
    have HF := Lib.hid hfr
    obtain ⟨ra, rc, hform⟩ := hown.form
    have y0 := bB _ hg
    have hLl : ((List.range k).map (insOf T)).length = k := by simp
    rw [hLl] at hform
    have HL := Lib.hid hLl
    have zx := blk y0
    have gW : Gr w W1 := gB.trans hg
    subst hform
    clear hg hown hLl hfr
    by_cases hlt : k < T.length
    · obtain ⟨b, off, rfl, hb⟩ := h3 k hlt
      obtain ⟨r1, f1, x1, hr1, _⟩ := HU.out.sl_at hlt
      have z1 := gW.keep x1
      obtain ⟨ar, cr, rfl, -, -, -⟩ := hr1.open
      have HR := Lib.hid hr1
      have hlr := HLS.out _ (List.getElem_mem hlt)
      have zb := blk z1
      clear h3 x1 hr1
      go_wp2_with fail
      refine (cloneInt_any f1 _ T[k] _ (HR.out.gr gW) hlr).mono ?_
      rintro e W2 ⟨v2, f2, rfl, s2, fr2, g2⟩
      obtain ⟨a2, c2, rfl, -, -, -⟩ := s2.open
      have HS2 := Lib.hid s2
      have y2 := g2.keep y0
      have zx2 := blk y2
      have gB2 : Gr B W2 := HG.out.trans g2
      have hTW : TestW f2 W2 40 #[.pointer (some ⟨w.heap.size, 0, none⟩)] (fun y => !inR T.length y) := ⟨Try.call40, fun y W hW => inTest_any y T.length _ cT _ W (by
        rw [World.cell?_of_block (a := ⟨w.heap.size, 0, none⟩) (hW.block _ zx2 (fun hm => absurd (fr2.2 _ hm) (by show ¬ W1.heap.size ≤ w.heap.size; omega)))]; exact y2) hlen⟩
      have HTW := Lib.hid hTW
      clear s2 hTW
      go_wp2_with fail
      refine (deleteFuncI_any f2 _ T[k] _ _ _ _ HS2.out fr2.1 hlr HTW.out).mono ?_
      rintro e W3 ⟨v3, f3, rfl, s3, sub3, wr3⟩
      rw [not_not_in, ← insOf_at hlt] at s3
      have hf2B : ∀ b ∈ f2, B.heap.size ≤ b := fun b hb => Nat.le_trans HG.out.size (fr2.2 b hb)
      have gB3 : Gr B W3 := gB2.wr wr3 hf2B
      have hO3 : OwnR B 30 W3 (.slice ra k rc) fps ((List.range k).map (insOf T)) := (HO.out.gr g2).wr wr3 (fun b hb hm => by have := HO.out.lt b hb; have := fr2.2 b hm; omega) (fun b hb hm => by have := (HO.out.base b hb).2; have := fr2.2 b hm; omega)
      have y3 := bB _ gB3
      have zx3 := blk y3
      have HS3 := Lib.hid s3
      have HO3 := Lib.hid hO3
      obtain ⟨a3, c3, rfl, -, -, -⟩ := s3.open
      have hap : Hid (∀ b, (Value.slice ra k rc).ownBlock = some b → b ∉ f3) := Lib.hid fun b hb hm => by have := (HO.out.base b hb).2; have := fr2.2 b (sub3.subset hm); omega
      have HF3 : Hid (Fresh W1 f3) := Lib.hid (fr2.sub sub3)
      have hz3 : W1.heap.size ≤ W3.heap.size := Nat.le_trans g2.size wr3.size
      clear s3 hO3 wr3 hf2B y2 zx2 gB2 g2
      go_wp2_with (first | (at_builtin; refine wpList_append_R (α := List Int) (w0 := B) (gB3.trans (by repeat (first | exact Gr.refl _ | apply Gr.ext | apply Gr.alloc | apply Gr.drew))) rfl _ _ 22 rfl 30 i0 (.slice none 0 0) 24 Try.underlying22 HZ.out.1 HZ.out.2.1 HZ.out.2.2.1 HZ.out.2.2.2 rfl _ fps _ (by rfl) (HO3.out.gr (by repeat (first | exact Gr.refl _ | apply Gr.ext | apply Gr.alloc | apply Gr.drew))) _ [f3] [insOf T k] (by rfl) (SrcR.one (by simp) ⟨_, rfl, HS3.out.gr (by repeat (first | exact Gr.refl _ | apply Gr.ext | apply Gr.alloc | apply Gr.drew))⟩) (by simpa using hap.out) (by rw [HL.out]; unfold maxLen; simp; omega) (by rw [HL.out]; simp; omega) ?_; intro v4 w4 h1 h2 h3 h4; replace h1 := Lib.hid h1; replace h4 := Lib.hid h4; clear h2 h3))
      refine ⟨⟨k + 1, fps ++ [f3], by omega, h4.out, ?_, ?_, by go_num⟩, by simp [intOf]; omega⟩
      · rw [List.range_succ, List.map_append]; exact h1.out
      · rw [List.flatten_append]
        simp only [List.flatten_cons, List.flatten_nil, List.append_nil]
        exact HF.out.append (w1 := W1) HG.out.size (fun b hb => HO.out.lt b hb) HF3.out
    · obtain rfl : k = T.length := by omega
      obtain ⟨fq, hs, hfr⟩ := HO.out.fresh (by rw [HL.out]; unfold reachLen; omega) HF.out
      have HS := Lib.hid hs
      clear hs
      go_wp2_with fail
      go_ret
      exact ⟨_, fq, rfl, HS.out, hfr.of_le gB.size, gB.trans HG.out⟩
end Go.Proofs.Ytcphimmkkfpohaa
