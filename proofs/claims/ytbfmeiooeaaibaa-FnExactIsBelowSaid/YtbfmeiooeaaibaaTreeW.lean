/- The check of a subtree: the program's and the reference's. No condition. -/
import Derived.Test.YtbfmeiooeaaibaaTreeN
import Derived.IntWalk
namespace Go.Proofs.Ytbfmeiooeaaibaa
open Go.RowKit
variable {d : Nat}
set_option linter.unusedVariables false

theorem some_of {α : Type} {o : Option α} {y z : α} (hy : y = o.getD z) (hb : true = o.isSome) : o = some y := by
  cases o with
  | none => cases hb
  | some v => rw [hy]; rfl
theorem none_of {α : Type} {o : Option α} (hb : false = o.isSome) : o = none := by
  cases o with
  | none => rfl
  | some v => cases hb

section
variable {g : GGrammar d} {t : List GNode} {f : Nat} {i parent place : Int} {sym : ByteArray}
theorem walkT_none (h : nth t i = none) : walkT g t (f + 1) i parent place sym = -1 := by rw [walkT]; simp only [h]
theorem walkT_norule {n : GNode} (h : nth t i = some n) (hr : lookR g.2 n.2.2.2.2.1 = none) : walkT g t (f + 1) i parent place sym = -1 := by rw [walkT]; simp only [h, hr]
theorem walkT_bad {n : GNode} {r : GRule d} (h : nth t i = some n) (hr : lookR g.2 n.2.2.2.2.1 = some r) (hc : ¬ (r.2.1 = sym ∧ n.2.1 = parent ∧ n.2.2.1 = place ∧ n.2.2.2.2.2.length = r.2.2.1.length ∧ litOK n.2.2.2.1 r.2.2.2.1 = true)) : walkT g t (f + 1) i parent place sym = -1 := by
  rw [walkT]; simp only [h, hr]; rw [if_neg hc]
theorem walkT_good {n : GNode} {r : GRule d} (h : nth t i = some n) (hr : lookR g.2 n.2.2.2.2.1 = some r) (hc : r.2.1 = sym ∧ n.2.1 = parent ∧ n.2.2.1 = place ∧ n.2.2.2.2.2.length = r.2.2.1.length ∧ litOK n.2.2.2.1 r.2.2.2.1 = true) :
    walkT g t (f + 1) i parent place sym = kidsT (fun at_ k s => walkT g t f at_ i k s) n.2.2.2.2.2 r.2.2.1 1 (i + 1) := by
  rw [walkT]; simp only [h, hr]; rw [if_pos hc]
end

section
variable {wk : Int → Int → ByteArray → Int} {cs : List Int} {ss : List ByteArray} {k : Nat} {a : Int}
theorem kidsT_end (h : cs.length ≤ k) : kidsT wk (cs.drop k) (ss.drop k) (k + 1) a = a := by
  rw [List.drop_eq_nil_of_le h]; cases ss.drop k <;> rfl
theorem kidsT_off (h : k < cs.length) (h' : k < ss.length) (hc : cs[k] ≠ a) : kidsT wk (cs.drop k) (ss.drop k) (k + 1) a = -1 := by
  rw [List.drop_eq_getElem_cons h, List.drop_eq_getElem_cons h', kidsT, if_pos hc]
theorem kidsT_low (h : k < cs.length) (h' : k < ss.length) (hc : cs[k] = a) (hw : wk a (k + 1) ss[k] < 0) : kidsT wk (cs.drop k) (ss.drop k) (k + 1) a = -1 := by
  rw [List.drop_eq_getElem_cons h, List.drop_eq_getElem_cons h', kidsT, if_neg (by omega), if_pos hw]
theorem kidsT_on (h : k < cs.length) (h' : k < ss.length) (hc : cs[k] = a) (hw : ¬ wk a (k + 1) ss[k] < 0) : kidsT wk (cs.drop k) (ss.drop k) (k + 1) a = kidsT wk (cs.drop (k + 1)) (ss.drop (k + 1)) (((k + 1 : Nat) : Int) + 1) (wk a (k + 1) ss[k]) := by
  rw [List.drop_eq_getElem_cons h, List.drop_eq_getElem_cons h', kidsT, if_neg (by omega), if_neg hw]; simp
end

theorem walkT_ge (g : GGrammar d) (t : List GNode) : ∀ (f : Nat) (i parent place : Int) (sym : ByteArray), -1 ≤ walkT g t f i parent place sym := by
  intro f
  induction f with
  | zero => intro i parent place sym; simp [walkT]
  | succ f ih =>
    intro i parent place sym
    rw [walkT]
    cases hn : nth t i with
    | none => simp
    | some n =>
      have hi : 0 ≤ i := by
        unfold nth at hn
        split at hn
        · assumption
        · cases hn
      cases hr : lookR g.2 n.2.2.2.2.1 with
      | none => simp [hr]
      | some r =>
        simp only [hr]
        split
        · exact kidsT_ge (w := fun at_ k s => walkT g t f at_ i k s) (fun a k s => ih a i k s) _ _ _ _ (by omega)
        · omega

theorem litOK_no {v : Int} {l : Bool} (h : (!(decide (-1000000 ≤ v) && decide (v ≤ 1000000))) = true) : litOK v l = false := by
  unfold litOK
  have : ¬ (-1000000 ≤ v ∧ v ≤ 1000000) := by simp at h; omega
  simp [this]

set_option maxRecDepth 100000 in
set_option maxHeartbeats 8000000 in
theorem subtreeEnd_all (g : GGrammar d) (t : List GNode) : ∀ (f : Nat) (fg ft : List Nat) (cg ct : Array Value) (i parent place : Int) (s : ByteArray) (w : World) (hg : Rd.rd fg w cg.toList g) (ht : Rd.rd ft w ct.toList t) (h0 : 0 ≤ i) (h1 : i ≤ 140737488351233) (hf : (t.length : Int) < i + f),
    Calls Try.prog 81 #[.agg cg, .agg ct, .int .i64 i, .int .i64 parent, .int .i64 place, .string s] w fun e w' => e = .returned (.int .i64 (walkT g t f i parent place s)) ∧ Gr w w' := by
  intro f
  induction f with
  | zero =>
    intro fg ft cg ct i parent place s w hg ht h0 h1 hf
    have hz : walkT g t 0 i parent place s = -1 := rfl
    have HZ := Lib.hid hz
    clear hz
    have HG := Lib.hid hg
    obtain ⟨g0, g1⟩ := g
    obtain ⟨vg0, fg0, vg1, fg1, rfl, hfpg, hg0, hg1⟩ := rdGrammar_inv g0 g1 hg
    have FPg := Lib.hid hfpg
    clear hfpg
    obtain ⟨ag0, kg0, rfl, og01, og02, og03⟩ := hg0.open
    obtain ⟨ag1, kg1, rfl, og11, og12, og13⟩ := hg1.open
    clear hg
    have HT := Lib.hid ht
    obtain ⟨t0, rfl⟩ : ∃ y, y = t := ⟨t, rfl⟩
    obtain ⟨vt0, ft0, rfl, hfpt, ht0⟩ := rdTree_inv t0 ht
    have FPt := Lib.hid hfpt
    clear hfpt
    obtain ⟨at0, kt0, rfl, ot01, ot02, ot03⟩ := ht0.open
    clear ht
    have hge : (t0.length : Int) ≤ i := by omega
    go_enter Try.func81, Try.ntmps81
    go_wp2_with fail
    go_ret
    exact ⟨ret_int HZ.out.symm, (by repeat (first | exact Gr.refl _ | apply Gr.ext | apply Gr.alloc | apply Gr.drew))⟩
  | succ f ih =>
    intro fg ft cg ct i parent place s w hg ht h0 h1 hf
    have IH := Lib.hid ih
    clear ih
    have HG := Lib.hid hg
    obtain ⟨g0, g1⟩ := g
    obtain ⟨vg0, fg0, vg1, fg1, rfl, hfpg, hg0, hg1⟩ := rdGrammar_inv g0 g1 hg
    have FPg := Lib.hid hfpg
    clear hfpg
    obtain ⟨ag0, kg0, rfl, og01, og02, og03⟩ := hg0.open
    obtain ⟨ag1, kg1, rfl, og11, og12, og13⟩ := hg1.open
    clear hg
    have HT := Lib.hid ht
    obtain ⟨t0, rfl⟩ : ∃ y, y = t := ⟨t, rfl⟩
    obtain ⟨vt0, ft0, rfl, hfpt, ht0⟩ := rdTree_inv t0 ht
    have FPt := Lib.hid hfpt
    clear hfpt
    obtain ⟨at0, kt0, rfl, ot01, ot02, ot03⟩ := ht0.open
    clear ht
    by_cases hin : i < (t0.length : Int)
    · obtain ⟨n, rfl⟩ : ∃ n : Nat, i = n := ⟨i.toNat, by omega⟩
      have hlt : n < t0.length := by omega
      have hn := nth_in (l := t0) hlt
      have HN := Lib.hid hn
      clear hn
      obtain ⟨b, off, rfl, hbb⟩ := ot03 n hlt
      obtain ⟨csq, feq, hcq, hrq, -⟩ := ht0.at hlt
      obtain ⟨yq, hyq⟩ : ∃ y, y = t0[n] := ⟨_, rfl⟩
      rw [← hyq] at hrq
      have HYq := Lib.hid hyq
      have HRq := Lib.hid hrq
      obtain ⟨q0, q1, q2, q3, q4, q5⟩ := yq
      obtain ⟨vq5, fq5, hcsq, -, hq0, hq1, hq2, hq3, hq4, hq5⟩ := rdNode_inv (cs := csq.toArray) q0 q1 q2 q3 q4 q5 (by simpa using hrq)
      obtain rfl : csq = [.int .i64 q0, .int .i64 q1, .int .i64 q2, .int .i64 q3, .string q4, vq5] := by have := congrArg Array.toList hcsq; simpa using this
      obtain ⟨aq5, kq5, rfl, oq51, oq52, oq53⟩ := hq5.open
      have qz0 : w.cell? ⟨b, off + n * 6, none⟩ = some (.int .i64 q0) := by simpa [Rd.n] using hcq 0 _ rfl
      have qz1 : w.cell? ⟨b, off + n * 6 + 1, none⟩ = some (.int .i64 q1) := hcq 1 _ rfl
      have qz2 : w.cell? ⟨b, off + n * 6 + 2, none⟩ = some (.int .i64 q2) := hcq 2 _ rfl
      have qz3 : w.cell? ⟨b, off + n * 6 + 3, none⟩ = some (.int .i64 q3) := hcq 3 _ rfl
      have qz4 : w.cell? ⟨b, off + n * 6 + 4, none⟩ = some (.string q4) := hcq 4 _ rfl
      have qz5 : w.cell? ⟨b, off + n * 6 + 5, none⟩ = some (.slice aq5 q5.length kq5) := hcq 5 _ rfl
      have qzb := blk qz0
      clear hcsq hcq hrq hyq
      rw [← HYq.out] at HN
      have HF := Lib.hid hf
      have hn1 : n + 1 ≤ 140737488351233 := by omega
      clear hf hin
      go_enter Try.func81, Try.ntmps81
      go_wp2_with fail
      refine (implFindRule_any (g0, g1) q4 _ (Rd.gr HG.out (by repeat (first | exact Gr.refl _ | apply Gr.ext | apply Gr.alloc | apply Gr.drew)))).mono ?_
      rintro e w' ⟨es, fq, rfl, hr, -, x2, rfl⟩
      obtain ⟨yr, hyr⟩ : ∃ y, y = (lookR g1 q4).getD zeroR := ⟨_, rfl⟩; have hr1r := hr; change Rd.rd fq _ es.toList ((lookR g1 q4).getD zeroR) at hr1r; rw [← hyr] at hr1r; have HYr := Lib.hid hyr; have HRr := Lib.hid hr1r; obtain ⟨r0, r1, r2, r3, r4, r5⟩ := yr; obtain ⟨vr2, fr2, vr4, fr4, vr5, fr5, rfl, hfqr, hr0, hr1, hr2, hr4, hr5⟩ := rdRule_inv r0 r1 r2 r3 r4 r5 hr1r; have FQr := Lib.hid hfqr; clear hfqr; obtain ⟨ar2, kr2, rfl, or21, or22, or23⟩ := hr2.open; obtain ⟨ar4, kr4, rfl, or41, or42, or43⟩ := hr4.open; obtain ⟨ar5, kr5, rfl, or51, or52, or53⟩ := hr5.open; clear hr hr1r hyr; obtain ⟨bb, hbb⟩ : ∃ b : Bool, b = (lookR g1 q4).isSome := ⟨_, rfl⟩; rw [← hbb]; have Hbb := Lib.hid hbb; clear hbb
      cases bb with
      | false =>
        go_wp2_with fail
        go_ret
        exact ⟨ret_int (walkT_norule HN.out (none_of Hbb.out)).symm, (by repeat (first | exact Gr.refl _ | apply Gr.ext | apply Gr.alloc | apply Gr.drew))⟩
      | true =>
        have HR := Lib.hid (some_of HYr.out Hbb.out)
        go_wp2_with fail
        · rename_i e1 e2 e3 e4 K0 HK0
          obtain rfl := str_inj e1
          obtain rfl := e2
          obtain rfl := e3
          have HLen : Hid (q5.length = r2.length) := Lib.hid (by omega)
          clear e4
          refine (within_any _ _ _ _).mono ?_
          rintro e w' ⟨rfl, rfl⟩
          have hcase : (decide (-1000000 ≤ q3) && decide (q3 ≤ 1000000)) = false ∨ (decide (-1000000 ≤ q3) && decide (q3 ≤ 1000000)) = true ∧ (r3 = true ∨ (r3 = false ∧ q3 ≠ 0) ∨ (r3 = false ∧ q3 = 0)) := by
            cases r3 <;> by_cases hq : q3 = 0 <;> cases (decide (-1000000 ≤ q3) && decide (q3 ≤ 1000000)) <;> simp [hq]
          rcases hcase with hA | ⟨hA, rfl | ⟨rfl, hq⟩ | ⟨rfl, rfl⟩⟩
          · have HA := Lib.hid hA
            go_wp2_with fail
            go_ret
            exact ⟨ret_int (walkT_bad HN.out HR.out fun h => by have := litOK_no (l := r3) (by rw [HA.out]; rfl); rw [this] at h; exact absurd h.2.2.2.2 (by simp)).symm, (by repeat (first | exact Gr.refl _ | apply Gr.ext | apply Gr.alloc | apply Gr.drew))⟩
          rotate_left
          · have HA := Lib.hid hA
            have HQ := Lib.hid hq
            go_wp2_with fail
            go_ret
            exact ⟨ret_int (walkT_bad HN.out HR.out fun h => by have := h.2.2.2.2; unfold litOK at this; simp [HQ.out] at this).symm, (by repeat (first | exact Gr.refl _ | apply Gr.ext | apply Gr.alloc | apply Gr.drew))⟩
          · skip
            have HA := Lib.hid hA
            obtain ⟨RES, hres⟩ : ∃ z, z = walkT (g0, g1) t0 (f + 1) (n : Int) q1 q2 r1 := ⟨_, rfl⟩
            have HRES := Lib.hid hres
            have hz : kidsT (fun at_ k s => walkT (g0, g1) t0 f at_ (n : Int) k s) q5 r2 1 ((n : Int) + 1) = RES := by
              rw [hres]
              exact (walkT_good (r := (r0, r1, r2, false, r4, r5)) HN.out HR.out ⟨rfl, rfl, rfl, HLen.out, by have := HA.out; unfold litOK; simp at this ⊢ <;> omega⟩).symm
            have HZ := Lib.hid hz
            clear hz hres
            have iw : IntKind.i64.wrap ((n : Int) + 1) = (n : Int) + 1 := IntWalk.i64_in _ (by omega)
            go_wp2_with fail
            generalize hB : (((((w.alloc (.cells #[.slice ag0 g0.length kg0, .slice ag1 g1.length kg1] 36)).alloc (.cells #[.slice (some ⟨b, off, none⟩) t0.length kt0] 40)).alloc (.cells #[.int .i64 q0, .int .i64 q1, .int .i64 q2, .int .i64 0, .string q4, .slice aq5 q5.length kq5] 84)).ext x2).alloc (.cells #[.string r0, .string r1, .slice ar2 r2.length kr2, .bool false, .slice ar4 r4.length kr4, .slice ar5 r5.length kr5] 91)) = B
            have gB : Gr w B := by rw [← hB]; exact (by repeat (first | exact Gr.refl _ | apply Gr.ext | apply Gr.alloc | apply Gr.drew))
            have bB0 : ∀ w' : World, Gr B w' → w'.cell? ⟨w.heap.size, 0, none⟩ = some (.slice ag0 g0.length kg0) := fun w' hg => hg.keep (by rw [← hB]; repeat (first | exact box_cell (by first | rfl | (simp; done) | (simp; omega)) rfl | refine Gr.keep (Gr.alloc (Gr.refl _) _) ?_ | refine Gr.keep (Gr.ext (Gr.refl _) _) ?_ | refine Gr.keep (Gr.drew (Gr.refl _)) ?_))
            have bB1 : ∀ w' : World, Gr B w' → w'.cell? ⟨w.heap.size, 1, none⟩ = some (.slice ag1 g1.length kg1) := fun w' hg => hg.keep (by rw [← hB]; repeat (first | exact box_cell (by first | rfl | (simp; done) | (simp; omega)) rfl | refine Gr.keep (Gr.alloc (Gr.refl _) _) ?_ | refine Gr.keep (Gr.ext (Gr.refl _) _) ?_ | refine Gr.keep (Gr.drew (Gr.refl _)) ?_))
            have bB2 : ∀ w' : World, Gr B w' → w'.cell? ⟨w.heap.size + 1, 0, none⟩ = some (.slice (some ⟨b, off, none⟩) t0.length kt0) := fun w' hg => hg.keep (by rw [← hB]; repeat (first | exact box_cell (by first | rfl | (simp; done) | (simp; omega)) rfl | refine Gr.keep (Gr.alloc (Gr.refl _) _) ?_ | refine Gr.keep (Gr.ext (Gr.refl _) _) ?_ | refine Gr.keep (Gr.drew (Gr.refl _)) ?_))
            have bB3 : ∀ w' : World, Gr B w' → w'.cell? ⟨w.heap.size + 1 + 1 + 1 + x2.objs.size, 0, none⟩ = some (.string r0) := fun w' hg => hg.keep (by rw [← hB]; repeat (first | exact box_cell (by first | rfl | (simp; done) | (simp; omega)) rfl | refine Gr.keep (Gr.alloc (Gr.refl _) _) ?_ | refine Gr.keep (Gr.ext (Gr.refl _) _) ?_ | refine Gr.keep (Gr.drew (Gr.refl _)) ?_))
            have bB4 : ∀ w' : World, Gr B w' → w'.cell? ⟨w.heap.size + 1 + 1 + 1 + x2.objs.size, 1, none⟩ = some (.string r1) := fun w' hg => hg.keep (by rw [← hB]; repeat (first | exact box_cell (by first | rfl | (simp; done) | (simp; omega)) rfl | refine Gr.keep (Gr.alloc (Gr.refl _) _) ?_ | refine Gr.keep (Gr.ext (Gr.refl _) _) ?_ | refine Gr.keep (Gr.drew (Gr.refl _)) ?_))
            have bB5 : ∀ w' : World, Gr B w' → w'.cell? ⟨w.heap.size + 1 + 1 + 1 + x2.objs.size, 2, none⟩ = some (.slice ar2 r2.length kr2) := fun w' hg => hg.keep (by rw [← hB]; repeat (first | exact box_cell (by first | rfl | (simp; done) | (simp; omega)) rfl | refine Gr.keep (Gr.alloc (Gr.refl _) _) ?_ | refine Gr.keep (Gr.ext (Gr.refl _) _) ?_ | refine Gr.keep (Gr.drew (Gr.refl _)) ?_))
            have bB6 : ∀ w' : World, Gr B w' → w'.cell? ⟨w.heap.size + 1 + 1 + 1 + x2.objs.size, 3, none⟩ = some (.bool false) := fun w' hg => hg.keep (by rw [← hB]; repeat (first | exact box_cell (by first | rfl | (simp; done) | (simp; omega)) rfl | refine Gr.keep (Gr.alloc (Gr.refl _) _) ?_ | refine Gr.keep (Gr.ext (Gr.refl _) _) ?_ | refine Gr.keep (Gr.drew (Gr.refl _)) ?_))
            have bB7 : ∀ w' : World, Gr B w' → w'.cell? ⟨w.heap.size + 1 + 1 + 1 + x2.objs.size, 4, none⟩ = some (.slice ar4 r4.length kr4) := fun w' hg => hg.keep (by rw [← hB]; repeat (first | exact box_cell (by first | rfl | (simp; done) | (simp; omega)) rfl | refine Gr.keep (Gr.alloc (Gr.refl _) _) ?_ | refine Gr.keep (Gr.ext (Gr.refl _) _) ?_ | refine Gr.keep (Gr.drew (Gr.refl _)) ?_))
            have bB8 : ∀ w' : World, Gr B w' → w'.cell? ⟨w.heap.size + 1 + 1 + 1 + x2.objs.size, 5, none⟩ = some (.slice ar5 r5.length kr5) := fun w' hg => hg.keep (by rw [← hB]; repeat (first | exact box_cell (by first | rfl | (simp; done) | (simp; omega)) rfl | refine Gr.keep (Gr.alloc (Gr.refl _) _) ?_ | refine Gr.keep (Gr.ext (Gr.refl _) _) ?_ | refine Gr.keep (Gr.drew (Gr.refl _)) ?_))
            have jr2 : SlR fr2 B (.slice ar2 r2.length kr2) r2 := by rw [← hB]; exact hr2.gr (by repeat (first | exact Gr.refl _ | apply Gr.ext | apply Gr.alloc | apply Gr.drew))
            have sB : B.heap.size = w.heap.size + 4 + x2.objs.size := by rw [← hB]; first | (simp; done) | (simp; omega)
            have EB := Lib.hid hB
            clear hB
            clear hr2 hr4 hr5 hA
            go_loopw [86, 16, 17, 18] (fun s86 s16 s17 s18 wr => ∃ (k : Nat) (a : Int), k ≤ q5.length ∧ Hid (kidsT (fun at_ k s => walkT (g0, g1) t0 f at_ (n : Int) k s) (q5.drop k) (r2.drop k) (k + 1) a = RES) ∧ (n : Int) + 1 ≤ a ∧ a ≤ (t0.length : Int) ∧ Gr B wr ∧ s86 = .int .i64 k ∧ s16 = .int .i64 a) (fun s86 _ _ _ _ => q5.length - (intOf s86).toNat)
            case atStart => exact ⟨0, (n : Int) + 1, by omega, Lib.hid (by simpa using HZ.out), by omega, by omega, Gr.refl _, rfl, rfl⟩
            case round =>
              obtain ⟨k, a, hk, HK, ha0, ha1, hg, rfl, rfl⟩ := hrel
              rename World => W1
              have HGR := Lib.hid hg
              have y0 := bB0 _ hg
              have y1 := bB1 _ hg
              have y2 := bB2 _ hg
              have y5 := bB5 _ hg
              have zb0 := blk y0
              have zb1 := blk y2
              have zb2 := blk y5
              clear hg
              by_cases hlk : k < q5.length
              · have hlk2 : k < r2.length := by have := HLen.out; omega
                have hgw : Gr w W1 := gB.trans HGR.out
                have HGW := Lib.hid hgw
                obtain ⟨bq, fq9, rfl, hbq⟩ := oq53 k hlk
                obtain ⟨br, fr9, rfl, hbr⟩ := or23 k hlk2
                have c1 := HGW.out.keep (hq5.int_at hlk).1
                have c2 := HGR.out.keep (jr2.str_at hlk2).1
                have zb3 := blk c1
                have zb4 := blk c2
                clear hgw
                by_cases hca : q5[k] = a
                · obtain rfl := hca
                  obtain ⟨res, hr⟩ : ∃ z, z = walkT (g0, g1) t0 f q5[k] (n : Int) ((k : Int) + 1) r2[k] := ⟨_, rfl⟩
                  have HRS := Lib.hid hr
                  have hge : -1 ≤ res ∧ (0 ≤ res → q5[k] < res ∧ res ≤ (t0.length : Int)) := by
                    rw [hr]; exact ⟨walkT_ge _ _ _ _ _ _ _, walkT_lt _ _ _ _ _ _ _⟩
                  have ik : IntKind.i64.wrap ((k : Int) + 1) = (k : Int) + 1 := IntWalk.i64_in _ (by omega)
                  have i2 : (0 : Int) ≤ (k : Int) := by omega
                  have i3 : (k : Int) < (r2.length : Int) := by omega
                  have i4 : (k : Int) < (q5.length : Int) := by omega
                  have HB := Lib.hid (And.intro ha0 (And.intro ha1 hge))
                  have HC := Lib.hid (fun x : Ext => IH.out _ _ _ _ q5[k] (n : Int) ((k : Int) + 1) r2[k] (W1.ext x) (Rd.gr HG.out (HGW.out.trans (by repeat (first | exact Gr.refl _ | apply Gr.ext | apply Gr.alloc | apply Gr.drew)))) (Rd.gr HT.out (HGW.out.trans (by repeat (first | exact Gr.refl _ | apply Gr.ext | apply Gr.alloc | apply Gr.drew)))) (by omega) (by omega) (by have := HF.out; omega))
                  clear hr ha0 ha1 hge
                  go_wp2_with fail
                  refine wp_region_grown (by kernel_rfl) (by kernel_rfl) ?_
                  repeat (go_big_quiet_step ((go_at_call 81; exact grown_call (HC.out _))))
                  refine wpQuiet_nil ?_
                  intro _ hw'
                  obtain ⟨nx, hw''⟩ := hw'
                  subst hw''
                  rw [← HRS.out]
                  clear ik
                  by_cases hneg : res < 0
                  · go_wp2_with fail
                    go_ret
                    have := HB.out
                    exact ⟨ret_int (by rw [← HRES.out, ← HK.out, kidsT_low hlk hlk2 rfl (by rw [← HRS.out]; exact hneg)]), HGW.out.trans (by repeat (first | exact Gr.refl _ | apply Gr.ext | apply Gr.alloc | apply Gr.drew))⟩
                  · go_wp2_with fail
                    refine ⟨⟨k + 1, res, by omega, Lib.hid ?_, by have := HB.out; omega, by have := HB.out; omega, HGR.out.trans (by repeat (first | exact Gr.refl _ | apply Gr.ext | apply Gr.alloc | apply Gr.drew)), by go_num, rfl⟩, by simp [intOf]; omega⟩
                    rw [← HK.out, kidsT_on hlk hlk2 rfl (by rw [← HRS.out]; exact hneg), ← HRS.out]
                · have HCA := Lib.hid hca
                  have i4 : (k : Int) < (q5.length : Int) := by omega
                  go_wp2_with fail
                  go_ret
                  exact ⟨ret_int (by rw [← HRES.out, ← HK.out, kidsT_off hlk hlk2 HCA.out]), HGW.out.trans (by repeat (first | exact Gr.refl _ | apply Gr.ext | apply Gr.alloc | apply Gr.drew))⟩
              · go_wp2_with fail
                go_ret
                exact ⟨ret_int (by rw [← HRES.out, ← HK.out, kidsT_end (by omega)]), (gB.trans HGR.out).trans (by repeat (first | exact Gr.refl _ | apply Gr.ext | apply Gr.alloc | apply Gr.drew))⟩
          · skip
            have HA := Lib.hid hA
            obtain ⟨RES, hres⟩ : ∃ z, z = walkT (g0, g1) t0 (f + 1) (n : Int) q1 q2 r1 := ⟨_, rfl⟩
            have HRES := Lib.hid hres
            have hz : kidsT (fun at_ k s => walkT (g0, g1) t0 f at_ (n : Int) k s) q5 r2 1 ((n : Int) + 1) = RES := by
              rw [hres]
              exact (walkT_good (r := (r0, r1, r2, true, r4, r5)) HN.out HR.out ⟨rfl, rfl, rfl, HLen.out, by have := HA.out; unfold litOK; simp at this ⊢ <;> omega⟩).symm
            have HZ := Lib.hid hz
            clear hz hres
            have iw : IntKind.i64.wrap ((n : Int) + 1) = (n : Int) + 1 := IntWalk.i64_in _ (by omega)
            go_wp2_with fail
            generalize hB : (((((w.alloc (.cells #[.slice ag0 g0.length kg0, .slice ag1 g1.length kg1] 36)).alloc (.cells #[.slice (some ⟨b, off, none⟩) t0.length kt0] 40)).alloc (.cells #[.int .i64 q0, .int .i64 q1, .int .i64 q2, .int .i64 q3, .string q4, .slice aq5 q5.length kq5] 84)).ext x2).alloc (.cells #[.string r0, .string r1, .slice ar2 r2.length kr2, .bool true, .slice ar4 r4.length kr4, .slice ar5 r5.length kr5] 91)) = B
            have gB : Gr w B := by rw [← hB]; exact (by repeat (first | exact Gr.refl _ | apply Gr.ext | apply Gr.alloc | apply Gr.drew))
            have bB0 : ∀ w' : World, Gr B w' → w'.cell? ⟨w.heap.size, 0, none⟩ = some (.slice ag0 g0.length kg0) := fun w' hg => hg.keep (by rw [← hB]; repeat (first | exact box_cell (by first | rfl | (simp; done) | (simp; omega)) rfl | refine Gr.keep (Gr.alloc (Gr.refl _) _) ?_ | refine Gr.keep (Gr.ext (Gr.refl _) _) ?_ | refine Gr.keep (Gr.drew (Gr.refl _)) ?_))
            have bB1 : ∀ w' : World, Gr B w' → w'.cell? ⟨w.heap.size, 1, none⟩ = some (.slice ag1 g1.length kg1) := fun w' hg => hg.keep (by rw [← hB]; repeat (first | exact box_cell (by first | rfl | (simp; done) | (simp; omega)) rfl | refine Gr.keep (Gr.alloc (Gr.refl _) _) ?_ | refine Gr.keep (Gr.ext (Gr.refl _) _) ?_ | refine Gr.keep (Gr.drew (Gr.refl _)) ?_))
            have bB2 : ∀ w' : World, Gr B w' → w'.cell? ⟨w.heap.size + 1, 0, none⟩ = some (.slice (some ⟨b, off, none⟩) t0.length kt0) := fun w' hg => hg.keep (by rw [← hB]; repeat (first | exact box_cell (by first | rfl | (simp; done) | (simp; omega)) rfl | refine Gr.keep (Gr.alloc (Gr.refl _) _) ?_ | refine Gr.keep (Gr.ext (Gr.refl _) _) ?_ | refine Gr.keep (Gr.drew (Gr.refl _)) ?_))
            have bB3 : ∀ w' : World, Gr B w' → w'.cell? ⟨w.heap.size + 1 + 1 + 1 + x2.objs.size, 0, none⟩ = some (.string r0) := fun w' hg => hg.keep (by rw [← hB]; repeat (first | exact box_cell (by first | rfl | (simp; done) | (simp; omega)) rfl | refine Gr.keep (Gr.alloc (Gr.refl _) _) ?_ | refine Gr.keep (Gr.ext (Gr.refl _) _) ?_ | refine Gr.keep (Gr.drew (Gr.refl _)) ?_))
            have bB4 : ∀ w' : World, Gr B w' → w'.cell? ⟨w.heap.size + 1 + 1 + 1 + x2.objs.size, 1, none⟩ = some (.string r1) := fun w' hg => hg.keep (by rw [← hB]; repeat (first | exact box_cell (by first | rfl | (simp; done) | (simp; omega)) rfl | refine Gr.keep (Gr.alloc (Gr.refl _) _) ?_ | refine Gr.keep (Gr.ext (Gr.refl _) _) ?_ | refine Gr.keep (Gr.drew (Gr.refl _)) ?_))
            have bB5 : ∀ w' : World, Gr B w' → w'.cell? ⟨w.heap.size + 1 + 1 + 1 + x2.objs.size, 2, none⟩ = some (.slice ar2 r2.length kr2) := fun w' hg => hg.keep (by rw [← hB]; repeat (first | exact box_cell (by first | rfl | (simp; done) | (simp; omega)) rfl | refine Gr.keep (Gr.alloc (Gr.refl _) _) ?_ | refine Gr.keep (Gr.ext (Gr.refl _) _) ?_ | refine Gr.keep (Gr.drew (Gr.refl _)) ?_))
            have bB6 : ∀ w' : World, Gr B w' → w'.cell? ⟨w.heap.size + 1 + 1 + 1 + x2.objs.size, 3, none⟩ = some (.bool true) := fun w' hg => hg.keep (by rw [← hB]; repeat (first | exact box_cell (by first | rfl | (simp; done) | (simp; omega)) rfl | refine Gr.keep (Gr.alloc (Gr.refl _) _) ?_ | refine Gr.keep (Gr.ext (Gr.refl _) _) ?_ | refine Gr.keep (Gr.drew (Gr.refl _)) ?_))
            have bB7 : ∀ w' : World, Gr B w' → w'.cell? ⟨w.heap.size + 1 + 1 + 1 + x2.objs.size, 4, none⟩ = some (.slice ar4 r4.length kr4) := fun w' hg => hg.keep (by rw [← hB]; repeat (first | exact box_cell (by first | rfl | (simp; done) | (simp; omega)) rfl | refine Gr.keep (Gr.alloc (Gr.refl _) _) ?_ | refine Gr.keep (Gr.ext (Gr.refl _) _) ?_ | refine Gr.keep (Gr.drew (Gr.refl _)) ?_))
            have bB8 : ∀ w' : World, Gr B w' → w'.cell? ⟨w.heap.size + 1 + 1 + 1 + x2.objs.size, 5, none⟩ = some (.slice ar5 r5.length kr5) := fun w' hg => hg.keep (by rw [← hB]; repeat (first | exact box_cell (by first | rfl | (simp; done) | (simp; omega)) rfl | refine Gr.keep (Gr.alloc (Gr.refl _) _) ?_ | refine Gr.keep (Gr.ext (Gr.refl _) _) ?_ | refine Gr.keep (Gr.drew (Gr.refl _)) ?_))
            have jr2 : SlR fr2 B (.slice ar2 r2.length kr2) r2 := by rw [← hB]; exact hr2.gr (by repeat (first | exact Gr.refl _ | apply Gr.ext | apply Gr.alloc | apply Gr.drew))
            have sB : B.heap.size = w.heap.size + 4 + x2.objs.size := by rw [← hB]; first | (simp; done) | (simp; omega)
            have EB := Lib.hid hB
            clear hB
            clear hr2 hr4 hr5 hA
            go_loopw [86, 16, 17, 18] (fun s86 s16 s17 s18 wr => ∃ (k : Nat) (a : Int), k ≤ q5.length ∧ Hid (kidsT (fun at_ k s => walkT (g0, g1) t0 f at_ (n : Int) k s) (q5.drop k) (r2.drop k) (k + 1) a = RES) ∧ (n : Int) + 1 ≤ a ∧ a ≤ (t0.length : Int) ∧ Gr B wr ∧ s86 = .int .i64 k ∧ s16 = .int .i64 a) (fun s86 _ _ _ _ => q5.length - (intOf s86).toNat)
            case atStart => exact ⟨0, (n : Int) + 1, by omega, Lib.hid (by simpa using HZ.out), by omega, by omega, Gr.refl _, rfl, rfl⟩
            case round =>
              obtain ⟨k, a, hk, HK, ha0, ha1, hg, rfl, rfl⟩ := hrel
              rename World => W1
              have HGR := Lib.hid hg
              have y0 := bB0 _ hg
              have y1 := bB1 _ hg
              have y2 := bB2 _ hg
              have y5 := bB5 _ hg
              have zb0 := blk y0
              have zb1 := blk y2
              have zb2 := blk y5
              clear hg
              by_cases hlk : k < q5.length
              · have hlk2 : k < r2.length := by have := HLen.out; omega
                have hgw : Gr w W1 := gB.trans HGR.out
                have HGW := Lib.hid hgw
                obtain ⟨bq, fq9, rfl, hbq⟩ := oq53 k hlk
                obtain ⟨br, fr9, rfl, hbr⟩ := or23 k hlk2
                have c1 := HGW.out.keep (hq5.int_at hlk).1
                have c2 := HGR.out.keep (jr2.str_at hlk2).1
                have zb3 := blk c1
                have zb4 := blk c2
                clear hgw
                by_cases hca : q5[k] = a
                · obtain rfl := hca
                  obtain ⟨res, hr⟩ : ∃ z, z = walkT (g0, g1) t0 f q5[k] (n : Int) ((k : Int) + 1) r2[k] := ⟨_, rfl⟩
                  have HRS := Lib.hid hr
                  have hge : -1 ≤ res ∧ (0 ≤ res → q5[k] < res ∧ res ≤ (t0.length : Int)) := by
                    rw [hr]; exact ⟨walkT_ge _ _ _ _ _ _ _, walkT_lt _ _ _ _ _ _ _⟩
                  have ik : IntKind.i64.wrap ((k : Int) + 1) = (k : Int) + 1 := IntWalk.i64_in _ (by omega)
                  have i2 : (0 : Int) ≤ (k : Int) := by omega
                  have i3 : (k : Int) < (r2.length : Int) := by omega
                  have i4 : (k : Int) < (q5.length : Int) := by omega
                  have HB := Lib.hid (And.intro ha0 (And.intro ha1 hge))
                  have HC := Lib.hid (fun x : Ext => IH.out _ _ _ _ q5[k] (n : Int) ((k : Int) + 1) r2[k] (W1.ext x) (Rd.gr HG.out (HGW.out.trans (by repeat (first | exact Gr.refl _ | apply Gr.ext | apply Gr.alloc | apply Gr.drew)))) (Rd.gr HT.out (HGW.out.trans (by repeat (first | exact Gr.refl _ | apply Gr.ext | apply Gr.alloc | apply Gr.drew)))) (by omega) (by omega) (by have := HF.out; omega))
                  clear hr ha0 ha1 hge
                  go_wp2_with fail
                  refine wp_region_grown (by kernel_rfl) (by kernel_rfl) ?_
                  repeat (go_big_quiet_step ((go_at_call 81; exact grown_call (HC.out _))))
                  refine wpQuiet_nil ?_
                  intro _ hw'
                  obtain ⟨nx, hw''⟩ := hw'
                  subst hw''
                  rw [← HRS.out]
                  clear ik
                  by_cases hneg : res < 0
                  · go_wp2_with fail
                    go_ret
                    have := HB.out
                    exact ⟨ret_int (by rw [← HRES.out, ← HK.out, kidsT_low hlk hlk2 rfl (by rw [← HRS.out]; exact hneg)]), HGW.out.trans (by repeat (first | exact Gr.refl _ | apply Gr.ext | apply Gr.alloc | apply Gr.drew))⟩
                  · go_wp2_with fail
                    refine ⟨⟨k + 1, res, by omega, Lib.hid ?_, by have := HB.out; omega, by have := HB.out; omega, HGR.out.trans (by repeat (first | exact Gr.refl _ | apply Gr.ext | apply Gr.alloc | apply Gr.drew)), by go_num, rfl⟩, by simp [intOf]; omega⟩
                    rw [← HK.out, kidsT_on hlk hlk2 rfl (by rw [← HRS.out]; exact hneg), ← HRS.out]
                · have HCA := Lib.hid hca
                  have i4 : (k : Int) < (q5.length : Int) := by omega
                  go_wp2_with fail
                  go_ret
                  exact ⟨ret_int (by rw [← HRES.out, ← HK.out, kidsT_off hlk hlk2 HCA.out]), HGW.out.trans (by repeat (first | exact Gr.refl _ | apply Gr.ext | apply Gr.alloc | apply Gr.drew))⟩
              · go_wp2_with fail
                go_ret
                exact ⟨ret_int (by rw [← HRES.out, ← HK.out, kidsT_end (by omega)]), (gB.trans HGR.out).trans (by repeat (first | exact Gr.refl _ | apply Gr.ext | apply Gr.alloc | apply Gr.drew))⟩
        all_goals
          go_ret
          first
            | exact ⟨ret_int (walkT_bad HN.out HR.out fun h => by have := h.2.2.2.1; omega).symm, (by repeat (first | exact Gr.refl _ | apply Gr.ext | apply Gr.alloc | apply Gr.drew))⟩
            | exact ⟨ret_int (walkT_bad HN.out HR.out fun h => by have := h.2.2.1; contradiction).symm, (by repeat (first | exact Gr.refl _ | apply Gr.ext | apply Gr.alloc | apply Gr.drew))⟩
            | exact ⟨ret_int (walkT_bad HN.out HR.out fun h => by have := h.2.1; contradiction).symm, (by repeat (first | exact Gr.refl _ | apply Gr.ext | apply Gr.alloc | apply Gr.drew))⟩
            | exact ⟨ret_int (walkT_bad HN.out HR.out fun h => by have := h.1; simp_all).symm, (by repeat (first | exact Gr.refl _ | apply Gr.ext | apply Gr.alloc | apply Gr.drew))⟩
    · have hn : nth t0 i = none := nth_out (by omega)
      have HN := Lib.hid hn
      have hge : (t0.length : Int) ≤ i := by omega
      clear hn hin
      go_enter Try.func81, Try.ntmps81
      go_wp2_with fail
      go_ret
      exact ⟨ret_int (walkT_none HN.out).symm, (by repeat (first | exact Gr.refl _ | apply Gr.ext | apply Gr.alloc | apply Gr.drew))⟩
end Go.Proofs.Ytbfmeiooeaaibaa
