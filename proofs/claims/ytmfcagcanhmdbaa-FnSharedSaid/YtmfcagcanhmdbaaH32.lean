/- Rows of rules while a grammar is drawn. A number below ten as a text: the reference's. No condition. -/
import Derived.Test.YtmfcagcanhmdbaaH31
import Derived.Test.YtmfcagcanhmdbaaH24
import Derived.Laws.BytesArg
namespace Go.Proofs.Ytmfcagcanhmdbaa
open Go.RowKit
set_option linter.unusedVariables false
set_option linter.unusedSimpArgs false
variable {d : Nat}

theorem setCell_id {w : World} {b k : Nat} {v : Value} (h : w.cell? ⟨b, k, none⟩ = some v) : w.setCell ⟨b, k, none⟩ v = w := by
 obtain ⟨heap, tape, drawn, os, out⟩ := w
 unfold World.cell? at h
 unfold World.setCell
 simp only [Option.isSome_none, Bool.false_eq_true, if_false] at h ⊢
 congr 1
 apply Array.ext
 ·simp
 ·intro i h1 h2
  rw [Array.getElem_modify]
  split
  ·rename_i e1
   subst e1
   rw [Array.getElem?_eq_getElem h2] at h
   generalize heap[b] = o at h ⊢
   cases o with
   | cells c e f =>
    simp only at h ⊢
    obtain ⟨hk1, hk2⟩ := Array.getElem?_eq_some_iff.1 h
    have : c.setIfInBounds k v = c := by
     apply Array.ext
     ·simp
     ·intro j g1 g2
      rw [Array.getElem_setIfInBounds g2]
      split
      ·rename_i e2; subst e2; exact hk2.symm
      ·rfl
    rw [this]
   | _ => rfl
  ·rfl

structure RuleM (d : Nat) where
 r : GRule d
 raw : Bool
instance : Rd (RuleM d) where
 n := Rd.n (α := GRule d)
 pos := Rd.pos (α := GRule d)
 rd fp w cs x := Rd.rd fp w cs x.r ∧ (x.raw = true → x.r.2.2.2.2.1 = [] ∧ x.r.2.2.2.2.2 = [] ∧ ∃ a c, cs = [.string x.r.1, .string x.r.2.1, .slice a x.r.2.2.1.length c, .bool x.r.2.2.2.1, .slice none 0 0, .slice none 0 0])
 len h := Rd.len h.1
 lt h := Rd.lt h.1
 mono hw h := ⟨Rd.mono hw h.1, h.2⟩
 one h := Rd.one h.1

theorem SlR.mapM {fp : List Nat} {w : World} {v : Value} {xs : List (RuleM d)} (h : SlR fp w v xs) : SlR fp w v (xs.map RuleM.r) := by
 obtain ⟨a, cap, hv, h1, h2, h3⟩ := h
 refine ⟨a, cap, by simpa using hv, by simpa using h1, by simpa using h2, ?_⟩
 rcases h3 with ⟨rfl, rfl⟩ | ⟨b, off, fps, hne, ha, hf, hl, hfr, hx⟩
 ·exact .inl ⟨rfl, rfl⟩
 ·refine .inr ⟨b, off, fps, by simpa using hne, ha, hf, by simpa using hl, fun j hj => hfr j (by rw [List.length_map] at hj; exact hj), fun i h h' => ?_⟩
  obtain ⟨cs, hc, hr⟩ := hx i (by simpa using h) h'
  exact ⟨cs, hc, by simpa using hr.1⟩

theorem SlR.takeS {α : Type} [Rd α] {fp : List Nat} {w : World} {a : Option Addr} {len cap : Nat} {xs : List α} (h : SlR fp w (.slice a len cap) xs) {k : Nat} (hk : k ≤ xs.length) : ∃ fq, SlR fq w (.slice a k cap) (xs.take k) ∧ ∀ c ∈ fq, c ∈ fp := by
 obtain ⟨a', cap', hv, h1, h2, h3⟩ := h
 injection hv with e1 e2 e3
 subst e1 e3
 have hl : (xs.take k).length = k := by simp; omega
 by_cases h0 : k = 0
 ·subst h0
  exact ⟨[], ⟨a, cap, by simp, by simp, by simp, .inl ⟨by simp, rfl⟩⟩, by simp⟩
 ·rcases h3 with ⟨rfl, _⟩ | ⟨b, off, fps, hne, rfl, rfl, hlen, hfr, hx⟩
  ·simp at hk; omega
  ·refine ⟨b :: (fps.take k).flatten, ⟨some ⟨b, off, none⟩, cap, by rw [hl], by rw [hl]; omega, by rw [hl]; omega, .inr ⟨b, off, fps.take k, fun e => by rw [e] at hl; simp at hl; omega, rfl, rfl, by simp; omega, fun j hj => hfr j (Nat.lt_of_lt_of_le hj (Nat.mul_le_mul_right _ (by omega))), fun i hi hi' => ?_⟩⟩, fun c hc => ?_⟩
   ·have hik : i < k := by omega
    obtain ⟨cs, hc, hr⟩ := hx i (by omega) (by omega)
    exact ⟨cs, hc, by simpa using hr⟩
   ·rcases List.mem_cons.1 hc with h | h
    ·rw [h]; simp
    ·obtain ⟨f, hf, hcf⟩ := List.mem_flatten.1 h
     exact List.mem_cons_of_mem _ (List.mem_flatten.2 ⟨f, List.mem_of_mem_take hf, hcf⟩)

theorem OwnR.cap {α : Type} [Rd α] {w0 w : World} {e : TypeId} {a : Option Addr} {n c : Nat} {fps : List (List Nat)} {xs : List α} (h : OwnR w0 e w (.slice a n c) fps xs) : xs.length ≤ c := by
 obtain ⟨⟨css, ho, hE⟩, ha⟩ := h
 rcases ho.2 with ⟨h0, h1⟩ | ⟨g, cap, cur, hv, hb, hg, hnc, hcm, hcs, htake⟩
 ·omega
 ·injection hv with e1 e2 e3
  omega
theorem OwnR.takeK {α : Type} [Rd α] {w0 w : World} {e : TypeId} {a : Option Addr} {c : Nat} {fps : List (List Nat)} {xs : List α} (h : OwnR w0 e w (.slice a xs.length c) fps xs) {k : Nat} (hk : k ≤ xs.length) (h0 : 0 < k) : OwnR w0 e w (.slice a k c) (fps.take k) (xs.take k) := by
 have hfl := h.fl
 obtain ⟨⟨css, ho, hE⟩, ha⟩ := h
 have hcl := hE.cl
 have hnn := hE.n
 rcases ho.2 with ⟨_, h0⟩ | ⟨g, cap, cur, hv, hb, hg, hnc, hcm, hcs, htake⟩
 ·omega
 ·injection hv with e1 e2 e3
  subst e1 e3
  have hkl : (xs.take k).length = k := by simp; omega
  refine ⟨⟨css.take k, ⟨?_, .inr ⟨g, c, cur, by rw [hkl], hb, hg, by rw [hkl]; omega, hcm, hcs, ?_⟩⟩, ?_⟩, fun b hb' hm => ha b hb' ?_⟩
  ·rw [flat_len (fun c hc => hnn c (List.mem_of_mem_take hc))]; simp [hcl]
  ·rw [hkl]
   have e1 : (css.take k).flatten = css.flatten.take (k * Rd.n α) := by
    rw [← List.take_append_drop k css, List.flatten_append]
    have : (css.take k).flatten.length = k * Rd.n α := by rw [flat_len (fun c hc => hnn c (List.mem_of_mem_take hc))]; rw [List.length_take, Nat.min_eq_left (by omega)]
    rw [List.take_append_drop, ← this, List.take_left']
    rfl
   rw [e1, ← htake, List.take_take, Nat.min_eq_left (Nat.mul_le_mul_right _ hk)]
  ·refine ⟨by simp [hcl], by simp [hfl], fun i h0 h1 h2 => ?_⟩
   simp only [List.getElem_take]
   exact hE.rd i (by simp at h0; omega) (by simp at h1; omega) (by simp at h2; omega)
  ·obtain ⟨f, hf, hbf⟩ := List.mem_flatten.1 hm
   exact List.mem_flatten.2 ⟨f, List.mem_of_mem_take hf, hbf⟩
theorem OwnR.set1 {α : Type} [Rd α] {w0 w : World} {e : TypeId} {v : Value} {fps : List (List Nat)} {xs : List α} (h : OwnR w0 e w v fps xs) {i : Nat} (hi : i < xs.length) :
  ∃ g cap cs fq, v = .slice (some ⟨g, 0, none⟩) xs.length cap ∧ w0.heap.size ≤ g ∧ g < w.heap.size ∧ xs.length ≤ cap ∧ fps[i]? = some fq ∧ (∀ j u, cs[j]? = some u → w.cell? ⟨g, i * Rd.n α + j, none⟩ = some u) ∧ Rd.rd fq w cs xs[i] ∧
   (∀ o, w.frozen? ⟨g, o, none⟩ = false) ∧
   ∀ j u fq' y, j < Rd.n α → g ∉ fq' → Rd.rd fq' (w.setCell ⟨g, i * Rd.n α + j, none⟩ u) (cs.set j u) y → OwnR w0 e (w.setCell ⟨g, i * Rd.n α + j, none⟩ u) v (fps.set i fq') (xs.set i y) := by
 have hfl := h.fl
 obtain ⟨⟨css, ho, hE⟩, ha⟩ := h
 have hcl := hE.cl
 have hp := Rd.pos (α := α)
 have hiN : (i + 1) * Rd.n α ≤ xs.length * Rd.n α := Nat.mul_le_mul_right _ hi
 rw [Nat.add_mul] at hiN
 rcases ho.2 with ⟨_, h0⟩ | ⟨g, cap, cur, rfl, hb, hg, hnc, hcm, hcs, htake⟩
 ·omega
 ·have hgl : g < w.heap.size := (Array.getElem?_eq_some_iff.1 hg).1
  have hic : i < css.length := by omega
  have hif : i < fps.length := by omega
  have hnn := hE.n
  have hcapN : xs.length * Rd.n α ≤ cap * Rd.n α := Nat.mul_le_mul_right _ hnc
  refine ⟨g, cap, css[i], fps[i], rfl, hb, hgl, hnc, List.getElem?_eq_getElem hif, fun j u hj => ?_, hE.rd i hi hic hif, fun o => frozen_block hg o, fun j u fq' y hj hgn hr => ?_⟩
  ·have hjl : j < Rd.n α := by rw [← hnn _ (List.getElem_mem hic)]; exact (List.getElem?_eq_some_iff.1 hj).1
   rw [cell_of_row w g _ cur e (0, 0) hg]
   have h3 : (cur.toList.take (xs.length * Rd.n α))[i * Rd.n α + j]? = css.flatten[i * Rd.n α + j]? := by rw [htake]
   rw [List.getElem?_take_of_lt (by omega), flat_get hnn hic hjl, hj] at h3
   simpa using h3
  ·have hw1g : w.heap[g]? = some (.cells cur e) := hg
   have hsetg : (w.setCell ⟨g, i * Rd.n α + j, none⟩ u).heap[g]? = some (.cells (cur.setIfInBounds (i * Rd.n α + j) u) e) := by
    unfold World.setCell
    simp only [Array.getElem?_modify, if_pos]
    rw [hw1g]
    simp
   have hEs : Els (w.setCell ⟨g, i * Rd.n α + j, none⟩ u) (css.set i (css[i].set j u)) (fps.set i fq') (xs.set i y) := by
    refine ⟨by simp [hcl], by simp [hfl], fun k h0 h1 h2 => ?_⟩
    simp only [List.length_set] at h0 h1 h2
    by_cases hki : k = i
    ·subst hki; simpa using hr
    ·rw [List.getElem_set_ne (fun e => hki e.symm), List.getElem_set_ne (fun e => hki e.symm), List.getElem_set_ne (fun e => hki e.symm)]
     refine Rd.mono (fun c hc => ?_) (hE.rd k h0 h1 h2)
     have hcl2 := hE.lt c (List.mem_flatten.2 ⟨_, List.getElem_mem h2, hc⟩)
     have hcg : c ≠ g := fun e => ha g rfl (by subst e; exact List.mem_flatten.2 ⟨_, List.getElem_mem h2, hc⟩)
     exact heap_setCell hcg
   refine ⟨⟨_, ⟨?_, .inr ⟨g, cap, _, by simp, hb, hsetg, by simpa using hnc, hcm, by simpa using hcs, ?_⟩⟩, hEs⟩, fun b' hb' hm => ?_⟩
   ·rw [flat_len hEs.n]; simp [hcl]
   ·have hlen2 : (css.set i (css[i].set j u)).flatten.length = xs.length * Rd.n α := by rw [flat_len hEs.n]; simp [hcl]
    apply List.ext_getElem?
    intro m
    by_cases hm : m < xs.length * Rd.n α
    ·rw [List.length_set, List.getElem?_take_of_lt hm]
     have hd : m / Rd.n α * Rd.n α + m % Rd.n α = m := by rw [Nat.mul_comm]; exact Nat.div_add_mod m _
     have hq : m / Rd.n α < xs.length := Nat.div_lt_of_lt_mul (by rw [Nat.mul_comm]; exact hm)
     have hr2 := Nat.mod_lt m hp
     have h1 := flat_get hEs.n (i := m / Rd.n α) (j := m % Rd.n α) (by simp; omega) hr2
     rw [hd] at h1
     have h2 := flat_get hnn (i := m / Rd.n α) (j := m % Rd.n α) (by omega) hr2
     rw [hd] at h2
     have h3 : (cur.toList.take (xs.length * Rd.n α))[m]? = css.flatten[m]? := by rw [htake]
     rw [List.getElem?_take_of_lt hm] at h3
     rw [h1, Array.toList_setIfInBounds, List.getElem?_set]
     by_cases hqi : m / Rd.n α = i
     ·subst hqi
      simp only [List.getElem_set_self]
      rw [List.getElem?_set]
      by_cases hji : j = m % Rd.n α
      ·subst hji
       rw [if_pos hd, if_pos rfl, if_pos (by simp; omega), if_pos (by rw [hnn _ (List.getElem_mem hic)]; exact hr2)]
      ·rw [if_neg (by omega), if_neg hji, ← h2]
       exact h3
     ·rw [List.getElem_set_ne (fun e => hqi e.symm), ← h2]
      rw [if_neg]
      ·exact h3
      ·intro e
       apply hqi
       have : (i * Rd.n α + j) / Rd.n α = m / Rd.n α := congrArg (· / Rd.n α) e
       rw [Nat.mul_comm i, Nat.mul_add_div hp, Nat.div_eq_of_lt hj] at this
       omega
    ·rw [List.length_set, List.getElem?_eq_none (by simp; omega), List.getElem?_eq_none (by omega)]
   ·injection hb' with hb'
    subst hb'
    obtain ⟨f, hf, hcf⟩ := List.mem_flatten.1 hm
    rcases List.mem_or_eq_of_mem_set hf with hf | rfl
    ·exact ha g rfl (List.mem_flatten.2 ⟨f, hf, hcf⟩)
    ·exact hgn hcf
end Go.Proofs.Ytmfcagcanhmdbaa

namespace Go.Proofs.Ytmfcagcanhmdbaa
open Go.RowKit
set_option linter.unusedVariables false
set_option linter.unusedSimpArgs false

def TextAt (K : Nat) (w : World) (e : Ending) (w' : World) : Prop := ∃ s : ByteArray, e = .returned (.string s) ∧ s.size ≤ K ∧ Gr w w'
set_option maxRecDepth 10000 in
set_option maxHeartbeats 4000000 in
theorem formatInt_some (n : Nat) (hn : n < 10) (w : World) : Calls Try.prog 49 #[.int .i64 (n : Int)] w (TextAt 2 w) := by
 by_cases h0 : n = 0
 ·subst h0
  go_enter Try.func49, Try.ntmps49
  go_wp2_with fail
  go_ret
  exact ⟨_, rfl, by decide, Gr.refl _⟩
 ·have n0 : ((n : Int) == 0) = false := by simp; omega
  have n1 : ¬ ((n : Int) < 0) := by omega
  have n2 : ((n : Int) != 0) = true := by simp; omega
  have ht : (n : Int).tmod 10 = (n : Int) := by rw [Int.tmod_eq_emod_of_nonneg (by omega)]; omega
  have hq : (n : Int).tdiv 10 = 0 := by rw [Int.tdiv_eq_ediv_of_nonneg (by omega)]; omega
  have iw : IntKind.i64.wrap (48 + (n : Int)) = 48 + (n : Int) := IntWalk.i64_in _ (by omega)
  have iu : IntKind.u8.wrap (48 + (n : Int)) = 48 + (n : Int) := by rw [IntKind.wrap_u8]; omega
  have iw0 : IntKind.i64.wrap (n : Int) = (n : Int) := IntWalk.i64_in _ (by omega)
  have kc := fun (W : World) => run_convert_bytes_arg (P := Try.prog) (W.alloc (.cells #[.int .u8 (48 + (n : Int))] 5)) 45 5 Try.underlying45 Try.underlying5 W.heap.size 0 1 1 [48 + (n : Int)] rfl (fun i hi => by
   obtain rfl : i = 0 := by omega
   simp [World.cell?_alloc_new]) 9 Try.underlying9
  go_enter Try.func49, Try.ntmps49
  go_wp2_with fail
  go_loopw [0, 4] (fun s0 s4 wr => Gr w wr ∧ ∃ s : ByteArray, s4 = .string s ∧ ((s0 = .int .i64 (n : Int) ∧ s.size = 0) ∨ (s0 = .int .i64 0 ∧ s.size ≤ 1))) (fun s0 _ _ => (intOf s0).toNat)
  case atStart => exact ⟨Gr.refl _, _, rfl, .inl ⟨rfl, rfl⟩⟩
  case round =>
   obtain ⟨hgr, s, rfl, hh⟩ := hrel
   rename World => W1
   rcases hh with ⟨rfl, hs⟩ | ⟨rfl, hs⟩
   ·go_wp2_with fail
    exact ⟨⟨hgr.trans gd, _, rfl, .inr ⟨rfl, by rw [ByteArray.size_append, hs]; simp [strOfNums, ByteArray.size]⟩⟩, by simp [intOf]; omega⟩
   ·go_wp2_with fail
    go_ret
    exact ⟨_, rfl, by omega, hgr⟩
end Go.Proofs.Ytmfcagcanhmdbaa
