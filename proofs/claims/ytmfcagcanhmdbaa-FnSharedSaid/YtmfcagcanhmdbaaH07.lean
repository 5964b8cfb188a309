/- Rows of flags, queues, and rows whose elements are rows of one's own. No condition. -/
import Derived.Test.YtmfcagcanhmdbaaH06
import Derived.Deep.Upon
import Derived.Laws.OwnMore
namespace Go.Proofs.Ytmfcagcanhmdbaa
open Go.RowKit

def BRow (w : World) (b : Nat) (t : TypeId) (fl : List Bool) : Prop := w.heap[b]? = some (.cells (fl.map Value.bool).toArray t)

theorem BRow.lt {w : World} {b : Nat} {t : TypeId} {fl : List Bool} (h : BRow w b t fl) : b < w.heap.size := by
 unfold BRow at h
 exact (Array.getElem?_eq_some_iff.1 h).1
theorem BRow.cell {w : World} {b : Nat} {t : TypeId} {fl : List Bool} (h : BRow w b t fl) {k : Nat} (hk : k < fl.length) : w.cell? ⟨b, k, none⟩ = some (.bool fl[k]) := by
 rw [cell_of_row w b k _ t (0, 0) h]
 simp [hk]
theorem BRow.frozen {w : World} {b : Nat} {t : TypeId} {fl : List Bool} (h : BRow w b t fl) (k : Nat) : w.frozen? ⟨b, k, none⟩ = false := frozen_block h k
theorem BRow.keep {w w' : World} {b : Nat} {t : TypeId} {fl : List Bool} (h : BRow w b t fl) (e : w'.heap[b]? = w.heap[b]?) : BRow w' b t fl := e.trans h
theorem BRow.gr {w w' : World} {b : Nat} {t : TypeId} {fl : List Bool} (h : BRow w b t fl) (hg : Gr w w') : BRow w' b t fl := h.keep (hg.below.block b h.lt)
theorem BRow.wr {w w' : World} {b : Nat} {t : TypeId} {fl : List Bool} {fp : List Nat} (h : BRow w b t fl) (hw : Wr fp w w') (hb : b ∉ fp) : BRow w' b t fl := h.keep (hw.block b h.lt hb)
theorem BRow.set {w : World} {b : Nat} {t : TypeId} {fl : List Bool} (h : BRow w b t fl) (k : Nat) (y : Bool) : BRow (w.setCell ⟨b, k, none⟩ (.bool y)) b t (fl.set k y) := by
 unfold BRow at *
 unfold World.setCell
 simp only [Array.getElem?_modify, if_pos]
 rw [h]
 simp [List.map_set]
theorem BRow.made (w : World) (n : Nat) (t : TypeId) : BRow (w.alloc (.cells (madeCells #[.bool false] n) t)) w.heap.size t (List.replicate n false) := by
 unfold BRow
 rw [heap_alloc_new]
 congr 2
 apply Array.toList_inj.1
 rw [toList_madeCells_one]
 simp
theorem BRow.slR {w : World} {b : Nat} {t : TypeId} {fl : List Bool} (h : BRow w b t fl) (hn : fl.length ≤ reachLen) {cap : Nat} (hc : fl.length ≤ cap) : ∃ fp, SlR fp w (.slice (some ⟨b, 0, none⟩) fl.length cap) fl ∧ (fp = [] ∨ fp = [b]) :=
 SlR.flat h rfl (fun i hi => ⟨.bool fl[i], by simp [hi], rfl, rfl⟩) hc hn

def Que (base : Nat) (e : TypeId) (w : World) (v : Value) (xs : List Int) : Prop :=
 ∃ g off cap cur, v = .slice (some ⟨g, off, none⟩) xs.length cap ∧ base ≤ g ∧ w.heap[g]? = some (.cells cur e) ∧ xs.length ≤ cap ∧ cap ≤ maxLen ∧ off + cap ≤ cur.size ∧
  ∀ j u, (xs.map (Value.int .i64))[j]? = some u → cur[off + j]? = some u

theorem Que.gr {base : Nat} {w w' : World} {e : TypeId} {v : Value} {xs : List Int} (h : Que base e w v xs) (hg : Gr w w') : Que base e w' v xs := by
 obtain ⟨g, off, cap, cur, hv, h1, h2, h3⟩ := h
 exact ⟨g, off, cap, cur, hv, h1, by rw [hg.below.block g (Array.getElem?_eq_some_iff.1 h2).1]; exact h2, h3⟩
theorem Que.blk {base : Nat} {w : World} {e : TypeId} {v : Value} {xs : List Int} (h : Que base e w v xs) : ∃ g, v.ownBlock = some g ∧ base ≤ g ∧ g < w.heap.size := by
 obtain ⟨g, off, cap, cur, rfl, h1, h2, h3⟩ := h
 exact ⟨g, rfl, h1, (Array.getElem?_eq_some_iff.1 h2).1⟩
theorem Que.wr {base : Nat} {w w' : World} {e : TypeId} {v : Value} {xs : List Int} {fp : List Nat} (h : Que base e w v xs) (hw : Wr fp w w') (hn : ∀ b, v.ownBlock = some b → b ∉ fp) : Que base e w' v xs := by
 obtain ⟨g, off, cap, cur, rfl, h1, h2, h3⟩ := h
 exact ⟨g, off, cap, cur, rfl, h1, by rw [hw.block g (Array.getElem?_eq_some_iff.1 h2).1 (hn g rfl)]; exact h2, h3⟩
theorem Que.form {base : Nat} {w : World} {e : TypeId} {v : Value} {xs : List Int} (h : Que base e w v xs) :
  ∃ g off cap, v = .slice (some ⟨g, off, none⟩) xs.length cap ∧ base ≤ g ∧ g < w.heap.size ∧ xs.length ≤ cap ∧ cap ≤ maxLen ∧ ∀ j (hj : j < xs.length), w.cell? ⟨g, off + j, none⟩ = some (.int .i64 xs[j]) := by
 obtain ⟨g, off, cap, cur, rfl, h1, h2, h3, h4, h5, h6⟩ := h
 refine ⟨g, off, cap, rfl, h1, (Array.getElem?_eq_some_iff.1 h2).1, h3, h4, fun j hj => ?_⟩
 rw [cell_of_row w g (off + j) cur e (0, 0) h2]
 exact h6 j _ (by simp [hj])
theorem Que.tail {base : Nat} {w : World} {e : TypeId} {g off n cap : Nat} {x : Int} {xs : List Int} (h : Que base e w (.slice (some ⟨g, off, none⟩) n cap) (x :: xs)) :
  Que base e w (.slice (some ⟨g, off + 1, none⟩) xs.length (cap - 1)) xs ∧ (cap = 1 → Que base e w (.slice (some ⟨g, off, none⟩) 0 0) xs) := by
 obtain ⟨g', off', cap', cur, hv, h1, h2, h3, h4, h5, h6⟩ := h
 injection hv with e1 e2 e3
 injection e1 with e1
 injection e1 with e1 e4 _
 subst e1 e4 e3
 simp only [List.length_cons] at h3
 refine ⟨⟨g, off + 1, cap - 1, cur, rfl, h1, h2, by omega, by omega, by omega, fun j u hj => ?_⟩, fun hc => ?_⟩
 ·rw [show off + 1 + j = off + (j + 1) by omega]
  exact h6 (j + 1) u (by simpa using hj)
 ·have : xs = [] := List.eq_nil_of_length_eq_zero (by omega)
  subst this
  exact ⟨g, off, 0, cur, rfl, h1, h2, by simp, by omega, by omega, by simp⟩

section
variable {P : Program}

end

def ORow (_base : Nat) (_e : TypeId) : Type := List Int
def ORow.out {base : Nat} {e : TypeId} (x : ORow base e) : List Int := x
def ORow.mk (base : Nat) (e : TypeId) (x : List Int) : ORow base e := x

instance (base : Nat) (e : TypeId) : Rd (ORow base e) where
 n := 1
 pos := by omega
 rd fp w cs x := ∃ v, cs = [v] ∧ w.ownsRow base e 1 v x.out.length (x.out.map (Value.int .i64)) ∧ (∀ y ∈ x.out, (Lit.int .i64 y).wf = true) ∧ fp = v.ownBlock.toList
 len h := by obtain ⟨v, rfl, _⟩ := h; rfl
 lt h := by
  obtain ⟨v, rfl, h, _, rfl⟩ := h
  intro b hb
  exact (h.lt b (by simpa using hb)).2
 mono hw h := by
  obtain ⟨v, rfl, h, h2, rfl⟩ := h
  refine ⟨v, rfl, ⟨h.1, ?_⟩, h2, rfl⟩
  rcases h.2 with hn | ⟨g, cap, cur, rfl, hb, hgg, rest⟩
  ·exact .inl hn
  ·exact .inr ⟨g, cap, cur, rfl, hb, by rw [hw g (by simp [Value.ownBlock])]; exact hgg, rest⟩
 one h u hu := by
  obtain ⟨v, rfl, h, _, rfl⟩ := h
  simp at hu
  subst hu
  rcases h.2 with ⟨rfl, _⟩ | ⟨g, cap, cur, rfl, _⟩ <;> rfl

theorem ORow.read {base : Nat} {e : TypeId} {fp : List Nat} {w : World} {cs : List Value} {x : ORow base e} (h : Rd.rd fp w cs x) (hl : x.out.length ≤ reachLen) : ∃ fq, Rd.rd (α := List Int) fq w cs x.out ∧ fq.Sublist fp := by
 obtain ⟨v, rfl, h, h2, rfl⟩ := h
 obtain ⟨fq, hs, hb, hnd, _⟩ := ownsFlat rfl (Value.int .i64) h (fun y hy => intRd (h2 y hy) w) hl
 rcases h.2 with ⟨rfl, h0⟩ | ⟨g, cap, cur, rfl, _⟩
 ·have : x.out = [] := List.eq_nil_of_length_eq_zero h0
  rw [this] at hs ⊢
  exact ⟨[], ⟨_, rfl, SlR.nil w⟩, by simp⟩
 ·obtain ⟨_, _, hv, _, _, ⟨h5, rfl⟩ | ⟨b, off, fps, hne, ha, rfl, hr⟩⟩ := hs
  ·refine ⟨[], ⟨_, rfl, _, cap, rfl, ?_, hl, .inl ⟨h5, rfl⟩⟩, by simp⟩
   rw [h5]; simp
  ·injection hv with e1 e2 e3
   rw [ha] at e1
   injection e1 with e1
   injection e1 with e1 e4 _
   subst e1 e4
   have hm := fun c hc => (hb c hc)
   have hfl : fps.flatten = [] := by
    obtain ⟨hl2, hfr, hx⟩ := hr
    rw [List.flatten_eq_nil_iff]
    intro f hf
    obtain ⟨i, hi, rfl⟩ := List.mem_iff_getElem.1 hf
    obtain ⟨_, _, hrd⟩ := hx i (by omega) hi
    exact hrd.1
   refine ⟨_, ⟨_, rfl, _, cap, rfl, ?_, hl, .inr ⟨g, 0, fps, hne, rfl, rfl, hr⟩⟩, ?_⟩
   ·rcases h.2 with ⟨h9, _⟩ | ⟨g', cap', cur', hv', _, _, hnc, _⟩
    ·cases h9
    ·injection hv' with _ _ e3'
     omega
   ·rw [hfl]; simp [Value.ownBlock]

theorem OwnR.upd {α : Type} [Rd α] {w0 w : World} {e : TypeId} {v : Value} {fps : List (List Nat)} {xs : List α} (h : OwnR w0 e w v fps xs) {i : Nat} (hi : i < xs.length) :
  ∃ g cap cs fq, v = .slice (some ⟨g, 0, none⟩) xs.length cap ∧ w0.heap.size ≤ g ∧ g < w.heap.size ∧ xs.length ≤ cap ∧ fps[i]? = some fq ∧ (∀ j u, cs[j]? = some u → w.cell? ⟨g, i * Rd.n α + j, none⟩ = some u) ∧ Rd.rd fq w cs xs[i] ∧
   (∀ o, w.frozen? ⟨g, o, none⟩ = false) ∧
   ∀ w1 j u fq' y, Wr fq w w1 → g ∉ fq → (∀ k (hk : k < fps.length), k ≠ i → ∀ c ∈ fps[k], c ∉ fq) → j < Rd.n α → g ∉ fq' → Rd.rd fq' (w1.setCell ⟨g, i * Rd.n α + j, none⟩ u) (cs.set j u) y → OwnR w0 e (w1.setCell ⟨g, i * Rd.n α + j, none⟩ u) v (fps.set i fq') (xs.set i y) := by
 have hfl := h.fl
 obtain ⟨⟨css, ho, hE⟩, ha⟩ := h
 have hcl := hE.cl
 have hp := Rd.pos (α := α)
 have hiN : (i + 1) * Rd.n α ≤ xs.length * Rd.n α := Nat.mul_le_mul_right _ hi
 rw [Nat.add_mul] at hiN
 rcases ho.2 with ⟨_, h0⟩ | ⟨g, cap, cur, rfl, hb, hg, hnc, hcm, hcs, htake⟩
 ·omega
 ·have hgl : g < w.heap.size := (Array.getElem?_eq_some_iff.1 hg).1
  have hic : i < css.length := by omega
  have hif : i < fps.length := by omega
  have hnn := hE.n
  have hcapN : xs.length * Rd.n α ≤ cap * Rd.n α := Nat.mul_le_mul_right _ hnc
  refine ⟨g, cap, css[i], fps[i], rfl, hb, hgl, hnc, List.getElem?_eq_getElem hif, fun j u hj => ?_, hE.rd i hi hic hif, fun o => frozen_block hg o, fun w1 j u fq' y hw hgq hap hj hgn hr => ?_⟩
  ·have hjl : j < Rd.n α := by rw [← hnn _ (List.getElem_mem hic)]; exact (List.getElem?_eq_some_iff.1 hj).1
   rw [cell_of_row w g _ cur e (0, 0) hg]
   have h3 : (cur.toList.take (xs.length * Rd.n α))[i * Rd.n α + j]? = css.flatten[i * Rd.n α + j]? := by rw [htake]
   rw [List.getElem?_take_of_lt (by omega), flat_get hnn hic hjl, hj] at h3
   simpa using h3
  ·have hw1g : w1.heap[g]? = some (.cells cur e) := by rw [hw.block g hgl hgq]; exact hg
   have hsetg : (w1.setCell ⟨g, i * Rd.n α + j, none⟩ u).heap[g]? = some (.cells (cur.setIfInBounds (i * Rd.n α + j) u) e) := by
    unfold World.setCell
    simp only [Array.getElem?_modify, if_pos]
    rw [hw1g]
    simp
   have hEs : Els (w1.setCell ⟨g, i * Rd.n α + j, none⟩ u) (css.set i (css[i].set j u)) (fps.set i fq') (xs.set i y) := by
    refine ⟨by simp [hcl], by simp [hfl], fun k h0 h1 h2 => ?_⟩
    simp only [List.length_set] at h0 h1 h2
    by_cases hki : k = i
    ·subst hki; simpa using hr
    ·rw [List.getElem_set_ne (fun e => hki e.symm), List.getElem_set_ne (fun e => hki e.symm), List.getElem_set_ne (fun e => hki e.symm)]
     refine Rd.mono (fun c hc => ?_) (hE.rd k h0 h1 h2)
     have hcl2 := hE.lt c (List.mem_flatten.2 ⟨_, List.getElem_mem h2, hc⟩)
     have hcg : c ≠ g := fun e => ha g rfl (by subst e; exact List.mem_flatten.2 ⟨_, List.getElem_mem h2, hc⟩)
     rw [heap_setCell hcg]
     exact hw.block c hcl2 (hap k h2 hki c hc)
   refine ⟨⟨_, ⟨?_, .inr ⟨g, cap, _, by simp, hb, hsetg, by simpa using hnc, hcm, by simpa using hcs, ?_⟩⟩, hEs⟩, fun b' hb' hm => ?_⟩
   ·rw [flat_len hEs.n]; simp [hcl]
   ·have hlen2 : (css.set i (css[i].set j u)).flatten.length = xs.length * Rd.n α := by rw [flat_len hEs.n]; simp [hcl]
    apply List.ext_getElem?
    intro m
    by_cases hm : m < xs.length * Rd.n α
    ·rw [List.length_set, List.getElem?_take_of_lt hm]
     have hd : m / Rd.n α * Rd.n α + m % Rd.n α = m := by rw [Nat.mul_comm]; exact Nat.div_add_mod m _
     have hq : m / Rd.n α < xs.length := Nat.div_lt_of_lt_mul (by rw [Nat.mul_comm]; exact hm)
     have hr2 := Nat.mod_lt m hp
     have h1 := flat_get hEs.n (i := m / Rd.n α) (j := m % Rd.n α) (by simp; omega) hr2
     rw [hd] at h1
     have h2 := flat_get hnn (i := m / Rd.n α) (j := m % Rd.n α) (by omega) hr2
     rw [hd] at h2
     have h3 : (cur.toList.take (xs.length * Rd.n α))[m]? = css.flatten[m]? := by rw [htake]
     rw [List.getElem?_take_of_lt hm] at h3
     rw [h1, Array.toList_setIfInBounds, List.getElem?_set]
     by_cases hqi : m / Rd.n α = i
     ·subst hqi
      simp only [List.getElem_set_self]
      rw [List.getElem?_set]
      by_cases hji : j = m % Rd.n α
      ·subst hji
       rw [if_pos hd, if_pos rfl, if_pos (by simp; omega), if_pos (by rw [hnn _ (List.getElem_mem hic)]; exact hr2)]
      ·rw [if_neg (by omega), if_neg hji, ← h2]
       exact h3
     ·rw [List.getElem_set_ne (fun e => hqi e.symm), ← h2]
      rw [if_neg]
      ·exact h3
      ·intro e
       apply hqi
       have : (i * Rd.n α + j) / Rd.n α = m / Rd.n α := congrArg (· / Rd.n α) e
       rw [Nat.mul_comm i, Nat.mul_add_div hp, Nat.div_eq_of_lt hj] at this
       omega
    ·rw [List.length_set, List.getElem?_eq_none (by simp; omega), List.getElem?_eq_none (by omega)]
   ·injection hb' with hb'
    subst hb'
    obtain ⟨f, hf, hcf⟩ := List.mem_flatten.1 hm
    rcases List.mem_or_eq_of_mem_set hf with hf | rfl
    ·exact ha g rfl (List.mem_flatten.2 ⟨f, hf, hcf⟩)
    ·exact hgn hcf

theorem nodup_set {fps : List (List Nat)} (h : fps.flatten.Nodup) {i : Nat} (hi : i < fps.length) {fq : List Nat} (hq : fq.Nodup) (hs : ∀ c ∈ fq, c ∈ fps[i] ∨ c ∉ fps.flatten) : (fps.set i fq).flatten.Nodup := by
 have h1 := List.pairwise_flatten.1 h
 have h2 := List.pairwise_iff_getElem.1 h1.2
 rw [List.Nodup, List.pairwise_flatten]
 have other : ∀ k (hk : k < fps.length), k ≠ i → ∀ x ∈ fps[k], ∀ y ∈ fq, x ≠ y := by
  intro k hk hki x hx y hy e
  subst e
  rcases hs x hy with h3 | h3
  ·rcases Nat.lt_or_gt_of_ne hki with hlt | hgt
   ·exact h2 k i hk hi hlt x hx x h3 rfl
   ·exact h2 i k hi hk hgt x h3 x hx rfl
  ·exact h3 (List.mem_flatten.2 ⟨_, List.getElem_mem hk, hx⟩)
 refine ⟨fun f hf => ?_, List.pairwise_iff_getElem.2 fun a b ha hb hab x hx y hy => ?_⟩
 ·rcases List.mem_or_eq_of_mem_set hf with hf | rfl
  ·exact h1.1 f hf
  ·exact hq
 ·have ha' : a < fps.length := by simpa using ha
  have hb' : b < fps.length := by simpa using hb
  by_cases hai : a = i
  ·subst hai
   rw [List.getElem_set_self] at hx
   rw [List.getElem_set_ne (by omega)] at hy
   exact (other b hb' (by omega) y hy x hx).symm
  ·rw [List.getElem_set_ne (fun e => hai e.symm)] at hx
   by_cases hbi : b = i
   ·subst hbi
    rw [List.getElem_set_self] at hy
    exact other a ha' hai x hx y hy
   ·rw [List.getElem_set_ne (fun e => hbi e.symm)] at hy
    exact h2 a b ha' hb' hab x hx y hy

theorem mem_set_flatten {fps : List (List Nat)} {i : Nat} {fq : List Nat} {c : Nat} (h : c ∈ (fps.set i fq).flatten) : c ∈ fps.flatten ∨ c ∈ fq := by
 obtain ⟨f, hf, hc⟩ := List.mem_flatten.1 h
 rcases List.mem_or_eq_of_mem_set hf with hf | rfl
 ·exact .inl (List.mem_flatten.2 ⟨f, hf, hc⟩)
 ·exact .inr hc
end Go.Proofs.Ytmfcagcanhmdbaa
