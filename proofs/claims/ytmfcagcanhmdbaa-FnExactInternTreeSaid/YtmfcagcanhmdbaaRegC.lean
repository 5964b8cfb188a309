/- A copy of a row inside a region that draws its order. No condition. -/
import Derived.Test.YtmfcagcanhmdbaaRegU
import Derived.Test.YtmfcagcanhmdbaaOwnBox
import Derived.Test.YtmfcagcanhmdbaaCloneI
namespace Go.Proofs.Ytmfcagcanhmdbaa
open Go.RowKit

section
variable {P : Program}
/-- A slice appended to an empty row of one's own, in a region. -/
theorem step_clone {α : Type} [Rd α] (hF : FlatT α) {w W : World} (hG : Gr w W) {ops : Array Oper} {o : Oper} {a : Act} {K : Act → World → Prop} {Q : Exit → Act → World → Prop} {E : Prop} (hgd : o.guard = none) (s x : Operand) (t : TypeId)
    (ho : o.op = .call { callee := .builtin .append, args := #[s, x], argTypes := #[t, t] })
    (e : TypeId) (i : TypeInfo) (z : Value) (bytes : Nat) (ht : P.underlying t = some (.slice e)) (hi : P.info? e = some i) (hz : i.zero = some z)
    (hsize : i.size = Rd.n α) (hby : i.bytes = bytes) (hzs : z.cells.size = Rd.n α)
    (v : Value) (hs : a.eval s = v) (hown : OwnR (α := α) w e W v [] []) (hblk : v.ownBlock ≠ none) {fp : List Nat} (xv : Value) (ys : List α) (hx : a.eval x = xv) (hsrc : SlR fp W xv ys)
    (hlen : ys.length ≤ 1048576) (hbytes : ys.length * bytes ≤ 140737488355328)
    (h : ∀ b c fq y, SlR fq (w.ext y) (.slice (some ⟨b, 0, none⟩) ys.length c) ys → Fresh w fq → Gr w (w.ext y) → w.heap.size ≤ b → Wr v.ownBlock.toList W (w.ext y) → (∀ c ∈ fq, v.ownBlock = some c ∨ W.heap.size ≤ c) → K (a.put o.dst (.slice (some ⟨b, 0, none⟩) ys.length c)) (w.ext y)) :
    if Region.wanted o (yielded ops a.tmps) = true then Oper.wp P o a W K Q else E := by
  obtain ⟨gps, hS, -, -⟩ := SrcR.of_slR hsrc
  have hfl := hS.flat hF
  refine step_append_RB (α := α) (wg := w) (w0 := w) hG (Nat.le_refl _) hG.size hgd s x t ho e i z bytes ht hi hz hsize hby hzs v [] [] hs hown xv gps ys hx hS (fun b hb => by rw [hfl]; simp) (by simp only [List.length_nil, maxLen]; omega) (by simpa using hbytes) ?_
  intro v' w' h1 h2 h3 h4
  obtain ⟨y, rfl⟩ := h4
  simp only [List.nil_append] at h1
  have h5 : ∃ fq, SlR fq (w.ext y) v' ys ∧ Fresh w fq ∧ ∀ c ∈ fq, v.ownBlock = some c ∨ W.heap.size ≤ c := by
    obtain ⟨fp, hs, ⟨rfl, rfl⟩ | ⟨b, hb, rfl⟩⟩ := h1.slR (by unfold reachLen; omega)
    · exact ⟨[], hs, Fresh.nil _, by simp⟩
    · rw [hfl] at hs
      refine ⟨_, hs, Fresh.cons (h1.base b hb).1, fun c hc => ?_⟩
      obtain rfl : c = b := by simpa using hc
      rcases h3 with h3 | h3
      · exact .inl (h3.symm.trans hb)
      · rw [hb] at h3; injection h3 with h3; exact .inr (by omega)
  obtain ⟨fq, hs2, hf2, hq2⟩ := h5
  have hb := h1.base
  have hv : ∃ b c, v' = .slice (some ⟨b, 0, none⟩) ys.length c := by
    obtain ⟨⟨css, ho, hE⟩, ha⟩ := h1
    rcases ho.2 with ⟨rfl, h0⟩ | ⟨g, cap, cur, rfl, _⟩
    · rcases h3 with h3 | h3
      · exact absurd h3.symm hblk
      · simp [Value.ownBlock] at h3
    · exact ⟨g, cap, rfl⟩
  obtain ⟨b, c, rfl⟩ := hv
  exact h b c fq y hs2 hf2 ⟨y, rfl⟩ (hb b rfl).1 h2 hq2
end
/-- A box that is older than a row of one's own: writes into the row leave it, writes into it leave the row. -/
theorem own_new {α : Type} [Rd α] {w0 w : World} {e : TypeId} {v : Value} {fps : List (List Nat)} {xs : List α} (h : OwnR w0 e w v fps xs) {b : Nat} (hb : b < w0.heap.size) : b ∉ v.ownBlock.toList := by
  intro hm
  have := (h.base b (by simpa using hm)).1
  omega
theorem Wr.keepC {fp : List Nat} {w w' : World} (h : Wr fp w w') {b o : Nat} {v : Value} (hc : w.cell? ⟨b, o, none⟩ = some v) (hn : b ∉ fp) : w'.cell? ⟨b, o, none⟩ = some v :=
  (World.cell?_of_block (a := ⟨b, o, none⟩) (h.block b (blk hc) hn)).trans hc
theorem OwnR.setOld {α : Type} [Rd α] {w0 w : World} {e : TypeId} {v : Value} {fps : List (List Nat)} {xs : List α} (h : OwnR w0 e w v fps xs) (hf : Fresh w0 fps.flatten) {b o : Nat} {u : Value} (hb : b < w0.heap.size) : OwnR w0 e (w.setCell ⟨b, o, none⟩ u) v fps xs :=
  h.wr ((Wr.refl [b] w).setCell (by simp) u) (fun c hc hm => by
    obtain rfl : c = b := by simpa using hm
    have := hf.2 c hc
    omega) (fun c hc hm => by
    obtain rfl : c = b := by simpa using hm
    have := (h.base c hc).1
    omega)
theorem SlR.setAt {α : Type} [Rd α] {fq : List Nat} {w : World} {v : Value} {xs : List α} (h : SlR fq w v xs) {b o : Nat} {u : Value} (hb : b ∉ fq) : SlR fq (w.setCell ⟨b, o, none⟩ u) v xs :=
  h.wr ((Wr.refl [b] w).setCell (by simp) u) (fun c hc hm => by
    obtain rfl : c = b := by simpa using hm
    exact hb hc)
end Go.Proofs.Ytmfcagcanhmdbaa
