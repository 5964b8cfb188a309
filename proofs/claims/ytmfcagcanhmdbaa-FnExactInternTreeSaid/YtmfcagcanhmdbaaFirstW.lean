/- A world with its first blocks alone: the growth that an append wants where older blocks are written. No condition. -/
import Derived.Test.YtmfcagcanhmdbaaMarkBase
namespace Go.Proofs.Ytmfcagcanhmdbaa
open Go.RowKit

theorem Wr.new {fp fq : List Nat} {a c d : World} (h : Wr fp a c) (k : Wr fq c d) (hn : ∀ x ∈ fq, a.heap.size ≤ x) : Wr fp a d :=
  ⟨k.os.trans h.os, k.tape.trans h.tape, k.output.trans h.output, Nat.le_trans h.size k.size, Nat.le_trans h.drawn k.drawn,
    fun x hx hm => (k.block x (Nat.lt_of_lt_of_le hx h.size) (fun e => by have := hn x e; omega)).trans (h.block x hx hm)⟩

/-- A world with its first n blocks alone. -/
def _root_.Go.World.first (w : World) (n : Nat) : World := { w with heap := w.heap.extract 0 n }
theorem size_first {w : World} {n : Nat} (h : n ≤ w.heap.size) : (w.first n).heap.size = n := by
  simp [World.first]; omega
theorem gr_first {w : World} {n : Nat} (h : n ≤ w.heap.size) : Gr (w.first n) w := by
  refine Gr.of_below ⟨rfl, rfl, rfl, by rw [size_first h]; exact h, fun b hb => ?_⟩ (Nat.le_refl _)
  rw [size_first h] at hb
  simp [World.first, Array.getElem?_extract]
  intro hn
  omega

/-- Writes into blocks that are new, or written already. -/
theorem Wr.more2 {fp fq : List Nat} {a c d : World} (h : Wr fp a c) (k : Wr fq c d) (hn : ∀ x ∈ fq, x ∈ fp ∨ a.heap.size ≤ x) : Wr fp a d :=
  ⟨k.os.trans h.os, k.tape.trans h.tape, k.output.trans h.output, Nat.le_trans h.size k.size, Nat.le_trans h.drawn k.drawn,
    fun x hx hm => (k.block x (Nat.lt_of_lt_of_le hx h.size) (fun e => (hn x e).elim (fun h => hm h) (fun h => by omega))).trans (h.block x hx hm)⟩

theorem SlR.blk_in {α : Type} [Rd α] {fp : List Nat} {w : World} {b off len cap : Nat} {xs : List α} (h : SlR fp w (.slice (some ⟨b, off, none⟩) len cap) xs) (hn : xs ≠ []) : b ∈ fp := by
  obtain ⟨a, c, hv, _, _, ⟨h0, _⟩ | ⟨b', off', fps, _, rfl, rfl, _⟩⟩ := h
  · exact absurd h0 hn
  · injection hv with e1 _ _
    injection e1 with e1
    injection e1 with e1 _ _
    subst e1
    simp

/-- A world without a block, of which any world behind writes has grown. -/
theorem Wr.ofNone {E w w' : World} {fp : List Nat} (hz : E.heap.size = 0) (h : Gr E w) (k : Wr fp w w') : Gr E w' := h.wr k (fun b _ => by omega)
end Go.Proofs.Ytmfcagcanhmdbaa
