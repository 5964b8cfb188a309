/- More words: what is left of a bound; rows of cells written one by one; sums over lists. Contracts of the functions that measure and copy slices of numbers, and slices of these. Contracts of the functions that compare and copy slices of slices of numbers. A slice of texts measured, copied, compared. Made by mk_str.py. No condition. -/
import Derived.Test.YtmfcagcanhmdbaaE01
namespace Go.Proofs.Ytmfcagcanhmdbaa
open Go.RowKit

def wtL {α : Type} (f : α → Nat) (xs : List α) : Nat := xs.length + (xs.map f).sum

theorem sum_take_succ {α : Type} (f : α → Nat) (xs : List α) (k : Nat) (h : k < xs.length) : ((xs.take (k + 1)).map f).sum = ((xs.take k).map f).sum + f xs[k] := by
 rw [List.take_succ_eq_append_getElem h]
 simp only [List.map_append, List.sum_append, List.map_cons, List.map_nil, List.sum_cons, List.sum_nil, Nat.add_zero]

theorem sum_take_le {α : Type} (f : α → Nat) (xs : List α) (k : Nat) : ((xs.take k).map f).sum ≤ (xs.map f).sum := by
 have h : (xs.map f).sum = ((xs.take k).map f).sum + ((xs.drop k).map f).sum := by
  rw [← List.sum_append, ← List.map_append, List.take_append_drop]
 omega

theorem wtL_len {α : Type} (f : α → Nat) (xs : List α) : xs.length ≤ wtL f xs := by unfold wtL; omega

theorem wtL_at {α : Type} (f : α → Nat) (xs : List α) {k : Nat} (h : k < xs.length) : f xs[k] ≤ wtL f xs := by
 have h1 := sum_take_succ f xs k h
 have h2 := sum_take_le f xs (k + 1)
 unfold wtL
 omega

def setRow (C : Array Value) : Nat → List Value → Array Value
 | _, [] => C
 | o, v :: vs => setRow (C.setIfInBounds o v) (o + 1) vs

theorem Gr.keep {W w' : World} (h : Gr W w') {b o : Nat} {v : Value} (hc : W.cell? ⟨b, o, none⟩ = some v) : w'.cell? ⟨b, o, none⟩ = some v := by
 have := h.below.cell (p := ⟨b, o, none⟩) (blk hc)
 rw [this]; exact hc

theorem box_cell {A : World} {C : Array Value} {t : TypeId} {n j : Nat} {v : Value} (hn : n = A.heap.size) (hj : C[j]? = some v) : (A.alloc (.cells C t)).cell? ⟨n, j, none⟩ = some v := by
 subst hn; rw [World.cell?_alloc_new]; exact hj

theorem str_inj {a b : ByteArray} (h : a.toList = b.toList) : a = b := by
 rw [ByteArray.toList_eq, ByteArray.toList_eq] at h
 exact ByteArray.ext (Array.toList_inj.1 h)

theorem sameOn_moved {A A' : World} {x : Ext} {fp : List Nat} (hf : Fresh A fp) (hsz : A'.heap.size = A.heap.size) : SameOn fp (A.ext x) (A'.ext x) := by
 intro b hb
 have := hf.2 b hb
 simp only [World.ext, Array.getElem?_append, hsz]
 rw [if_neg (by omega), if_neg (by omega)]

theorem SlR.moved {α : Type} [Rd α] {A A' W : World} {x : Ext} {fp : List Nat} {v : Value} {xs : List α} (h : SlR fp (A.ext x) v xs) (hf : Fresh A fp) (hg : Gr (A'.ext x) W) (hsz : A'.heap.size = A.heap.size) : SlR fp W v xs :=
 (h.mono (sameOn_moved hf hsz)).gr hg

theorem Rd.moved {α : Type} [Rd α] {A A' W : World} {x : Ext} {fp : List Nat} {cs : List Value} {y : α} (h : Rd.rd fp (A.ext x) cs y) (hf : Fresh A fp) (hg : Gr (A'.ext x) W) (hsz : A'.heap.size = A.heap.size) : Rd.rd fp W cs y :=
 Rd.gr (Rd.mono (sameOn_moved hf hsz) h) hg

theorem Fresh.app {w B w1 : World} {fp fq : List Nat} (h : Fresh w fp) (hm : ∀ b ∈ fp, b < B.heap.size) (k : Fresh w1 fq) (hs : B.heap.size ≤ w1.heap.size) (hw : w.heap.size ≤ w1.heap.size) : Fresh w (fp ++ fq) :=
 h.append hw (fun b hb => Nat.lt_of_lt_of_le (hm b hb) hs) k

end Go.Proofs.Ytmfcagcanhmdbaa

namespace Go.Proofs.Ytmfcagcanhmdbaa
open Go.RowKit

end Go.Proofs.Ytmfcagcanhmdbaa

namespace Go.Proofs.Ytmfcagcanhmdbaa
open Go.RowKit

end Go.Proofs.Ytmfcagcanhmdbaa

namespace Go.Proofs.Ytmfcagcanhmdbaa
open Go.RowKit

def wtStringS (xs : List ByteArray) : Nat := wtL ByteArray.size xs

end Go.Proofs.Ytmfcagcanhmdbaa
