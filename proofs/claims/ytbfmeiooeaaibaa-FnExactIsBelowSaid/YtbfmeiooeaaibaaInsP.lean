/- The instances of a tree: plain words, and a row of one's own that is handed back. No condition. -/
import Derived.Test.YtbfmeiooeaaibaaTreeJ
namespace Go.Proofs.Ytbfmeiooeaaibaa
open Go.RowKit
variable {d : Nat}
set_option linter.unusedVariables false

theorem Try.infoInstC : (Try.prog.info? 57).map (fun i => (i.zero, i.size, i.bytes)) = some (some (.agg #[.int .i64 0, .string ByteArray.empty]), 2, 24) := by kernel_rfl

/-- A function hands back a row in new memory. -/
def MadeS {α : Type} [Rd α] (w : World) (xs : List α) (e : Ending) (w' : World) : Prop :=
  ∃ v fq, e = .returned v ∧ SlR fq w' v xs ∧ Fresh w fq ∧ Gr w w'

theorem getD_len {ss : List GSymbol} (h : wtSymbolS ss ≤ 1048576) (n : ByteArray) : ((lookS ss n).getD zeroS).2.length ≤ 1048576 := by
  unfold lookS
  cases hf : ss.find? (fun s => decide (s.1 = n)) with
  | none => simp [zeroS]
  | some y =>
    have hm := List.mem_of_find?_eq_some hf
    obtain ⟨i, hi, rfl⟩ := List.mem_iff_getElem.1 hm
    have h1 := wtL_at wtSymbol ss hi
    have h2 : (ss[i].2).length ≤ wtSymbol ss[i] := Nat.le_trans (wtL_len wtAttribute _) (Nat.le_add_left _ _)
    have h3 : wtL wtSymbol ss ≤ 1048576 := h
    rw [Option.getD_some]
    omega

theorem flatMap_len {α β : Type} (f : α → List β) (M : Nat) (l : List α) (h : ∀ x ∈ l, (f x).length ≤ M) : (l.flatMap f).length ≤ l.length * M := by
  induction l with
  | nil => simp
  | cons a l ih =>
    rw [List.flatMap_cons, List.length_append, List.length_cons, Nat.add_mul]
    have := h a (by simp)
    have := ih (fun x hx => h x (List.mem_cons_of_mem _ hx))
    omega

theorem instN_len {g : GGrammar d} (h : wtGrammar g ≤ 1048576) (n : GNode) : (instN g n).length ≤ 1048576 := by
  unfold instN
  rw [List.length_map]
  have hw : wtSymbolS g.1 + wtRuleS g.2 ≤ 1048576 := h
  exact getD_len (by omega) _

theorem insts_len {g : GGrammar d} (h : wtGrammar g ≤ 1048576) {t : List GNode} (ht : isTreeB g t = true) (k : Nat) : ((t.take k).flatMap (instN g)).length ≤ 16777216 := by
  have h1 := flatMap_len (instN g) 1048576 (t.take k) (fun x _ => instN_len h x)
  have h2 : (t.take k).length ≤ 16 := by
    have := (treeOf_iff.1 ht).1.2
    rw [List.length_take]; omega
  have := Nat.mul_le_mul_right 1048576 h2
  omega

/-- The box of a symbol that was found. -/
def SymBox (w W : World) (y : GSymbol) (s : Value) (wr : World) : Prop :=
  ∃ b v fq, s = .pointer (some ⟨b, 0, none⟩) ∧ Gr W wr ∧ wr.cell? ⟨b, 0, none⟩ = some (.string y.1) ∧ wr.cell? ⟨b, 1, none⟩ = some v ∧ SlR fq wr v y.2 ∧ y.1.size ≤ maxLen ∧ W.heap.size ≤ b ∧ ∀ c ∈ fq, c < w.heap.size ∨ W.heap.size ≤ c

theorem SlR.blk_mem {α : Type} [Rd α] {fp : List Nat} {w : World} {b off len cap : Nat} {xs : List α} (h : SlR fp w (.slice (some ⟨b, off, none⟩) len cap) xs) (hn : xs ≠ []) : b ∈ fp := by
  obtain ⟨a, c, hv, _, _, ⟨h0, _⟩ | ⟨b', off', fps, _, rfl, rfl, _⟩⟩ := h
  · exact absurd h0 hn
  · injection hv with e1 _ _
    injection e1 with e1
    injection e1 with e1 _ _
    subst e1
    simp

theorem sameOn_box {A : World} {o o' : Obj} {x : Ext} {fp : List Nat} (h : ∀ c ∈ fp, c ≠ A.heap.size) : SameOn fp ((A.alloc o).ext x) ((A.alloc o').ext x) := fun c hc => heap_own x (h c hc)
theorem sameOn_box2 {A : World} {o o' : Obj} {x y : Ext} {fp : List Nat} (h : ∀ c ∈ fp, c ≠ A.heap.size) : SameOn fp (((A.alloc o).ext x).ext y) (((A.alloc o').ext x).ext y) := by
  rw [ext_ext, ext_ext]; exact sameOn_box h

theorem sameOn_box3 {A : World} {o o' : Obj} {x y z : Ext} {fp : List Nat} (h : ∀ c ∈ fp, c ≠ A.heap.size) : SameOn fp ((((A.alloc o).ext x).ext y).ext z) ((((A.alloc o').ext x).ext y).ext z) := by
  rw [ext_ext, ext_ext, ext_ext, ext_ext]; exact sameOn_box h

/-- More writes into a row of one's own that may have moved into a new block. -/
theorem Wr.more {o0 o1 : Option Nat} {W wr w3 : World} (h : Wr o0.toList W wr) (hv : o1 = o0 ∨ ∃ n, o1 = some n ∧ W.heap.size ≤ n) (k : Wr o1.toList wr w3) : Wr o0.toList W w3 :=
  ⟨k.os.trans h.os, k.tape.trans h.tape, k.output.trans h.output, Nat.le_trans h.size k.size, Nat.le_trans h.drawn k.drawn, fun b hb hn => (k.block b (Nat.lt_of_lt_of_le hb h.size) (by
    rcases hv with rfl | ⟨n, rfl, hn2⟩
    · exact hn
    · simp; omega)).trans (h.block b hb hn)⟩
theorem own_moves {o0 o1 o2 : Option Nat} {W wr : World} (hv : o1 = o0 ∨ ∃ n, o1 = some n ∧ W.heap.size ≤ n) (k : o2 = o1 ∨ o2 = some wr.heap.size) (hs : W.heap.size ≤ wr.heap.size) : o2 = o0 ∨ ∃ n, o2 = some n ∧ W.heap.size ≤ n := by
  rcases k with rfl | rfl
  · exact hv
  · exact .inr ⟨_, rfl, hs⟩
end Go.Proofs.Ytbfmeiooeaaibaa
