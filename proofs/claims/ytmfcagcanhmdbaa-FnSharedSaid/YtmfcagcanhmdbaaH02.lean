/- More words: what is left of a bound; rows of cells written one by one; sums over lists. Contracts of the functions that measure and copy slices of numbers, and slices of these. Contracts of the functions that compare and copy slices of slices of numbers. Contracts of the functions that measure, compare and copy: Node, Node*, Tree. Made by mk_fam.py. No condition. -/
import Derived.Test.YtmfcagcanhmdbaaH01
namespace Go.Proofs.Ytmfcagcanhmdbaa
open Go.RowKit

def wtL {α : Type} (f : α → Nat) (xs : List α) : Nat := xs.length + (xs.map f).sum

theorem sum_take_succ {α : Type} (f : α → Nat) (xs : List α) (k : Nat) (h : k < xs.length) : ((xs.take (k + 1)).map f).sum = ((xs.take k).map f).sum + f xs[k] := by
 rw [List.take_succ_eq_append_getElem h]
 simp only [List.map_append, List.sum_append, List.map_cons, List.map_nil, List.sum_cons, List.sum_nil, Nat.add_zero]

theorem sum_take_le {α : Type} (f : α → Nat) (xs : List α) (k : Nat) : ((xs.take k).map f).sum ≤ (xs.map f).sum := by
 have h : (xs.map f).sum = ((xs.take k).map f).sum + ((xs.drop k).map f).sum := by
  rw [← List.sum_append, ← List.map_append, List.take_append_drop]
 omega

theorem wtL_len {α : Type} (f : α → Nat) (xs : List α) : xs.length ≤ wtL f xs := by unfold wtL; omega

theorem wtL_at {α : Type} (f : α → Nat) (xs : List α) {k : Nat} (h : k < xs.length) : f xs[k] ≤ wtL f xs := by
 have h1 := sum_take_succ f xs k h
 have h2 := sum_take_le f xs (k + 1)
 unfold wtL
 omega

def setRow (C : Array Value) : Nat → List Value → Array Value
 | _, [] => C
 | o, v :: vs => setRow (C.setIfInBounds o v) (o + 1) vs

theorem Gr.keep {W w' : World} (h : Gr W w') {b o : Nat} {v : Value} (hc : W.cell? ⟨b, o, none⟩ = some v) : w'.cell? ⟨b, o, none⟩ = some v := by
 have := h.below.cell (p := ⟨b, o, none⟩) (blk hc)
 rw [this]; exact hc

theorem box_cell {A : World} {C : Array Value} {t : TypeId} {n j : Nat} {v : Value} (hn : n = A.heap.size) (hj : C[j]? = some v) : (A.alloc (.cells C t)).cell? ⟨n, j, none⟩ = some v := by
 subst hn; rw [World.cell?_alloc_new]; exact hj

theorem str_inj {a b : ByteArray} (h : a.toList = b.toList) : a = b := by
 rw [ByteArray.toList_eq, ByteArray.toList_eq] at h
 exact ByteArray.ext (Array.toList_inj.1 h)

theorem sameOn_moved {A A' : World} {x : Ext} {fp : List Nat} (hf : Fresh A fp) (hsz : A'.heap.size = A.heap.size) : SameOn fp (A.ext x) (A'.ext x) := by
 intro b hb
 have := hf.2 b hb
 simp only [World.ext, Array.getElem?_append, hsz]
 rw [if_neg (by omega), if_neg (by omega)]

theorem SlR.moved {α : Type} [Rd α] {A A' W : World} {x : Ext} {fp : List Nat} {v : Value} {xs : List α} (h : SlR fp (A.ext x) v xs) (hf : Fresh A fp) (hg : Gr (A'.ext x) W) (hsz : A'.heap.size = A.heap.size) : SlR fp W v xs :=
 (h.mono (sameOn_moved hf hsz)).gr hg

theorem Rd.moved {α : Type} [Rd α] {A A' W : World} {x : Ext} {fp : List Nat} {cs : List Value} {y : α} (h : Rd.rd fp (A.ext x) cs y) (hf : Fresh A fp) (hg : Gr (A'.ext x) W) (hsz : A'.heap.size = A.heap.size) : Rd.rd fp W cs y :=
 Rd.gr (Rd.mono (sameOn_moved hf hsz) h) hg

theorem Fresh.app {w B w1 : World} {fp fq : List Nat} (h : Fresh w fp) (hm : ∀ b ∈ fp, b < B.heap.size) (k : Fresh w1 fq) (hs : B.heap.size ≤ w1.heap.size) (hw : w.heap.size ≤ w1.heap.size) : Fresh w (fp ++ fq) :=
 h.append hw (fun b hb => Nat.lt_of_lt_of_le (hm b hb) hs) k

end Go.Proofs.Ytmfcagcanhmdbaa

namespace Go.Proofs.Ytmfcagcanhmdbaa
open Go.RowKit

theorem Try.infoInt : (Try.prog.info? 3).map (fun i => (i.zero, i.size, i.bytes)) = some (some (.int .i64 0), 1, 8) := by kernel_rfl

end Go.Proofs.Ytmfcagcanhmdbaa

namespace Go.Proofs.Ytmfcagcanhmdbaa
open Go.RowKit

end Go.Proofs.Ytmfcagcanhmdbaa

namespace Go.Proofs.Ytmfcagcanhmdbaa
open Go.RowKit

abbrev GNode := Int × Int × Int × Int × ByteArray × List Int
def wtNode (x : GNode) : Nat := x.2.2.2.2.1.size + x.2.2.2.2.2.length
instance decNode : DecidableEq GNode := @instDecidableEqProd _ _ _ (@instDecidableEqProd _ _ _ (@instDecidableEqProd _ _ _ (@instDecidableEqProd _ _ _ (@instDecidableEqProd _ _ _ (inferInstance)))))

theorem rdNode_inv {fp : List Nat} {w : World} {cs : Array Value} (q0 : Int) (q1 : Int) (q2 : Int) (q3 : Int) (q4 : ByteArray) (q5 : List Int) (h : Rd.rd (α := GNode) fp w cs.toList (q0, q1, q2, q3, q4, q5)) :
  ∃ vq5 fq5, cs = #[.int .i64 q0, .int .i64 q1, .int .i64 q2, .int .i64 q3, .string q4, vq5] ∧ fp = ([] ++ ([] ++ ([] ++ ([] ++ ([] ++ fq5))))) ∧ (Lit.int .i64 q0).wf = true ∧ (Lit.int .i64 q1).wf = true ∧ (Lit.int .i64 q2).wf = true ∧ (Lit.int .i64 q3).wf = true ∧ q4.size ≤ maxLen ∧ SlR fq5 w vq5 q5 := by
 generalize hcs : cs.toList = l at h
 obtain ⟨_, _, _, _, rfl, rfl, ⟨rfl, rfl, hq0⟩, ⟨_, _, _, _, rfl, rfl, ⟨rfl, rfl, hq1⟩, ⟨_, _, _, _, rfl, rfl, ⟨rfl, rfl, hq2⟩, ⟨_, _, _, _, rfl, rfl, ⟨rfl, rfl, hq3⟩, ⟨_, _, _, _, rfl, rfl, ⟨rfl, rfl, hq4⟩, ⟨vq5, rfl, hq5⟩⟩⟩⟩⟩⟩ := h
 exact ⟨_, _, Array.toList_inj.1 (by simpa using hcs), rfl, hq0, hq1, hq2, hq3, hq4, hq5⟩

theorem rdNode_mk {w : World} (q0 : Int) (q1 : Int) (q2 : Int) (q3 : Int) (q4 : ByteArray) (q5 : List Int) {vq5 : Value} {fq5 : List Nat} (hq0 : (Lit.int .i64 q0).wf = true) (hq1 : (Lit.int .i64 q1).wf = true) (hq2 : (Lit.int .i64 q2).wf = true) (hq3 : (Lit.int .i64 q3).wf = true) (hq4 : q4.size ≤ maxLen) (hq5 : SlR fq5 w vq5 q5) :
  Rd.rd (α := GNode) (([] ++ ([] ++ ([] ++ ([] ++ ([] ++ fq5)))))) w [.int .i64 q0, .int .i64 q1, .int .i64 q2, .int .i64 q3, .string q4, vq5] (q0, q1, q2, q3, q4, q5) := ⟨_, _, _, _, rfl, rfl, ⟨rfl, rfl, hq0⟩, ⟨_, _, _, _, rfl, rfl, ⟨rfl, rfl, hq1⟩, ⟨_, _, _, _, rfl, rfl, ⟨rfl, rfl, hq2⟩, ⟨_, _, _, _, rfl, rfl, ⟨rfl, rfl, hq3⟩, ⟨_, _, _, _, rfl, rfl, ⟨rfl, rfl, hq4⟩, ⟨_, rfl, hq5⟩⟩⟩⟩⟩⟩

def wtNodeS (xs : List GNode) : Nat := wtL wtNode xs

theorem Try.infoNode : (Try.prog.info? 86).map (fun i => (i.zero, i.size, i.bytes)) = some (some (.agg #[.int .i64 0, .int .i64 0, .int .i64 0, .int .i64 0, .string ByteArray.empty, .slice none 0 0]), 6, 72) := by kernel_rfl

abbrev GTree := List GNode
def wtTree (x : GTree) : Nat := wtNodeS x

theorem rdTree_inv {fp : List Nat} {w : World} {cs : Array Value} (q0 : List GNode) (h : Rd.rd (α := GTree) fp w cs.toList q0) :
  ∃ vq0 fq0, cs = #[vq0] ∧ fp = fq0 ∧ SlR fq0 w vq0 q0 := by
 generalize hcs : cs.toList = l at h
 obtain ⟨vq0, rfl, hq0⟩ := h
 exact ⟨_, _, Array.toList_inj.1 (by simpa using hcs), rfl, hq0⟩

theorem rdTree_shape {fp : List Nat} {w : World} {cs : Array Value} {x : GTree} (h : Rd.rd (α := GTree) fp w cs.toList x) :
  ∃ aq0 lq0 cq0, cs = #[.slice aq0 lq0 cq0] := by
 obtain ⟨q0, rfl⟩ : ∃ yy, yy = x := ⟨_, rfl⟩
 obtain ⟨vq0, fq0, rfl, -, hq0⟩ := rdTree_inv q0 h
 obtain ⟨aq0, cq0, rfl, -, -, -⟩ := hq0.open
 exact ⟨_, _, _, rfl⟩

theorem rdTree_mk {w : World} (q0 : List GNode) {vq0 : Value} {fq0 : List Nat} (hq0 : SlR fq0 w vq0 q0) :
  Rd.rd (α := GTree) (fq0) w [vq0] q0 := ⟨_, rfl, hq0⟩

end Go.Proofs.Ytmfcagcanhmdbaa
