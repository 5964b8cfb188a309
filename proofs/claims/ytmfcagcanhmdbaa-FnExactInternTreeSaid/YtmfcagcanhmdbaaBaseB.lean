/- More words: what is left of a bound; rows of cells written one by one; sums over lists. No condition. -/
import Derived.Test.YtmfcagcanhmdbaaOpens
namespace Go.Proofs.Ytmfcagcanhmdbaa
open Go.RowKit

/-- What is left of a bound behind n things, -1 if it is passed. -/
def less (left : Int) (n : Nat) : Int := if left - n < 0 then -1 else left - n

theorem less_cases (left : Int) (n : Nat) : (0 ≤ less left n ∧ less left n = left - n) ∨ (less left n = -1 ∧ left < n) := by
  unfold less; split <;> omega

theorem less_less (left : Int) (a b : Nat) : less (less left a) b = less left (a + b) := by
  unfold less
  split <;> split <;> split <;> omega

theorem less_le (left : Int) (n : Nat) (h : -1 ≤ left) : less left n ≤ left ∧ -1 ≤ less left n := by
  unfold less; split <;> omega

theorem less_mono {left : Int} {a b : Nat} (h : less left a < 0) (hab : a ≤ b) (_h0 : 0 ≤ left) : less left b = -1 := by
  unfold less at *
  split at h
  · rw [if_pos (by omega)]
  · omega

/-- How much a list weighs: one for each element, and what it weighs. -/
def wtL {α : Type} (f : α → Nat) (xs : List α) : Nat := xs.length + (xs.map f).sum

theorem sum_take_succ {α : Type} (f : α → Nat) (xs : List α) (k : Nat) (h : k < xs.length) : ((xs.take (k + 1)).map f).sum = ((xs.take k).map f).sum + f xs[k] := by
  rw [List.take_succ_eq_append_getElem h]
  simp only [List.map_append, List.sum_append, List.map_cons, List.map_nil, List.sum_cons, List.sum_nil, Nat.add_zero]

theorem sum_take_le {α : Type} (f : α → Nat) (xs : List α) (k : Nat) : ((xs.take k).map f).sum ≤ (xs.map f).sum := by
  have h : (xs.map f).sum = ((xs.take k).map f).sum + ((xs.drop k).map f).sum := by
    rw [← List.sum_append, ← List.map_append, List.take_append_drop]
  omega

theorem wtL_len {α : Type} (f : α → Nat) (xs : List α) : xs.length ≤ wtL f xs := by unfold wtL; omega

theorem wtL_at {α : Type} (f : α → Nat) (xs : List α) {k : Nat} (h : k < xs.length) : f xs[k] ≤ wtL f xs := by
  have h1 := sum_take_succ f xs k h
  have h2 := sum_take_le f xs (k + 1)
  unfold wtL
  omega

/-- A row of cells written one by one. -/
def setRow (C : Array Value) : Nat → List Value → Array Value
  | _, [] => C
  | o, v :: vs => setRow (C.setIfInBounds o v) (o + 1) vs

theorem setRow_size (vs : List Value) : ∀ (C : Array Value) (o : Nat), (setRow C o vs).size = C.size := by
  induction vs with
  | nil => intro C o; rfl
  | cons v vs ih => intro C o; rw [setRow, ih]; simp

theorem setRow_lt (vs : List Value) : ∀ (C : Array Value) (o j : Nat), j < o → (setRow C o vs)[j]? = C[j]? := by
  induction vs with
  | nil => intro C o j _; rfl
  | cons v vs ih =>
    intro C o j h
    rw [setRow, ih _ _ _ (by omega), Array.getElem?_setIfInBounds, if_neg (by omega)]

theorem setRow_get (vs : List Value) : ∀ (C : Array Value) (o : Nat), o + vs.length ≤ C.size → ∀ j u, vs[j]? = some u → (setRow C o vs)[o + j]? = some u := by
  induction vs with
  | nil => intro C o _ j u h; simp at h
  | cons v vs ih =>
    intro C o hl j u h
    simp only [List.length_cons] at hl
    cases j with
    | zero =>
      simp at h
      subst h
      rw [Nat.add_zero, setRow, setRow_lt _ _ _ _ (by omega), Array.getElem?_setIfInBounds, if_pos rfl, if_pos (by omega)]
    | succ j =>
      rw [setRow, show o + (j + 1) = o + 1 + j by omega]
      exact ih _ _ (by simp; omega) j u (by simpa using h)

theorem setRow_1 {C : Array Value} {o : Nat} {v0 : Value} : setRow C o [v0] = (C.setIfInBounds (o) v0) := by
  simp only [setRow]

theorem setRow_2 {C : Array Value} {o : Nat} {v0 v1 : Value} : setRow C o [v0, v1] = ((C.setIfInBounds (o) v0).setIfInBounds (o + 1) v1) := by
  simp only [setRow]

theorem setRow_3 {C : Array Value} {o : Nat} {v0 v1 v2 : Value} : setRow C o [v0, v1, v2] = (((C.setIfInBounds (o) v0).setIfInBounds (o + 1) v1).setIfInBounds (o + 2) v2) := by
  simp only [setRow, Nat.add_assoc, Nat.reduceAdd]

theorem setRow_4 {C : Array Value} {o : Nat} {v0 v1 v2 v3 : Value} : setRow C o [v0, v1, v2, v3] = ((((C.setIfInBounds (o) v0).setIfInBounds (o + 1) v1).setIfInBounds (o + 2) v2).setIfInBounds (o + 3) v3) := by
  simp only [setRow, Nat.add_assoc, Nat.reduceAdd]

theorem setRow_5 {C : Array Value} {o : Nat} {v0 v1 v2 v3 v4 : Value} : setRow C o [v0, v1, v2, v3, v4] = (((((C.setIfInBounds (o) v0).setIfInBounds (o + 1) v1).setIfInBounds (o + 2) v2).setIfInBounds (o + 3) v3).setIfInBounds (o + 4) v4) := by
  simp only [setRow, Nat.add_assoc, Nat.reduceAdd]

theorem setRow_6 {C : Array Value} {o : Nat} {v0 v1 v2 v3 v4 v5 : Value} : setRow C o [v0, v1, v2, v3, v4, v5] = ((((((C.setIfInBounds (o) v0).setIfInBounds (o + 1) v1).setIfInBounds (o + 2) v2).setIfInBounds (o + 3) v3).setIfInBounds (o + 4) v4).setIfInBounds (o + 5) v5) := by
  simp only [setRow, Nat.add_assoc, Nat.reduceAdd]

theorem setRow_7 {C : Array Value} {o : Nat} {v0 v1 v2 v3 v4 v5 v6 : Value} : setRow C o [v0, v1, v2, v3, v4, v5, v6] = (((((((C.setIfInBounds (o) v0).setIfInBounds (o + 1) v1).setIfInBounds (o + 2) v2).setIfInBounds (o + 3) v3).setIfInBounds (o + 4) v4).setIfInBounds (o + 5) v5).setIfInBounds (o + 6) v6) := by
  simp only [setRow, Nat.add_assoc, Nat.reduceAdd]

theorem setRow_8 {C : Array Value} {o : Nat} {v0 v1 v2 v3 v4 v5 v6 v7 : Value} : setRow C o [v0, v1, v2, v3, v4, v5, v6, v7] = ((((((((C.setIfInBounds (o) v0).setIfInBounds (o + 1) v1).setIfInBounds (o + 2) v2).setIfInBounds (o + 3) v3).setIfInBounds (o + 4) v4).setIfInBounds (o + 5) v5).setIfInBounds (o + 6) v6).setIfInBounds (o + 7) v7) := by
  simp only [setRow, Nat.add_assoc, Nat.reduceAdd]

theorem setRow_9 {C : Array Value} {o : Nat} {v0 v1 v2 v3 v4 v5 v6 v7 v8 : Value} : setRow C o [v0, v1, v2, v3, v4, v5, v6, v7, v8] = (((((((((C.setIfInBounds (o) v0).setIfInBounds (o + 1) v1).setIfInBounds (o + 2) v2).setIfInBounds (o + 3) v3).setIfInBounds (o + 4) v4).setIfInBounds (o + 5) v5).setIfInBounds (o + 6) v6).setIfInBounds (o + 7) v7).setIfInBounds (o + 8) v8) := by
  simp only [setRow, Nat.add_assoc, Nat.reduceAdd]

theorem setRow_10 {C : Array Value} {o : Nat} {v0 v1 v2 v3 v4 v5 v6 v7 v8 v9 : Value} : setRow C o [v0, v1, v2, v3, v4, v5, v6, v7, v8, v9] = ((((((((((C.setIfInBounds (o) v0).setIfInBounds (o + 1) v1).setIfInBounds (o + 2) v2).setIfInBounds (o + 3) v3).setIfInBounds (o + 4) v4).setIfInBounds (o + 5) v5).setIfInBounds (o + 6) v6).setIfInBounds (o + 7) v7).setIfInBounds (o + 8) v8).setIfInBounds (o + 9) v9) := by
  simp only [setRow, Nat.add_assoc, Nat.reduceAdd]

theorem setRow_11 {C : Array Value} {o : Nat} {v0 v1 v2 v3 v4 v5 v6 v7 v8 v9 v10 : Value} : setRow C o [v0, v1, v2, v3, v4, v5, v6, v7, v8, v9, v10] = (((((((((((C.setIfInBounds (o) v0).setIfInBounds (o + 1) v1).setIfInBounds (o + 2) v2).setIfInBounds (o + 3) v3).setIfInBounds (o + 4) v4).setIfInBounds (o + 5) v5).setIfInBounds (o + 6) v6).setIfInBounds (o + 7) v7).setIfInBounds (o + 8) v8).setIfInBounds (o + 9) v9).setIfInBounds (o + 10) v10) := by
  simp only [setRow, Nat.add_assoc, Nat.reduceAdd]

theorem setRow_12 {C : Array Value} {o : Nat} {v0 v1 v2 v3 v4 v5 v6 v7 v8 v9 v10 v11 : Value} : setRow C o [v0, v1, v2, v3, v4, v5, v6, v7, v8, v9, v10, v11] = ((((((((((((C.setIfInBounds (o) v0).setIfInBounds (o + 1) v1).setIfInBounds (o + 2) v2).setIfInBounds (o + 3) v3).setIfInBounds (o + 4) v4).setIfInBounds (o + 5) v5).setIfInBounds (o + 6) v6).setIfInBounds (o + 7) v7).setIfInBounds (o + 8) v8).setIfInBounds (o + 9) v9).setIfInBounds (o + 10) v10).setIfInBounds (o + 11) v11) := by
  simp only [setRow, Nat.add_assoc, Nat.reduceAdd]

theorem setRow_13 {C : Array Value} {o : Nat} {v0 v1 v2 v3 v4 v5 v6 v7 v8 v9 v10 v11 v12 : Value} : setRow C o [v0, v1, v2, v3, v4, v5, v6, v7, v8, v9, v10, v11, v12] = (((((((((((((C.setIfInBounds (o) v0).setIfInBounds (o + 1) v1).setIfInBounds (o + 2) v2).setIfInBounds (o + 3) v3).setIfInBounds (o + 4) v4).setIfInBounds (o + 5) v5).setIfInBounds (o + 6) v6).setIfInBounds (o + 7) v7).setIfInBounds (o + 8) v8).setIfInBounds (o + 9) v9).setIfInBounds (o + 10) v10).setIfInBounds (o + 11) v11).setIfInBounds (o + 12) v12) := by
  simp only [setRow, Nat.add_assoc, Nat.reduceAdd]

theorem setRow_14 {C : Array Value} {o : Nat} {v0 v1 v2 v3 v4 v5 v6 v7 v8 v9 v10 v11 v12 v13 : Value} : setRow C o [v0, v1, v2, v3, v4, v5, v6, v7, v8, v9, v10, v11, v12, v13] = ((((((((((((((C.setIfInBounds (o) v0).setIfInBounds (o + 1) v1).setIfInBounds (o + 2) v2).setIfInBounds (o + 3) v3).setIfInBounds (o + 4) v4).setIfInBounds (o + 5) v5).setIfInBounds (o + 6) v6).setIfInBounds (o + 7) v7).setIfInBounds (o + 8) v8).setIfInBounds (o + 9) v9).setIfInBounds (o + 10) v10).setIfInBounds (o + 11) v11).setIfInBounds (o + 12) v12).setIfInBounds (o + 13) v13) := by
  simp only [setRow, Nat.add_assoc, Nat.reduceAdd]

theorem setRow_15 {C : Array Value} {o : Nat} {v0 v1 v2 v3 v4 v5 v6 v7 v8 v9 v10 v11 v12 v13 v14 : Value} : setRow C o [v0, v1, v2, v3, v4, v5, v6, v7, v8, v9, v10, v11, v12, v13, v14] = (((((((((((((((C.setIfInBounds (o) v0).setIfInBounds (o + 1) v1).setIfInBounds (o + 2) v2).setIfInBounds (o + 3) v3).setIfInBounds (o + 4) v4).setIfInBounds (o + 5) v5).setIfInBounds (o + 6) v6).setIfInBounds (o + 7) v7).setIfInBounds (o + 8) v8).setIfInBounds (o + 9) v9).setIfInBounds (o + 10) v10).setIfInBounds (o + 11) v11).setIfInBounds (o + 12) v12).setIfInBounds (o + 13) v13).setIfInBounds (o + 14) v14) := by
  simp only [setRow, Nat.add_assoc, Nat.reduceAdd]

theorem setRow_16 {C : Array Value} {o : Nat} {v0 v1 v2 v3 v4 v5 v6 v7 v8 v9 v10 v11 v12 v13 v14 v15 : Value} : setRow C o [v0, v1, v2, v3, v4, v5, v6, v7, v8, v9, v10, v11, v12, v13, v14, v15] = ((((((((((((((((C.setIfInBounds (o) v0).setIfInBounds (o + 1) v1).setIfInBounds (o + 2) v2).setIfInBounds (o + 3) v3).setIfInBounds (o + 4) v4).setIfInBounds (o + 5) v5).setIfInBounds (o + 6) v6).setIfInBounds (o + 7) v7).setIfInBounds (o + 8) v8).setIfInBounds (o + 9) v9).setIfInBounds (o + 10) v10).setIfInBounds (o + 11) v11).setIfInBounds (o + 12) v12).setIfInBounds (o + 13) v13).setIfInBounds (o + 14) v14).setIfInBounds (o + 15) v15) := by
  simp only [setRow, Nat.add_assoc, Nat.reduceAdd]

theorem cells_1 {cs : Array Value} (h : cs.toList.length = 1) : ∃ c0, cs = #[c0] :=
  match cs, h with
  | ⟨[c0]⟩, _ => ⟨c0, rfl⟩

theorem cells_2 {cs : Array Value} (h : cs.toList.length = 2) : ∃ c0 c1, cs = #[c0, c1] :=
  match cs, h with
  | ⟨[c0, c1]⟩, _ => ⟨c0, c1, rfl⟩

theorem cells_3 {cs : Array Value} (h : cs.toList.length = 3) : ∃ c0 c1 c2, cs = #[c0, c1, c2] :=
  match cs, h with
  | ⟨[c0, c1, c2]⟩, _ => ⟨c0, c1, c2, rfl⟩

theorem cells_4 {cs : Array Value} (h : cs.toList.length = 4) : ∃ c0 c1 c2 c3, cs = #[c0, c1, c2, c3] :=
  match cs, h with
  | ⟨[c0, c1, c2, c3]⟩, _ => ⟨c0, c1, c2, c3, rfl⟩

theorem cells_5 {cs : Array Value} (h : cs.toList.length = 5) : ∃ c0 c1 c2 c3 c4, cs = #[c0, c1, c2, c3, c4] :=
  match cs, h with
  | ⟨[c0, c1, c2, c3, c4]⟩, _ => ⟨c0, c1, c2, c3, c4, rfl⟩

theorem cells_6 {cs : Array Value} (h : cs.toList.length = 6) : ∃ c0 c1 c2 c3 c4 c5, cs = #[c0, c1, c2, c3, c4, c5] :=
  match cs, h with
  | ⟨[c0, c1, c2, c3, c4, c5]⟩, _ => ⟨c0, c1, c2, c3, c4, c5, rfl⟩

theorem cells_7 {cs : Array Value} (h : cs.toList.length = 7) : ∃ c0 c1 c2 c3 c4 c5 c6, cs = #[c0, c1, c2, c3, c4, c5, c6] :=
  match cs, h with
  | ⟨[c0, c1, c2, c3, c4, c5, c6]⟩, _ => ⟨c0, c1, c2, c3, c4, c5, c6, rfl⟩

theorem cells_8 {cs : Array Value} (h : cs.toList.length = 8) : ∃ c0 c1 c2 c3 c4 c5 c6 c7, cs = #[c0, c1, c2, c3, c4, c5, c6, c7] :=
  match cs, h with
  | ⟨[c0, c1, c2, c3, c4, c5, c6, c7]⟩, _ => ⟨c0, c1, c2, c3, c4, c5, c6, c7, rfl⟩

theorem cells_9 {cs : Array Value} (h : cs.toList.length = 9) : ∃ c0 c1 c2 c3 c4 c5 c6 c7 c8, cs = #[c0, c1, c2, c3, c4, c5, c6, c7, c8] :=
  match cs, h with
  | ⟨[c0, c1, c2, c3, c4, c5, c6, c7, c8]⟩, _ => ⟨c0, c1, c2, c3, c4, c5, c6, c7, c8, rfl⟩

theorem cells_10 {cs : Array Value} (h : cs.toList.length = 10) : ∃ c0 c1 c2 c3 c4 c5 c6 c7 c8 c9, cs = #[c0, c1, c2, c3, c4, c5, c6, c7, c8, c9] :=
  match cs, h with
  | ⟨[c0, c1, c2, c3, c4, c5, c6, c7, c8, c9]⟩, _ => ⟨c0, c1, c2, c3, c4, c5, c6, c7, c8, c9, rfl⟩

theorem cells_11 {cs : Array Value} (h : cs.toList.length = 11) : ∃ c0 c1 c2 c3 c4 c5 c6 c7 c8 c9 c10, cs = #[c0, c1, c2, c3, c4, c5, c6, c7, c8, c9, c10] :=
  match cs, h with
  | ⟨[c0, c1, c2, c3, c4, c5, c6, c7, c8, c9, c10]⟩, _ => ⟨c0, c1, c2, c3, c4, c5, c6, c7, c8, c9, c10, rfl⟩

theorem cells_12 {cs : Array Value} (h : cs.toList.length = 12) : ∃ c0 c1 c2 c3 c4 c5 c6 c7 c8 c9 c10 c11, cs = #[c0, c1, c2, c3, c4, c5, c6, c7, c8, c9, c10, c11] :=
  match cs, h with
  | ⟨[c0, c1, c2, c3, c4, c5, c6, c7, c8, c9, c10, c11]⟩, _ => ⟨c0, c1, c2, c3, c4, c5, c6, c7, c8, c9, c10, c11, rfl⟩

/-- A cell of a world is there in one that has grown out of it. -/
theorem Gr.keep {W w' : World} (h : Gr W w') {b o : Nat} {v : Value} (hc : W.cell? ⟨b, o, none⟩ = some v) : w'.cell? ⟨b, o, none⟩ = some v := by
  have := h.below.cell (p := ⟨b, o, none⟩) (blk hc)
  rw [this]; exact hc

/-- A cell of a new block. -/
theorem box_cell {A : World} {C : Array Value} {t : TypeId} {n j : Nat} {v : Value} (hn : n = A.heap.size) (hj : C[j]? = some v) : (A.alloc (.cells C t)).cell? ⟨n, j, none⟩ = some v := by
  subst hn; rw [World.cell?_alloc_new]; exact hj

theorem str_inj {a b : ByteArray} (h : a.toList = b.toList) : a = b := by
  rw [ByteArray.toList_eq, ByteArray.toList_eq] at h
  exact ByteArray.ext (Array.toList_inj.1 h)

theorem str_ne {a b : ByteArray} (h : (!a.toList == b.toList) = true) : a ≠ b := by
  intro e; subst e; simp at h

theorem str_eq {a b : ByteArray} (h : (!a.toList == b.toList) = false) : a = b := str_inj (by simpa using h)

theorem int_ne {a b : Int} (h : (a != b) = true) : a ≠ b := by simpa using h
theorem int_eq {a b : Int} (h : (a != b) = false) : a = b := by simpa using h
theorem dec_ne {α : Type} [DecidableEq α] {a b : α} (h : (!decide (a = b)) = true) : a ≠ b := by simpa using h
theorem dec_eq {α : Type} [DecidableEq α] {a b : α} (h : (!decide (a = b)) = false) : a = b := by simpa using h

/-- What a callee has made is read behind later stores into blocks that were there before it. -/
theorem sameOn_moved {A A' : World} {x : Ext} {fp : List Nat} (hf : Fresh A fp) (hsz : A'.heap.size = A.heap.size) : SameOn fp (A.ext x) (A'.ext x) := by
  intro b hb
  have := hf.2 b hb
  simp only [World.ext, Array.getElem?_append, hsz]
  rw [if_neg (by omega), if_neg (by omega)]

theorem SlR.moved {α : Type} [Rd α] {A A' W : World} {x : Ext} {fp : List Nat} {v : Value} {xs : List α} (h : SlR fp (A.ext x) v xs) (hf : Fresh A fp) (hg : Gr (A'.ext x) W) (hsz : A'.heap.size = A.heap.size) : SlR fp W v xs :=
  (h.mono (sameOn_moved hf hsz)).gr hg

theorem Rd.moved {α : Type} [Rd α] {A A' W : World} {x : Ext} {fp : List Nat} {cs : List Value} {y : α} (h : Rd.rd fp (A.ext x) cs y) (hf : Fresh A fp) (hg : Gr (A'.ext x) W) (hsz : A'.heap.size = A.heap.size) : Rd.rd fp W cs y :=
  Rd.gr (Rd.mono (sameOn_moved hf hsz) h) hg

/-- Blocks that are new since a later world, behind those of a callee before it. -/
theorem Fresh.app {w B w1 : World} {fp fq : List Nat} (h : Fresh w fp) (hm : ∀ b ∈ fp, b < B.heap.size) (k : Fresh w1 fq) (hs : B.heap.size ≤ w1.heap.size) (hw : w.heap.size ≤ w1.heap.size) : Fresh w (fp ++ fq) :=
  h.append hw (fun b hb => Nat.lt_of_lt_of_le (hm b hb) hs) k

end Go.Proofs.Ytmfcagcanhmdbaa
