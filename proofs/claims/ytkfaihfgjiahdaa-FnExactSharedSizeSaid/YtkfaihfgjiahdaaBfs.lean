/- The search of the reference's SharedSize. Plain Lean, no program in sight. -/
import Derived.Test.YtkfaihfgjiahdaaReach
namespace Go.Proofs.Ytkfaihfgjiahdaa

/-- The list L of cells met, the first i of them looked through. -/
def BfsInv (xs : List GCell) (a i : Nat) (L : List Int) : Prop :=
  i ≤ L.length ∧ L.Nodup ∧ (∀ y ∈ L, ∃ j : Nat, y = j ∧ j < xs.length ∧ Reach xs a j) ∧ (a : Int) ∈ L ∧
    ∀ m (_ : m < L.length), m < i → ∀ p (_ : p < xs.length), L[m] = (p : Int) → ∀ y ∈ xs[p].2.2, y ∈ L

theorem BfsInv.start {xs : List GCell} {a : Nat} (ha : a < xs.length) : BfsInv xs a 0 [(a : Int)] :=
  ⟨by simp, by simp, fun y hy => ⟨a, by simpa using hy, ha, Reach.self _ _⟩, by simp, fun m _ hm => by omega⟩

theorem BfsInv.push {xs : List GCell} (hv : ValidStore xs) {a i p : Nat} {L : List Int} (h : BfsInv xs a i L) (hi : i < L.length) (hp : p < xs.length) (hLp : L[i] = (p : Int)) {y : Int} (hy : y ∈ xs[p].2.2) (hn : y ∉ L) :
    BfsInv xs a i (L ++ [y]) := by
  obtain ⟨h1, h2, h3, h4, h5⟩ := h
  obtain ⟨j, hj, hjl, hjr⟩ := h3 _ (List.getElem_mem hi)
  obtain rfl : j = p := by omega
  have hb := (hv j hp).2 y hy
  refine ⟨by simp; omega, ?_, ?_, by simp [h4], ?_⟩
  · rw [List.nodup_append]
    exact ⟨h2, by simp, fun u hu v hv e => hn (by simp at hv; rw [← hv, ← e]; exact hu)⟩
  · intro z hz
    rcases List.mem_append.1 hz with hz | hz
    · exact h3 z hz
    · obtain rfl : z = y := by simpa using hz
      exact ⟨z.toNat, by omega, by omega, Reach.step hp hjr (by rw [show ((z.toNat : Nat) : Int) = z by omega]; exact hy)⟩
  · intro m hm hmi q hq hLq z hz
    have hm2 : m < L.length := by omega
    rw [List.getElem_append_left hm2] at hLq
    exact List.mem_append_left _ (h5 m hm2 hmi q hq hLq z hz)

theorem BfsInv.next {xs : List GCell} {a i p : Nat} {L : List Int} (h : BfsInv xs a i L) (hi : i < L.length) (hLp : L[i] = (p : Int)) (hp : p < xs.length) (hc : ∀ y ∈ xs[p].2.2, y ∈ L) : BfsInv xs a (i + 1) L := by
  obtain ⟨h1, h2, h3, h4, h5⟩ := h
  refine ⟨by omega, h2, h3, h4, fun m hm hmi q hq hLq z hz => ?_⟩
  by_cases hmi2 : m < i
  · exact h5 m hm hmi2 q hq hLq z hz
  · obtain rfl : m = i := by omega
    obtain rfl : q = p := by omega
    exact hc z hz

theorem BfsInv.length_le {xs : List GCell} {a i : Nat} {L : List Int} (h : BfsInv xs a i L) : L.length ≤ xs.length :=
  length_le_below h.2.1 fun y hy => by
    obtain ⟨j, hj, hl, _⟩ := h.2.2.1 y hy
    omega

theorem BfsInv.done {xs : List GCell} {a : Nat} {L : List Int} (h : BfsInv xs a L.length L) : L.length = reachN xs a 0 := by
  obtain ⟨h1, h2, h3, h4, h5⟩ := h
  refine reachN_list h2 h3 h4 fun p hp hm y hy => ?_
  obtain ⟨m, hml, e⟩ := List.mem_iff_getElem.1 hm
  exact h5 m hml hml p hp e y hy
end Go.Proofs.Ytkfaihfgjiahdaa
