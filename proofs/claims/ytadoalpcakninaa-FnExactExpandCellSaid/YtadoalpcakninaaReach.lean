/- The number of cells that a cell reaches: what both loops count. Plain Lean, no program in sight. -/
import Derived.Test.YtadoalpcakninaaValidA
namespace Go.Proofs.Ytadoalpcakninaa

/-- Cell c is reached from cell a. -/
def Reach (xs : List GCell) (a c : Nat) : Prop :=
  ∀ S : Nat → Prop, S a → (∀ p (h : p < xs.length), S p → ∀ d : Nat, (d : Int) ∈ xs[p].2.2 → S d) → S c

theorem Reach.self (xs : List GCell) (a : Nat) : Reach xs a a := fun _ h _ => h
theorem Reach.step {xs : List GCell} {a p c : Nat} (hp : p < xs.length) (h : Reach xs a p) (hc : (c : Int) ∈ xs[p].2.2) : Reach xs a c :=
  fun S h0 hs => hs p hp (h S h0 hs) c hc
theorem Reach.cases {xs : List GCell} {a c : Nat} (h : Reach xs a c) : c = a ∨ ∃ p, ∃ hp : p < xs.length, Reach xs a p ∧ (c : Int) ∈ xs[p].2.2 :=
  h (fun c => c = a ∨ ∃ p, ∃ hp : p < xs.length, Reach xs a p ∧ (c : Int) ∈ xs[p].2.2) (.inl rfl) fun p hp hs d hd => by
    refine .inr ⟨p, hp, ?_, hd⟩
    rcases hs with rfl | ⟨q, hq, h1, h2⟩
    · exact Reach.self _ _
    · exact Reach.step hq h1 h2
/-- In a valid store nothing above a is reached. -/
theorem Reach.le {xs : List GCell} (hv : ValidStore xs) {a c : Nat} (h : Reach xs a c) : c ≤ a :=
  h (fun c => c ≤ a) (Nat.le_refl _) fun p hp hs d hd => by
    have := (hv p hp).2 _ hd
    omega

noncomputable def reachB (xs : List GCell) (a k j : Nat) : Bool := @decide (k ≤ j ∧ Reach xs a j) (Classical.propDecidable _)
theorem reachB_iff {xs : List GCell} {a k j : Nat} : reachB xs a k j = true ↔ k ≤ j ∧ Reach xs a j := by
  unfold reachB; exact @decide_eq_true_iff _ (Classical.propDecidable _)
/-- How many cells from k on are reached. -/
noncomputable def reachN (xs : List GCell) (a k : Nat) : Nat := ((List.range xs.length).filter (reachB xs a k)).length

theorem reachN_top {xs : List GCell} (hv : ValidStore xs) (a : Nat) : reachN xs a (a + 1) = 0 := by
  unfold reachN
  rw [List.length_eq_zero_iff, List.filter_eq_nil_iff]
  intro j _ hj
  have := reachB_iff.1 hj
  have := this.2.le hv
  omega

theorem reachN_no {xs : List GCell} {a k : Nat} (h : ¬ Reach xs a k) : reachN xs a k = reachN xs a (k + 1) := by
  unfold reachN
  congr 1
  apply List.filter_congr
  intro j _
  rw [Bool.eq_iff_iff, reachB_iff, reachB_iff]
  constructor
  · rintro ⟨h1, h2⟩
    refine ⟨?_, h2⟩
    rcases Nat.lt_or_ge k j with hlt | hge
    · exact hlt
    · obtain rfl : j = k := by omega
      exact absurd h2 h
  · rintro ⟨h1, h2⟩
    exact ⟨by omega, h2⟩

theorem reachN_yes {xs : List GCell} {a k : Nat} (hk : k < xs.length) (h : Reach xs a k) : reachN xs a k = reachN xs a (k + 1) + 1 := by
  unfold reachN
  have hp : List.Perm ((List.range xs.length).filter (reachB xs a k)) (k :: (List.range xs.length).filter (reachB xs a (k + 1))) := by
    rw [List.perm_ext_iff_of_nodup (List.nodup_range.sublist List.filter_sublist) (List.nodup_cons.2 ⟨fun hm => ?_, List.nodup_range.sublist List.filter_sublist⟩)]
    · intro j
      simp only [List.mem_filter, List.mem_range, List.mem_cons, reachB_iff]
      constructor
      · rintro ⟨h1, h2, h3⟩
        by_cases e : j = k
        · exact .inl e
        · exact .inr ⟨h1, by omega, h3⟩
      · rintro (rfl | ⟨h1, h2, h3⟩)
        · exact ⟨hk, Nat.le_refl _, h⟩
        · exact ⟨h1, by omega, h3⟩
    · have := reachB_iff.1 (List.mem_filter.1 hm).2
      omega
  rw [hp.length_eq, List.length_cons]

/-- A list without repetitions of reached cells that is closed has as many elements as cells are reached. -/
theorem reachN_list {xs : List GCell} {a : Nat} {L : List Int} (hd : L.Nodup) (hr : ∀ y ∈ L, ∃ j : Nat, y = j ∧ j < xs.length ∧ Reach xs a j) (h0 : (a : Int) ∈ L)
    (hc : ∀ p (h : p < xs.length), (p : Int) ∈ L → ∀ y ∈ xs[p].2.2, y ∈ L) : L.length = reachN xs a 0 := by
  have all : ∀ j, Reach xs a j → (j : Int) ∈ L := fun j h => h (fun j => (j : Int) ∈ L) h0 fun p hp hs d hd => hc p hp hs _ hd
  have hp : List.Perm L (((List.range xs.length).filter (reachB xs a 0)).map fun (j : Nat) => (j : Int)) := by
    rw [List.perm_ext_iff_of_nodup hd ?_]
    · intro y
      simp only [List.mem_map, List.mem_filter, List.mem_range, reachB_iff]
      constructor
      · intro hy
        obtain ⟨j, e, hj, hrj⟩ := hr y hy
        exact ⟨j, ⟨hj, Nat.zero_le _, hrj⟩, e.symm⟩
      · rintro ⟨j, ⟨_, _, hrj⟩, rfl⟩
        exact all j hrj
    · have hn : ((List.range xs.length).filter (reachB xs a 0)).Nodup := List.nodup_range.sublist List.filter_sublist
      unfold List.Nodup at hn ⊢
      rw [List.pairwise_map]
      exact hn.imp fun h e => h (by omega)
  rw [hp.length_eq, List.length_map]
  rfl

/-- A list without repetitions of numbers below n is no longer than n. -/
theorem length_le_below {n : Nat} {L : List Int} (hd : L.Nodup) (hr : ∀ y ∈ L, 0 ≤ y ∧ y < n) : L.length ≤ n := by
  have := List.Nodup.length_le_of_subset (l₂ := (List.range n).map fun (j : Nat) => (j : Int)) hd fun y hy => by
    have := hr y hy
    exact List.mem_map.2 ⟨y.toNat, List.mem_range.2 (by omega), by omega⟩
  simpa using this

/-- What SharedSize answers. -/
noncomputable def sharedN (xs : List GCell) (a : Int) : Int := @ite _ (ValidStore xs ∧ 0 ≤ a ∧ a ≤ (xs.length : Int) - 1) (Classical.propDecidable _) (reachN xs a.toNat 0 : Int) 0
theorem sharedN_yes {xs : List GCell} {a : Nat} (hv : ValidStore xs) (ha : a < xs.length) : sharedN xs a = reachN xs a 0 := by
  unfold sharedN
  rw [@if_pos _ (Classical.propDecidable _) ⟨hv, by omega, by omega⟩]
  simp
theorem sharedN_no {xs : List GCell} {a : Int} (h : ¬ (ValidStore xs ∧ 0 ≤ a ∧ a ≤ (xs.length : Int) - 1)) : sharedN xs a = 0 := by
  unfold sharedN
  rw [@if_neg _ (Classical.propDecidable _) h]
end Go.Proofs.Ytadoalpcakninaa
