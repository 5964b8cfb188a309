/- What holds of all cells of a store holds of them when a subtree is interned; plainly. No condition. -/
import Derived.Test.YtmfcagcanhmdbaaItnQ
namespace Go.Proofs.Ytmfcagcanhmdbaa
open Go.RowKit
set_option linter.unusedVariables false

theorem inK_len {T : GStore → List Int → Nat → Option (GStore × List Int × Int)} {i n : Nat} (cs : List Int) : ∀ s d ks s' d' ks', cs.foldl (inStep T i n) (some (s, d, ks)) = some (s', d', ks') → ks'.length = ks.length + cs.length := by
  induction cs with
  | nil =>
    intro s d ks s' d' ks' h
    simp only [List.foldl_nil, Option.some.injEq, Prod.mk.injEq] at h
    rw [← h.2.2]; rfl
  | cons c cs ih =>
    intro s d ks s' d' ks' h
    rw [List.foldl_cons] at h
    by_cases hc : (i : Int) + 1 ≤ c ∧ c ≤ (n : Int) - 1
    · cases hT : T s d c.toNat with
      | none =>
        have : inStep T i n (some (s, d, ks)) c = none := by simp only [inStep]; rw [if_pos hc, hT]
        rw [this, inK_none] at h
        cases h
      | some r =>
        obtain ⟨s1, d1, k1⟩ := r
        have e : inStep T i n (some (s, d, ks)) c = some (s1, d1, ks ++ [k1]) := by simp only [inStep]; rw [if_pos hc, hT]
        rw [e] at h
        rw [ih _ _ _ _ _ _ h]
        simp
        omega
    · have : inStep T i n (some (s, d, ks)) c = none := by simp only [inStep]; rw [if_neg hc]
      rw [this, inK_none] at h
      cases h
theorem inK_all {P : GCell → Prop} {T : GStore → List Int → Nat → Option (GStore × List Int × Int)} {i n : Nat} (H : ∀ s d j s' d' k, (∀ c ∈ s, P c) → T s d j = some (s', d', k) → ∀ c ∈ s', P c) (cs : List Int) :
    ∀ s d ks s' d' ks', (∀ c ∈ s, P c) → cs.foldl (inStep T i n) (some (s, d, ks)) = some (s', d', ks') → ∀ c ∈ s', P c := by
  induction cs with
  | nil =>
    intro s d ks s' d' ks' hs h
    simp only [List.foldl_nil, Option.some.injEq, Prod.mk.injEq] at h
    rw [← h.1]; exact hs
  | cons c cs ih =>
    intro s d ks s' d' ks' hs h
    rw [List.foldl_cons] at h
    by_cases hc : (i : Int) + 1 ≤ c ∧ c ≤ (n : Int) - 1
    · cases hT : T s d c.toNat with
      | none =>
        have : inStep T i n (some (s, d, ks)) c = none := by simp only [inStep]; rw [if_pos hc, hT]
        rw [this, inK_none] at h
        cases h
      | some r =>
        obtain ⟨s1, d1, k1⟩ := r
        have e : inStep T i n (some (s, d, ks)) c = some (s1, d1, ks ++ [k1]) := by simp only [inStep]; rw [if_pos hc, hT]
        rw [e] at h
        exact ih _ _ _ _ _ _ (H _ _ _ _ _ _ hs hT) h
    · have : inStep T i n (some (s, d, ks)) c = none := by simp only [inStep]; rw [if_neg hc]
      rw [this, inK_none] at h
      cases h
theorem inN_all {P : GCell → Prop} (t : List GNode) (ht : ∀ x ∈ t, ∀ ks : List Int, ks.length = (kidsN x).length → P (x.2.2.2.2.1, x.2.2.2.1, ks)) : ∀ f s d i s' d' k, (∀ c ∈ s, P c) → inN t f s d i = some (s', d', k) → ∀ c ∈ s', P c := by
  intro f
  induction f with
  | zero => intro s d i s' d' k hs h; simp [inN] at h
  | succ f ih =>
    intro s d i s' d' k hs h
    unfold inN at h
    split at h
    · simp only [Option.some.injEq, Prod.mk.injEq] at h
      rw [← h.1]; exact hs
    · cases hx : t[i]? with
      | none => rw [hx] at h; cases h
      | some x =>
        rw [hx] at h
        simp only at h
        cases hK : inK (inN t f) i t.length s d (kidsN x) with
        | none => rw [hK] at h; cases h
        | some r =>
          obtain ⟨s1, d1, ks⟩ := r
          rw [hK] at h
          simp only [Option.some.injEq, Prod.mk.injEq] at h
          obtain ⟨rfl, -, -⟩ := h
          have h1 := inK_all (P := P) (T := inN t f) (fun s d j s' d' k hs h => ih s d j s' d' k hs h) (kidsN x) s d [] s1 d1 ks hs hK
          have h2 := inK_len (T := inN t f) (kidsN x) s d [] s1 d1 ks hK
          intro c hc
          unfold putC at hc
          split at hc
          · rcases List.mem_append.1 hc with hc | hc
            · exact h1 c hc
            · rw [List.mem_singleton.1 hc]
              exact ht x (List.mem_of_getElem? hx) ks (by simpa using h2)
          · exact h1 c hc

/-- The nodes' rows are no longer than the tree's size. -/
theorem kids_tree {t : List GNode} {M : Nat} (h : wtTree t ≤ M) : t.length ≤ M ∧ ∀ x ∈ t, (kidsN x).length ≤ M := by
  have h0 : wtL wtNode t ≤ M := h
  refine ⟨Nat.le_trans (wtL_len wtNode t) h0, fun x hx => ?_⟩
  obtain ⟨i, hi, rfl⟩ := List.mem_iff_getElem.1 hx
  have h1 := wtL_at wtNode t hi
  have h2 : (kidsN t[i]).length ≤ wtNode t[i] := Nat.le_add_left _ _
  omega
theorem kids_store {s : GStore} {M : Nat} (h : wtStore s ≤ M) : s.length ≤ M ∧ ∀ c ∈ s, c.2.2.length ≤ M := by
  have h0 : wtL wtCell s ≤ M := h
  refine ⟨Nat.le_trans (wtL_len wtCell s) h0, fun c hc => ?_⟩
  obtain ⟨i, hi, rfl⟩ := List.mem_iff_getElem.1 hc
  have h1 := wtL_at wtCell s hi
  have h2 : s[i].2.2.length ≤ wtCell s[i] := Nat.le_add_left _ _
  omega

/-- A store and a number, in new memory. -/
def ItnPost (w : World) (R : GStore × Int) (e : Ending) (w' : World) : Prop :=
  ∃ ct fq, e = .returned (.tuple #[.agg ct, .int .i64 R.2]) ∧ Rd.rd fq w' ct.toList R.1 ∧ Fresh w fq ∧ Gr w w'
end Go.Proofs.Ytmfcagcanhmdbaa
