/- Which subtrees can be interned: all nodes that are reached have children behind them; plainly. No condition. -/
import Derived.Test.YtmfcagcanhmdbaaItnP
namespace Go.Proofs.Ytmfcagcanhmdbaa
open Go.RowKit
set_option linter.unusedVariables false

/-- What is reached from node i by children that lie behind their nodes. -/
inductive Up (t : List GNode) (i : Nat) : Nat → Prop
  | here : Up t i i
  | step {m : Nat} {c : Int} (h : m < t.length) (hu : Up t i m) (hc : c ∈ kidsN t[m]) (hm : (m : Int) < c) : Up t i c.toNat

theorem Up.ge {t : List GNode} {i j : Nat} (h : Up t i j) : i ≤ j := by
  induction h with
  | here => exact Nat.le_refl _
  | step h hu hc hm ih => omega
theorem Up.head {t : List GNode} {i j : Nat} (hi : i < t.length) {c : Int} (hc : c ∈ kidsN t[i]) (hm : (i : Int) < c) (h : Up t c.toNat j) : Up t i j := by
  induction h with
  | here => exact Up.step hi Up.here hc hm
  | step h hu hc hm ih => exact Up.step h ih hc hm
theorem Up.first {t : List GNode} {i j : Nat} (hi : i < t.length) (h : Up t i j) : j = i ∨ ∃ c ∈ kidsN t[i], (i : Int) < c ∧ Up t c.toNat j := by
  induction h with
  | here => exact .inl rfl
  | step h hu hc hm ih =>
    rcases ih with e | ⟨d, hd, h1, h2⟩
    · subst e
      exact .inr ⟨_, hc, hm, Up.here⟩
    · exact .inr ⟨d, hd, h1, Up.step h h2 hc hm⟩

def KG (t : List GNode) (m : Nat) : Prop := ∀ h : m < t.length, ∀ c ∈ kidsN t[m], (m : Int) + 1 ≤ c ∧ c ≤ (t.length : Int) - 1
def GoodT (t : List GNode) (i : Nat) : Prop := ∀ j, Up t i j → KG t j

theorem good_iff {t : List GNode} {i : Nat} (hi : i < t.length) : GoodT t i ↔ ∀ c ∈ kidsN t[i], ((i : Int) + 1 ≤ c ∧ c ≤ (t.length : Int) - 1) ∧ GoodT t c.toNat := by
  constructor
  · intro h c hc
    have h1 := h i Up.here hi c hc
    exact ⟨h1, fun j hj => h j (Up.head hi hc (by omega) hj)⟩
  · intro h j hj
    rcases hj.first hi with e | ⟨c, hc, h1, h2⟩
    · subst e; exact fun _ c hc => (h c hc).1
    · exact (h c hc).2 j h2

def DoneOk (t : List GNode) (d : List Int) : Prop := ∀ (j : Nat) (y : Int), d[j]? = some y → 0 ≤ y → GoodT t j

theorem inK_some {t : List GNode} {T : GStore → List Int → Nat → Option (GStore × List Int × Int)} {i : Nat} (H : ∀ s d j, i < j → j < t.length → d.length = t.length → DoneOk t d → ((∃ r, T s d j = some r) ↔ GoodT t j) ∧ ∀ s' d' k, T s d j = some (s', d', k) → DoneOk t d' ∧ d'.length = t.length) (cs : List Int) :
    ∀ s d ks, d.length = t.length → DoneOk t d → ((∃ r, cs.foldl (inStep T i t.length) (some (s, d, ks)) = some r) ↔ ∀ c ∈ cs, ((i : Int) + 1 ≤ c ∧ c ≤ (t.length : Int) - 1) ∧ GoodT t c.toNat) ∧
      ∀ s' d' ks', cs.foldl (inStep T i t.length) (some (s, d, ks)) = some (s', d', ks') → DoneOk t d' ∧ d'.length = t.length := by
  induction cs with
  | nil =>
    intro s d ks hd hD
    refine ⟨⟨fun _ c hc => by simp at hc, fun _ => ⟨_, rfl⟩⟩, fun s' d' ks' h => ?_⟩
    simp only [List.foldl_nil, Option.some.injEq, Prod.mk.injEq] at h
    obtain ⟨rfl, rfl, rfl⟩ := h
    exact ⟨hD, hd⟩
  | cons c cs ih =>
    intro s d ks hd hD
    rw [List.foldl_cons]
    by_cases hc : (i : Int) + 1 ≤ c ∧ c ≤ (t.length : Int) - 1
    · have hH := H s d c.toNat (by omega) (by omega) hd hD
      cases hT : T s d c.toNat with
      | none =>
        have e : inStep T i t.length (some (s, d, ks)) c = none := by simp only [inStep]; rw [if_pos hc, hT]
        rw [e, inK_none]
        refine ⟨⟨fun ⟨r, h⟩ => (by cases h), fun h => ?_⟩, fun s' d' ks' h => by cases h⟩
        obtain ⟨r, hr⟩ := hH.1.2 (h c (by simp)).2
        rw [hT] at hr
        cases hr
      | some r =>
        obtain ⟨s1, d1, k1⟩ := r
        have e : inStep T i t.length (some (s, d, ks)) c = some (s1, d1, ks ++ [k1]) := by simp only [inStep]; rw [if_pos hc, hT]
        rw [e]
        obtain ⟨h1, h2⟩ := hH.2 s1 d1 k1 hT
        obtain ⟨g1, g2⟩ := ih s1 d1 (ks ++ [k1]) h2 h1
        refine ⟨⟨fun h => ?_, fun h => g1.2 fun x hx => h x (List.mem_cons_of_mem _ hx)⟩, g2⟩
        intro x hx
        rcases List.mem_cons.1 hx with rfl | hx
        · exact ⟨hc, hH.1.1 ⟨_, hT⟩⟩
        · exact g1.1 h x hx
    · have e : inStep T i t.length (some (s, d, ks)) c = none := by simp only [inStep]; rw [if_neg hc]
      rw [e, inK_none]
      exact ⟨⟨fun ⟨r, h⟩ => (by cases h), fun h => absurd (h c (by simp)).1 hc⟩, fun s' d' ks' h => by cases h⟩

theorem inN_some (t : List GNode) : ∀ f s d i, i < t.length → t.length - i ≤ f → d.length = t.length → DoneOk t d → ((∃ r, inN t f s d i = some r) ↔ GoodT t i) ∧ ∀ s' d' k, inN t f s d i = some (s', d', k) → DoneOk t d' ∧ d'.length = t.length := by
  intro f
  induction f with
  | zero => intro s d i hi hf; omega
  | succ f ih =>
    intro s d i hi hf hd hD
    have hi' : d[i]? = some (d[i]'(by omega)) := List.getElem?_eq_getElem _
    by_cases hy : 0 ≤ d[i]'(by omega)
    · rw [inN_done hi' hy]
      refine ⟨⟨fun _ => hD i _ hi' hy, fun _ => ⟨_, rfl⟩⟩, fun s' d' k h => ?_⟩
      simp only [Option.some.injEq, Prod.mk.injEq] at h
      obtain ⟨rfl, rfl, rfl⟩ := h
      exact ⟨hD, hd⟩
    · rw [inN_new hi' (by omega) (List.getElem?_eq_getElem hi)]
      have hK := inK_some (t := t) (T := inN t f) (i := i) (fun s d j hij hj hd hD => ih s d j hj (by omega) hd hD) (kidsN t[i]) s d [] hd hD
      rw [good_iff hi, ← hK.1]
      unfold inK
      cases hF : (kidsN t[i]).foldl (inStep (inN t f) i t.length) (some (s, d, [])) with
      | none => exact ⟨⟨fun ⟨r, h⟩ => (by cases h), fun ⟨r, h⟩ => by cases h⟩, fun s' d' k h => by cases h⟩
      | some r =>
        obtain ⟨s1, d1, ks⟩ := r
        obtain ⟨h1, h2⟩ := hK.2 s1 d1 ks hF
        refine ⟨⟨fun _ => ⟨_, rfl⟩, fun _ => ⟨_, rfl⟩⟩, fun s' d' k h => ?_⟩
        simp only [Option.some.injEq, Prod.mk.injEq] at h
        obtain ⟨rfl, rfl, rfl⟩ := h
        refine ⟨fun j y hj hy => ?_, by simp [h2]⟩
        by_cases hji : j = i
        · subst hji
          rw [good_iff hi]
          exact hK.1.1 ⟨_, hF⟩
        · rw [List.getElem?_set_ne (fun e => hji e.symm)] at hj
          exact h1 j y hj hy

/-! ### The flags of the program's test -/

def FL (t : List GNode) (i k q : Nat) (fl : List Bool) : Prop :=
  fl.length = t.length ∧ ∀ j, j < t.length → (fl[j]? = some true ↔ (j = i ∨ (∃ m, ∃ h : m < t.length, m < k ∧ Up t i m ∧ (j : Int) ∈ kidsN t[m]) ∨ ∃ h : k < t.length, (j : Int) ∈ (kidsN t[k]).take q))

theorem FL.start {t : List GNode} {i : Nat} (hi : i < t.length) : FL t i i 0 ((List.replicate t.length false).set i true) := by
  refine ⟨by simp, fun j hj => ?_⟩
  by_cases e : i = j
  · subst e
    rw [List.getElem?_set_self (by simpa using hj)]
    simp
  · rw [List.getElem?_set_ne e, List.getElem?_replicate, if_pos hj]
    constructor
    · intro h; cases h
    · rintro (h | ⟨m, hm, h1, h2, -⟩ | ⟨h, h2⟩)
      · exact absurd h.symm e
      · have := h2.ge; omega
      · simp at h2
theorem FL.at {t : List GNode} {i k : Nat} {fl : List Bool} (h : FL t i k 0 fl) (hk : k < t.length) : fl[k]? = some true ↔ Up t i k := by
  rw [h.2 k hk]
  constructor
  · rintro (h | ⟨m, hm, h1, h2, h3⟩ | ⟨h, h2⟩)
    · subst h; exact Up.here
    · have := Up.step hm h2 h3 (by omega)
      simpa using this
    · simp at h2
  · intro h
    cases h with
    | here => exact .inl rfl
    | step hm hu hc hlt => exact .inr (.inl ⟨_, hm, by omega, hu, by rw [Int.toNat_of_nonneg (by omega)]; exact hc⟩)
theorem FL.skip {t : List GNode} {i k : Nat} {fl : List Bool} (h : FL t i k 0 fl) (hn : ¬ Up t i k) : FL t i (k + 1) 0 fl := by
  refine ⟨h.1, fun j hj => (h.2 j hj).trans ⟨?_, ?_⟩⟩
  · rintro (h | ⟨m, hm, h1, h2, h3⟩ | ⟨h, h2⟩)
    · exact .inl h
    · exact .inr (.inl ⟨m, hm, by omega, h2, h3⟩)
    · simp at h2
  · rintro (h | ⟨m, hm, h1, h2, h3⟩ | ⟨h, h2⟩)
    · exact .inl h
    · by_cases e : m = k
      · subst e; exact absurd h2 hn
      · exact .inr (.inl ⟨m, hm, by omega, h2, h3⟩)
    · simp at h2
theorem FL.set {t : List GNode} {i k q c : Nat} {fl : List Bool} (h : FL t i k q fl) (hk : k < t.length) (hq : q < (kidsN t[k]).length) (hc : (kidsN t[k])[q] = (c : Int)) (hcl : c < t.length) : FL t i k (q + 1) (fl.set c true) := by
  refine ⟨by rw [List.length_set]; exact h.1, fun j hj => ?_⟩
  have ht : ∀ h : k < t.length, (kidsN t[k]).take (q + 1) = (kidsN t[k]).take q ++ [(c : Int)] := fun _ => by rw [List.take_succ_eq_append_getElem hq, hc]
  by_cases e : c = j
  · subst e
    rw [List.getElem?_set_self (by rw [h.1]; exact hj)]
    refine ⟨fun _ => .inr (.inr ⟨hk, by rw [ht hk]; simp⟩), fun _ => rfl⟩
  · rw [List.getElem?_set_ne e, h.2 j hj]
    constructor
    · rintro (h | h | ⟨h, h2⟩)
      · exact .inl h
      · exact .inr (.inl h)
      · exact .inr (.inr ⟨h, by rw [ht h]; exact List.mem_append_left _ h2⟩)
    · rintro (h | h | ⟨h, h2⟩)
      · exact .inl h
      · exact .inr (.inl h)
      · rw [ht h] at h2
        rcases List.mem_append.1 h2 with h2 | h2
        · exact .inr (.inr ⟨h, h2⟩)
        · simp at h2
          omega
theorem FL.next {t : List GNode} {i k : Nat} {fl : List Bool} (hk : k < t.length) (h : FL t i k (kidsN t[k]).length fl) (hu : Up t i k) : FL t i (k + 1) 0 fl := by
  refine ⟨h.1, fun j hj => (h.2 j hj).trans ⟨?_, ?_⟩⟩
  · rintro (h | ⟨m, hm, h1, h2, h3⟩ | ⟨h, h2⟩)
    · exact .inl h
    · exact .inr (.inl ⟨m, hm, by omega, h2, h3⟩)
    · rw [List.take_length] at h2
      exact .inr (.inl ⟨k, hk, by omega, hu, h2⟩)
  · rintro (h | ⟨m, hm, h1, h2, h3⟩ | ⟨h, h2⟩)
    · exact .inl h
    · by_cases e : m = k
      · subst e; exact .inr (.inr ⟨hm, by rw [List.take_length]; exact h3⟩)
      · exact .inr (.inl ⟨m, hm, by omega, h2, h3⟩)
    · simp at h2

/-! ### What InternTree answers -/
open Classical in
noncomputable def goodB (t : List GNode) (i : Nat) : Bool := decide (GoodT t i)
/-- The store with the subtree, and its cell; the store alone and -1 where that cannot be. -/
def itnN (s : GStore) (t : List GNode) (i : Nat) : GStore × Int :=
  match inN t t.length s (List.replicate t.length (-1)) i with
  | none => (s, -1)
  | some (s', _, k) => (s', k)
open Classical in
noncomputable def itnOf (s : GStore) (t : List GNode) (i : Int) : GStore × Int :=
  if ValidStore s ∧ 0 ≤ i ∧ i ≤ (t.length : Int) - 1 then itnN s t i.toNat else (s, -1)
theorem itnOf_yes {s : GStore} {t : List GNode} {i : Int} (h : ValidStore s ∧ 0 ≤ i ∧ i ≤ (t.length : Int) - 1) : itnOf s t i = itnN s t i.toNat := if_pos h
theorem itnOf_no {s : GStore} {t : List GNode} {i : Int} (h : ¬ (ValidStore s ∧ 0 ≤ i ∧ i ≤ (t.length : Int) - 1)) : itnOf s t i = (s, -1) := if_neg h
theorem itn_start (t : List GNode) : DoneOk t (List.replicate t.length (-1)) := by
  intro j y hj hy
  have := List.mem_replicate.1 (List.mem_of_getElem? hj)
  omega
theorem itnN_bad {s : GStore} {t : List GNode} {i : Nat} (hi : i < t.length) (h : ¬ GoodT t i) : inN t t.length s (List.replicate t.length (-1)) i = none := by
  have h1 := (inN_some t t.length s (List.replicate t.length (-1)) i hi (by omega) (by simp) (itn_start t)).1
  cases hN : inN t t.length s (List.replicate t.length (-1)) i with
  | none => rfl
  | some r => exact absurd (h1.1 ⟨r, hN⟩) h
theorem itnN_good {s : GStore} {t : List GNode} {i : Nat} (hi : i < t.length) (h : GoodT t i) : ∃ s' d' k, inN t t.length s (List.replicate t.length (-1)) i = some (s', d', k) ∧ 0 ≤ k ∧ k < (s'.length : Int) ∧ wtStore s' ≤ wtStore s + wtTree t := by
  have h1 := (inN_some t t.length s (List.replicate t.length (-1)) i hi (by omega) (by simp) (itn_start t)).1
  obtain ⟨⟨s', d', k⟩, hr⟩ := h1.2 h
  obtain ⟨h2, h3, h4⟩ := inN_ok t t.length s (List.replicate t.length (-1)) i s' d' k hi (by simp) hr
  have h5 := h2.wt
  rw [pot_start] at h5
  exact ⟨s', d', k, hr, h3, h4 (fun y hy => by have := (List.mem_replicate.1 hy).2; omega), by omega⟩
theorem itn_wt {s : GStore} {t : List GNode} (hs : wtStore s ≤ 1048576) (ht : wtTree t ≤ 1048576) (i : Int) : wtStore (itnOf s t i).1 ≤ 2097152 := by
  by_cases h : ValidStore s ∧ 0 ≤ i ∧ i ≤ (t.length : Int) - 1
  · rw [itnOf_yes h]
    by_cases hg : GoodT t i.toNat
    · obtain ⟨s', d', k, e, -, -, h2⟩ := itnN_good (s := s) (t := t) (i := i.toNat) (by omega) hg
      unfold itnN
      rw [e]
      simp only
      omega
    · unfold itnN
      rw [itnN_bad (by omega) hg]
      simp only
      omega
  · rw [itnOf_no h]
    simp only
    omega
end Go.Proofs.Ytmfcagcanhmdbaa
