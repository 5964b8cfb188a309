/- A subtree interned in a store, plainly. No condition. -/
import Derived.Test.YtmfcagcanhmdbaaFamTree
import Derived.Test.YtmfcagcanhmdbaaValidA
namespace Go.Proofs.Ytmfcagcanhmdbaa
open Go.RowKit
set_option linter.unusedVariables false

def kidsN (x : GNode) : List Int := x.2.2.2.2.2
theorem idxOf_ltC {α : Type} (p : α → Bool) (xs : List α) : idxOf p xs < xs.length ∨ idxOf p xs = -1 := by
  induction xs with
  | nil => right; rfl
  | cons x xs ih =>
    simp only [idxOf, List.length_cons]
    split
    · left; omega
    · split <;> omega

/-- One child more, where all went well. -/
def inStep (T : GStore → List Int → Nat → Option (GStore × List Int × Int)) (i n : Nat) (st : Option (GStore × List Int × List Int)) (c : Int) : Option (GStore × List Int × List Int) :=
  match st with
  | none => none
  | some (s, d, ks) => if (i : Int) + 1 ≤ c ∧ c ≤ (n : Int) - 1 then
      match T s d c.toNat with
      | none => none
      | some (s', d', k) => some (s', d', ks ++ [k])
    else none
def inK (T : GStore → List Int → Nat → Option (GStore × List Int × Int)) (i n : Nat) (s : GStore) (d : List Int) (cs : List Int) : Option (GStore × List Int × List Int) := cs.foldl (inStep T i n) (some (s, d, []))
/-- A cell found in a store, or put at its end. -/
def putC (s : GStore) (x : GCell) : GStore × Int := if idxOf (fun z => decide (z = x)) s < 0 then (s ++ [x], s.length) else (s, idxOf (fun z => decide (z = x)) s)
/-- The subtree of node i: the store, the cells of the nodes, the cell; none where a child does not come behind its node. -/
def inN (t : List GNode) : Nat → GStore → List Int → Nat → Option (GStore × List Int × Int)
  | 0, _, _, _ => none
  | f + 1, s, d, i => if 0 ≤ d.getD i 0 then some (s, d, d.getD i 0) else
    match t[i]? with
    | none => none
    | some x => match inK (inN t f) i t.length s d (kidsN x) with
      | none => none
      | some (s', d', ks) => some ((putC s' (x.2.2.2.2.1, x.2.2.2.1, ks)).1, d'.set i (putC s' (x.2.2.2.2.1, x.2.2.2.1, ks)).2, (putC s' (x.2.2.2.2.1, x.2.2.2.1, ks)).2)

theorem inN_done {t : List GNode} {f : Nat} {s : GStore} {d : List Int} {i : Nat} {y : Int} (h : d[i]? = some y) (hy : 0 ≤ y) : inN t (f + 1) s d i = some (s, d, y) := by
  unfold inN
  rw [List.getD_eq_getElem?_getD, h, Option.getD_some, if_pos hy]
theorem inN_new {t : List GNode} {f : Nat} {s : GStore} {d : List Int} {i : Nat} {y : Int} {x : GNode} (h : d[i]? = some y) (hy : y < 0) (hx : t[i]? = some x) : inN t (f + 1) s d i =
    match inK (inN t f) i t.length s d (kidsN x) with
    | none => none
    | some (s', d', ks) => some ((putC s' (x.2.2.2.2.1, x.2.2.2.1, ks)).1, d'.set i (putC s' (x.2.2.2.2.1, x.2.2.2.1, ks)).2, (putC s' (x.2.2.2.2.1, x.2.2.2.1, ks)).2) := by
  conv => lhs; unfold inN
  rw [List.getD_eq_getElem?_getD, h, Option.getD_some, if_neg (by omega), hx]

theorem inK_none {T : GStore → List Int → Nat → Option (GStore × List Int × Int)} {i n : Nat} (cs : List Int) : cs.foldl (inStep T i n) none = none := by
  induction cs with
  | nil => rfl
  | cons c cs ih => exact ih
theorem inK_snoc (T : GStore → List Int → Nat → Option (GStore × List Int × Int)) (i n : Nat) (s : GStore) (d : List Int) (cs : List Int) (c : Int) : inK T i n s d (cs ++ [c]) = inStep T i n (inK T i n s d cs) c := by
  unfold inK; rw [List.foldl_append]; rfl
/-- A part that went wrong spoils the whole. -/
theorem inK_take {T : GStore → List Int → Nat → Option (GStore × List Int × Int)} {i n : Nat} {s : GStore} {d : List Int} {cs : List Int} {k : Nat} (h : inK T i n s d (cs.take k) = none) : inK T i n s d cs = none := by
  have e : inK T i n s d cs = (cs.drop k).foldl (inStep T i n) (inK T i n s d (cs.take k)) := by
    unfold inK
    rw [← List.foldl_append, List.take_append_drop]
  rw [e, h, inK_none]

/-- What is still to come: nodes without a cell, and their sizes. -/
def pot : List GNode → List Int → Nat
  | x :: xs, d :: ds => (if d < 0 then 1 + wtNode x else 0) + pot xs ds
  | _, _ => 0
theorem pot_set (xs : List GNode) : ∀ (ds : List Int) (i : Nat) (h1 : i < xs.length) (h2 : i < ds.length) (y : Int), ds[i] < 0 → 0 ≤ y → pot xs (ds.set i y) + (1 + wtNode xs[i]) = pot xs ds := by
  induction xs with
  | nil => intro ds i h1; simp at h1
  | cons x xs ih =>
    intro ds i h1 h2 y hd hy
    cases ds with
    | nil => simp at h2
    | cons d ds =>
      cases i with
      | zero =>
        simp only [List.getElem_cons_zero] at hd
        simp only [List.set_cons_zero, pot, List.getElem_cons_zero]
        rw [if_neg (by omega), if_pos hd]
        omega
      | succ i =>
        simp only [List.getElem_cons_succ] at hd
        have := ih ds i (by simpa using h1) (by simpa using h2) y hd hy
        simp only [List.set_cons_succ, pot, List.getElem_cons_succ]
        omega
theorem pot_start (xs : List GNode) : pot xs (List.replicate xs.length (-1)) = wtTree xs := by
  show _ = wtL wtNode xs
  induction xs with
  | nil => rfl
  | cons x xs ih =>
    simp only [List.length_cons, List.replicate_succ, pot, ih, wtL, List.map_cons, List.sum_cons]
    simp
    omega

theorem wtStore_snoc (s : GStore) (x : GCell) : wtStore (s ++ [x]) = wtStore s + (1 + wtCell x) := by
  show wtL wtCell _ = wtL wtCell _ + _
  unfold wtL
  simp
  omega
theorem putC_facts (s : GStore) (x : GCell) : 0 ≤ (putC s x).2 ∧ (putC s x).2 < ((putC s x).1.length : Int) ∧ wtStore (putC s x).1 ≤ wtStore s + (1 + wtCell x) ∧ s.length ≤ (putC s x).1.length := by
  unfold putC
  have h1 := idxOf_ge (fun z => decide (z = x)) s
  have h2 := idxOf_ltC (fun z => decide (z = x)) s
  split
  · refine ⟨by simp, by simp; omega, by rw [wtStore_snoc]; exact Nat.le_refl _, by simp⟩
  · refine ⟨by omega, by simp only; omega, by simp only; omega, Nat.le_refl _⟩

/-- Facts of a step that went well. -/
structure InOk (t : List GNode) (i : Nat) (s : GStore) (d : List Int) (s' : GStore) (d' : List Int) : Prop where
  len : d'.length = d.length
  low : ∀ j, j < i → d'[j]? = d[j]?
  wt : wtStore s' + pot t d' ≤ wtStore s + pot t d
  le : s.length ≤ s'.length
  bd : (∀ y ∈ d, y < (s.length : Int)) → ∀ y ∈ d', y < (s'.length : Int)

theorem InOk.refl (t : List GNode) (i : Nat) (s : GStore) (d : List Int) : InOk t i s d s d := ⟨rfl, fun _ _ => rfl, Nat.le_refl _, Nat.le_refl _, fun h => h⟩
theorem InOk.trans {t : List GNode} {i j : Nat} {s1 s2 s3 : GStore} {d1 d2 d3 : List Int} (h : InOk t i s1 d1 s2 d2) (k : InOk t j s2 d2 s3 d3) (hij : i ≤ j) : InOk t i s1 d1 s3 d3 :=
  ⟨k.len.trans h.len, fun m hm => (k.low m (by omega)).trans (h.low m hm), Nat.le_trans k.wt h.wt, Nat.le_trans h.le k.le, fun hb => k.bd (h.bd hb)⟩

/-- Kids: the same facts, for nodes behind i. -/
theorem inK_ok {t : List GNode} {T : GStore → List Int → Nat → Option (GStore × List Int × Int)} {i : Nat} (n : Nat) (H : ∀ s d j s' d' k, i < j → j < n → d.length = n → T s d j = some (s', d', k) → InOk t j s d s' d' ∧ 0 ≤ k ∧ ((∀ y ∈ d, y < (s.length : Int)) → k < (s'.length : Int))) (cs : List Int) :
    ∀ s d ks s' d' ks', d.length = n → cs.foldl (inStep T i n) (some (s, d, ks)) = some (s', d', ks') → InOk t (i + 1) s d s' d' ∧ ks'.length = ks.length + cs.length ∧ ((∀ y ∈ d, y < (s.length : Int)) → (∀ y ∈ ks, 0 ≤ y ∧ y < (s.length : Int)) → ∀ y ∈ ks', 0 ≤ y ∧ y < (s'.length : Int)) := by
  induction cs with
  | nil =>
    intro s d ks s' d' ks' hd h
    simp only [List.foldl_nil, Option.some.injEq, Prod.mk.injEq] at h
    obtain ⟨rfl, rfl, rfl⟩ := h
    exact ⟨InOk.refl .., rfl, fun _ h => h⟩
  | cons c cs ih =>
    intro s d ks s' d' ks' hd h
    rw [List.foldl_cons] at h
    by_cases hc : (i : Int) + 1 ≤ c ∧ c ≤ (n : Int) - 1
    · cases hT : T s d c.toNat with
      | none =>
        have : inStep T i n (some (s, d, ks)) c = none := by simp only [inStep]; rw [if_pos hc, hT]
        rw [this, inK_none] at h
        cases h
      | some r =>
        obtain ⟨s1, d1, k1⟩ := r
        have e : inStep T i n (some (s, d, ks)) c = some (s1, d1, ks ++ [k1]) := by simp only [inStep]; rw [if_pos hc, hT]
        rw [e] at h
        obtain ⟨h1, h2, h3⟩ := H s d c.toNat s1 d1 k1 (by omega) (by omega) hd hT
        obtain ⟨g1, g2, g3⟩ := ih s1 d1 (ks ++ [k1]) s' d' ks' (h1.len.trans hd) h
        have h1' : InOk t (i + 1) s d s1 d1 := ⟨h1.len, fun m hm => h1.low m (by omega), h1.wt, h1.le, h1.bd⟩
        refine ⟨h1'.trans g1 (Nat.le_refl _), by rw [g2]; simp; omega, fun hb hk => g3 (h1.bd hb) fun y hy => ?_⟩
        rcases List.mem_append.1 hy with hy | hy
        · have := hk y hy
          have := h1.le
          omega
        · simp at hy
          subst hy
          exact ⟨h2, h3 hb⟩
    · have : inStep T i n (some (s, d, ks)) c = none := by simp only [inStep]; rw [if_neg hc]
      rw [this, inK_none] at h
      cases h

theorem inN_ok (t : List GNode) : ∀ f s d i s' d' k, i < t.length → d.length = t.length → inN t f s d i = some (s', d', k) → InOk t i s d s' d' ∧ 0 ≤ k ∧ ((∀ y ∈ d, y < (s.length : Int)) → k < (s'.length : Int)) := by
  intro f
  induction f with
  | zero => intro s d i s' d' k hit hd h; simp [inN] at h
  | succ f ih =>
    intro s d i s' d' k hit hd h
    by_cases hi : i < d.length
    · have hi' : d[i]? = some d[i] := List.getElem?_eq_getElem hi
      by_cases hy : 0 ≤ d[i]
      · rw [inN_done hi' hy] at h
        simp only [Option.some.injEq, Prod.mk.injEq] at h
        obtain ⟨rfl, rfl, rfl⟩ := h
        exact ⟨InOk.refl .., hy, fun h => h _ (List.getElem_mem hi)⟩
      · have hx : t[i]? = some (t[i]'(by omega)) := List.getElem?_eq_getElem _
        rw [inN_new hi' (by omega) hx] at h
        cases hK : inK (inN t f) i t.length s d (kidsN (t[i]'(by omega))) with
        | none => rw [hK] at h; cases h
        | some r =>
          obtain ⟨s1, d1, ks⟩ := r
          rw [hK] at h
          simp only [Option.some.injEq, Prod.mk.injEq] at h
          obtain ⟨rfl, rfl, rfl⟩ := h
          obtain ⟨g1, g2, g3⟩ := inK_ok (t := t) (T := inN t f) (i := i) t.length (fun s d j s' d' k _ hj hd h => ih s d j s' d' k hj hd h) _ s d [] s1 d1 ks hd hK
          obtain ⟨p1, p2, p3, p4⟩ := putC_facts s1 ((t[i]'(by omega)).2.2.2.2.1, (t[i]'(by omega)).2.2.2.1, ks)
          have hl1 : i < d1.length := by rw [g1.len]; exact hi
          have hdi : d1[i] = d[i] := by
            have := g1.low i (by omega)
            rw [List.getElem?_eq_getElem hl1, List.getElem?_eq_getElem hi] at this
            exact Option.some.inj this
          have hp := pot_set t d1 i (by omega) hl1 _ (by rw [hdi]; omega) p1
          have hw : wtCell ((t[i]'(by omega)).2.2.2.2.1, (t[i]'(by omega)).2.2.2.1, ks) = wtNode (t[i]'(by omega)) := by
            show (t[i]'(by omega)).2.2.2.2.1.size + ks.length = (t[i]'(by omega)).2.2.2.2.1.size + (kidsN (t[i]'(by omega))).length
            rw [g2]; simp
          refine ⟨⟨by simp [g1.len], fun j hj => ?_, ?_, Nat.le_trans g1.le p4, fun hb y hy => ?_⟩, p1, fun _ => p2⟩
          · rw [List.getElem?_set_ne (by omega)]; exact g1.low j (by omega)
          · have := g1.wt
            rw [hw] at p3
            omega
          · rcases List.mem_or_eq_of_mem_set hy with hy | rfl
            · have := g1.bd hb y hy
              omega
            · exact p2
    · omega

end Go.Proofs.Ytmfcagcanhmdbaa
