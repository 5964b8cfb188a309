/- A subtree interned in a store, plainly. Which subtrees can be interned: all nodes that are reached have children behind them; plainly. No condition. -/
import Derived.Test.YtmfcagcanhmdbaaE08
import Derived.Test.YtmfcagcanhmdbaaE31
namespace Go.Proofs.Ytmfcagcanhmdbaa
open Go.RowKit
set_option linter.unusedVariables false

def kidsN (x : GNode) : List Int := x.2.2.2.2.2
theorem idxOf_ltC {α : Type} (p : α → Bool) (xs : List α) : idxOf p xs < xs.length ∨ idxOf p xs = -1 := by
 induction xs with
 | nil => right; rfl
 | cons x xs ih =>
  simp only [idxOf, List.length_cons]
  split
  ·left; omega
  ·split <;> omega

def inStep (T : GStore → List Int → Nat → Option (GStore × List Int × Int)) (i n : Nat) (st : Option (GStore × List Int × List Int)) (c : Int) : Option (GStore × List Int × List Int) :=
 match st with
 | none => none
 | some (s, d, ks) => if (i : Int) + 1 ≤ c ∧ c ≤ (n : Int) - 1 then
   match T s d c.toNat with
   | none => none
   | some (s', d', k) => some (s', d', ks ++ [k])
  else none
def inK (T : GStore → List Int → Nat → Option (GStore × List Int × Int)) (i n : Nat) (s : GStore) (d : List Int) (cs : List Int) : Option (GStore × List Int × List Int) := cs.foldl (inStep T i n) (some (s, d, []))
def putC (s : GStore) (x : GCell) : GStore × Int := if idxOf (fun z => decide (z = x)) s < 0 then (s ++ [x], s.length) else (s, idxOf (fun z => decide (z = x)) s)
def inN (t : List GNode) : Nat → GStore → List Int → Nat → Option (GStore × List Int × Int)
 | 0, _, _, _ => none
 | f + 1, s, d, i => if 0 ≤ d.getD i 0 then some (s, d, d.getD i 0) else
  match t[i]? with
  | none => none
  | some x => match inK (inN t f) i t.length s d (kidsN x) with
   | none => none
   | some (s', d', ks) => some ((putC s' (x.2.2.2.2.1, x.2.2.2.1, ks)).1, d'.set i (putC s' (x.2.2.2.2.1, x.2.2.2.1, ks)).2, (putC s' (x.2.2.2.2.1, x.2.2.2.1, ks)).2)

theorem inN_done {t : List GNode} {f : Nat} {s : GStore} {d : List Int} {i : Nat} {y : Int} (h : d[i]? = some y) (hy : 0 ≤ y) : inN t (f + 1) s d i = some (s, d, y) := by
 unfold inN
 rw [List.getD_eq_getElem?_getD, h, Option.getD_some, if_pos hy]
theorem inN_new {t : List GNode} {f : Nat} {s : GStore} {d : List Int} {i : Nat} {y : Int} {x : GNode} (h : d[i]? = some y) (hy : y < 0) (hx : t[i]? = some x) : inN t (f + 1) s d i =
  match inK (inN t f) i t.length s d (kidsN x) with
  | none => none
  | some (s', d', ks) => some ((putC s' (x.2.2.2.2.1, x.2.2.2.1, ks)).1, d'.set i (putC s' (x.2.2.2.2.1, x.2.2.2.1, ks)).2, (putC s' (x.2.2.2.2.1, x.2.2.2.1, ks)).2) := by
 conv => lhs; unfold inN
 rw [List.getD_eq_getElem?_getD, h, Option.getD_some, if_neg (by omega), hx]

theorem inK_none {T : GStore → List Int → Nat → Option (GStore × List Int × Int)} {i n : Nat} (cs : List Int) : cs.foldl (inStep T i n) none = none := by
 induction cs with
 | nil => rfl
 | cons c cs ih => exact ih
theorem inK_snoc (T : GStore → List Int → Nat → Option (GStore × List Int × Int)) (i n : Nat) (s : GStore) (d : List Int) (cs : List Int) (c : Int) : inK T i n s d (cs ++ [c]) = inStep T i n (inK T i n s d cs) c := by
 unfold inK; rw [List.foldl_append]; rfl
theorem inK_take {T : GStore → List Int → Nat → Option (GStore × List Int × Int)} {i n : Nat} {s : GStore} {d : List Int} {cs : List Int} {k : Nat} (h : inK T i n s d (cs.take k) = none) : inK T i n s d cs = none := by
 have e : inK T i n s d cs = (cs.drop k).foldl (inStep T i n) (inK T i n s d (cs.take k)) := by
  unfold inK
  rw [← List.foldl_append, List.take_append_drop]
 rw [e, h, inK_none]

def pot : List GNode → List Int → Nat
 | x :: xs, d :: ds => (if d < 0 then 1 + wtNode x else 0) + pot xs ds
 | _, _ => 0
theorem pot_set (xs : List GNode) : ∀ (ds : List Int) (i : Nat) (h1 : i < xs.length) (h2 : i < ds.length) (y : Int), ds[i] < 0 → 0 ≤ y → pot xs (ds.set i y) + (1 + wtNode xs[i]) = pot xs ds := by
 induction xs with
 | nil => intro ds i h1; simp at h1
 | cons x xs ih =>
  intro ds i h1 h2 y hd hy
  cases ds with
  | nil => simp at h2
  | cons d ds =>
   cases i with
   | zero =>
    simp only [List.getElem_cons_zero] at hd
    simp only [List.set_cons_zero, pot, List.getElem_cons_zero]
    rw [if_neg (by omega), if_pos hd]
    omega
   | succ i =>
    simp only [List.getElem_cons_succ] at hd
    have := ih ds i (by simpa using h1) (by simpa using h2) y hd hy
    simp only [List.set_cons_succ, pot, List.getElem_cons_succ]
    omega
theorem pot_start (xs : List GNode) : pot xs (List.replicate xs.length (-1)) = wtTree xs := by
 show _ = wtL wtNode xs
 induction xs with
 | nil => rfl
 | cons x xs ih =>
  simp only [List.length_cons, List.replicate_succ, pot, ih, wtL, List.map_cons, List.sum_cons]
  simp
  omega

theorem wtStore_snoc (s : GStore) (x : GCell) : wtStore (s ++ [x]) = wtStore s + (1 + wtCell x) := by
 show wtL wtCell _ = wtL wtCell _ + _
 unfold wtL
 simp
 omega
theorem putC_facts (s : GStore) (x : GCell) : 0 ≤ (putC s x).2 ∧ (putC s x).2 < ((putC s x).1.length : Int) ∧ wtStore (putC s x).1 ≤ wtStore s + (1 + wtCell x) ∧ s.length ≤ (putC s x).1.length := by
 unfold putC
 have h1 := idxOf_ge (fun z => decide (z = x)) s
 have h2 := idxOf_ltC (fun z => decide (z = x)) s
 split
 ·refine ⟨by simp, by simp; omega, by rw [wtStore_snoc]; exact Nat.le_refl _, by simp⟩
 ·refine ⟨by omega, by simp only; omega, by simp only; omega, Nat.le_refl _⟩

structure InOk (t : List GNode) (i : Nat) (s : GStore) (d : List Int) (s' : GStore) (d' : List Int) : Prop where
 len : d'.length = d.length
 low : ∀ j, j < i → d'[j]? = d[j]?
 wt : wtStore s' + pot t d' ≤ wtStore s + pot t d
 le : s.length ≤ s'.length
 bd : (∀ y ∈ d, y < (s.length : Int)) → ∀ y ∈ d', y < (s'.length : Int)

theorem InOk.refl (t : List GNode) (i : Nat) (s : GStore) (d : List Int) : InOk t i s d s d := ⟨rfl, fun _ _ => rfl, Nat.le_refl _, Nat.le_refl _, fun h => h⟩
theorem InOk.trans {t : List GNode} {i j : Nat} {s1 s2 s3 : GStore} {d1 d2 d3 : List Int} (h : InOk t i s1 d1 s2 d2) (k : InOk t j s2 d2 s3 d3) (hij : i ≤ j) : InOk t i s1 d1 s3 d3 :=
 ⟨k.len.trans h.len, fun m hm => (k.low m (by omega)).trans (h.low m hm), Nat.le_trans k.wt h.wt, Nat.le_trans h.le k.le, fun hb => k.bd (h.bd hb)⟩

theorem inK_ok {t : List GNode} {T : GStore → List Int → Nat → Option (GStore × List Int × Int)} {i : Nat} (n : Nat) (H : ∀ s d j s' d' k, i < j → j < n → d.length = n → T s d j = some (s', d', k) → InOk t j s d s' d' ∧ 0 ≤ k ∧ ((∀ y ∈ d, y < (s.length : Int)) → k < (s'.length : Int))) (cs : List Int) :
  ∀ s d ks s' d' ks', d.length = n → cs.foldl (inStep T i n) (some (s, d, ks)) = some (s', d', ks') → InOk t (i + 1) s d s' d' ∧ ks'.length = ks.length + cs.length ∧ ((∀ y ∈ d, y < (s.length : Int)) → (∀ y ∈ ks, 0 ≤ y ∧ y < (s.length : Int)) → ∀ y ∈ ks', 0 ≤ y ∧ y < (s'.length : Int)) := by
 induction cs with
 | nil =>
  intro s d ks s' d' ks' hd h
  simp only [List.foldl_nil, Option.some.injEq, Prod.mk.injEq] at h
  obtain ⟨rfl, rfl, rfl⟩ := h
  exact ⟨InOk.refl .., rfl, fun _ h => h⟩
 | cons c cs ih =>
  intro s d ks s' d' ks' hd h
  rw [List.foldl_cons] at h
  by_cases hc : (i : Int) + 1 ≤ c ∧ c ≤ (n : Int) - 1
  ·cases hT : T s d c.toNat with
   | none =>
    have : inStep T i n (some (s, d, ks)) c = none := by simp only [inStep]; rw [if_pos hc, hT]
    rw [this, inK_none] at h
    cases h
   | some r =>
    obtain ⟨s1, d1, k1⟩ := r
    have e : inStep T i n (some (s, d, ks)) c = some (s1, d1, ks ++ [k1]) := by simp only [inStep]; rw [if_pos hc, hT]
    rw [e] at h
    obtain ⟨h1, h2, h3⟩ := H s d c.toNat s1 d1 k1 (by omega) (by omega) hd hT
    obtain ⟨g1, g2, g3⟩ := ih s1 d1 (ks ++ [k1]) s' d' ks' (h1.len.trans hd) h
    have h1' : InOk t (i + 1) s d s1 d1 := ⟨h1.len, fun m hm => h1.low m (by omega), h1.wt, h1.le, h1.bd⟩
    refine ⟨h1'.trans g1 (Nat.le_refl _), by rw [g2]; simp; omega, fun hb hk => g3 (h1.bd hb) fun y hy => ?_⟩
    rcases List.mem_append.1 hy with hy | hy
    ·have := hk y hy
     have := h1.le
     omega
    ·simp at hy
     subst hy
     exact ⟨h2, h3 hb⟩
  ·have : inStep T i n (some (s, d, ks)) c = none := by simp only [inStep]; rw [if_neg hc]
   rw [this, inK_none] at h
   cases h

theorem inN_ok (t : List GNode) : ∀ f s d i s' d' k, i < t.length → d.length = t.length → inN t f s d i = some (s', d', k) → InOk t i s d s' d' ∧ 0 ≤ k ∧ ((∀ y ∈ d, y < (s.length : Int)) → k < (s'.length : Int)) := by
 intro f
 induction f with
 | zero => intro s d i s' d' k hit hd h; simp [inN] at h
 | succ f ih =>
  intro s d i s' d' k hit hd h
  by_cases hi : i < d.length
  ·have hi' : d[i]? = some d[i] := List.getElem?_eq_getElem hi
   by_cases hy : 0 ≤ d[i]
   ·rw [inN_done hi' hy] at h
    simp only [Option.some.injEq, Prod.mk.injEq] at h
    obtain ⟨rfl, rfl, rfl⟩ := h
    exact ⟨InOk.refl .., hy, fun h => h _ (List.getElem_mem hi)⟩
   ·have hx : t[i]? = some (t[i]'(by omega)) := List.getElem?_eq_getElem _
    rw [inN_new hi' (by omega) hx] at h
    cases hK : inK (inN t f) i t.length s d (kidsN (t[i]'(by omega))) with
    | none => rw [hK] at h; cases h
    | some r =>
     obtain ⟨s1, d1, ks⟩ := r
     rw [hK] at h
     simp only [Option.some.injEq, Prod.mk.injEq] at h
     obtain ⟨rfl, rfl, rfl⟩ := h
     obtain ⟨g1, g2, g3⟩ := inK_ok (t := t) (T := inN t f) (i := i) t.length (fun s d j s' d' k _ hj hd h => ih s d j s' d' k hj hd h) _ s d [] s1 d1 ks hd hK
     obtain ⟨p1, p2, p3, p4⟩ := putC_facts s1 ((t[i]'(by omega)).2.2.2.2.1, (t[i]'(by omega)).2.2.2.1, ks)
     have hl1 : i < d1.length := by rw [g1.len]; exact hi
     have hdi : d1[i] = d[i] := by
      have := g1.low i (by omega)
      rw [List.getElem?_eq_getElem hl1, List.getElem?_eq_getElem hi] at this
      exact Option.some.inj this
     have hp := pot_set t d1 i (by omega) hl1 _ (by rw [hdi]; omega) p1
     have hw : wtCell ((t[i]'(by omega)).2.2.2.2.1, (t[i]'(by omega)).2.2.2.1, ks) = wtNode (t[i]'(by omega)) := by
      show (t[i]'(by omega)).2.2.2.2.1.size + ks.length = (t[i]'(by omega)).2.2.2.2.1.size + (kidsN (t[i]'(by omega))).length
      rw [g2]; simp
     refine ⟨⟨by simp [g1.len], fun j hj => ?_, ?_, Nat.le_trans g1.le p4, fun hb y hy => ?_⟩, p1, fun _ => p2⟩
     ·rw [List.getElem?_set_ne (by omega)]; exact g1.low j (by omega)
     ·have := g1.wt
      rw [hw] at p3
      omega
     ·rcases List.mem_or_eq_of_mem_set hy with hy | rfl
      ·have := g1.bd hb y hy
       omega
      ·exact p2
  ·omega

end Go.Proofs.Ytmfcagcanhmdbaa

namespace Go.Proofs.Ytmfcagcanhmdbaa
open Go.RowKit
set_option linter.unusedVariables false

inductive Up (t : List GNode) (i : Nat) : Nat → Prop
 | here : Up t i i
 | step {m : Nat} {c : Int} (h : m < t.length) (hu : Up t i m) (hc : c ∈ kidsN t[m]) (hm : (m : Int) < c) : Up t i c.toNat

theorem Up.ge {t : List GNode} {i j : Nat} (h : Up t i j) : i ≤ j := by
 induction h with
 | here => exact Nat.le_refl _
 | step h hu hc hm ih => omega
theorem Up.head {t : List GNode} {i j : Nat} (hi : i < t.length) {c : Int} (hc : c ∈ kidsN t[i]) (hm : (i : Int) < c) (h : Up t c.toNat j) : Up t i j := by
 induction h with
 | here => exact Up.step hi Up.here hc hm
 | step h hu hc hm ih => exact Up.step h ih hc hm
theorem Up.first {t : List GNode} {i j : Nat} (hi : i < t.length) (h : Up t i j) : j = i ∨ ∃ c ∈ kidsN t[i], (i : Int) < c ∧ Up t c.toNat j := by
 induction h with
 | here => exact .inl rfl
 | step h hu hc hm ih =>
  rcases ih with e | ⟨d, hd, h1, h2⟩
  ·subst e
   exact .inr ⟨_, hc, hm, Up.here⟩
  ·exact .inr ⟨d, hd, h1, Up.step h h2 hc hm⟩

def KG (t : List GNode) (m : Nat) : Prop := ∀ h : m < t.length, ∀ c ∈ kidsN t[m], (m : Int) + 1 ≤ c ∧ c ≤ (t.length : Int) - 1
def GoodT (t : List GNode) (i : Nat) : Prop := ∀ j, Up t i j → KG t j

theorem good_iff {t : List GNode} {i : Nat} (hi : i < t.length) : GoodT t i ↔ ∀ c ∈ kidsN t[i], ((i : Int) + 1 ≤ c ∧ c ≤ (t.length : Int) - 1) ∧ GoodT t c.toNat := by
 constructor
 ·intro h c hc
  have h1 := h i Up.here hi c hc
  exact ⟨h1, fun j hj => h j (Up.head hi hc (by omega) hj)⟩
 ·intro h j hj
  rcases hj.first hi with e | ⟨c, hc, h1, h2⟩
  ·subst e; exact fun _ c hc => (h c hc).1
  ·exact (h c hc).2 j h2

def DoneOk (t : List GNode) (d : List Int) : Prop := ∀ (j : Nat) (y : Int), d[j]? = some y → 0 ≤ y → GoodT t j

theorem inK_some {t : List GNode} {T : GStore → List Int → Nat → Option (GStore × List Int × Int)} {i : Nat} (H : ∀ s d j, i < j → j < t.length → d.length = t.length → DoneOk t d → ((∃ r, T s d j = some r) ↔ GoodT t j) ∧ ∀ s' d' k, T s d j = some (s', d', k) → DoneOk t d' ∧ d'.length = t.length) (cs : List Int) :
  ∀ s d ks, d.length = t.length → DoneOk t d → ((∃ r, cs.foldl (inStep T i t.length) (some (s, d, ks)) = some r) ↔ ∀ c ∈ cs, ((i : Int) + 1 ≤ c ∧ c ≤ (t.length : Int) - 1) ∧ GoodT t c.toNat) ∧
   ∀ s' d' ks', cs.foldl (inStep T i t.length) (some (s, d, ks)) = some (s', d', ks') → DoneOk t d' ∧ d'.length = t.length := by
 induction cs with
 | nil =>
  intro s d ks hd hD
  refine ⟨⟨fun _ c hc => by simp at hc, fun _ => ⟨_, rfl⟩⟩, fun s' d' ks' h => ?_⟩
  simp only [List.foldl_nil, Option.some.injEq, Prod.mk.injEq] at h
  obtain ⟨rfl, rfl, rfl⟩ := h
  exact ⟨hD, hd⟩
 | cons c cs ih =>
  intro s d ks hd hD
  rw [List.foldl_cons]
  by_cases hc : (i : Int) + 1 ≤ c ∧ c ≤ (t.length : Int) - 1
  ·have hH := H s d c.toNat (by omega) (by omega) hd hD
   cases hT : T s d c.toNat with
   | none =>
    have e : inStep T i t.length (some (s, d, ks)) c = none := by simp only [inStep]; rw [if_pos hc, hT]
    rw [e, inK_none]
    refine ⟨⟨fun ⟨r, h⟩ => (by cases h), fun h => ?_⟩, fun s' d' ks' h => by cases h⟩
    obtain ⟨r, hr⟩ := hH.1.2 (h c (by simp)).2
    rw [hT] at hr
    cases hr
   | some r =>
    obtain ⟨s1, d1, k1⟩ := r
    have e : inStep T i t.length (some (s, d, ks)) c = some (s1, d1, ks ++ [k1]) := by simp only [inStep]; rw [if_pos hc, hT]
    rw [e]
    obtain ⟨h1, h2⟩ := hH.2 s1 d1 k1 hT
    obtain ⟨g1, g2⟩ := ih s1 d1 (ks ++ [k1]) h2 h1
    refine ⟨⟨fun h => ?_, fun h => g1.2 fun x hx => h x (List.mem_cons_of_mem _ hx)⟩, g2⟩
    intro x hx
    rcases List.mem_cons.1 hx with rfl | hx
    ·exact ⟨hc, hH.1.1 ⟨_, hT⟩⟩
    ·exact g1.1 h x hx
  ·have e : inStep T i t.length (some (s, d, ks)) c = none := by simp only [inStep]; rw [if_neg hc]
   rw [e, inK_none]
   exact ⟨⟨fun ⟨r, h⟩ => (by cases h), fun h => absurd (h c (by simp)).1 hc⟩, fun s' d' ks' h => by cases h⟩

theorem inN_some (t : List GNode) : ∀ f s d i, i < t.length → t.length - i ≤ f → d.length = t.length → DoneOk t d → ((∃ r, inN t f s d i = some r) ↔ GoodT t i) ∧ ∀ s' d' k, inN t f s d i = some (s', d', k) → DoneOk t d' ∧ d'.length = t.length := by
 intro f
 induction f with
 | zero => intro s d i hi hf; omega
 | succ f ih =>
  intro s d i hi hf hd hD
  have hi' : d[i]? = some (d[i]'(by omega)) := List.getElem?_eq_getElem _
  by_cases hy : 0 ≤ d[i]'(by omega)
  ·rw [inN_done hi' hy]
   refine ⟨⟨fun _ => hD i _ hi' hy, fun _ => ⟨_, rfl⟩⟩, fun s' d' k h => ?_⟩
   simp only [Option.some.injEq, Prod.mk.injEq] at h
   obtain ⟨rfl, rfl, rfl⟩ := h
   exact ⟨hD, hd⟩
  ·rw [inN_new hi' (by omega) (List.getElem?_eq_getElem hi)]
   have hK := inK_some (t := t) (T := inN t f) (i := i) (fun s d j hij hj hd hD => ih s d j hj (by omega) hd hD) (kidsN t[i]) s d [] hd hD
   rw [good_iff hi, ← hK.1]
   unfold inK
   cases hF : (kidsN t[i]).foldl (inStep (inN t f) i t.length) (some (s, d, [])) with
   | none => exact ⟨⟨fun ⟨r, h⟩ => (by cases h), fun ⟨r, h⟩ => by cases h⟩, fun s' d' k h => by cases h⟩
   | some r =>
    obtain ⟨s1, d1, ks⟩ := r
    obtain ⟨h1, h2⟩ := hK.2 s1 d1 ks hF
    refine ⟨⟨fun _ => ⟨_, rfl⟩, fun _ => ⟨_, rfl⟩⟩, fun s' d' k h => ?_⟩
    simp only [Option.some.injEq, Prod.mk.injEq] at h
    obtain ⟨rfl, rfl, rfl⟩ := h
    refine ⟨fun j y hj hy => ?_, by simp [h2]⟩
    by_cases hji : j = i
    ·subst hji
     rw [good_iff hi]
     exact hK.1.1 ⟨_, hF⟩
    ·rw [List.getElem?_set_ne (fun e => hji e.symm)] at hj
     exact h1 j y hj hy

def FL (t : List GNode) (i k q : Nat) (fl : List Bool) : Prop :=
 fl.length = t.length ∧ ∀ j, j < t.length → (fl[j]? = some true ↔ (j = i ∨ (∃ m, ∃ h : m < t.length, m < k ∧ Up t i m ∧ (j : Int) ∈ kidsN t[m]) ∨ ∃ h : k < t.length, (j : Int) ∈ (kidsN t[k]).take q))

theorem FL.start {t : List GNode} {i : Nat} (hi : i < t.length) : FL t i i 0 ((List.replicate t.length false).set i true) := by
 refine ⟨by simp, fun j hj => ?_⟩
 by_cases e : i = j
 ·subst e
  rw [List.getElem?_set_self (by simpa using hj)]
  simp
 ·rw [List.getElem?_set_ne e, List.getElem?_replicate, if_pos hj]
  constructor
  ·intro h; cases h
  ·rintro (h | ⟨m, hm, h1, h2, -⟩ | ⟨h, h2⟩)
   ·exact absurd h.symm e
   ·have := h2.ge; omega
   ·simp at h2
theorem FL.at {t : List GNode} {i k : Nat} {fl : List Bool} (h : FL t i k 0 fl) (hk : k < t.length) : fl[k]? = some true ↔ Up t i k := by
 rw [h.2 k hk]
 constructor
 ·rintro (h | ⟨m, hm, h1, h2, h3⟩ | ⟨h, h2⟩)
  ·subst h; exact Up.here
  ·have := Up.step hm h2 h3 (by omega)
   simpa using this
  ·simp at h2
 ·intro h
  cases h with
  | here => exact .inl rfl
  | step hm hu hc hlt => exact .inr (.inl ⟨_, hm, by omega, hu, by rw [Int.toNat_of_nonneg (by omega)]; exact hc⟩)
theorem FL.skip {t : List GNode} {i k : Nat} {fl : List Bool} (h : FL t i k 0 fl) (hn : ¬ Up t i k) : FL t i (k + 1) 0 fl := by
 refine ⟨h.1, fun j hj => (h.2 j hj).trans ⟨?_, ?_⟩⟩
 ·rintro (h | ⟨m, hm, h1, h2, h3⟩ | ⟨h, h2⟩)
  ·exact .inl h
  ·exact .inr (.inl ⟨m, hm, by omega, h2, h3⟩)
  ·simp at h2
 ·rintro (h | ⟨m, hm, h1, h2, h3⟩ | ⟨h, h2⟩)
  ·exact .inl h
  ·by_cases e : m = k
   ·subst e; exact absurd h2 hn
   ·exact .inr (.inl ⟨m, hm, by omega, h2, h3⟩)
  ·simp at h2
theorem FL.set {t : List GNode} {i k q c : Nat} {fl : List Bool} (h : FL t i k q fl) (hk : k < t.length) (hq : q < (kidsN t[k]).length) (hc : (kidsN t[k])[q] = (c : Int)) (hcl : c < t.length) : FL t i k (q + 1) (fl.set c true) := by
 refine ⟨by rw [List.length_set]; exact h.1, fun j hj => ?_⟩
 have ht : ∀ h : k < t.length, (kidsN t[k]).take (q + 1) = (kidsN t[k]).take q ++ [(c : Int)] := fun _ => by rw [List.take_succ_eq_append_getElem hq, hc]
 by_cases e : c = j
 ·subst e
  rw [List.getElem?_set_self (by rw [h.1]; exact hj)]
  refine ⟨fun _ => .inr (.inr ⟨hk, by rw [ht hk]; simp⟩), fun _ => rfl⟩
 ·rw [List.getElem?_set_ne e, h.2 j hj]
  constructor
  ·rintro (h | h | ⟨h, h2⟩)
   ·exact .inl h
   ·exact .inr (.inl h)
   ·exact .inr (.inr ⟨h, by rw [ht h]; exact List.mem_append_left _ h2⟩)
  ·rintro (h | h | ⟨h, h2⟩)
   ·exact .inl h
   ·exact .inr (.inl h)
   ·rw [ht h] at h2
    rcases List.mem_append.1 h2 with h2 | h2
    ·exact .inr (.inr ⟨h, h2⟩)
    ·simp at h2
     omega
theorem FL.next {t : List GNode} {i k : Nat} {fl : List Bool} (hk : k < t.length) (h : FL t i k (kidsN t[k]).length fl) (hu : Up t i k) : FL t i (k + 1) 0 fl := by
 refine ⟨h.1, fun j hj => (h.2 j hj).trans ⟨?_, ?_⟩⟩
 ·rintro (h | ⟨m, hm, h1, h2, h3⟩ | ⟨h, h2⟩)
  ·exact .inl h
  ·exact .inr (.inl ⟨m, hm, by omega, h2, h3⟩)
  ·rw [List.take_length] at h2
   exact .inr (.inl ⟨k, hk, by omega, hu, h2⟩)
 ·rintro (h | ⟨m, hm, h1, h2, h3⟩ | ⟨h, h2⟩)
  ·exact .inl h
  ·by_cases e : m = k
   ·subst e; exact .inr (.inr ⟨hm, by rw [List.take_length]; exact h3⟩)
   ·exact .inr (.inl ⟨m, hm, by omega, h2, h3⟩)
  ·simp at h2

open Classical in
noncomputable def goodB (t : List GNode) (i : Nat) : Bool := decide (GoodT t i)
def itnN (s : GStore) (t : List GNode) (i : Nat) : GStore × Int :=
 match inN t t.length s (List.replicate t.length (-1)) i with
 | none => (s, -1)
 | some (s', _, k) => (s', k)
open Classical in
noncomputable def itnOf (s : GStore) (t : List GNode) (i : Int) : GStore × Int :=
 if ValidStore s ∧ 0 ≤ i ∧ i ≤ (t.length : Int) - 1 then itnN s t i.toNat else (s, -1)
theorem itnOf_yes {s : GStore} {t : List GNode} {i : Int} (h : ValidStore s ∧ 0 ≤ i ∧ i ≤ (t.length : Int) - 1) : itnOf s t i = itnN s t i.toNat := if_pos h
theorem itnOf_no {s : GStore} {t : List GNode} {i : Int} (h : ¬ (ValidStore s ∧ 0 ≤ i ∧ i ≤ (t.length : Int) - 1)) : itnOf s t i = (s, -1) := if_neg h
theorem itn_start (t : List GNode) : DoneOk t (List.replicate t.length (-1)) := by
 intro j y hj hy
 have := List.mem_replicate.1 (List.mem_of_getElem? hj)
 omega
theorem itnN_bad {s : GStore} {t : List GNode} {i : Nat} (hi : i < t.length) (h : ¬ GoodT t i) : inN t t.length s (List.replicate t.length (-1)) i = none := by
 have h1 := (inN_some t t.length s (List.replicate t.length (-1)) i hi (by omega) (by simp) (itn_start t)).1
 cases hN : inN t t.length s (List.replicate t.length (-1)) i with
 | none => rfl
 | some r => exact absurd (h1.1 ⟨r, hN⟩) h
theorem itnN_good {s : GStore} {t : List GNode} {i : Nat} (hi : i < t.length) (h : GoodT t i) : ∃ s' d' k, inN t t.length s (List.replicate t.length (-1)) i = some (s', d', k) ∧ 0 ≤ k ∧ k < (s'.length : Int) ∧ wtStore s' ≤ wtStore s + wtTree t := by
 have h1 := (inN_some t t.length s (List.replicate t.length (-1)) i hi (by omega) (by simp) (itn_start t)).1
 obtain ⟨⟨s', d', k⟩, hr⟩ := h1.2 h
 obtain ⟨h2, h3, h4⟩ := inN_ok t t.length s (List.replicate t.length (-1)) i s' d' k hi (by simp) hr
 have h5 := h2.wt
 rw [pot_start] at h5
 exact ⟨s', d', k, hr, h3, h4 (fun y hy => by have := (List.mem_replicate.1 hy).2; omega), by omega⟩
end Go.Proofs.Ytmfcagcanhmdbaa
