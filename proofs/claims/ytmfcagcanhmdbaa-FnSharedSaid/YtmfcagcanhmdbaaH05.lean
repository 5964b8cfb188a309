/- Which subtrees can be interned: all nodes that are reached have children behind them; plainly. The tree of a cell, plainly: its nodes in preorder, their number, their joining. Words for writes into blocks of one's own: what they leave alone, and one element of a slice in view. No condition. -/
import Derived.Test.YtmfcagcanhmdbaaH04
import Derived.Test.YtmfcagcanhmdbaaH02
namespace Go.Proofs.Ytmfcagcanhmdbaa
open Go.RowKit
set_option linter.unusedVariables false

inductive Up (t : List GNode) (i : Nat) : Nat → Prop
 | here : Up t i i
 | step {m : Nat} {c : Int} (h : m < t.length) (hu : Up t i m) (hc : c ∈ kidsN t[m]) (hm : (m : Int) < c) : Up t i c.toNat

theorem Up.ge {t : List GNode} {i j : Nat} (h : Up t i j) : i ≤ j := by
 induction h with
 | here => exact Nat.le_refl _
 | step h hu hc hm ih => omega
theorem Up.head {t : List GNode} {i j : Nat} (hi : i < t.length) {c : Int} (hc : c ∈ kidsN t[i]) (hm : (i : Int) < c) (h : Up t c.toNat j) : Up t i j := by
 induction h with
 | here => exact Up.step hi Up.here hc hm
 | step h hu hc hm ih => exact Up.step h ih hc hm
theorem Up.first {t : List GNode} {i j : Nat} (hi : i < t.length) (h : Up t i j) : j = i ∨ ∃ c ∈ kidsN t[i], (i : Int) < c ∧ Up t c.toNat j := by
 induction h with
 | here => exact .inl rfl
 | step h hu hc hm ih =>
  rcases ih with e | ⟨d, hd, h1, h2⟩
  ·subst e
   exact .inr ⟨_, hc, hm, Up.here⟩
  ·exact .inr ⟨d, hd, h1, Up.step h h2 hc hm⟩

def KG (t : List GNode) (m : Nat) : Prop := ∀ h : m < t.length, ∀ c ∈ kidsN t[m], (m : Int) + 1 ≤ c ∧ c ≤ (t.length : Int) - 1
def GoodT (t : List GNode) (i : Nat) : Prop := ∀ j, Up t i j → KG t j

theorem good_iff {t : List GNode} {i : Nat} (hi : i < t.length) : GoodT t i ↔ ∀ c ∈ kidsN t[i], ((i : Int) + 1 ≤ c ∧ c ≤ (t.length : Int) - 1) ∧ GoodT t c.toNat := by
 constructor
 ·intro h c hc
  have h1 := h i Up.here hi c hc
  exact ⟨h1, fun j hj => h j (Up.head hi hc (by omega) hj)⟩
 ·intro h j hj
  rcases hj.first hi with e | ⟨c, hc, h1, h2⟩
  ·subst e; exact fun _ c hc => (h c hc).1
  ·exact (h c hc).2 j h2

def DoneOk (t : List GNode) (d : List Int) : Prop := ∀ (j : Nat) (y : Int), d[j]? = some y → 0 ≤ y → GoodT t j

theorem inK_some {t : List GNode} {T : GStore → List Int → Nat → Option (GStore × List Int × Int)} {i : Nat} (H : ∀ s d j, i < j → j < t.length → d.length = t.length → DoneOk t d → ((∃ r, T s d j = some r) ↔ GoodT t j) ∧ ∀ s' d' k, T s d j = some (s', d', k) → DoneOk t d' ∧ d'.length = t.length) (cs : List Int) :
  ∀ s d ks, d.length = t.length → DoneOk t d → ((∃ r, cs.foldl (inStep T i t.length) (some (s, d, ks)) = some r) ↔ ∀ c ∈ cs, ((i : Int) + 1 ≤ c ∧ c ≤ (t.length : Int) - 1) ∧ GoodT t c.toNat) ∧
   ∀ s' d' ks', cs.foldl (inStep T i t.length) (some (s, d, ks)) = some (s', d', ks') → DoneOk t d' ∧ d'.length = t.length := by
 induction cs with
 | nil =>
  intro s d ks hd hD
  refine ⟨⟨fun _ c hc => by simp at hc, fun _ => ⟨_, rfl⟩⟩, fun s' d' ks' h => ?_⟩
  simp only [List.foldl_nil, Option.some.injEq, Prod.mk.injEq] at h
  obtain ⟨rfl, rfl, rfl⟩ := h
  exact ⟨hD, hd⟩
 | cons c cs ih =>
  intro s d ks hd hD
  rw [List.foldl_cons]
  by_cases hc : (i : Int) + 1 ≤ c ∧ c ≤ (t.length : Int) - 1
  ·have hH := H s d c.toNat (by omega) (by omega) hd hD
   cases hT : T s d c.toNat with
   | none =>
    have e : inStep T i t.length (some (s, d, ks)) c = none := by simp only [inStep]; rw [if_pos hc, hT]
    rw [e, inK_none]
    refine ⟨⟨fun ⟨r, h⟩ => (by cases h), fun h => ?_⟩, fun s' d' ks' h => by cases h⟩
    obtain ⟨r, hr⟩ := hH.1.2 (h c (by simp)).2
    rw [hT] at hr
    cases hr
   | some r =>
    obtain ⟨s1, d1, k1⟩ := r
    have e : inStep T i t.length (some (s, d, ks)) c = some (s1, d1, ks ++ [k1]) := by simp only [inStep]; rw [if_pos hc, hT]
    rw [e]
    obtain ⟨h1, h2⟩ := hH.2 s1 d1 k1 hT
    obtain ⟨g1, g2⟩ := ih s1 d1 (ks ++ [k1]) h2 h1
    refine ⟨⟨fun h => ?_, fun h => g1.2 fun x hx => h x (List.mem_cons_of_mem _ hx)⟩, g2⟩
    intro x hx
    rcases List.mem_cons.1 hx with rfl | hx
    ·exact ⟨hc, hH.1.1 ⟨_, hT⟩⟩
    ·exact g1.1 h x hx
  ·have e : inStep T i t.length (some (s, d, ks)) c = none := by simp only [inStep]; rw [if_neg hc]
   rw [e, inK_none]
   exact ⟨⟨fun ⟨r, h⟩ => (by cases h), fun h => absurd (h c (by simp)).1 hc⟩, fun s' d' ks' h => by cases h⟩

theorem inN_some (t : List GNode) : ∀ f s d i, i < t.length → t.length - i ≤ f → d.length = t.length → DoneOk t d → ((∃ r, inN t f s d i = some r) ↔ GoodT t i) ∧ ∀ s' d' k, inN t f s d i = some (s', d', k) → DoneOk t d' ∧ d'.length = t.length := by
 intro f
 induction f with
 | zero => intro s d i hi hf; omega
 | succ f ih =>
  intro s d i hi hf hd hD
  have hi' : d[i]? = some (d[i]'(by omega)) := List.getElem?_eq_getElem _
  by_cases hy : 0 ≤ d[i]'(by omega)
  ·rw [inN_done hi' hy]
   refine ⟨⟨fun _ => hD i _ hi' hy, fun _ => ⟨_, rfl⟩⟩, fun s' d' k h => ?_⟩
   simp only [Option.some.injEq, Prod.mk.injEq] at h
   obtain ⟨rfl, rfl, rfl⟩ := h
   exact ⟨hD, hd⟩
  ·rw [inN_new hi' (by omega) (List.getElem?_eq_getElem hi)]
   have hK := inK_some (t := t) (T := inN t f) (i := i) (fun s d j hij hj hd hD => ih s d j hj (by omega) hd hD) (kidsN t[i]) s d [] hd hD
   rw [good_iff hi, ← hK.1]
   unfold inK
   cases hF : (kidsN t[i]).foldl (inStep (inN t f) i t.length) (some (s, d, [])) with
   | none => exact ⟨⟨fun ⟨r, h⟩ => (by cases h), fun ⟨r, h⟩ => by cases h⟩, fun s' d' k h => by cases h⟩
   | some r =>
    obtain ⟨s1, d1, ks⟩ := r
    obtain ⟨h1, h2⟩ := hK.2 s1 d1 ks hF
    refine ⟨⟨fun _ => ⟨_, rfl⟩, fun _ => ⟨_, rfl⟩⟩, fun s' d' k h => ?_⟩
    simp only [Option.some.injEq, Prod.mk.injEq] at h
    obtain ⟨rfl, rfl, rfl⟩ := h
    refine ⟨fun j y hj hy => ?_, by simp [h2]⟩
    by_cases hji : j = i
    ·subst hji
     rw [good_iff hi]
     exact hK.1.1 ⟨_, hF⟩
    ·rw [List.getElem?_set_ne (fun e => hji e.symm)] at hj
     exact h1 j y hj hy

def FL (t : List GNode) (i k q : Nat) (fl : List Bool) : Prop :=
 fl.length = t.length ∧ ∀ j, j < t.length → (fl[j]? = some true ↔ (j = i ∨ (∃ m, ∃ h : m < t.length, m < k ∧ Up t i m ∧ (j : Int) ∈ kidsN t[m]) ∨ ∃ h : k < t.length, (j : Int) ∈ (kidsN t[k]).take q))

theorem FL.start {t : List GNode} {i : Nat} (hi : i < t.length) : FL t i i 0 ((List.replicate t.length false).set i true) := by
 refine ⟨by simp, fun j hj => ?_⟩
 by_cases e : i = j
 ·subst e
  rw [List.getElem?_set_self (by simpa using hj)]
  simp
 ·rw [List.getElem?_set_ne e, List.getElem?_replicate, if_pos hj]
  constructor
  ·intro h; cases h
  ·rintro (h | ⟨m, hm, h1, h2, -⟩ | ⟨h, h2⟩)
   ·exact absurd h.symm e
   ·have := h2.ge; omega
   ·simp at h2
theorem FL.at {t : List GNode} {i k : Nat} {fl : List Bool} (h : FL t i k 0 fl) (hk : k < t.length) : fl[k]? = some true ↔ Up t i k := by
 rw [h.2 k hk]
 constructor
 ·rintro (h | ⟨m, hm, h1, h2, h3⟩ | ⟨h, h2⟩)
  ·subst h; exact Up.here
  ·have := Up.step hm h2 h3 (by omega)
   simpa using this
  ·simp at h2
 ·intro h
  cases h with
  | here => exact .inl rfl
  | step hm hu hc hlt => exact .inr (.inl ⟨_, hm, by omega, hu, by rw [Int.toNat_of_nonneg (by omega)]; exact hc⟩)
theorem FL.skip {t : List GNode} {i k : Nat} {fl : List Bool} (h : FL t i k 0 fl) (hn : ¬ Up t i k) : FL t i (k + 1) 0 fl := by
 refine ⟨h.1, fun j hj => (h.2 j hj).trans ⟨?_, ?_⟩⟩
 ·rintro (h | ⟨m, hm, h1, h2, h3⟩ | ⟨h, h2⟩)
  ·exact .inl h
  ·exact .inr (.inl ⟨m, hm, by omega, h2, h3⟩)
  ·simp at h2
 ·rintro (h | ⟨m, hm, h1, h2, h3⟩ | ⟨h, h2⟩)
  ·exact .inl h
  ·by_cases e : m = k
   ·subst e; exact absurd h2 hn
   ·exact .inr (.inl ⟨m, hm, by omega, h2, h3⟩)
  ·simp at h2
theorem FL.set {t : List GNode} {i k q c : Nat} {fl : List Bool} (h : FL t i k q fl) (hk : k < t.length) (hq : q < (kidsN t[k]).length) (hc : (kidsN t[k])[q] = (c : Int)) (hcl : c < t.length) : FL t i k (q + 1) (fl.set c true) := by
 refine ⟨by rw [List.length_set]; exact h.1, fun j hj => ?_⟩
 have ht : ∀ h : k < t.length, (kidsN t[k]).take (q + 1) = (kidsN t[k]).take q ++ [(c : Int)] := fun _ => by rw [List.take_succ_eq_append_getElem hq, hc]
 by_cases e : c = j
 ·subst e
  rw [List.getElem?_set_self (by rw [h.1]; exact hj)]
  refine ⟨fun _ => .inr (.inr ⟨hk, by rw [ht hk]; simp⟩), fun _ => rfl⟩
 ·rw [List.getElem?_set_ne e, h.2 j hj]
  constructor
  ·rintro (h | h | ⟨h, h2⟩)
   ·exact .inl h
   ·exact .inr (.inl h)
   ·exact .inr (.inr ⟨h, by rw [ht h]; exact List.mem_append_left _ h2⟩)
  ·rintro (h | h | ⟨h, h2⟩)
   ·exact .inl h
   ·exact .inr (.inl h)
   ·rw [ht h] at h2
    rcases List.mem_append.1 h2 with h2 | h2
    ·exact .inr (.inr ⟨h, h2⟩)
    ·simp at h2
     omega
theorem FL.next {t : List GNode} {i k : Nat} {fl : List Bool} (hk : k < t.length) (h : FL t i k (kidsN t[k]).length fl) (hu : Up t i k) : FL t i (k + 1) 0 fl := by
 refine ⟨h.1, fun j hj => (h.2 j hj).trans ⟨?_, ?_⟩⟩
 ·rintro (h | ⟨m, hm, h1, h2, h3⟩ | ⟨h, h2⟩)
  ·exact .inl h
  ·exact .inr (.inl ⟨m, hm, by omega, h2, h3⟩)
  ·rw [List.take_length] at h2
   exact .inr (.inl ⟨k, hk, by omega, hu, h2⟩)
 ·rintro (h | ⟨m, hm, h1, h2, h3⟩ | ⟨h, h2⟩)
  ·exact .inl h
  ·by_cases e : m = k
   ·subst e; exact .inr (.inr ⟨hm, by rw [List.take_length]; exact h3⟩)
   ·exact .inr (.inl ⟨m, hm, by omega, h2, h3⟩)
  ·simp at h2

open Classical in
noncomputable def goodB (t : List GNode) (i : Nat) : Bool := decide (GoodT t i)
def itnN (s : GStore) (t : List GNode) (i : Nat) : GStore × Int :=
 match inN t t.length s (List.replicate t.length (-1)) i with
 | none => (s, -1)
 | some (s', _, k) => (s', k)
open Classical in
noncomputable def itnOf (s : GStore) (t : List GNode) (i : Int) : GStore × Int :=
 if ValidStore s ∧ 0 ≤ i ∧ i ≤ (t.length : Int) - 1 then itnN s t i.toNat else (s, -1)
theorem itnOf_yes {s : GStore} {t : List GNode} {i : Int} (h : ValidStore s ∧ 0 ≤ i ∧ i ≤ (t.length : Int) - 1) : itnOf s t i = itnN s t i.toNat := if_pos h
theorem itnOf_no {s : GStore} {t : List GNode} {i : Int} (h : ¬ (ValidStore s ∧ 0 ≤ i ∧ i ≤ (t.length : Int) - 1)) : itnOf s t i = (s, -1) := if_neg h
theorem itn_start (t : List GNode) : DoneOk t (List.replicate t.length (-1)) := by
 intro j y hj hy
 have := List.mem_replicate.1 (List.mem_of_getElem? hj)
 omega
theorem itnN_bad {s : GStore} {t : List GNode} {i : Nat} (hi : i < t.length) (h : ¬ GoodT t i) : inN t t.length s (List.replicate t.length (-1)) i = none := by
 have h1 := (inN_some t t.length s (List.replicate t.length (-1)) i hi (by omega) (by simp) (itn_start t)).1
 cases hN : inN t t.length s (List.replicate t.length (-1)) i with
 | none => rfl
 | some r => exact absurd (h1.1 ⟨r, hN⟩) h
theorem itnN_good {s : GStore} {t : List GNode} {i : Nat} (hi : i < t.length) (h : GoodT t i) : ∃ s' d' k, inN t t.length s (List.replicate t.length (-1)) i = some (s', d', k) ∧ 0 ≤ k ∧ k < (s'.length : Int) ∧ wtStore s' ≤ wtStore s + wtTree t := by
 have h1 := (inN_some t t.length s (List.replicate t.length (-1)) i hi (by omega) (by simp) (itn_start t)).1
 obtain ⟨⟨s', d', k⟩, hr⟩ := h1.2 h
 obtain ⟨h2, h3, h4⟩ := inN_ok t t.length s (List.replicate t.length (-1)) i s' d' k hi (by simp) hr
 have h5 := h2.wt
 rw [pot_start] at h5
 exact ⟨s', d', k, hr, h3, h4 (fun y hy => by have := (List.mem_replicate.1 hy).2; omega), by omega⟩
end Go.Proofs.Ytmfcagcanhmdbaa

namespace Go.Proofs.Ytmfcagcanhmdbaa
open Go.RowKit
set_option linter.unusedVariables false

def exK (T : Int → Int → Int → Int → List GNode) (i : Int) : Int → Int → List Int → List Int × List GNode
 | _, _, [] => ([], [])
 | k, b, c :: cs => (b :: (exK T i (k + 1) (b + (T c b i k).length) cs).1, T c b i k ++ (exK T i (k + 1) (b + (T c b i k).length) cs).2)

def exN (s : GStore) : Nat → Nat → Int → Int → Int → List GNode
 | 0, _, _, _, _ => []
 | f + 1, a, i, p, l => match s[a]? with
  | none => []
  | some c => (0, p, l, c.2.1, c.1, (exK (fun q b i k => exN s f q.toNat b i k) i 1 (i + 1) c.2.2).1) :: (exK (fun q b i k => exN s f q.toNat b i k) i 1 (i + 1) c.2.2).2

theorem exN_at (s : GStore) (f : Nat) {a : Nat} {c : GCell} (h : s[a]? = some c) (i p l : Int) : exN s (f + 1) a i p l = (0, p, l, c.2.1, c.1, (exK (fun q b i k => exN s f q.toNat b i k) i 1 (i + 1) c.2.2).1) :: (exK (fun q b i k => exN s f q.toNat b i k) i 1 (i + 1) c.2.2).2 := by
 simp only [exN, h]

def exL (s : GStore) : Nat → Nat → Nat
 | 0, _ => 0
 | f + 1, a => match s[a]? with
  | none => 0
  | some c => 1 + (c.2.2.map fun q => exL s f q.toNat).sum

theorem exK_len {T : Int → Int → Int → Int → List GNode} {L : Int → Nat} (h : ∀ c b i k, (T c b i k).length = L c) (i : Int) (cs : List Int) : ∀ k b, (exK T i k b cs).2.length = (cs.map L).sum ∧ (exK T i k b cs).1.length = cs.length := by
 induction cs with
 | nil => intro k b; exact ⟨rfl, rfl⟩
 | cons c cs ih =>
  intro k b
  have := ih (k + 1) (b + (T c b i k).length)
  simp only [exK, List.length_append, List.length_cons, List.map_cons, List.sum_cons, h] at this ⊢
  omega

theorem exN_len (s : GStore) : ∀ f a i p l, (exN s f a i p l).length = exL s f a := by
 intro f
 induction f with
 | zero => intro a i p l; rfl
 | succ f ih =>
  intro a i p l
  unfold exN exL
  cases s[a]? with
  | none => rfl
  | some c =>
   simp only [List.length_cons]
   rw [(exK_len (L := fun q => exL s f q.toNat) (fun q b i k => ih q.toNat b i k) i c.2.2 1 (i + 1)).1]
   omega

theorem exK_snoc {T : Int → Int → Int → Int → List GNode} (i : Int) (cs : List Int) (c : Int) : ∀ k b, exK T i k b (cs ++ [c]) = ((exK T i k b cs).1 ++ [b + (exK T i k b cs).2.length], (exK T i k b cs).2 ++ T c (b + (exK T i k b cs).2.length) i (k + cs.length)) := by
 induction cs with
 | nil => intro k b; simp [exK]
 | cons d cs ih =>
  intro k b
  simp only [List.cons_append, exK, ih, List.length_append, List.length_cons]
  have e1 : b + ((T d b i k).length : Int) + ((exK T i (k + 1) (b + (T d b i k).length) cs).2.length : Int) = b + (((T d b i k).length + (exK T i (k + 1) (b + (T d b i k).length) cs).2.length : Nat) : Int) := by omega
  have e2 : k + 1 + (cs.length : Int) = k + ((cs.length + 1 : Nat) : Int) := by omega
  rw [e1, e2, List.append_assoc]

def shN (b : Int) (x : GNode) : GNode := (x.1, x.2.1 + b, x.2.2.1, x.2.2.2.1, x.2.2.2.2.1, x.2.2.2.2.2.map (· + b))

theorem exK_sh {T : Int → Int → Int → Int → List GNode} (d : Int) (h : ∀ c b i k, T c (b + d) (i + d) k = (T c b i k).map (shN d)) (i : Int) (cs : List Int) : ∀ k b, exK T (i + d) k (b + d) cs = ((exK T i k b cs).1.map (· + d), (exK T i k b cs).2.map (shN d)) := by
 induction cs with
 | nil => intro k b; rfl
 | cons c cs ih =>
  intro k b
  have e : b + d + ((T c (b + d) (i + d) k).length : Int) = b + ((T c b i k).length : Int) + d := by rw [h, List.length_map]; omega
  simp only [exK]
  rw [e, ih, h]
  simp

theorem exN_sh (s : GStore) (d : Int) : ∀ f a i p l, exN s f a (i + d) (p + d) l = (exN s f a i p l).map (shN d) := by
 intro f
 induction f with
 | zero => intro a i p l; rfl
 | succ f ih =>
  intro a i p l
  unfold exN
  cases s[a]? with
  | none => rfl
  | some c =>
   have e : i + d + 1 = i + 1 + d := by omega
   simp only [e]
   rw [exK_sh d (fun q b i k => ih q.toNat b i k)]
   rfl

def adjN (k b : Int) : List GNode → List GNode
 | [] => []
 | x :: xs => (x.1, 0, k, x.2.2.2.1, x.2.2.2.2.1, x.2.2.2.2.2.map (· + b)) :: xs.map (shN b)

theorem adjN_len (k b : Int) (l : List GNode) : (adjN k b l).length = l.length := by cases l <;> simp [adjN]

def joK : Int → Int → List (List GNode) → List Int × List GNode
 | _, _, [] => ([], [])
 | k, b, t :: ts => (b :: (joK (k + 1) (b + t.length) ts).1, adjN k b t ++ (joK (k + 1) (b + t.length) ts).2)

def joN (r : GNode) (ts : List (List GNode)) : List GNode := (r.1, -1, 0, r.2.2.2.1, r.2.2.2.2.1, (joK 1 1 ts).1) :: (joK 1 1 ts).2

theorem joK_len (ts : List (List GNode)) : ∀ k b, (joK k b ts).2.length = (ts.map List.length).sum ∧ (joK k b ts).1.length = ts.length := by
 induction ts with
 | nil => intro k b; exact ⟨rfl, rfl⟩
 | cons t ts ih =>
  intro k b
  have := ih (k + 1) (b + t.length)
  simp only [joK, List.length_append, List.length_cons, List.map_cons, List.sum_cons, adjN_len]
  omega

theorem joK_snoc (ts : List (List GNode)) (t : List GNode) : ∀ k b, joK k b (ts ++ [t]) = ((joK k b ts).1 ++ [b + (joK k b ts).2.length], (joK k b ts).2 ++ adjN (k + ts.length) (b + (joK k b ts).2.length) t) := by
 induction ts with
 | nil => intro k b; simp [joK]
 | cons d ts ih =>
  intro k b
  simp only [List.cons_append, joK, ih, List.length_append, List.length_cons, adjN_len]
  have e1 : b + (d.length : Int) + ((joK (k + 1) (b + d.length) ts).2.length : Int) = b + ((d.length + (joK (k + 1) (b + d.length) ts).2.length : Nat) : Int) := by omega
  have e2 : k + 1 + (ts.length : Int) = k + ((ts.length + 1 : Nat) : Int) := by omega
  rw [e1, e2, List.append_assoc]

theorem adjN_exN (s : GStore) (f a : Nat) (k b : Int) : adjN k b (exN s f a 0 (-1) 0) = exN s f a b 0 k := by
 cases f with
 | zero => rfl
 | succ f =>
  unfold exN
  cases s[a]? with
  | none => rfl
  | some c =>
   simp only [adjN]
   have e := exK_sh (T := fun q b i k => exN s f q.toNat b i k) b (fun q b' i k => exN_sh s b f q.toNat b' i k) 0 c.2.2 1 (0 + 1)
   rw [show (0 : Int) + b = b from by omega, show (0 : Int) + 1 + b = b + 1 from by omega] at e
   rw [e]

def idN (first : Int) : Int → List GNode → List GNode
 | _, [] => []
 | j, x :: xs => (first + j, x.2) :: idN first (j + 1) xs

theorem idN_len (first : Int) (xs : List GNode) : ∀ j, (idN first j xs).length = xs.length := by
 induction xs with
 | nil => intro j; rfl
 | cons x xs ih => intro j; simp [idN, ih]
theorem idN_append (first : Int) (xs ys : List GNode) : ∀ j, idN first j (xs ++ ys) = idN first j xs ++ idN first (j + xs.length) ys := by
 induction xs with
 | nil => intro j; simp [idN]
 | cons x xs ih =>
  intro j
  simp only [List.cons_append, idN, ih, List.length_cons]
  rw [show j + 1 + (xs.length : Int) = j + ((xs.length + 1 : Nat) : Int) from by omega]

theorem valid_kid {xs : List GCell} (h : ValidStore xs) {a : Nat} (ha : a < xs.length) {k : Nat} (hk : k < xs[a].2.2.length) : ∃ m : Nat, xs[a].2.2[k] = m ∧ m < a := by
 have := (h a ha).2 _ (List.getElem_mem hk)
 exact ⟨xs[a].2.2[k].toNat, by omega, by omega⟩
theorem exL_at (s : GStore) (f : Nat) {a : Nat} (h : a < s.length) : exL s (f + 1) a = 1 + (s[a].2.2.map fun q => exL s f q.toNat).sum := by
 simp only [exL, List.getElem?_eq_getElem h]
theorem exL_pos (s : GStore) (f a : Nat) (h : a < s.length) : 0 < exL s (f + 1) a := by
 rw [exL_at s f h]; omega
theorem adjN_at {k b : Int} {l : List GNode} {i : Nat} (h : i < l.length) (h' : i < (adjN k b l).length) : (adjN k b l)[i] = (l[i].1, if i = 0 then 0 else l[i].2.1 + b, if i = 0 then k else l[i].2.2.1, l[i].2.2.2.1, l[i].2.2.2.2.1, l[i].2.2.2.2.2.map (· + b)) := by
 cases l with
 | nil => simp at h
 | cons x l =>
  cases i with
  | zero => rfl
  | succ i => simp [adjN, shN]

theorem joN_snoc (r : GNode) (ts : List (List GNode)) (t : List GNode) : joN r (ts ++ [t]) = (joN r ts).set 0 (r.1, -1, 0, r.2.2.2.1, r.2.2.2.2.1, (joK 1 1 ts).1 ++ [((joN r ts).length : Int)]) ++ adjN (1 + ts.length) ((joN r ts).length : Int) t := by
 unfold joN
 rw [joK_snoc]
 simp only [List.length_cons, List.set_cons_zero, List.cons_append]
 rw [show (1 : Int) + ((joK 1 1 ts).2.length : Int) = (((joK 1 1 ts).2.length + 1 : Nat) : Int) from by omega]

def InN (M : Nat) (i p : Int) (n : Nat) (x : GNode) : Prop := (x.2.1 = p ∨ (i ≤ x.2.1 ∧ x.2.1 ≤ i + n)) ∧ x.2.2.2.2.2.length ≤ M ∧ ∀ c ∈ x.2.2.2.2.2, i ≤ c ∧ c ≤ i + n

theorem InN.mono {M : Nat} {i p j : Int} {n m : Nat} {x : GNode} (h : InN M i p n x) (h1 : j ≤ i) (h2 : i + n ≤ j + m) : InN M j p m x :=
 ⟨h.1.imp id fun h => by omega, h.2.1, fun c hc => by have := h.2.2 c hc; omega⟩

theorem exK_small {T : Int → Int → Int → Int → List GNode} {M : Nat} (i : Int) (H : ∀ c b k, ∀ x ∈ T c b i k, InN M b i (T c b i k).length x) (cs : List Int) :
  ∀ k b, (∀ x ∈ (exK T i k b cs).2, InN M b i (exK T i k b cs).2.length x) ∧ ∀ c ∈ (exK T i k b cs).1, b ≤ c ∧ c ≤ b + (exK T i k b cs).2.length := by
 induction cs with
 | nil => intro k b; simp [exK]
 | cons d cs ih =>
  intro k b
  have h1 := ih (k + 1) (b + (T d b i k).length)
  simp only [exK, List.length_append]
  refine ⟨fun x hx => ?_, fun c hc => ?_⟩
  ·rcases List.mem_append.1 hx with hx | hx
   ·exact (H d b k x hx).mono (by omega) (by omega)
   ·exact (h1.1 x hx).mono (by omega) (by omega)
  ·rcases List.mem_cons.1 hc with rfl | hc
   ·omega
   ·have := h1.2 c hc; omega

theorem exN_small (s : GStore) {M : Nat} (hs : ∀ c ∈ s, c.2.2.length ≤ M) : ∀ f a i p l, ∀ x ∈ exN s f a i p l, InN M i p (exN s f a i p l).length x := by
 intro f
 induction f with
 | zero => intro a i p l x hx; simp [exN] at hx
 | succ f ih =>
  intro a i p l x hx
  cases hc : s[a]? with
  | none => simp only [exN, hc] at hx; simp at hx
  | some c =>
   rw [exN_at s f hc] at hx ⊢
   have hk := exK_small (T := fun q b i k => exN s f q.toNat b i k) (M := M) i (fun q b k => ih q.toNat b i k) c.2.2 1 (i + 1)
   rcases List.mem_cons.1 hx with rfl | hx
   ·refine ⟨.inl rfl, ?_, fun d hd => ?_⟩
    ·simp only
     rw [(exK_len (L := fun q => exL s f q.toNat) (fun q b i k => exN_len s f q.toNat b i k) i c.2.2 1 (i + 1)).2]
     exact hs c (List.mem_of_getElem? hc)
    ·have := hk.2 d hd
     simp only [List.length_cons]
     omega
   ·refine ⟨.inr ?_, ?_, fun d hd => ?_⟩
    ·have := (hk.1 x hx).1
     simp only [List.length_cons]
     rcases this with h | h <;> omega
    ·exact (hk.1 x hx).2.1
    ·have := (hk.1 x hx).2.2 d hd
     simp only [List.length_cons]
     omega

def ExpOk (s : GStore) (a first : Int) : Prop := ValidStore s ∧ (0 ≤ a ∧ a ≤ (s.length : Int) - 1) ∧ (1 ≤ first ∧ first ≤ 999) ∧ exL s s.length a.toNat ≤ 16
open Classical in
noncomputable def expOf (s : GStore) (a first : Int) : Option (List GNode) := if ExpOk s a first then some (idN first 0 (exN s s.length a.toNat 0 (-1) 0)) else none
theorem expOf_yes {s : GStore} {a first : Int} (h : ExpOk s a first) : expOf s a first = some (idN first 0 (exN s s.length a.toNat 0 (-1) 0)) := if_pos h
theorem expOf_no {s : GStore} {a first : Int} (h : ¬ ExpOk s a first) : expOf s a first = none := if_neg h
theorem cells_small {s : GStore} (h : wtStore s ≤ 1048576) : s.length ≤ 1048576 ∧ ∀ c ∈ s, c.2.2.length ≤ 1048576 := by
 have h0 : wtL wtCell s ≤ 1048576 := h
 refine ⟨Nat.le_trans (wtL_len wtCell s) h0, fun c hc => ?_⟩
 obtain ⟨i, hi, rfl⟩ := List.mem_iff_getElem.1 hc
 have h1 := wtL_at wtCell s hi
 have h2 : s[i].2.2.length ≤ wtCell s[i] := Nat.le_add_left _ _
 omega

theorem kids_idN {first : Int} {M : Nat} {xs : List GNode} : ∀ {j : Int} (h : ∀ x ∈ xs, x.2.2.2.2.2.length ≤ M), ∀ x ∈ idN first j xs, x.2.2.2.2.2.length ≤ M := by
 induction xs with
 | nil => intro j h x hx; simp [idN] at hx
 | cons y ys ih =>
  intro j h x hx
  rcases List.mem_cons.1 hx with rfl | hx
  ·exact h y (by simp)
  ·exact ih (fun z hz => h z (List.mem_cons_of_mem _ hz)) x hx

end Go.Proofs.Ytmfcagcanhmdbaa

namespace Go.Proofs.Ytmfcagcanhmdbaa
open Go.RowKit

structure Wr (fp : List Nat) (w w' : World) : Prop where
 os : w'.os = w.os
 tape : w'.tape = w.tape
 output : w'.output = w.output
 size : w.heap.size ≤ w'.heap.size
 drawn : w.drawn ≤ w'.drawn
 block : ∀ b, b < w.heap.size → b ∉ fp → w'.heap[b]? = w.heap[b]?

theorem Wr.refl (fp : List Nat) (w : World) : Wr fp w w := ⟨rfl, rfl, rfl, Nat.le_refl _, Nat.le_refl _, fun _ _ _ => rfl⟩
theorem Wr.trans {fp : List Nat} {a b c : World} (h : Wr fp a b) (k : Wr fp b c) : Wr fp a c :=
 ⟨k.os.trans h.os, k.tape.trans h.tape, k.output.trans h.output, Nat.le_trans h.size k.size, Nat.le_trans h.drawn k.drawn,
  fun x hx hn => (k.block x (Nat.lt_of_lt_of_le hx h.size) hn).trans (h.block x hx hn)⟩
theorem Wr.sub {fp fq : List Nat} {a b : World} (h : Wr fp a b) (hs : ∀ c ∈ fp, c ∈ fq) : Wr fq a b :=
 ⟨h.os, h.tape, h.output, h.size, h.drawn, fun x hx hn => h.block x hx fun e => hn (hs x e)⟩
theorem Gr.toWr {w w' : World} (h : Gr w w') (fp : List Nat) : Wr fp w w' := by
 obtain ⟨x, rfl⟩ := h
 exact ⟨rfl, rfl, rfl, by simp, by simp, fun b hb _ => heap_ext w x hb⟩
theorem Wr.gr {fp : List Nat} {a b c : World} (h : Wr fp a b) (k : Gr b c) : Wr fp a c := h.trans (k.toWr fp)
theorem heap_setCell {w : World} {b o c : Nat} {v : Value} (h : c ≠ b) : (w.setCell ⟨b, o, none⟩ v).heap[c]? = w.heap[c]? := by
 unfold World.setCell
 simp only [Array.getElem?_modify]
 rw [if_neg (fun e => h e.symm)]
theorem size_setCell' {w : World} {a : Addr} {v : Value} : (w.setCell a v).heap.size = w.heap.size := by
 unfold World.setCell; simp
theorem Wr.setCell {fp : List Nat} {a c : World} (h : Wr fp a c) {b o : Nat} (hb : b ∈ fp) (v : Value) : Wr fp a (c.setCell ⟨b, o, none⟩ v) :=
 ⟨h.os, h.tape, h.output, by rw [size_setCell']; exact h.size, h.drawn, fun x hx hn => by rw [heap_setCell (fun e => hn (by rw [e]; exact hb))]; exact h.block x hx hn⟩

theorem Gr.wr {w0 w w' : World} {fp : List Nat} (h : Gr w0 w) (k : Wr fp w w') (hf : ∀ b ∈ fp, w0.heap.size ≤ b) : Gr w0 w' :=
 Gr.of_below ⟨k.os.trans h.below.os, k.tape.trans h.below.tape, k.output.trans h.below.output, Nat.le_trans h.below.size k.size,
  fun b hb => (k.block b (Nat.lt_of_lt_of_le hb h.below.size) (fun e => by have := hf b e; omega)).trans (h.below.block b hb)⟩ (Nat.le_trans h.drawn k.drawn)

theorem Wr.sameOn {fp fq : List Nat} {w w' : World} (h : Wr fp w w') (hlt : ∀ b ∈ fq, b < w.heap.size) (hd : ∀ b ∈ fq, b ∉ fp) : SameOn fq w w' :=
 fun b hb => h.block b (hlt b hb) (hd b hb)

theorem SlR.wr {α : Type} [Rd α] {fp fq : List Nat} {w w' : World} {v : Value} {xs : List α} (h : SlR fq w v xs) (k : Wr fp w w') (hd : ∀ b ∈ fq, b ∉ fp) : SlR fq w' v xs :=
 h.mono (k.sameOn h.lt hd)
theorem Rd.wr {α : Type} [Rd α] {fp fq : List Nat} {w w' : World} {cs : List Value} {x : α} (h : Rd.rd fq w cs x) (k : Wr fp w w') (hd : ∀ b ∈ fq, b ∉ fp) : Rd.rd fq w' cs x :=
 Rd.mono (k.sameOn (Rd.lt h) hd) h

structure Foc (b lo n : Nat) (fq : List Nat) (w w' : World) : Prop where
 wr : Wr (b :: fq) w w'
 cell : ∀ o, o < lo ∨ lo + n ≤ o → w'.cell? ⟨b, o, none⟩ = w.cell? ⟨b, o, none⟩
 frozen : ∀ o, w'.frozen? ⟨b, o, none⟩ = w.frozen? ⟨b, o, none⟩

theorem cell_setCell_ne {w : World} {b o o' : Nat} {v : Value} (h : o' ≠ o) : (w.setCell ⟨b, o, none⟩ v).cell? ⟨b, o', none⟩ = w.cell? ⟨b, o', none⟩ := by
 unfold World.cell? World.setCell
 simp only [Array.getElem?_modify, if_pos]
 cases hb : w.heap[b]? with
 | none => rfl
 | some x =>
  cases x <;> simp [Ne.symm h]

theorem frozen_setCell' {w : World} {b c o o' : Nat} {v : Value} : (w.setCell ⟨b, o, none⟩ v).frozen? ⟨c, o', none⟩ = w.frozen? ⟨c, o', none⟩ := by
 unfold World.frozen? World.setCell
 simp only [Array.getElem?_modify]
 by_cases e : b = c
 ·subst e
  simp only [if_pos]
  cases hb : w.heap[b]? with
  | none => rfl
  | some x => cases x <;> rfl
 ·rw [if_neg e]

theorem Foc.refl (b lo n : Nat) (fq : List Nat) (w : World) : Foc b lo n fq w w := ⟨Wr.refl _ _, fun _ _ => rfl, fun _ => rfl⟩
theorem Foc.set {b lo n : Nat} {fq : List Nat} {w w' : World} (h : Foc b lo n fq w w') {o : Nat} (h1 : lo ≤ o) (h2 : o < lo + n) (v : Value) : Foc b lo n fq w (w'.setCell ⟨b, o, none⟩ v) :=
 ⟨h.wr.setCell (by simp) v, fun o' ho => by rw [cell_setCell_ne (by omega)]; exact h.cell o' ho, fun o' => by rw [frozen_setCell']; exact h.frozen o'⟩
theorem Foc.inner {b lo n : Nat} {fq fs : List Nat} {w w' w'' : World} (h : Foc b lo n fq w w') (hb : b < w.heap.size) (k : Wr fs w' w'') (hs : ∀ c ∈ fs, c ∈ fq) (hn : b ∉ fs) : Foc b lo n fq w w'' := by
 have e : w''.heap[b]? = w'.heap[b]? := k.block b (Nat.lt_of_lt_of_le hb h.wr.size) hn
 exact ⟨h.wr.trans (k.sub fun c hc => List.mem_cons_of_mem _ (hs c hc)), fun o ho => (World.cell?_of_block (a := ⟨b, o, none⟩) e).trans (h.cell o ho),
  fun o => (World.frozen?_of_block (a := ⟨b, o, none⟩) e).trans (h.frozen o)⟩
theorem Foc.gr {b lo n : Nat} {fq : List Nat} {w w' w'' : World} (h : Foc b lo n fq w w') (hb : b < w.heap.size) (k : Gr w' w'') : Foc b lo n fq w w'' :=
 h.inner hb (k.toWr []) (by simp) (by simp)

end Go.Proofs.Ytmfcagcanhmdbaa
