/- How large a drawn tree is; plain.  The number of cells that a cell reaches: what both loops count. Plain Lean, no program in sight.  A cell's tree and where it lies in a tree; interning finds it again; plain. No condition. -/
import Derived.Test.YtmfcagcanhmdbaaH05
import Derived.Test.YtmfcagcanhmdbaaH10
import Derived.Test.YtmfcagcanhmdbaaH04
namespace Go.Proofs.Ytmfcagcanhmdbaa
open Go.RowKit
set_option linter.unusedVariables false

def NH : Nat → Nat
 | 0 => 1
 | h + 1 => 1 + 3 * NH h
def KK (room : Int) (h : Nat) : Nat := if room < 5 then NH h else 40 * room.toNat
theorem NH_pos (h : Nat) : 1 ≤ NH h := by cases h <;> simp [NH]
theorem NH_mono {a b : Nat} (h : a ≤ b) : NH a ≤ NH b := by
 induction h with
 | refl => exact Nat.le_refl _
 | step _ ih => simp only [NH]; omega
theorem NH3 {h : Nat} (hh : h ≤ 3) : NH h ≤ 40 := Nat.le_trans (NH_mono hh) (by decide)
def KC (room : Int) (n h : Nat) : Nat := if room < 5 then NH (h - 1) else if room.tdiv (max 1 (n : Int)) - 1 < 5 then 40 else 40 * (room.tdiv (max 1 (n : Int)) - 1).toNat
theorem kids_room {room : Int} {n : Nat} (hr : room < 5) : room.tdiv (max 1 (n : Int)) - 1 < 5 := by
 rcases Int.lt_or_le room 0 with h | h
 ·have : room.tdiv (max 1 (n : Int)) ≤ 0 := by
   rw [show room = -(-room) by omega, Int.neg_tdiv]
   have := Int.tdiv_nonneg (a := -room) (b := max 1 (n : Int)) (by omega) (by omega)
   omega
  omega
 ·have := Int.tdiv_le_self (max 1 (n : Int)) h
  omega
theorem kid_le {room : Int} {n h hc : Nat} (hl : room < 5 → hc < h) (h3 : hc ≤ 3) : KK (room.tdiv (max 1 (n : Int)) - 1) hc ≤ KC room n h := by
 unfold KK KC
 by_cases hr : room < 5
 ·rw [if_pos (kids_room hr), if_pos hr]
  exact NH_mono (by have := hl hr; omega)
 ·rw [if_neg hr]
  split
  ·exact NH3 h3
  ·exact Nat.le_refl _
theorem kids_le {room : Int} {n h : Nat} (hn : n ≤ 3) (hl : room < 5 → 0 < n → 0 < h) : 1 + n * KC room n h ≤ KK room h := by
 unfold KK KC
 by_cases hr : room < 5
 ·rw [if_pos hr, if_pos hr]
  rcases Nat.eq_zero_or_pos n with rfl | hp
  ·have := NH_pos h; omega
  ·obtain ⟨k, rfl⟩ : ∃ k, h = k + 1 := ⟨h - 1, by have := hl hr hp; omega⟩
   simp only [NH, Nat.add_sub_cancel]
   have : n * NH k ≤ 3 * NH k := Nat.mul_le_mul_right _ hn
   omega
 ·rw [if_neg hr, if_neg hr]
  rcases (show n = 0 ∨ n = 1 ∨ n = 2 ∨ n = 3 by omega) with rfl | rfl | rfl | rfl
  ·omega
  all_goals
   split
   ·omega
   ·rename_i h5
    rw [Int.tdiv_eq_ediv_of_nonneg (by omega)] at h5 ⊢
    simp only [show max (1 : Int) ((1 : Nat) : Int) = 1 from by decide, show max (1 : Int) ((2 : Nat) : Int) = 2 from by decide, show max (1 : Int) ((3 : Nat) : Int) = 3 from by decide] at h5 ⊢
    omega

def NodeFine (L : Int) (x : GNode) : Prop := -1 ≤ x.2.1 ∧ x.2.1 ≤ L ∧ x.2.2.2.2.1.size ≤ 68 ∧ x.2.2.2.2.2.length ≤ 3 ∧ ∀ c ∈ x.2.2.2.2.2, -1 ≤ c ∧ c ≤ L
def noId (x : GNode) : GNode := (0, x.2)
inductive PreT : List GNode → Prop
 | join (r : GNode) (ts : List (List GNode)) (h : ∀ t ∈ ts, PreT t) : PreT (joN r ts)
 | ids {t u : List GNode} (h : PreT t) (e : t.map noId = u.map noId) : PreT u
theorem PreT.pos {t : List GNode} (h : PreT t) : 1 ≤ t.length := by
 induction h with
 | join r ts h ih => simp [joN]
 | ids h e ih => have := congrArg List.length e; simp at this; omega
def TreeFine (t : List GNode) : Prop := (∀ x ∈ t, NodeFine t.length x) ∧ PreT t
theorem NodeFine.mono {L L' : Int} {x : GNode} (h : NodeFine L x) (hl : L ≤ L') : NodeFine L' x := by
 obtain ⟨h1, h2, h3, h4, h5⟩ := h
 exact ⟨h1, by omega, h3, h4, fun c hc => ⟨(h5 c hc).1, by have := (h5 c hc).2; omega⟩⟩
theorem NodeFine.sh {L b : Int} {x : GNode} (h : NodeFine L x) (hb : 0 ≤ b) : NodeFine (L + b) (shN b x) := by
 obtain ⟨h1, h2, h3, h4, h5⟩ := h
 refine ⟨by show -1 ≤ x.2.1 + b; omega, by show x.2.1 + b ≤ L + b; omega, h3, by show (x.2.2.2.2.2.map (· + b)).length ≤ 3; simpa using h4, fun c hc => ?_⟩
 obtain ⟨c', hc', rfl⟩ := List.mem_map.1 (show c ∈ x.2.2.2.2.2.map (· + b) from hc)
 have := h5 c' hc'
 omega
theorem adjN_fine {L k b : Int} {t : List GNode} (h : ∀ x ∈ t, NodeFine L x) (hL : 0 ≤ L) (hb : 0 ≤ b) : ∀ x ∈ adjN k b t, NodeFine (L + b) x := by
 cases t with
 | nil => simp [adjN]
 | cons y ys =>
  intro x hx
  simp only [adjN, List.mem_cons] at hx
  rcases hx with rfl | hx
  ·obtain ⟨h1, h2, h3, h4, h5⟩ := (h y (by simp)).sh (b := b) hb
   exact ⟨by show (-1 : Int) ≤ 0; omega, by show (0 : Int) ≤ L + b; omega, h3, h4, h5⟩
  ·obtain ⟨z, hz, rfl⟩ := List.mem_map.1 hx
   exact (h z (by simp [hz])).sh hb
theorem joK_fine (ts : List (List GNode)) (h : ∀ t ∈ ts, TreeFine t) : ∀ k b, 0 ≤ b → (∀ x ∈ (joK k b ts).2, NodeFine (b + (ts.map List.length).sum) x) ∧ ∀ c ∈ (joK k b ts).1, 0 ≤ c ∧ c ≤ b + (ts.map List.length).sum := by
 induction ts with
 | nil => intro k b hb; simp [joK]
 | cons t ts ih =>
  intro k b hb
  obtain ⟨i1, i2⟩ := ih (fun t ht => h t (by simp [ht])) (k + 1) (b + t.length) (by omega)
  simp only [joK, List.map_cons, List.sum_cons, List.mem_append, List.mem_cons]
  refine ⟨fun x hx => ?_, fun c hc => ?_⟩
  ·rcases hx with hx | hx
   ·exact (adjN_fine (h t (by simp)).1 (by omega) hb x hx).mono (by push_cast; omega)
   ·exact (i1 x hx).mono (by push_cast; omega)
  ·rcases hc with rfl | hc
   ·push_cast; omega
   ·have := i2 c hc; push_cast; omega
theorem joN_fine {r : GNode} {ts : List (List GNode)} (h : ∀ t ∈ ts, TreeFine t) (hn : ts.length ≤ 3) (hr : r.2.2.2.2.1.size ≤ 68) : TreeFine (joN r ts) ∧ (joN r ts).length = 1 + (ts.map List.length).sum := by
 obtain ⟨i1, i2⟩ := joK_fine ts h 1 1 (by omega)
 obtain ⟨l1, l2⟩ := joK_len ts 1 1
 have hl : (joN r ts).length = 1 + (ts.map List.length).sum := by simp only [joN, List.length_cons, l1]; omega
 refine ⟨⟨fun x hx => ?_, .join r ts fun t ht => (h t ht).2⟩, hl⟩
 rw [hl]
 simp only [joN, List.mem_cons] at hx
 rcases hx with rfl | hx
 ·exact ⟨by show (-1 : Int) ≤ -1; omega, by show (-1 : Int) ≤ _; omega, hr, by show (joK 1 1 ts).1.length ≤ 3; omega, fun c hc => by have := i2 c hc; push_cast; omega⟩
 ·exact (i1 x hx).mono (by push_cast; omega)
theorem len_le_sum {ts : List (List GNode)} {t : List GNode} (h : t ∈ ts) : t.length ≤ (ts.map List.length).sum := by
 induction ts with
 | nil => cases h
 | cons u us ih =>
  simp only [List.map_cons, List.sum_cons]
  rcases List.mem_cons.1 h with rfl | h
  ·omega
  ·have := ih h; omega
theorem TreeFine.small {ts : List (List GNode)} (h : ∀ t ∈ ts, TreeFine t) (hn : ts.length ≤ 3) (hs : (ts.map List.length).sum ≤ 1000000) : SmallT ts := by
 refine ⟨by omega, by omega, fun t ht x hx => ?_⟩
 obtain ⟨h1, h2, h3, h4, h5⟩ := (h t ht).1 x hx
 have hl := len_le_sum ht
 exact ⟨h1, by omega, by omega, fun c hc => by have := h5 c hc; omega⟩
end Go.Proofs.Ytmfcagcanhmdbaa

namespace Go.Proofs.Ytmfcagcanhmdbaa

def Reach (xs : List GCell) (a c : Nat) : Prop :=
 ∀ S : Nat → Prop, S a → (∀ p (h : p < xs.length), S p → ∀ d : Nat, (d : Int) ∈ xs[p].2.2 → S d) → S c

theorem Reach.self (xs : List GCell) (a : Nat) : Reach xs a a := fun _ h _ => h
theorem Reach.step {xs : List GCell} {a p c : Nat} (hp : p < xs.length) (h : Reach xs a p) (hc : (c : Int) ∈ xs[p].2.2) : Reach xs a c :=
 fun S h0 hs => hs p hp (h S h0 hs) c hc
theorem Reach.cases {xs : List GCell} {a c : Nat} (h : Reach xs a c) : c = a ∨ ∃ p, ∃ hp : p < xs.length, Reach xs a p ∧ (c : Int) ∈ xs[p].2.2 :=
 h (fun c => c = a ∨ ∃ p, ∃ hp : p < xs.length, Reach xs a p ∧ (c : Int) ∈ xs[p].2.2) (.inl rfl) fun p hp hs d hd => by
  refine .inr ⟨p, hp, ?_, hd⟩
  rcases hs with rfl | ⟨q, hq, h1, h2⟩
  ·exact Reach.self _ _
  ·exact Reach.step hq h1 h2
theorem Reach.le {xs : List GCell} (hv : ValidStore xs) {a c : Nat} (h : Reach xs a c) : c ≤ a :=
 h (fun c => c ≤ a) (Nat.le_refl _) fun p hp hs d hd => by
  have := (hv p hp).2 _ hd
  omega

noncomputable def reachB (xs : List GCell) (a k j : Nat) : Bool := @decide (k ≤ j ∧ Reach xs a j) (Classical.propDecidable _)
theorem reachB_iff {xs : List GCell} {a k j : Nat} : reachB xs a k j = true ↔ k ≤ j ∧ Reach xs a j := by
 unfold reachB; exact @decide_eq_true_iff _ (Classical.propDecidable _)
noncomputable def reachN (xs : List GCell) (a k : Nat) : Nat := ((List.range xs.length).filter (reachB xs a k)).length

theorem reachN_top {xs : List GCell} (hv : ValidStore xs) (a : Nat) : reachN xs a (a + 1) = 0 := by
 unfold reachN
 rw [List.length_eq_zero_iff, List.filter_eq_nil_iff]
 intro j _ hj
 have := reachB_iff.1 hj
 have := this.2.le hv
 omega

theorem reachN_no {xs : List GCell} {a k : Nat} (h : ¬ Reach xs a k) : reachN xs a k = reachN xs a (k + 1) := by
 unfold reachN
 congr 1
 apply List.filter_congr
 intro j _
 rw [Bool.eq_iff_iff, reachB_iff, reachB_iff]
 constructor
 ·rintro ⟨h1, h2⟩
  refine ⟨?_, h2⟩
  rcases Nat.lt_or_ge k j with hlt | hge
  ·exact hlt
  ·obtain rfl : j = k := by omega
   exact absurd h2 h
 ·rintro ⟨h1, h2⟩
  exact ⟨by omega, h2⟩

theorem reachN_yes {xs : List GCell} {a k : Nat} (hk : k < xs.length) (h : Reach xs a k) : reachN xs a k = reachN xs a (k + 1) + 1 := by
 unfold reachN
 have hp : List.Perm ((List.range xs.length).filter (reachB xs a k)) (k :: (List.range xs.length).filter (reachB xs a (k + 1))) := by
  rw [List.perm_ext_iff_of_nodup (List.nodup_range.sublist List.filter_sublist) (List.nodup_cons.2 ⟨fun hm => ?_, List.nodup_range.sublist List.filter_sublist⟩)]
  ·intro j
   simp only [List.mem_filter, List.mem_range, List.mem_cons, reachB_iff]
   constructor
   ·rintro ⟨h1, h2, h3⟩
    by_cases e : j = k
    ·exact .inl e
    ·exact .inr ⟨h1, by omega, h3⟩
   ·rintro (rfl | ⟨h1, h2, h3⟩)
    ·exact ⟨hk, Nat.le_refl _, h⟩
    ·exact ⟨h1, by omega, h3⟩
  ·have := reachB_iff.1 (List.mem_filter.1 hm).2
   omega
 rw [hp.length_eq, List.length_cons]

theorem reachN_list {xs : List GCell} {a : Nat} {L : List Int} (hd : L.Nodup) (hr : ∀ y ∈ L, ∃ j : Nat, y = j ∧ j < xs.length ∧ Reach xs a j) (h0 : (a : Int) ∈ L)
  (hc : ∀ p (h : p < xs.length), (p : Int) ∈ L → ∀ y ∈ xs[p].2.2, y ∈ L) : L.length = reachN xs a 0 := by
 have all : ∀ j, Reach xs a j → (j : Int) ∈ L := fun j h => h (fun j => (j : Int) ∈ L) h0 fun p hp hs d hd => hc p hp hs _ hd
 have hp : List.Perm L (((List.range xs.length).filter (reachB xs a 0)).map fun (j : Nat) => (j : Int)) := by
  rw [List.perm_ext_iff_of_nodup hd ?_]
  ·intro y
   simp only [List.mem_map, List.mem_filter, List.mem_range, reachB_iff]
   constructor
   ·intro hy
    obtain ⟨j, e, hj, hrj⟩ := hr y hy
    exact ⟨j, ⟨hj, Nat.zero_le _, hrj⟩, e.symm⟩
   ·rintro ⟨j, ⟨_, _, hrj⟩, rfl⟩
    exact all j hrj
  ·have hn : ((List.range xs.length).filter (reachB xs a 0)).Nodup := List.nodup_range.sublist List.filter_sublist
   unfold List.Nodup at hn ⊢
   rw [List.pairwise_map]
   exact hn.imp fun h e => h (by omega)
 rw [hp.length_eq, List.length_map]
 rfl

theorem length_le_below {n : Nat} {L : List Int} (hd : L.Nodup) (hr : ∀ y ∈ L, 0 ≤ y ∧ y < n) : L.length ≤ n := by
 have := List.Nodup.length_le_of_subset (l₂ := (List.range n).map fun (j : Nat) => (j : Int)) hd fun y hy => by
  have := hr y hy
  exact List.mem_map.2 ⟨y.toNat, List.mem_range.2 (by omega), by omega⟩
 simpa using this

noncomputable def sharedN (xs : List GCell) (a : Int) : Int := @ite _ (ValidStore xs ∧ 0 ≤ a ∧ a ≤ (xs.length : Int) - 1) (Classical.propDecidable _) (reachN xs a.toNat 0 : Int) 0
theorem sharedN_yes {xs : List GCell} {a : Nat} (hv : ValidStore xs) (ha : a < xs.length) : sharedN xs a = reachN xs a 0 := by
 unfold sharedN
 rw [@if_pos _ (Classical.propDecidable _) ⟨hv, by omega, by omega⟩]
 simp
theorem sharedN_no {xs : List GCell} {a : Int} (h : ¬ (ValidStore xs ∧ 0 ≤ a ∧ a ≤ (xs.length : Int) - 1)) : sharedN xs a = 0 := by
 unfold sharedN
 rw [@if_neg _ (Classical.propDecidable _) h]
end Go.Proofs.Ytmfcagcanhmdbaa

namespace Go.Proofs.Ytmfcagcanhmdbaa
open Go.RowKit
set_option linter.unusedVariables false

inductive Emb (s : GStore) (t : List GNode) : Nat → Nat → Prop
 | mk {i a : Nat} {x : GNode} {c : GCell} (hx : t[i]? = some x) (hc : s[a]? = some c) (hr : x.2.2.2.2.1 = c.1) (hl : x.2.2.2.1 = c.2.1) (hn : (kidsN x).length = c.2.2.length)
   (hb : ∀ (j : Nat) (p q : Int), (kidsN x)[j]? = some p → c.2.2[j]? = some q → (i : Int) + 1 ≤ p ∧ p ≤ (t.length : Int) - 1 ∧ 0 ≤ q)
   (hk : ∀ (j : Nat) (p q : Int), (kidsN x)[j]? = some p → c.2.2[j]? = some q → Emb s t p.toNat q.toNat) : Emb s t i a

theorem valid_inj {s : GStore} (hv : ValidStore s) {a b : Nat} {c : GCell} (ha : s[a]? = some c) (hb : s[b]? = some c) : a = b := by
 obtain ⟨ha, ea⟩ := List.getElem?_eq_some_iff.1 ha
 obtain ⟨hb, eb⟩ := List.getElem?_eq_some_iff.1 hb
 rcases Nat.lt_trichotomy a b with h | h | h
 ·exact absurd (ea.trans eb.symm) ((hv b hb).1 a ha h)
 ·exact h
 ·exact absurd (eb.trans ea.symm) ((hv a ha).1 b hb h)
theorem Emb.lt {s : GStore} {t : List GNode} {i a : Nat} (h : Emb s t i a) : i < t.length ∧ a < s.length := by
 cases h with
 | mk hx hc => exact ⟨(List.getElem?_eq_some_iff.1 hx).1, (List.getElem?_eq_some_iff.1 hc).1⟩
theorem Emb.uniq {s : GStore} {t : List GNode} (hv : ValidStore s) {i a : Nat} (h : Emb s t i a) : ∀ {b : Nat}, Emb s t i b → a = b := by
 induction h with
 | @mk i a x c hx hc hr hl hn hb hk ih =>
  intro b k
  cases k with
  | @mk _ _ y d hy hd kr kl kn kb kk =>
   rw [hx] at hy
   cases hy
   have e : c.2.2 = d.2.2 := by
    apply List.ext_getElem (by omega)
    intro j h1 h2
    have hp : (kidsN x)[j]? = some ((kidsN x)[j]'(by omega)) := List.getElem?_eq_getElem _
    have hq : c.2.2[j]? = some c.2.2[j] := List.getElem?_eq_getElem _
    have hq' : d.2.2[j]? = some d.2.2[j] := List.getElem?_eq_getElem _
    have h3 := ih j _ _ hp hq (kk j _ _ hp hq')
    have h4 := (hb j _ _ hp hq).2.2
    have h5 := (kb j _ _ hp hq').2.2
    omega
   obtain rfl : c = d := Prod.ext (hr.symm.trans kr) (Prod.ext (hl.symm.trans kl) e)
   exact valid_inj hv hc hd
theorem Emb.more {s : GStore} {t : List GNode} (u : GStore) {i a : Nat} (h : Emb s t i a) : Emb (s ++ u) t i a := by
 induction h with
 | mk hx hc hr hl hn hb hk ih => exact .mk hx (by rw [List.getElem?_append_left (List.getElem?_eq_some_iff.1 hc).1]; exact hc) hr hl hn hb ih

theorem idxOf_get {α : Type} {p : α → Bool} {xs : List α} (h : 0 ≤ idxOf p xs) : ∃ x, xs[(idxOf p xs).toNat]? = some x ∧ p x = true := by
 induction xs with
 | nil => simp [idxOf] at h
 | cons x xs ih =>
  by_cases hx : p x = true
  ·simp only [idxOf, if_pos hx]
   exact ⟨x, rfl, hx⟩
  ·simp only [idxOf, if_neg hx] at h ⊢
   by_cases h0 : idxOf p xs < 0
   ·rw [if_pos h0] at h; omega
   ·rw [if_neg h0]
    obtain ⟨y, h1, h2⟩ := ih (by omega)
    refine ⟨y, ?_, h2⟩
    rw [show (idxOf p xs + 1).toNat = (idxOf p xs).toNat + 1 by omega, List.getElem?_cons_succ]
    exact h1
theorem putC_new {s : GStore} {x : GCell} (h : idxOf (fun z => decide (z = x)) s < 0) : ∀ j (hj : j < s.length), s[j] ≠ x := by
 intro j hj e
 have h1 : s.any (fun z => decide (z = x)) = true := List.any_eq_true.2 ⟨s[j], List.getElem_mem hj, by simp [e]⟩
 have := idxOf_nonneg.2 h1
 omega
theorem putC_at (s : GStore) (x : GCell) : (putC s x).1[(putC s x).2.toNat]? = some x ∧ ∃ u, (putC s x).1 = s ++ u := by
 unfold putC
 split
 ·refine ⟨?_, [x], rfl⟩
  simp
 ·rename_i h
  refine ⟨?_, [], by simp⟩
  obtain ⟨y, h1, h2⟩ := idxOf_get (p := fun z => decide (z = x)) (xs := s) (by omega)
  simp only [decide_eq_true_eq] at h2
  subst h2
  exact h1
theorem putC_valid {s : GStore} {x : GCell} (hv : ValidStore s) (hk : ∀ y ∈ x.2.2, 0 ≤ y ∧ y < (s.length : Int)) : ValidStore (putC s x).1 := by
 unfold putC
 split
 ·rename_i h
  have hnew := putC_new h
  intro i hi
  simp only [List.length_append, List.length_cons, List.length_nil] at hi
  by_cases hl : i < s.length
  ·simp only [List.getElem_append_left hl]
   obtain ⟨h1, h2⟩ := hv i hl
   refine ⟨fun j hj hji => ?_, h2⟩
   rw [List.getElem_append_left (by omega)]
   exact h1 j (by omega) hji
  ·obtain rfl : i = s.length := by omega
   simp only [List.getElem_append_right (Nat.le_refl _), Nat.sub_self, List.getElem_cons_zero]
   refine ⟨fun j hj hji => ?_, fun c hc => ?_⟩
   ·rw [List.getElem_append_left hji]
    exact hnew j hji
   ·have := hk c hc
    omega
 ·exact hv
theorem putC_find {s : GStore} {a : Nat} {c : GCell} (hv : ValidStore s) (ha : s[a]? = some c) : putC s c = (s, (a : Int)) := by
 obtain ⟨hl, rfl⟩ := List.getElem?_eq_some_iff.1 ha
 have e := (idxOf_self hl).2 (hv a hl).1
 unfold putC
 rw [e, if_neg (by omega)]

def DoneE (s : GStore) (t : List GNode) (d : List Int) : Prop := ∀ (j : Nat) (y : Int), d[j]? = some y → 0 ≤ y → Emb s t j y.toNat
theorem DoneE.start (s : GStore) (t : List GNode) : DoneE s t (List.replicate t.length (-1)) := by
 intro j y hj hy
 have := List.mem_replicate.1 (List.mem_of_getElem? hj)
 omega
theorem DoneE.more {s : GStore} {t : List GNode} {d : List Int} (h : DoneE s t d) (u : GStore) : DoneE (s ++ u) t d := fun j y hj hy => (h j y hj hy).more u
theorem DoneE.set {s : GStore} {t : List GNode} {d : List Int} (h : DoneE s t d) {i : Nat} {y : Int} (hy : Emb s t i y.toNat) : DoneE s t (d.set i y) := by
 intro j z hj hz
 by_cases e : i = j
 ·subst e
  rw [List.getElem?_set_self' ] at hj
  cases hd : d[i]? with
  | none => rw [hd] at hj; simp at hj
  | some v => rw [hd] at hj; simp at hj; rw [← hj]; exact hy
 ·rw [List.getElem?_set_ne e] at hj
  exact h j z hj hz

theorem inK_emb {t : List GNode} {T : GStore → List Int → Nat → Option (GStore × List Int × Int)} {i n : Nat} (hn : n = t.length)
  (H : ∀ s d j s' d' k, ValidStore s → DoneE s t d → i < j → j < t.length → d.length = t.length → T s d j = some (s', d', k) → ValidStore s' ∧ (∃ u, s' = s ++ u) ∧ DoneE s' t d' ∧ d'.length = t.length ∧ 0 ≤ k ∧ Emb s' t j k.toNat) (cs : List Int) :
  ∀ s d ks s' d' ks', ValidStore s → DoneE s t d → d.length = t.length → cs.foldl (inStep T i n) (some (s, d, ks)) = some (s', d', ks') →
   ValidStore s' ∧ (∃ u, s' = s ++ u) ∧ DoneE s' t d' ∧ d'.length = t.length ∧ ∃ ms, ks' = ks ++ ms ∧ ms.length = cs.length ∧ ∀ (j : Nat) (p q : Int), cs[j]? = some p → ms[j]? = some q → ((i : Int) + 1 ≤ p ∧ p ≤ (t.length : Int) - 1 ∧ 0 ≤ q) ∧ Emb s' t p.toNat q.toNat := by
 subst hn
 induction cs with
 | nil =>
  intro s d ks s' d' ks' hv hd hl h
  simp only [List.foldl_nil, Option.some.injEq, Prod.mk.injEq] at h
  obtain ⟨rfl, rfl, rfl⟩ := h
  exact ⟨hv, ⟨[], by simp⟩, hd, hl, [], by simp, rfl, by simp⟩
 | cons c cs ih =>
  intro s d ks s' d' ks' hv hd hl h
  rw [List.foldl_cons] at h
  by_cases hc : (i : Int) + 1 ≤ c ∧ c ≤ (t.length : Int) - 1
  ·cases hT : T s d c.toNat with
   | none =>
    have : inStep T i t.length (some (s, d, ks)) c = none := by simp only [inStep]; rw [if_pos hc, hT]
    rw [this, inK_none] at h
    cases h
   | some r =>
    obtain ⟨s1, d1, k1⟩ := r
    have e : inStep T i t.length (some (s, d, ks)) c = some (s1, d1, ks ++ [k1]) := by simp only [inStep]; rw [if_pos hc, hT]
    rw [e] at h
    obtain ⟨v1, ⟨u1, rfl⟩, e1, l1, k0, m1⟩ := H s d c.toNat s1 d1 k1 hv hd (by omega) (by omega) hl hT
    obtain ⟨v2, ⟨u2, rfl⟩, e2, l2, ms, rfl, hml, hall⟩ := ih _ _ _ _ _ _ v1 e1 l1 h
    refine ⟨v2, ⟨u1 ++ u2, by simp⟩, e2, l2, k1 :: ms, by simp, by simp [hml], fun j p q hp hq => ?_⟩
    cases j with
    | zero =>
     simp only [List.getElem?_cons_zero, Option.some.injEq] at hp hq
     subst hp hq
     exact ⟨⟨hc.1, hc.2, k0⟩, m1.more u2⟩
    | succ j =>
     rw [List.getElem?_cons_succ] at hp hq
     exact hall j p q hp hq
  ·have : inStep T i t.length (some (s, d, ks)) c = none := by simp only [inStep]; rw [if_neg hc]
   rw [this, inK_none] at h
   cases h

theorem inN_emb (t : List GNode) : ∀ f s d i s' d' k, ValidStore s → DoneE s t d → i < t.length → d.length = t.length → inN t f s d i = some (s', d', k) →
  ValidStore s' ∧ (∃ u, s' = s ++ u) ∧ DoneE s' t d' ∧ d'.length = t.length ∧ 0 ≤ k ∧ Emb s' t i k.toNat := by
 intro f
 induction f with
 | zero => intro s d i s' d' k hv hd hi hl h; simp [inN] at h
 | succ f ih =>
  intro s d i s' d' k hv hd hi hl h
  have hi' : d[i]? = some (d[i]'(by omega)) := List.getElem?_eq_getElem _
  by_cases hy : 0 ≤ d[i]'(by omega)
  ·rw [inN_done hi' hy] at h
   simp only [Option.some.injEq, Prod.mk.injEq] at h
   obtain ⟨rfl, rfl, rfl⟩ := h
   exact ⟨hv, ⟨[], by simp⟩, hd, hl, hy, hd i _ hi' hy⟩
  ·have hx : t[i]? = some t[i] := List.getElem?_eq_getElem hi
   rw [inN_new hi' (by omega) hx] at h
   cases hK : inK (inN t f) i t.length s d (kidsN t[i]) with
   | none => rw [hK] at h; cases h
   | some r =>
    obtain ⟨s1, d1, ks⟩ := r
    rw [hK] at h
    simp only [Option.some.injEq, Prod.mk.injEq] at h
    obtain ⟨rfl, rfl, rfl⟩ := h
    obtain ⟨v1, ⟨u1, e1⟩, D1, l1, ms, hms, hml, hall⟩ := inK_emb (T := inN t f) rfl (fun s d j s' d' k hv hd _ hj hl h => ih s d j s' d' k hv hd hj hl h) (kidsN t[i]) s d [] s1 d1 ks hv hd hl hK
    simp only [List.nil_append] at hms
    subst hms
    have hks : ∀ y ∈ ks, 0 ≤ y ∧ y < (s1.length : Int) := by
     intro y hy
     obtain ⟨j, hj, rfl⟩ := List.mem_iff_getElem.1 hy
     have h3 := hall j _ _ (List.getElem?_eq_getElem (by omega)) (List.getElem?_eq_getElem hj)
     have := h3.2.lt.2
     omega
    have v2 := putC_valid (x := (t[i].2.2.2.2.1, t[i].2.2.2.1, ks)) v1 hks
    obtain ⟨a2, u2, e2⟩ := putC_at s1 (t[i].2.2.2.2.1, t[i].2.2.2.1, ks)
    have k2 := (putC_facts s1 (t[i].2.2.2.2.1, t[i].2.2.2.1, ks)).1
    generalize putC s1 (t[i].2.2.2.2.1, t[i].2.2.2.1, ks) = P at v2 a2 e2 k2 ⊢
    obtain ⟨P1, P2⟩ := P
    simp only at v2 a2 e2 k2 ⊢
    subst e2
    have hE : Emb (s1 ++ u2) t i P2.toNat := by
     refine .mk hx a2 rfl rfl hml.symm (fun j p q hp hq => (hall j p q hp hq).1) (fun j p q hp hq => (hall j p q hp hq).2.more u2)
    exact ⟨v2, ⟨u1 ++ u2, by rw [e1, List.append_assoc]⟩, (D1.more u2).set hE, by rw [List.length_set]; exact l1, k2, hE⟩

theorem inK_find {s : GStore} {t : List GNode} {T : GStore → List Int → Nat → Option (GStore × List Int × Int)} {i : Nat}
  (H : ∀ d j a, DoneE s t d → i < j → j < t.length → d.length = t.length → Emb s t j a → ∃ d', T s d j = some (s, d', (a : Int)) ∧ DoneE s t d' ∧ d'.length = t.length) (cs : List Int) :
  ∀ (qs : List Int), cs.length = qs.length → (∀ (j : Nat) (p q : Int), cs[j]? = some p → qs[j]? = some q → ((i : Int) + 1 ≤ p ∧ p ≤ (t.length : Int) - 1 ∧ 0 ≤ q) ∧ Emb s t p.toNat q.toNat) →
   ∀ d ks, DoneE s t d → d.length = t.length → ∃ d', cs.foldl (inStep T i t.length) (some (s, d, ks)) = some (s, d', ks ++ qs) ∧ DoneE s t d' ∧ d'.length = t.length := by
 induction cs with
 | nil =>
  intro qs hl hall d ks hd hdl
  obtain rfl : qs = [] := List.eq_nil_of_length_eq_zero (by simpa using hl.symm)
  exact ⟨d, by simp, hd, hdl⟩
 | cons c cs ih =>
  intro qs hl hall d ks hd hdl
  cases qs with
  | nil => simp at hl
  | cons q qs =>
   obtain ⟨⟨h1, h2, h3⟩, h4⟩ := hall 0 c q rfl rfl
   obtain ⟨d1, hT, hd1, hl1⟩ := H d c.toNat q.toNat hd (by omega) (by omega) hdl h4
   have e : inStep T i t.length (some (s, d, ks)) c = some (s, d1, ks ++ [q]) := by
    simp only [inStep]
    rw [if_pos ⟨h1, h2⟩, hT, Int.toNat_of_nonneg h3]
   rw [List.foldl_cons, e]
   obtain ⟨d2, g1, g2, g3⟩ := ih qs (by simpa using hl) (fun j p q hp hq => hall (j + 1) p q (by simpa using hp) (by simpa using hq)) d1 (ks ++ [q]) hd1 hl1
   exact ⟨d2, by rw [g1]; simp, g2, g3⟩
theorem inN_find {s : GStore} {t : List GNode} (hv : ValidStore s) : ∀ f d i a, Emb s t i a → DoneE s t d → d.length = t.length → t.length - i ≤ f → ∃ d', inN t f s d i = some (s, d', (a : Int)) ∧ DoneE s t d' ∧ d'.length = t.length := by
 intro f
 induction f with
 | zero => intro d i a h hd hl hf; have := h.lt.1; omega
 | succ f ih =>
  intro d i a h hd hl hf
  have hi := h.lt.1
  have hi' : d[i]? = some (d[i]'(by omega)) := List.getElem?_eq_getElem _
  by_cases hy : 0 ≤ d[i]'(by omega)
  ·rw [inN_done hi' hy]
   have := (hd i _ hi' hy).uniq hv h
   refine ⟨d, ?_, hd, hl⟩
   congr 3
   omega
  ·cases hE : h with
   | @mk _ _ x c hx hc hr hlit hn hb hk =>
    rw [inN_new hi' (by omega) hx]
    obtain ⟨d1, g1, g2, g3⟩ := inK_find (T := inN t f) (fun d j a hd hij hj hl hE => ih d j a hE hd hl (by omega)) (kidsN x) c.2.2 hn (fun j p q hp hq => ⟨hb j p q hp hq, hk j p q hp hq⟩) d [] hd hl
    have g1' : inK (inN t f) i t.length s d (kidsN x) = some (s, d1, c.2.2) := by unfold inK; rw [g1]; simp
    rw [g1']
    have ec : ((x.2.2.2.2.1, x.2.2.2.1, c.2.2) : GCell) = c := Prod.ext hr (Prod.ext hlit rfl)
    simp only [ec, putC_find hv hc]
    exact ⟨_, rfl, g2.set (by rw [Int.toNat_natCast]; exact h), by rw [List.length_set]; exact g3⟩

theorem itn_find {s : GStore} {t : List GNode} (hv : ValidStore s) {i a : Nat} (h : Emb s t i a) : itnOf s t (i : Int) = (s, (a : Int)) := by
 have hi := h.lt.1
 rw [itnOf_yes ⟨hv, by omega, by omega⟩, Int.toNat_natCast]
 obtain ⟨d', e, -, -⟩ := inN_find hv t.length _ i a h (DoneE.start s t) (by simp) (by omega)
 unfold itnN
 rw [e]
theorem itn_emb {s : GStore} {t : List GNode} {i : Int} (h : 0 ≤ (itnOf s t i).2) : ValidStore s ∧ 0 ≤ i ∧ i ≤ (t.length : Int) - 1 ∧ ValidStore (itnOf s t i).1 ∧ Emb (itnOf s t i).1 t i.toNat (itnOf s t i).2.toNat := by
 by_cases hc : ValidStore s ∧ 0 ≤ i ∧ i ≤ (t.length : Int) - 1
 ·refine ⟨hc.1, hc.2.1, hc.2.2, ?_⟩
  rw [itnOf_yes hc] at h ⊢
  unfold itnN at h ⊢
  cases hN : inN t t.length s (List.replicate t.length (-1)) i.toNat with
  | none => rw [hN] at h; simp at h
  | some r =>
   obtain ⟨s', d', k⟩ := r
   obtain ⟨g1, -, -, -, -, g2⟩ := inN_emb t t.length s _ i.toNat s' d' k hc.1 (DoneE.start s t) (by omega) (by simp) hN
   exact ⟨g1, g2⟩
 ·rw [itnOf_no hc] at h
  simp at h
theorem itn_neg {s : GStore} {t : List GNode} {i : Int} (h : (itnOf s t i).2 < 0) : (itnOf s t i).1 = s ∧ (itnOf s t i).2 = -1 := by
 by_cases hc : ValidStore s ∧ 0 ≤ i ∧ i ≤ (t.length : Int) - 1
 ·rw [itnOf_yes hc] at h ⊢
  by_cases hg : GoodT t i.toNat
  ·obtain ⟨s', d', k, e, h0, h1, -⟩ := itnN_good (s := s) (t := t) (i := i.toNat) (by omega) hg
   unfold itnN at h
   rw [e] at h
   simp only at h
   omega
  ·unfold itnN
   rw [itnN_bad (by omega) hg]
   exact ⟨rfl, rfl⟩
 ·rw [itnOf_no hc]
  exact ⟨rfl, rfl⟩

theorem noId_eq {x y : GNode} (h : noId x = y) : x.2 = y.2 := by rw [← h]; rfl
theorem idN_noId (first : Int) (xs : List GNode) : ∀ j, (idN first j xs).map noId = xs.map noId := by
 induction xs with
 | nil => intro j; rfl
 | cons x xs ih => intro j; simp only [idN, List.map_cons, ih]; rfl
theorem exK_noId {T : Int → Int → Int → Int → List GNode} (h : ∀ c b i k, (T c b i k).map noId = T c b i k) (i : Int) : ∀ (cs : List Int) (k b : Int), (exK T i k b cs).2.map noId = (exK T i k b cs).2 := by
 intro cs
 induction cs with
 | nil => intro k b; rfl
 | cons c cs ih => intro k b; simp only [exK, List.map_append, h, ih]
theorem exN_noId (s : GStore) : ∀ f a i p l, (exN s f a i p l).map noId = exN s f a i p l := by
 intro f
 induction f with
 | zero => intro a i p l; rfl
 | succ f ih =>
  intro a i p l
  unfold exN
  cases s[a]? with
  | none => rfl
  | some c =>
   simp only [List.map_cons]
   rw [exK_noId (T := fun q b i k => exN s f q.toNat b i k) (fun q b i k => ih q.toNat b i k) i]
   rfl
theorem reachN_le_cells (s : GStore) (a : Nat) : reachN s a 0 ≤ s.length := by
 unfold reachN
 have := List.length_filter_le (reachB s a 0) (List.range s.length)
 simpa using this
theorem shared_cells (s : GStore) (a : Int) : sharedN s a ≤ (s.length : Int) := by
 by_cases h : ValidStore s ∧ 0 ≤ a ∧ a ≤ (s.length : Int) - 1
 ·obtain ⟨n, rfl⟩ : ∃ n : Nat, a = n := ⟨a.toNat, by omega⟩
  rw [sharedN_yes h.1 (by omega)]
  have := reachN_le_cells s n
  omega
 ·rw [sharedN_no h]; omega
end Go.Proofs.Ytmfcagcanhmdbaa
