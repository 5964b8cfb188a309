/- The number of cells that a cell reaches: what both loops count. Plain Lean, no program in sight.  A cell's tree and where it lies in a tree; interning finds it again; plain. No condition. -/
import Derived.Test.YtmfcagcanhmdbaaE31
import Derived.Test.YtmfcagcanhmdbaaE36
import Derived.Test.YtmfcagcanhmdbaaE33
namespace Go.Proofs.Ytmfcagcanhmdbaa

def Reach (xs : List GCell) (a c : Nat) : Prop :=
 ∀ S : Nat → Prop, S a → (∀ p (h : p < xs.length), S p → ∀ d : Nat, (d : Int) ∈ xs[p].2.2 → S d) → S c

theorem Reach.self (xs : List GCell) (a : Nat) : Reach xs a a := fun _ h _ => h
theorem Reach.step {xs : List GCell} {a p c : Nat} (hp : p < xs.length) (h : Reach xs a p) (hc : (c : Int) ∈ xs[p].2.2) : Reach xs a c :=
 fun S h0 hs => hs p hp (h S h0 hs) c hc
theorem Reach.cases {xs : List GCell} {a c : Nat} (h : Reach xs a c) : c = a ∨ ∃ p, ∃ hp : p < xs.length, Reach xs a p ∧ (c : Int) ∈ xs[p].2.2 :=
 h (fun c => c = a ∨ ∃ p, ∃ hp : p < xs.length, Reach xs a p ∧ (c : Int) ∈ xs[p].2.2) (.inl rfl) fun p hp hs d hd => by
  refine .inr ⟨p, hp, ?_, hd⟩
  rcases hs with rfl | ⟨q, hq, h1, h2⟩
  ·exact Reach.self _ _
  ·exact Reach.step hq h1 h2
theorem Reach.le {xs : List GCell} (hv : ValidStore xs) {a c : Nat} (h : Reach xs a c) : c ≤ a :=
 h (fun c => c ≤ a) (Nat.le_refl _) fun p hp hs d hd => by
  have := (hv p hp).2 _ hd
  omega

noncomputable def reachB (xs : List GCell) (a k j : Nat) : Bool := @decide (k ≤ j ∧ Reach xs a j) (Classical.propDecidable _)
theorem reachB_iff {xs : List GCell} {a k j : Nat} : reachB xs a k j = true ↔ k ≤ j ∧ Reach xs a j := by
 unfold reachB; exact @decide_eq_true_iff _ (Classical.propDecidable _)
noncomputable def reachN (xs : List GCell) (a k : Nat) : Nat := ((List.range xs.length).filter (reachB xs a k)).length

theorem reachN_top {xs : List GCell} (hv : ValidStore xs) (a : Nat) : reachN xs a (a + 1) = 0 := by
 unfold reachN
 rw [List.length_eq_zero_iff, List.filter_eq_nil_iff]
 intro j _ hj
 have := reachB_iff.1 hj
 have := this.2.le hv
 omega

theorem reachN_no {xs : List GCell} {a k : Nat} (h : ¬ Reach xs a k) : reachN xs a k = reachN xs a (k + 1) := by
 unfold reachN
 congr 1
 apply List.filter_congr
 intro j _
 rw [Bool.eq_iff_iff, reachB_iff, reachB_iff]
 constructor
 ·rintro ⟨h1, h2⟩
  refine ⟨?_, h2⟩
  rcases Nat.lt_or_ge k j with hlt | hge
  ·exact hlt
  ·obtain rfl : j = k := by omega
   exact absurd h2 h
 ·rintro ⟨h1, h2⟩
  exact ⟨by omega, h2⟩

theorem reachN_yes {xs : List GCell} {a k : Nat} (hk : k < xs.length) (h : Reach xs a k) : reachN xs a k = reachN xs a (k + 1) + 1 := by
 unfold reachN
 have hp : List.Perm ((List.range xs.length).filter (reachB xs a k)) (k :: (List.range xs.length).filter (reachB xs a (k + 1))) := by
  rw [List.perm_ext_iff_of_nodup (List.nodup_range.sublist List.filter_sublist) (List.nodup_cons.2 ⟨fun hm => ?_, List.nodup_range.sublist List.filter_sublist⟩)]
  ·intro j
   simp only [List.mem_filter, List.mem_range, List.mem_cons, reachB_iff]
   constructor
   ·rintro ⟨h1, h2, h3⟩
    by_cases e : j = k
    ·exact .inl e
    ·exact .inr ⟨h1, by omega, h3⟩
   ·rintro (rfl | ⟨h1, h2, h3⟩)
    ·exact ⟨hk, Nat.le_refl _, h⟩
    ·exact ⟨h1, by omega, h3⟩
  ·have := reachB_iff.1 (List.mem_filter.1 hm).2
   omega
 rw [hp.length_eq, List.length_cons]

theorem reachN_list {xs : List GCell} {a : Nat} {L : List Int} (hd : L.Nodup) (hr : ∀ y ∈ L, ∃ j : Nat, y = j ∧ j < xs.length ∧ Reach xs a j) (h0 : (a : Int) ∈ L)
  (hc : ∀ p (h : p < xs.length), (p : Int) ∈ L → ∀ y ∈ xs[p].2.2, y ∈ L) : L.length = reachN xs a 0 := by
 have all : ∀ j, Reach xs a j → (j : Int) ∈ L := fun j h => h (fun j => (j : Int) ∈ L) h0 fun p hp hs d hd => hc p hp hs _ hd
 have hp : List.Perm L (((List.range xs.length).filter (reachB xs a 0)).map fun (j : Nat) => (j : Int)) := by
  rw [List.perm_ext_iff_of_nodup hd ?_]
  ·intro y
   simp only [List.mem_map, List.mem_filter, List.mem_range, reachB_iff]
   constructor
   ·intro hy
    obtain ⟨j, e, hj, hrj⟩ := hr y hy
    exact ⟨j, ⟨hj, Nat.zero_le _, hrj⟩, e.symm⟩
   ·rintro ⟨j, ⟨_, _, hrj⟩, rfl⟩
    exact all j hrj
  ·have hn : ((List.range xs.length).filter (reachB xs a 0)).Nodup := List.nodup_range.sublist List.filter_sublist
   unfold List.Nodup at hn ⊢
   rw [List.pairwise_map]
   exact hn.imp fun h e => h (by omega)
 rw [hp.length_eq, List.length_map]
 rfl

noncomputable def sharedN (xs : List GCell) (a : Int) : Int := @ite _ (ValidStore xs ∧ 0 ≤ a ∧ a ≤ (xs.length : Int) - 1) (Classical.propDecidable _) (reachN xs a.toNat 0 : Int) 0
theorem sharedN_yes {xs : List GCell} {a : Nat} (hv : ValidStore xs) (ha : a < xs.length) : sharedN xs a = reachN xs a 0 := by
 unfold sharedN
 rw [@if_pos _ (Classical.propDecidable _) ⟨hv, by omega, by omega⟩]
 simp
theorem sharedN_no {xs : List GCell} {a : Int} (h : ¬ (ValidStore xs ∧ 0 ≤ a ∧ a ≤ (xs.length : Int) - 1)) : sharedN xs a = 0 := by
 unfold sharedN
 rw [@if_neg _ (Classical.propDecidable _) h]
end Go.Proofs.Ytmfcagcanhmdbaa

namespace Go.Proofs.Ytmfcagcanhmdbaa
open Go.RowKit
set_option linter.unusedVariables false

inductive Emb (s : GStore) (t : List GNode) : Nat → Nat → Prop
 | mk {i a : Nat} {x : GNode} {c : GCell} (hx : t[i]? = some x) (hc : s[a]? = some c) (hr : x.2.2.2.2.1 = c.1) (hl : x.2.2.2.1 = c.2.1) (hn : (kidsN x).length = c.2.2.length)
   (hb : ∀ (j : Nat) (p q : Int), (kidsN x)[j]? = some p → c.2.2[j]? = some q → (i : Int) + 1 ≤ p ∧ p ≤ (t.length : Int) - 1 ∧ 0 ≤ q)
   (hk : ∀ (j : Nat) (p q : Int), (kidsN x)[j]? = some p → c.2.2[j]? = some q → Emb s t p.toNat q.toNat) : Emb s t i a

theorem valid_inj {s : GStore} (hv : ValidStore s) {a b : Nat} {c : GCell} (ha : s[a]? = some c) (hb : s[b]? = some c) : a = b := by
 obtain ⟨ha, ea⟩ := List.getElem?_eq_some_iff.1 ha
 obtain ⟨hb, eb⟩ := List.getElem?_eq_some_iff.1 hb
 rcases Nat.lt_trichotomy a b with h | h | h
 ·exact absurd (ea.trans eb.symm) ((hv b hb).1 a ha h)
 ·exact h
 ·exact absurd (eb.trans ea.symm) ((hv a ha).1 b hb h)
theorem Emb.lt {s : GStore} {t : List GNode} {i a : Nat} (h : Emb s t i a) : i < t.length ∧ a < s.length := by
 cases h with
 | mk hx hc => exact ⟨(List.getElem?_eq_some_iff.1 hx).1, (List.getElem?_eq_some_iff.1 hc).1⟩
theorem Emb.uniq {s : GStore} {t : List GNode} (hv : ValidStore s) {i a : Nat} (h : Emb s t i a) : ∀ {b : Nat}, Emb s t i b → a = b := by
 induction h with
 | @mk i a x c hx hc hr hl hn hb hk ih =>
  intro b k
  cases k with
  | @mk _ _ y d hy hd kr kl kn kb kk =>
   rw [hx] at hy
   cases hy
   have e : c.2.2 = d.2.2 := by
    apply List.ext_getElem (by omega)
    intro j h1 h2
    have hp : (kidsN x)[j]? = some ((kidsN x)[j]'(by omega)) := List.getElem?_eq_getElem _
    have hq : c.2.2[j]? = some c.2.2[j] := List.getElem?_eq_getElem _
    have hq' : d.2.2[j]? = some d.2.2[j] := List.getElem?_eq_getElem _
    have h3 := ih j _ _ hp hq (kk j _ _ hp hq')
    have h4 := (hb j _ _ hp hq).2.2
    have h5 := (kb j _ _ hp hq').2.2
    omega
   obtain rfl : c = d := Prod.ext (hr.symm.trans kr) (Prod.ext (hl.symm.trans kl) e)
   exact valid_inj hv hc hd
theorem putC_find {s : GStore} {a : Nat} {c : GCell} (hv : ValidStore s) (ha : s[a]? = some c) : putC s c = (s, (a : Int)) := by
 obtain ⟨hl, rfl⟩ := List.getElem?_eq_some_iff.1 ha
 have e := (idxOf_self hl).2 (hv a hl).1
 unfold putC
 rw [e, if_neg (by omega)]

def DoneE (s : GStore) (t : List GNode) (d : List Int) : Prop := ∀ (j : Nat) (y : Int), d[j]? = some y → 0 ≤ y → Emb s t j y.toNat
theorem DoneE.start (s : GStore) (t : List GNode) : DoneE s t (List.replicate t.length (-1)) := by
 intro j y hj hy
 have := List.mem_replicate.1 (List.mem_of_getElem? hj)
 omega
theorem DoneE.set {s : GStore} {t : List GNode} {d : List Int} (h : DoneE s t d) {i : Nat} {y : Int} (hy : Emb s t i y.toNat) : DoneE s t (d.set i y) := by
 intro j z hj hz
 by_cases e : i = j
 ·subst e
  rw [List.getElem?_set_self' ] at hj
  cases hd : d[i]? with
  | none => rw [hd] at hj; simp at hj
  | some v => rw [hd] at hj; simp at hj; rw [← hj]; exact hy
 ·rw [List.getElem?_set_ne e] at hj
  exact h j z hj hz

theorem inK_find {s : GStore} {t : List GNode} {T : GStore → List Int → Nat → Option (GStore × List Int × Int)} {i : Nat}
  (H : ∀ d j a, DoneE s t d → i < j → j < t.length → d.length = t.length → Emb s t j a → ∃ d', T s d j = some (s, d', (a : Int)) ∧ DoneE s t d' ∧ d'.length = t.length) (cs : List Int) :
  ∀ (qs : List Int), cs.length = qs.length → (∀ (j : Nat) (p q : Int), cs[j]? = some p → qs[j]? = some q → ((i : Int) + 1 ≤ p ∧ p ≤ (t.length : Int) - 1 ∧ 0 ≤ q) ∧ Emb s t p.toNat q.toNat) →
   ∀ d ks, DoneE s t d → d.length = t.length → ∃ d', cs.foldl (inStep T i t.length) (some (s, d, ks)) = some (s, d', ks ++ qs) ∧ DoneE s t d' ∧ d'.length = t.length := by
 induction cs with
 | nil =>
  intro qs hl hall d ks hd hdl
  obtain rfl : qs = [] := List.eq_nil_of_length_eq_zero (by simpa using hl.symm)
  exact ⟨d, by simp, hd, hdl⟩
 | cons c cs ih =>
  intro qs hl hall d ks hd hdl
  cases qs with
  | nil => simp at hl
  | cons q qs =>
   obtain ⟨⟨h1, h2, h3⟩, h4⟩ := hall 0 c q rfl rfl
   obtain ⟨d1, hT, hd1, hl1⟩ := H d c.toNat q.toNat hd (by omega) (by omega) hdl h4
   have e : inStep T i t.length (some (s, d, ks)) c = some (s, d1, ks ++ [q]) := by
    simp only [inStep]
    rw [if_pos ⟨h1, h2⟩, hT, Int.toNat_of_nonneg h3]
   rw [List.foldl_cons, e]
   obtain ⟨d2, g1, g2, g3⟩ := ih qs (by simpa using hl) (fun j p q hp hq => hall (j + 1) p q (by simpa using hp) (by simpa using hq)) d1 (ks ++ [q]) hd1 hl1
   exact ⟨d2, by rw [g1]; simp, g2, g3⟩
theorem inN_find {s : GStore} {t : List GNode} (hv : ValidStore s) : ∀ f d i a, Emb s t i a → DoneE s t d → d.length = t.length → t.length - i ≤ f → ∃ d', inN t f s d i = some (s, d', (a : Int)) ∧ DoneE s t d' ∧ d'.length = t.length := by
 intro f
 induction f with
 | zero => intro d i a h hd hl hf; have := h.lt.1; omega
 | succ f ih =>
  intro d i a h hd hl hf
  have hi := h.lt.1
  have hi' : d[i]? = some (d[i]'(by omega)) := List.getElem?_eq_getElem _
  by_cases hy : 0 ≤ d[i]'(by omega)
  ·rw [inN_done hi' hy]
   have := (hd i _ hi' hy).uniq hv h
   refine ⟨d, ?_, hd, hl⟩
   congr 3
   omega
  ·cases hE : h with
   | @mk _ _ x c hx hc hr hlit hn hb hk =>
    rw [inN_new hi' (by omega) hx]
    obtain ⟨d1, g1, g2, g3⟩ := inK_find (T := inN t f) (fun d j a hd hij hj hl hE => ih d j a hE hd hl (by omega)) (kidsN x) c.2.2 hn (fun j p q hp hq => ⟨hb j p q hp hq, hk j p q hp hq⟩) d [] hd hl
    have g1' : inK (inN t f) i t.length s d (kidsN x) = some (s, d1, c.2.2) := by unfold inK; rw [g1]; simp
    rw [g1']
    have ec : ((x.2.2.2.2.1, x.2.2.2.1, c.2.2) : GCell) = c := Prod.ext hr (Prod.ext hlit rfl)
    simp only [ec, putC_find hv hc]
    exact ⟨_, rfl, g2.set (by rw [Int.toNat_natCast]; exact h), by rw [List.length_set]; exact g3⟩

theorem itn_find {s : GStore} {t : List GNode} (hv : ValidStore s) {i a : Nat} (h : Emb s t i a) : itnOf s t (i : Int) = (s, (a : Int)) := by
 have hi := h.lt.1
 rw [itnOf_yes ⟨hv, by omega, by omega⟩, Int.toNat_natCast]
 obtain ⟨d', e, -, -⟩ := inN_find hv t.length _ i a h (DoneE.start s t) (by simp) (by omega)
 unfold itnN
 rw [e]
theorem exK_split {T : Int → Int → Int → Int → List GNode} {i : Int} : ∀ (cs : List Int) (k b : Int) (j : Nat) (q : Int), cs[j]? = some q → ∃ A B, (exK T i k b cs).2 = A ++ T q (b + A.length) i (k + j) ++ B ∧ (exK T i k b cs).1[j]? = some (b + A.length) := by
 intro cs
 induction cs with
 | nil => intro k b j q h; simp at h
 | cons c cs ih =>
  intro k b j q h
  cases j with
  | zero =>
   simp only [List.getElem?_cons_zero, Option.some.injEq] at h
   subst h
   exact ⟨[], (exK T i (k + 1) (b + (T c b i k).length) cs).2, by simp [exK], by simp [exK]⟩
  | succ j =>
   rw [List.getElem?_cons_succ] at h
   obtain ⟨A, B, h1, h2⟩ := ih (k + 1) (b + (T c b i k).length) j q h
   refine ⟨T c b i k ++ A, B, ?_, ?_⟩
   ·simp only [exK]
    rw [h1, List.length_append, List.append_assoc, List.append_assoc, List.append_assoc]
    rw [show b + ((T c b i k).length : Int) + (A.length : Int) = b + (((T c b i k).length + A.length : Nat) : Int) by omega, show k + 1 + (j : Int) = k + ((j + 1 : Nat) : Int) by omega]
   ·simp only [exK]
    rw [List.getElem?_cons_succ, h2, List.length_append]
    congr 1
    omega
theorem noId_eq {x y : GNode} (h : noId x = y) : x.2 = y.2 := by rw [← h]; rfl
theorem exN_emb {s : GStore} (hv : ValidStore s) (t : List GNode) : ∀ f a (hf : a < f) (ha : a < s.length) (A B : List GNode) (p l : Int), t.map noId = A ++ exN s f a (A.length : Int) p l ++ B → Emb s t A.length a := by
 intro f
 induction f with
 | zero => intro a hf; omega
 | succ f ih =>
  intro a hf ha A B p l ht
  have hc : s[a]? = some s[a] := List.getElem?_eq_getElem ha
  rw [exN_at s f hc] at ht
  generalize hKs : exK (fun q b i k => exN s f q.toNat b i k) (A.length : Int) 1 ((A.length : Int) + 1) s[a].2.2 = K at ht
  have hlen := congrArg List.length ht
  simp only [List.length_map, List.length_append, List.length_cons] at hlen
  have hi : A.length < t.length := by omega
  have hxn : (t.map noId)[A.length]? = some (0, p, l, s[a].2.1, s[a].1, K.1) := by
   rw [ht, List.append_assoc, List.getElem?_append_right (Nat.le_refl _), Nat.sub_self]
   rfl
  have hx : t[A.length]? = some t[A.length] := List.getElem?_eq_getElem hi
  have hx2 : t[A.length].2 = (p, l, s[a].2.1, s[a].1, K.1) := by
   rw [List.getElem?_map, hx] at hxn
   simp only [Option.map_some, Option.some.injEq] at hxn
   exact noId_eq hxn
  have hkn : kidsN t[A.length] = K.1 := by unfold kidsN; rw [hx2]
  have hKl : K.1.length = s[a].2.2.length := by rw [← hKs]; exact (exK_len (L := fun q => exL s f q.toNat) (fun q b i k => exN_len s f q.toNat b i k) _ _ 1 _).2
  have each : ∀ (j : Nat) (q : Int), s[a].2.2[j]? = some q → ∃ A' B', K.2 = A' ++ exN s f q.toNat ((A.length : Int) + 1 + A'.length) (A.length : Int) (1 + j) ++ B' ∧ K.1[j]? = some ((A.length : Int) + 1 + A'.length) ∧ 0 ≤ q ∧ q.toNat < f ∧ q.toNat < s.length := by
   intro j q hq
   obtain ⟨A', B', h1, h2⟩ := exK_split (T := fun q b i k => exN s f q.toNat b i k) (i := (A.length : Int)) s[a].2.2 1 ((A.length : Int) + 1) j q hq
   rw [hKs] at h1 h2
   have h3 := (hv a ha).2 q (List.mem_of_getElem? hq)
   exact ⟨A', B', h1, h2, h3.1, by omega, by omega⟩
  refine .mk hx hc (by rw [hx2]) (by rw [hx2]) (by rw [hkn, hKl]) (fun j b q hb hq => ?_) (fun j b q hb hq => ?_)
  ·obtain ⟨A', B', h1, h2, h3, h4, h5⟩ := each j q hq
   rw [hkn, h2] at hb
   simp only [Option.some.injEq] at hb
   obtain ⟨g, rfl⟩ : ∃ g, f = g + 1 := ⟨f - 1, by omega⟩
   have h6 := exL_pos s g q.toNat h5
   rw [h1] at hlen
   simp only [List.length_append, exN_len] at hlen
   omega
  ·obtain ⟨A', B', h1, h2, h3, h4, h5⟩ := each j q hq
   rw [hkn, h2] at hb
   simp only [Option.some.injEq] at hb
   have := ih q.toNat h4 h5 (A ++ [(0, p, l, s[a].2.1, s[a].1, K.1)] ++ A') (B' ++ B) (A.length : Int) (1 + j) (by
    rw [ht, h1]
    have e1 : ((A ++ [((0, p, l, s[a].2.1, s[a].1, K.1) : GNode)] ++ A').length : Int) = (A.length : Int) + 1 + A'.length := by simp; omega
    rw [e1]
    simp)
   rw [show b.toNat = (A ++ [((0, p, l, s[a].2.1, s[a].1, K.1) : GNode)] ++ A').length by simp; omega]
   exact this
theorem idN_noId (first : Int) (xs : List GNode) : ∀ j, (idN first j xs).map noId = xs.map noId := by
 induction xs with
 | nil => intro j; rfl
 | cons x xs ih => intro j; simp only [idN, List.map_cons, ih]; rfl
theorem exK_noId {T : Int → Int → Int → Int → List GNode} (h : ∀ c b i k, (T c b i k).map noId = T c b i k) (i : Int) : ∀ (cs : List Int) (k b : Int), (exK T i k b cs).2.map noId = (exK T i k b cs).2 := by
 intro cs
 induction cs with
 | nil => intro k b; rfl
 | cons c cs ih => intro k b; simp only [exK, List.map_append, h, ih]
theorem exN_noId (s : GStore) : ∀ f a i p l, (exN s f a i p l).map noId = exN s f a i p l := by
 intro f
 induction f with
 | zero => intro a i p l; rfl
 | succ f ih =>
  intro a i p l
  unfold exN
  cases s[a]? with
  | none => rfl
  | some c =>
   simp only [List.map_cons]
   rw [exK_noId (T := fun q b i k => exN s f q.toNat b i k) (fun q b i k => ih q.toNat b i k) i]
   rfl
theorem exp_find {s : GStore} {a first : Int} (h : ExpOk s a first) : itnOf s (idN first 0 (exN s s.length a.toNat 0 (-1) 0)) 0 = (s, a) := by
 have h1 := exN_emb h.1 (idN first 0 (exN s s.length a.toNat 0 (-1) 0)) s.length a.toNat (by have := h.2.1; omega) (by have := h.2.1; omega) [] [] (-1) 0 (by rw [idN_noId, exN_noId]; simp)
 have h2 := itn_find h.1 h1
 have h3 := h.2.1
 simp only [List.length_nil] at h2
 rw [show ((0 : Nat) : Int) = 0 from rfl, Int.toNat_of_nonneg h3.1] at h2
 exact h2

def exC (s : GStore) : Nat → Nat → List Int
 | 0, _ => []
 | f + 1, a => match s[a]? with
  | none => []
  | some c => (a : Int) :: (c.2.2.map fun q => exC s f q.toNat).flatten
theorem exC_len (s : GStore) : ∀ f a, (exC s f a).length = exL s f a := by
 intro f
 induction f with
 | zero => intro a; rfl
 | succ f ih =>
  intro a
  unfold exC exL
  cases s[a]? with
  | none => rfl
  | some c =>
   simp only [List.length_cons, List.length_flatten, List.map_map]
   rw [Nat.add_comm]
   congr 2
   apply List.map_congr_left
   intro q _
   exact ih q.toNat
theorem exC_mem {s : GStore} (hv : ValidStore s) : ∀ f a (hf : a < f) (ha : a < s.length) j, Reach s a j → (j : Int) ∈ exC s f a := by
 intro f
 induction f with
 | zero => intro a hf; omega
 | succ f ih =>
  intro a hf ha j hj
  have hc : s[a]? = some s[a] := List.getElem?_eq_getElem ha
  have key : ∀ p : Nat, (p : Int) ∈ exC s (f + 1) a → ∀ hp : p < s.length, ∀ d : Nat, (d : Int) ∈ s[p].2.2 → (d : Int) ∈ exC s (f + 1) a := by
   intro p hp hpl d hd
   simp only [exC, hc, List.mem_cons, List.mem_flatten, List.mem_map] at hp ⊢
   have hdl := (hv p hpl).2 _ hd
   rcases hp with hp | ⟨l, ⟨q, hq, rfl⟩, hpq⟩
   ·obtain rfl : p = a := by omega
    refine .inr ⟨_, ⟨_, hd, rfl⟩, ?_⟩
    have := (hv p ha).2 _ hd
    simpa using ih d (by omega) (by omega) d (Reach.self s d)
   ·refine .inr ⟨_, ⟨q, hq, rfl⟩, ?_⟩
    have hqa := (hv a ha).2 _ hq
    have hr : Reach s q.toNat p := by
     have : ∀ f b, (p : Int) ∈ exC s f b → Reach s b p := by
      intro f
      induction f with
      | zero => intro b h; simp [exC] at h
      | succ f ih =>
       intro b h
       unfold exC at h
       cases hb : s[b]? with
       | none => rw [hb] at h; simp at h
       | some c =>
        obtain ⟨hbl, rfl⟩ := List.getElem?_eq_some_iff.1 hb
        rw [hb] at h
        simp only [List.mem_cons, List.mem_flatten, List.mem_map] at h
        rcases h with h | ⟨l, ⟨q, hq, rfl⟩, h⟩
        ·obtain rfl : p = b := by omega
         exact Reach.self _ _
        ·have h1 := ih q.toNat h
         have h2 := (hv b hbl).2 _ hq
         have h3 : Reach s b q.toNat := Reach.step hbl (Reach.self s b) (by rw [Int.toNat_of_nonneg h2.1]; exact hq)
         exact h1 (fun c => Reach s b c) h3 (fun p hp hs d hd => Reach.step hp hs hd)
     exact this f q.toNat hpq
    exact ih q.toNat (by omega) (by omega) d (Reach.step hpl hr hd)
  refine hj (fun c => (c : Int) ∈ exC s (f + 1) a) ?_ fun p hp hs d hd => key p hs hp d hd
  simp [exC, hc]
theorem reachN_le_nodes {s : GStore} (hv : ValidStore s) {a : Nat} (ha : a < s.length) : reachN s a 0 ≤ exL s s.length a := by
 rw [← exC_len]
 unfold reachN
 have h := List.Nodup.length_le_of_subset (l₁ := ((List.range s.length).filter (reachB s a 0)).map fun (j : Nat) => (j : Int)) (l₂ := exC s s.length a) ?_ ?_
 ·simpa using h
 ·have hn : ((List.range s.length).filter (reachB s a 0)).Nodup := List.nodup_range.sublist List.filter_sublist
  unfold List.Nodup at hn ⊢
  rw [List.pairwise_map]
  exact hn.imp fun h e => h (by omega)
 ·intro y hy
  obtain ⟨j, hj, rfl⟩ := List.mem_map.1 hy
  exact exC_mem hv s.length a ha ha j (reachB_iff.1 (List.mem_filter.1 hj).2).2
theorem shared_le {s : GStore} {a first : Int} (h : ExpOk s a first) : sharedN s a ≤ ((idN first 0 (exN s s.length a.toNat 0 (-1) 0)).length : Int) := by
 obtain ⟨n, rfl⟩ : ∃ n : Nat, a = n := ⟨a.toNat, by have := h.2.1; omega⟩
 rw [sharedN_yes h.1 (by have := h.2.1; omega), idN_len, exN_len, Int.toNat_natCast]
 have := reachN_le_nodes h.1 (a := n) (by have := h.2.1; omega)
 omega
end Go.Proofs.Ytmfcagcanhmdbaa
