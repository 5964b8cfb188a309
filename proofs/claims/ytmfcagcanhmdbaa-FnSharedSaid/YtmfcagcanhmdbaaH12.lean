/- An interned subtree, expanded, has the subtree's shape; plain. A slice of texts measured, copied, compared. Made by mk_str.py. No condition. -/
import Derived.Test.YtmfcagcanhmdbaaH11
import Derived.Test.YtmfcagcanhmdbaaH02
namespace Go.Proofs.Ytmfcagcanhmdbaa
open Go.RowKit
set_option linter.unusedVariables false

theorem at_noId {t u : List GNode} (e : t.map noId = u.map noId) {i : Nat} {x : GNode} (h : u[i]? = some x) : ∃ y, t[i]? = some y ∧ y.2 = x.2 := by
 have h1 : (t.map noId)[i]? = some (noId x) := by rw [e, List.getElem?_map, h]; rfl
 rw [List.getElem?_map] at h1
 cases hy : t[i]? with
 | none => rw [hy] at h1; simp at h1
 | some y =>
  rw [hy] at h1
  simp only [Option.map_some, Option.some.injEq] at h1
  exact ⟨y, rfl, by have := noId_eq h1; exact this⟩
theorem Emb.ids {s : GStore} {t u : List GNode} (e : t.map noId = u.map noId) {i a : Nat} (h : Emb s u i a) : Emb s t i a := by
 have hl : t.length = u.length := by have := congrArg List.length e; simpa using this
 induction h with
 | @mk i a x c hx hc hr hlit hn hb hk ih =>
  obtain ⟨y, hy, e2⟩ := at_noId e hx
  have ek : kidsN y = kidsN x := by unfold kidsN; rw [e2]
  exact .mk hy hc (by rw [e2]; exact hr) (by rw [e2]; exact hlit) (by rw [ek]; exact hn) (fun j p q hp hq => by rw [ek] at hp; rw [hl]; exact hb j p q hp hq) (fun j p q hp hq => by rw [ek] at hp; exact ih j p q hp hq)
theorem Emb.at {s : GStore} {t : List GNode} {i a : Nat} (h : Emb s t i a) : ∃ x c, t[i]? = some x ∧ s[a]? = some c ∧ x.2.2.2.2.1 = c.1 ∧ x.2.2.2.1 = c.2.1 ∧ (kidsN x).length = c.2.2.length ∧
  ∀ (j : Nat) (p q : Int), (kidsN x)[j]? = some p → c.2.2[j]? = some q → ((i : Int) + 1 ≤ p ∧ p ≤ (t.length : Int) - 1 ∧ 0 ≤ q) ∧ Emb s t p.toNat q.toNat := by
 cases h with
 | @mk _ _ x c hx hc hr hlit hn hb hk => exact ⟨x, c, hx, hc, hr, hlit, hn, fun j p q hp hq => ⟨hb j p q hp hq, hk j p q hp hq⟩⟩
theorem Emb.from {s : GStore} {t u : List GNode} (hl : t.length = u.length) {m : Nat} (e : ∀ j, m ≤ j → t[j]? = u[j]?) {i a : Nat} (h : Emb s u i a) : m ≤ i → Emb s t i a := by
 induction h with
 | @mk i a x c hx hc hr hlit hn hb hk ih =>
  intro hm
  exact .mk (by rw [e i hm]; exact hx) hc hr hlit hn (fun j p q hp hq => by rw [hl]; exact hb j p q hp hq) (fun j p q hp hq => ih j p q hp hq (by have := (hb j p q hp hq).1; omega))

theorem joK_split : ∀ (ts : List (List GNode)) (k b : Int) (m : Nat), m < (joK k b ts).2.length → ∃ (j : Nat) (t : List GNode) (A B : List GNode), ts[j]? = some t ∧ (joK k b ts).2 = A ++ adjN (k + j) (b + A.length) t ++ B ∧ A.length ≤ m ∧ m < A.length + t.length ∧ ((∀ u ∈ ts, 1 ≤ u.length) → ∀ x, B.head? = some x → x.2.1 = 0) := by
 intro ts
 induction ts with
 | nil => intro k b m h; simp [joK] at h
 | cons t ts ih =>
  intro k b m h
  by_cases hm : m < t.length
  ·refine ⟨0, t, [], (joK (k + 1) (b + t.length) ts).2, rfl, by simp [joK], by simp, by simpa using hm, fun hp x hx => ?_⟩
   cases ts with
   | nil => simp [joK] at hx
   | cons v vs =>
    have := hp v (by simp)
    cases v with
    | nil => simp at this
    | cons y ys => simp [joK, adjN] at hx; rw [← hx]
  ·have h2 : m - t.length < (joK (k + 1) (b + t.length) ts).2.length := by
    simp only [joK, List.length_append, adjN_len] at h
    omega
   obtain ⟨j, v, A, B, h3, h4, h5, h6, h7⟩ := ih (k + 1) (b + t.length) (m - t.length) h2
   refine ⟨j + 1, v, adjN k b t ++ A, B, by simpa using h3, ?_, by simp only [List.length_append, adjN_len]; omega, by simp only [List.length_append, adjN_len]; omega, fun hp => h7 fun u hu => hp u (by simp [hu])⟩
   simp only [joK]
   rw [h4, List.length_append, adjN_len, List.append_assoc, List.append_assoc, List.append_assoc]
   rw [show b + (t.length : Int) + (A.length : Int) = b + ((t.length + A.length : Nat) : Int) by omega, show k + 1 + (j : Int) = k + ((j + 1 : Nat) : Int) by omega]
theorem joK_kid : ∀ (ts : List (List GNode)) (k b : Int) (j : Nat) (p : Int), (joK k b ts).1[j]? = some p → ∃ (t : List GNode) (A B : List GNode), ts[j]? = some t ∧ (joK k b ts).2 = A ++ adjN (k + j) (b + A.length) t ++ B ∧ p = b + A.length ∧ (joK k b (ts.take j)).2.length = A.length := by
 intro ts
 induction ts with
 | nil => intro k b j p h; simp [joK] at h
 | cons t ts ih =>
  intro k b j p h
  cases j with
  | zero =>
   simp only [joK, List.getElem?_cons_zero, Option.some.injEq] at h
   exact ⟨t, [], (joK (k + 1) (b + t.length) ts).2, rfl, by simp [joK], by simp [h], by simp [joK]⟩
  | succ j =>
   simp only [joK, List.getElem?_cons_succ] at h
   obtain ⟨v, A, B, h3, h4, h5, h6⟩ := ih (k + 1) (b + t.length) j p h
   refine ⟨v, adjN k b t ++ A, B, by simpa using h3, ?_, by rw [h5, List.length_append, adjN_len]; omega, by simp only [List.take_succ_cons, joK, List.length_append, adjN_len, h6]⟩
   simp only [joK]
   rw [h4, List.length_append, adjN_len, List.append_assoc, List.append_assoc, List.append_assoc]
   rw [show b + (t.length : Int) + (A.length : Int) = b + ((t.length + A.length : Nat) : Int) by omega, show k + 1 + (j : Int) = k + ((j + 1 : Nat) : Int) by omega]
theorem mid_at {A B M : List GNode} {m : Nat} (h : m < M.length) : (A ++ M ++ B)[A.length + m]? = M[m]? := by
 rw [List.append_assoc, List.getElem?_append_right (by omega), Nat.add_sub_cancel_left, List.getElem?_append_left h]

theorem PreT.kids {u : List GNode} (h : PreT u) : ∀ (m : Nat) (x : GNode), u[m]? = some x → ∀ c ∈ kidsN x, (m : Int) + 1 ≤ c ∧ c ≤ (u.length : Int) - 1 := by
 induction h with
 | @ids t u h e ih =>
  intro m x hx c hc
  obtain ⟨y, hy, e2⟩ := at_noId e hx
  have hl : t.length = u.length := by have := congrArg List.length e; simpa using this
  have := ih m y hy c (by unfold kidsN at hc ⊢; rw [e2]; exact hc)
  rw [hl] at this
  exact this
 | join r ts h ih =>
  intro m x hx c hc
  have hlen : ((joN r ts).length : Int) = 1 + (joK 1 1 ts).2.length := by simp [joN]; omega
  cases m with
  | zero =>
   simp only [joN, List.getElem?_cons_zero, Option.some.injEq] at hx
   subst hx
   have hc : c ∈ (joK 1 1 ts).1 := hc
   obtain ⟨j, hj, rfl⟩ := List.mem_iff_getElem.1 hc
   obtain ⟨t, A, B, h1, h2, h3, -⟩ := joK_kid ts 1 1 j _ (List.getElem?_eq_getElem hj)
   have hp := (h t (List.mem_of_getElem? h1)).pos
   rw [hlen, h3, h2]
   simp only [List.length_append, adjN_len]
   omega
  | succ m =>
   simp only [joN, List.getElem?_cons_succ] at hx
   obtain ⟨hm, -⟩ := List.getElem?_eq_some_iff.1 hx
   obtain ⟨j, t, A, B, h1, h2, h3, h4, -⟩ := joK_split ts 1 1 m hm
   obtain ⟨m', rfl⟩ : ∃ m', m = A.length + m' := ⟨m - A.length, by omega⟩
   have hm' : m' < t.length := by omega
   rw [h2, mid_at (by rw [adjN_len]; exact hm')] at hx
   have hx2 : (adjN (1 + (j : Int)) (1 + (A.length : Int)) t)[m']? = some _ := List.getElem?_eq_getElem (by rw [adjN_len]; exact hm')
   rw [adjN_at hm'] at hx2
   rw [hx2] at hx
   simp only [Option.some.injEq] at hx
   subst hx
   obtain ⟨c', hc', rfl⟩ := List.mem_map.1 (show c ∈ t[m'].2.2.2.2.2.map (· + (1 + (A.length : Int))) from hc)
   have := ih t (List.mem_of_getElem? h1) m' _ (List.getElem?_eq_getElem hm') c' hc'
   rw [hlen, h2]
   simp only [List.length_append, adjN_len]
   omega

theorem adj_get {k b : Int} {t : List GNode} {m : Nat} {x : GNode} (hx : t[m]? = some x) : (adjN k b t)[m]? = some (x.1, if m = 0 then 0 else x.2.1 + b, if m = 0 then k else x.2.2.1, x.2.2.2.1, x.2.2.2.2.1, x.2.2.2.2.2.map (· + b)) := by
 obtain ⟨h, rfl⟩ := List.getElem?_eq_some_iff.1 hx
 have h' : m < (adjN k b t).length := by rw [adjN_len]; exact h
 rw [List.getElem?_eq_getElem h', adjN_at h h']
theorem Emb.inner {s : GStore} {t H A B : List GNode} {k b : Int} (hT : PreT t) (hb : b = (H.length + A.length : Nat)) : ∀ {i a : Nat}, Emb s (H ++ (A ++ adjN k b t ++ B)) i a → ∀ m, i = H.length + A.length + m → m < t.length → Emb s t m a := by
 intro i a h
 induction h with
 | @mk i a x c hx hc hr hlit hn hbd hk ih =>
  rintro m rfl hm
  have hy : t[m]? = some t[m] := List.getElem?_eq_getElem hm
  rw [List.getElem?_append_right (by omega), show H.length + A.length + m - H.length = A.length + m by omega, mid_at (by rw [adjN_len]; exact hm), adj_get hy] at hx
  simp only [Option.some.injEq] at hx
  subst hx
  have hkid : ∀ (j : Nat) (p : Int), (kidsN t[m])[j]? = some p → (t[m].2.2.2.2.2.map (· + b))[j]? = some (p + b) := fun j p hp => by
   rw [List.getElem?_map]
   rw [show t[m].2.2.2.2.2[j]? = some p from hp]; rfl
  refine .mk hy hc hr hlit (by simpa [kidsN] using hn) (fun j p q hp hq => ?_) (fun j p q hp hq => ?_)
  ·have h1 := hT.kids m _ hy p (List.mem_of_getElem? hp)
   have h2 := hbd j (p + b) q (hkid j p hp) hq
   exact ⟨h1.1, h1.2, h2.2.2⟩
  ·have h1 := hT.kids m _ hy p (List.mem_of_getElem? hp)
   exact ih j (p + b) q (hkid j p hp) hq p.toNat (by rw [hb]; omega) (by omega)

theorem take_drop_mid {A B M : List GNode} {m n : Nat} (h : m + n ≤ M.length) : ((A ++ M ++ B).drop (A.length + m)).take n = (M.drop m).take n := by
 rw [List.append_assoc, List.drop_append, List.drop_eq_nil_of_le (show A.length ≤ A.length + m by omega), List.nil_append, Nat.add_sub_cancel_left, List.drop_append_of_le_length (by omega), List.take_append_of_le_length (by rw [List.length_drop]; omega)]
theorem adj_noId (k b : Int) (t : List GNode) : (adjN k b t).map noId = adjN k b (t.map noId) := by
 cases t with
 | nil => rfl
 | cons x xs => simp [adjN, noId, shN]
theorem adj_drop (k b : Int) (t : List GNode) {m : Nat} (hm : 0 < m) : (adjN k b t).drop m = (t.drop m).map (shN b) := by
 obtain ⟨m, rfl⟩ : ∃ m', m = m' + 1 := ⟨m - 1, by omega⟩
 cases t with
 | nil => simp [adjN]
 | cons x xs => simp [adjN, List.map_drop]

theorem exN_nodes {s : GStore} {f a : Nat} {c : GCell} (h : s[a]? = some c) (i p l : Int) : exN s (f + 1) a i p l = (0, p, l, c.2.1, c.1, (exK (fun q b i k => exN s f q.toNat b i k) i 1 (i + 1) c.2.2).1) :: (exK (fun q b i k => exN s f q.toNat b i k) i 1 (i + 1) c.2.2).2 := exN_at s f h i p l

theorem PreT.seg {s : GStore} (hv : ValidStore s) {u : List GNode} (h : PreT u) : ∀ (f i a : Nat) (x : GNode), Emb s u i a → a < f → u[i]? = some x →
  i + exL s f a ≤ u.length ∧ (i = 0 → exL s f a = u.length) ∧ ((u.map noId).drop i).take (exL s f a) = exN s f a (i : Int) x.2.1 x.2.2.1 ∧ (0 < i → ∀ y, u[i + exL s f a]? = some y → y.2.1 < (i : Int)) := by
 induction h with
 | @ids t u h e ih =>
  intro f i a x hE hf hx
  obtain ⟨y, hy, e2⟩ := at_noId e hx
  have hl : t.length = u.length := by have := congrArg List.length e; simpa using this
  obtain ⟨h1, h2, h3, h4⟩ := ih f i a y (hE.ids e) hf hy
  rw [hl] at h1 h2
  rw [e, e2] at h3
  refine ⟨h1, h2, h3, fun hi z hz => ?_⟩
  obtain ⟨z', hz', e3⟩ := at_noId e hz
  have := h4 hi z' hz'
  rw [e3] at this
  exact this
 | join r ts h ih =>
  intro f i a x hE hf hx
  obtain ⟨f, rfl⟩ : ∃ g, f = g + 1 := ⟨f - 1, by omega⟩
  have hpos : ∀ t ∈ ts, 1 ≤ t.length := fun t ht => (h t ht).pos
  cases i with
  | zero =>
   simp only [joN, List.getElem?_cons_zero, Option.some.injEq] at hx
   obtain ⟨x', c, hx', hc, hr, hlit, hn, hk⟩ := hE.at
   simp only [joN, List.getElem?_cons_zero, Option.some.injEq] at hx'
   rw [← hx'] at hr hlit hn hk
   clear hx' x'
   obtain ⟨hal, hca⟩ := List.getElem?_eq_some_iff.1 hc
   have hn' : (joK 1 1 ts).1.length = c.2.2.length := hn
   have hnl : ts.length = c.2.2.length := by rw [← hn', (joK_len ts 1 1).2]
   -- each child
   have kid : ∀ (j : Nat) (t : List GNode) (q : Int), ts[j]? = some t → c.2.2[j]? = some q → exL s f q.toNat = t.length ∧ t.map noId = exN s f q.toNat 0 (match t[0]? with | some z => z.2.1 | none => 0) (match t[0]? with | some z => z.2.2.1 | none => 0) := by
    intro j t q ht hq
    have hj : j < (joK 1 1 ts).1.length := by rw [(joK_len ts 1 1).2]; exact (List.getElem?_eq_some_iff.1 ht).1
    have hp : (joK 1 1 ts).1[j]? = some (joK 1 1 ts).1[j] := List.getElem?_eq_getElem hj
    obtain ⟨t', A, B, h1, h2, h3, -⟩ := joK_kid ts 1 1 j _ hp
    rw [ht] at h1
    cases h1
    obtain ⟨hbd, hEk⟩ := hk j _ q hp hq
    have hqa := (hv a hal).2 q (by rw [hca]; exact List.mem_of_getElem? hq)
    have htm := List.mem_of_getElem? ht
    have hpt := hpos t htm
    have hin : Emb s t 0 q.toNat := by
     have e1 : joN r ts = [(r.1, -1, 0, r.2.2.2.1, r.2.2.2.2.1, (joK 1 1 ts).1)] ++ (A ++ adjN (1 + (j : Int)) (1 + (A.length : Int)) t ++ B) := by rw [← h2]; rfl
     rw [e1] at hEk
     exact hEk.inner (h t htm) (by simp <;> omega) 0 (by rw [h3]; simp <;> omega) (by omega)
    have ht0 : t[0]? = some t[0] := List.getElem?_eq_getElem (by omega)
    obtain ⟨g1, g2, g3, -⟩ := ih t htm f 0 q.toNat t[0] hin (by omega) ht0
    have g2' := g2 rfl
    refine ⟨g2', ?_⟩
    rw [ht0]
    simp only
    rw [g2', List.drop_zero, show t.length = (t.map noId).length by simp, List.take_length] at g3
    exact g3
   have adjk : ∀ (j : Nat) (t : List GNode) (q : Int) (k b : Int), ts[j]? = some t → c.2.2[j]? = some q → (adjN k b t).map noId = exN s f q.toNat b 0 k := by
    intro j t q k b ht hq
    obtain ⟨e1, e2⟩ := kid j t q ht hq
    rw [adj_noId, e2, ← adjN_exN]
    have hqa := (hv a hal).2 q (by rw [hca]; exact List.mem_of_getElem? hq)
    obtain ⟨f', rfl⟩ : ∃ f', f = f' + 1 := ⟨f - 1, by omega⟩
    have hqc : s[q.toNat]? = some s[q.toNat] := List.getElem?_eq_getElem (by omega)
    rw [exN_nodes hqc, exN_nodes hqc]
    rfl
   have all : ∀ (ts : List (List GNode)) (qs : List Int), ts.length = qs.length → (∀ (j : Nat) (t : List GNode) (q : Int) (k b : Int), ts[j]? = some t → qs[j]? = some q → (adjN k b t).map noId = exN s f q.toNat b 0 k) → ∀ k b, (joK k b ts).1 = (exK (fun q b i k => exN s f q.toNat b i k) 0 k b qs).1 ∧ (joK k b ts).2.map noId = (exK (fun q b i k => exN s f q.toNat b i k) 0 k b qs).2 := by
    intro ts
    induction ts with
    | nil =>
     intro qs hl _ k b
     obtain rfl : qs = [] := List.eq_nil_of_length_eq_zero (by simpa using hl.symm)
     exact ⟨rfl, rfl⟩
    | cons t ts ih =>
     intro qs hl hall k b
     cases qs with
     | nil => simp at hl
     | cons q qs =>
      have h1 := hall 0 t q k b rfl rfl
      have h2 : (exN s f q.toNat b 0 k).length = t.length := by rw [← h1]; simp [adjN_len]
      obtain ⟨g1, g2⟩ := ih qs (by simpa using hl) (fun j t q k b ht hq => hall (j + 1) t q k b (by simpa using ht) (by simpa using hq)) (k + 1) (b + t.length)
      simp only [joK, exK, List.map_append, h1, h2, g1, g2, true_and]
   obtain ⟨a1, a2⟩ := all ts c.2.2 hnl adjk 1 1
   have hL : exL s (f + 1) a = (joN r ts).length := by
    rw [← exN_len s (f + 1) a 0 0 0, exN_nodes hc, List.length_cons, show (0 : Int) + 1 = 1 from rfl, ← a2]
    simp [joN]
   refine ⟨by rw [hL]; omega, fun _ => hL, ?_, fun h0 => absurd h0 (Nat.lt_irrefl _)⟩
   rw [hL, List.drop_zero, show (joN r ts).length = ((joN r ts).map noId).length by simp, List.take_length]
   rw [show (((0 : Nat) : Int)) = 0 from rfl, exN_nodes hc, show (0 : Int) + 1 = 1 from rfl, ← a1, ← a2, ← hx]
   unfold joN
   simp only [List.map_cons, noId]
   rw [← hr, ← hlit]
  | succ i =>
   simp only [joN, List.getElem?_cons_succ] at hx
   obtain ⟨hm, -⟩ := List.getElem?_eq_some_iff.1 hx
   obtain ⟨j, t, A, B, h1, h2, h3, h4, h5⟩ := joK_split ts 1 1 i hm
   obtain ⟨m, rfl⟩ : ∃ m, i = A.length + m := ⟨i - A.length, by omega⟩
   have hm' : m < t.length := by omega
   have htm := List.mem_of_getElem? h1
   have hy : t[m]? = some t[m] := List.getElem?_eq_getElem hm'
   rw [h2, mid_at (by rw [adjN_len]; exact hm'), adj_get hy] at hx
   simp only [Option.some.injEq] at hx
   have e1 : joN r ts = [(r.1, -1, 0, r.2.2.2.1, r.2.2.2.2.1, (joK 1 1 ts).1)] ++ (A ++ adjN (1 + (j : Int)) (1 + (A.length : Int)) t ++ B) := by rw [← h2]; rfl
   have e2 : joN r ts = ([(r.1, -1, 0, r.2.2.2.1, r.2.2.2.2.1, (joK 1 1 ts).1)] ++ A) ++ adjN (1 + (j : Int)) (1 + (A.length : Int)) t ++ B := by rw [e1]; simp
   have hin : Emb s t m a := by
    rw [e1] at hE
    exact hE.inner (h t htm) (by simp <;> omega) m (by simp <;> omega) hm'
   obtain ⟨g1, g2, g3, g4⟩ := ih t htm (f + 1) m a t[m] hin hf hy
   generalize hn : exL s (f + 1) a = n at g1 g2 g3 g4 ⊢
   have hA : A.length + m + 1 = ([(r.1, -1, 0, r.2.2.2.1, r.2.2.2.2.1, (joK 1 1 ts).1)] ++ A : List GNode).length + m := by simp; omega
   have hul : (joN r ts).length = 1 + A.length + t.length + B.length := by rw [e2]; simp [adjN_len]; omega
   refine ⟨by rw [hul]; omega, fun h0 => by omega, ?_, fun _ y hy2 => ?_⟩
   ·rw [e2, hA, List.map_append, List.map_append]
    have := take_drop_mid (A := ([(r.1, -1, 0, r.2.2.2.1, r.2.2.2.2.1, (joK 1 1 ts).1)] ++ A : List GNode).map noId) (B := B.map noId) (M := (adjN (1 + (j : Int)) (1 + (A.length : Int)) t).map noId) (m := m) (n := n) (by simp [adjN_len]; omega)
    rw [List.length_map] at this
    rw [this, adj_noId]
    rw [← hx]
    have ei : (((([(r.1, -1, 0, r.2.2.2.1, r.2.2.2.2.1, (joK 1 1 ts).1)] ++ A : List GNode).length + m : Nat)) : Int) = (m : Int) + (1 + (A.length : Int)) := by simp; omega
    rw [ei]
    cases m with
    | zero =>
     simp only [if_true, List.drop_zero] at g3 ⊢
     have hn2 := g2 rfl
     rw [show n = (adjN (1 + (j : Int)) (1 + (A.length : Int)) (t.map noId)).length by rw [adjN_len, List.length_map]; exact hn2, List.take_length]
     rw [hn2, show t.length = (t.map noId).length by simp, List.take_length] at g3
     rw [g3, show ((0 : Nat) : Int) + (1 + (A.length : Int)) = 1 + (A.length : Int) by omega, ← adjN_exN]
     obtain ⟨-, c, -, hc, -⟩ := hin.at
     rw [show ((0 : Nat) : Int) = 0 from rfl, exN_nodes hc, exN_nodes hc]
     rfl
    | succ m =>
     simp only [Nat.succ_ne_zero, if_false]
     rw [adj_drop _ _ _ (Nat.succ_pos m), ← List.map_take, g3, ← exN_sh]
   ·rw [e2, hA, Nat.add_assoc] at hy2
    by_cases hlt : m + n < t.length
    ·rw [mid_at (by rw [adjN_len]; exact hlt), adj_get (List.getElem?_eq_getElem hlt)] at hy2
     simp only [Option.some.injEq] at hy2
     rw [← hy2]
     have hm0 : 0 < m := by
      rcases Nat.eq_zero_or_pos m with e | e
      ·have := g2 e; omega
      ·exact e
     have := g4 hm0 _ (List.getElem?_eq_getElem hlt)
     simp only
     rw [if_neg (by omega)]
     omega
    ·have he : m + n = t.length := by omega
     rw [he, show ([(r.1, -1, 0, r.2.2.2.1, r.2.2.2.2.1, (joK 1 1 ts).1)] ++ A : List GNode).length + t.length = (([(r.1, -1, 0, r.2.2.2.1, r.2.2.2.2.1, (joK 1 1 ts).1)] ++ A : List GNode) ++ adjN (1 + (j : Int)) (1 + (A.length : Int)) t).length by simp [adjN_len]; omega, List.getElem?_append_right (Nat.le_refl _), Nat.sub_self] at hy2
     have := h5 hpos y (by rw [List.head?_eq_getElem?]; exact hy2)
     omega
end Go.Proofs.Ytmfcagcanhmdbaa

namespace Go.Proofs.Ytmfcagcanhmdbaa
open Go.RowKit

def wtStringS (xs : List ByteArray) : Nat := wtL ByteArray.size xs

end Go.Proofs.Ytmfcagcanhmdbaa
