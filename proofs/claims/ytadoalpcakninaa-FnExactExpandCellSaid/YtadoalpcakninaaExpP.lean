/- The tree of a cell, plainly: its nodes in preorder, their number, their joining. No condition. -/
import Derived.Test.YtadoalpcakninaaFamTree
import Derived.Test.YtadoalpcakninaaValidA
namespace Go.Proofs.Ytadoalpcakninaa
open Go.RowKit
set_option linter.unusedVariables false

/-- The children's places, and their nodes: T makes the nodes of a child at a place under a parent, as its child number k. -/
def exK (T : Int → Int → Int → Int → List GNode) (i : Int) : Int → Int → List Int → List Int × List GNode
  | _, _, [] => ([], [])
  | k, b, c :: cs => (b :: (exK T i (k + 1) (b + (T c b i k).length) cs).1, T c b i k ++ (exK T i (k + 1) (b + (T c b i k).length) cs).2)

/-- The nodes of a cell's tree in preorder, the first at place i under p as number l; the Ids are 0. -/
def exN (s : GStore) : Nat → Nat → Int → Int → Int → List GNode
  | 0, _, _, _, _ => []
  | f + 1, a, i, p, l => match s[a]? with
    | none => []
    | some c => (0, p, l, c.2.1, c.1, (exK (fun q b i k => exN s f q.toNat b i k) i 1 (i + 1) c.2.2).1) :: (exK (fun q b i k => exN s f q.toNat b i k) i 1 (i + 1) c.2.2).2

theorem exN_at (s : GStore) (f : Nat) {a : Nat} {c : GCell} (h : s[a]? = some c) (i p l : Int) : exN s (f + 1) a i p l = (0, p, l, c.2.1, c.1, (exK (fun q b i k => exN s f q.toNat b i k) i 1 (i + 1) c.2.2).1) :: (exK (fun q b i k => exN s f q.toNat b i k) i 1 (i + 1) c.2.2).2 := by
  simp only [exN, h]

/-- How many nodes. -/
def exL (s : GStore) : Nat → Nat → Nat
  | 0, _ => 0
  | f + 1, a => match s[a]? with
    | none => 0
    | some c => 1 + (c.2.2.map fun q => exL s f q.toNat).sum

theorem exK_len {T : Int → Int → Int → Int → List GNode} {L : Int → Nat} (h : ∀ c b i k, (T c b i k).length = L c) (i : Int) (cs : List Int) : ∀ k b, (exK T i k b cs).2.length = (cs.map L).sum ∧ (exK T i k b cs).1.length = cs.length := by
  induction cs with
  | nil => intro k b; exact ⟨rfl, rfl⟩
  | cons c cs ih =>
    intro k b
    have := ih (k + 1) (b + (T c b i k).length)
    simp only [exK, List.length_append, List.length_cons, List.map_cons, List.sum_cons, h] at this ⊢
    omega

theorem exN_len (s : GStore) : ∀ f a i p l, (exN s f a i p l).length = exL s f a := by
  intro f
  induction f with
  | zero => intro a i p l; rfl
  | succ f ih =>
    intro a i p l
    unfold exN exL
    cases s[a]? with
    | none => rfl
    | some c =>
      simp only [List.length_cons]
      rw [(exK_len (L := fun q => exL s f q.toNat) (fun q b i k => ih q.toNat b i k) i c.2.2 1 (i + 1)).1]
      omega

/-- One child more. -/
theorem exK_snoc {T : Int → Int → Int → Int → List GNode} (i : Int) (cs : List Int) (c : Int) : ∀ k b, exK T i k b (cs ++ [c]) = ((exK T i k b cs).1 ++ [b + (exK T i k b cs).2.length], (exK T i k b cs).2 ++ T c (b + (exK T i k b cs).2.length) i (k + cs.length)) := by
  induction cs with
  | nil => intro k b; simp [exK]
  | cons d cs ih =>
    intro k b
    simp only [List.cons_append, exK, ih, List.length_append, List.length_cons]
    have e1 : b + ((T d b i k).length : Int) + ((exK T i (k + 1) (b + (T d b i k).length) cs).2.length : Int) = b + (((T d b i k).length + (exK T i (k + 1) (b + (T d b i k).length) cs).2.length : Nat) : Int) := by omega
    have e2 : k + 1 + (cs.length : Int) = k + ((cs.length + 1 : Nat) : Int) := by omega
    rw [e1, e2, List.append_assoc]

/-- All parents and children farther by b. -/
def shN (b : Int) (x : GNode) : GNode := (x.1, x.2.1 + b, x.2.2.1, x.2.2.2.1, x.2.2.2.2.1, x.2.2.2.2.2.map (· + b))

theorem exK_sh {T : Int → Int → Int → Int → List GNode} (d : Int) (h : ∀ c b i k, T c (b + d) (i + d) k = (T c b i k).map (shN d)) (i : Int) (cs : List Int) : ∀ k b, exK T (i + d) k (b + d) cs = ((exK T i k b cs).1.map (· + d), (exK T i k b cs).2.map (shN d)) := by
  induction cs with
  | nil => intro k b; rfl
  | cons c cs ih =>
    intro k b
    have e : b + d + ((T c (b + d) (i + d) k).length : Int) = b + ((T c b i k).length : Int) + d := by rw [h, List.length_map]; omega
    simp only [exK]
    rw [e, ih, h]
    simp

theorem exN_sh (s : GStore) (d : Int) : ∀ f a i p l, exN s f a (i + d) (p + d) l = (exN s f a i p l).map (shN d) := by
  intro f
  induction f with
  | zero => intro a i p l; rfl
  | succ f ih =>
    intro a i p l
    unfold exN
    cases s[a]? with
    | none => rfl
    | some c =>
      have e : i + d + 1 = i + 1 + d := by omega
      simp only [e]
      rw [exK_sh d (fun q b i k => ih q.toNat b i k)]
      rfl

/-- A subtree under a root: its nodes b farther, its first as child number k. -/
def adjN (k b : Int) : List GNode → List GNode
  | [] => []
  | x :: xs => (x.1, 0, k, x.2.2.2.1, x.2.2.2.2.1, x.2.2.2.2.2.map (· + b)) :: xs.map (shN b)

theorem adjN_len (k b : Int) (l : List GNode) : (adjN k b l).length = l.length := by cases l <;> simp [adjN]

def joK : Int → Int → List (List GNode) → List Int × List GNode
  | _, _, [] => ([], [])
  | k, b, t :: ts => (b :: (joK (k + 1) (b + t.length) ts).1, adjN k b t ++ (joK (k + 1) (b + t.length) ts).2)

/-- Subtrees under a root. -/
def joN (r : GNode) (ts : List (List GNode)) : List GNode := (r.1, -1, 0, r.2.2.2.1, r.2.2.2.2.1, (joK 1 1 ts).1) :: (joK 1 1 ts).2

theorem joK_len (ts : List (List GNode)) : ∀ k b, (joK k b ts).2.length = (ts.map List.length).sum ∧ (joK k b ts).1.length = ts.length := by
  induction ts with
  | nil => intro k b; exact ⟨rfl, rfl⟩
  | cons t ts ih =>
    intro k b
    have := ih (k + 1) (b + t.length)
    simp only [joK, List.length_append, List.length_cons, List.map_cons, List.sum_cons, adjN_len]
    omega

theorem joK_snoc (ts : List (List GNode)) (t : List GNode) : ∀ k b, joK k b (ts ++ [t]) = ((joK k b ts).1 ++ [b + (joK k b ts).2.length], (joK k b ts).2 ++ adjN (k + ts.length) (b + (joK k b ts).2.length) t) := by
  induction ts with
  | nil => intro k b; simp [joK]
  | cons d ts ih =>
    intro k b
    simp only [List.cons_append, joK, ih, List.length_append, List.length_cons, adjN_len]
    have e1 : b + (d.length : Int) + ((joK (k + 1) (b + d.length) ts).2.length : Int) = b + ((d.length + (joK (k + 1) (b + d.length) ts).2.length : Nat) : Int) := by omega
    have e2 : k + 1 + (ts.length : Int) = k + ((ts.length + 1 : Nat) : Int) := by omega
    rw [e1, e2, List.append_assoc]

/-- A cell's tree under a root is its tree in place. -/
theorem adjN_exN (s : GStore) (f a : Nat) (k b : Int) : adjN k b (exN s f a 0 (-1) 0) = exN s f a b 0 k := by
  cases f with
  | zero => rfl
  | succ f =>
    unfold exN
    cases s[a]? with
    | none => rfl
    | some c =>
      simp only [adjN]
      have e := exK_sh (T := fun q b i k => exN s f q.toNat b i k) b (fun q b' i k => exN_sh s b f q.toNat b' i k) 0 c.2.2 1 (0 + 1)
      rw [show (0 : Int) + b = b from by omega, show (0 : Int) + 1 + b = b + 1 from by omega] at e
      rw [e]

theorem joK_exK (s : GStore) (f : Nat) (cs : List Int) : ∀ k b, joK k b (cs.map fun q => exN s f q.toNat 0 (-1) 0) = exK (fun q b i k => exN s f q.toNat b i k) 0 k b cs := by
  induction cs with
  | nil => intro k b; rfl
  | cons c cs ih =>
    intro k b
    simp only [List.map_cons, joK, exK, ih, adjN_exN, exN_len]

theorem exN_join (s : GStore) (f : Nat) {a : Nat} (c : GCell) (h : s[a]? = some c) (x1 x2 x3 : Int) (x4 : List Int) : joN (0, x1, x2, c.2.1, c.1, x4) (c.2.2.map fun q => exN s f q.toNat 0 (-1) 0) = exN s (f + 1) a 0 (-1) 0 := by
  rw [exN_at s f h]
  unfold joN
  rw [joK_exK]
  rfl

/-- Ids from first + j on. -/
def idN (first : Int) : Int → List GNode → List GNode
  | _, [] => []
  | j, x :: xs => (first + j, x.2) :: idN first (j + 1) xs

theorem idN_len (first : Int) (xs : List GNode) : ∀ j, (idN first j xs).length = xs.length := by
  induction xs with
  | nil => intro j; rfl
  | cons x xs ih => intro j; simp [idN, ih]
theorem idN_append (first : Int) (xs ys : List GNode) : ∀ j, idN first j (xs ++ ys) = idN first j xs ++ idN first (j + xs.length) ys := by
  induction xs with
  | nil => intro j; simp [idN]
  | cons x xs ih =>
    intro j
    simp only [List.cons_append, idN, ih, List.length_cons]
    rw [show j + 1 + (xs.length : Int) = j + ((xs.length + 1 : Nat) : Int) from by omega]

/-- A cell of a valid store has children ahead of it. -/
theorem valid_kid {xs : List GCell} (h : ValidStore xs) {a : Nat} (ha : a < xs.length) {k : Nat} (hk : k < xs[a].2.2.length) : ∃ m : Nat, xs[a].2.2[k] = m ∧ m < a := by
  have := (h a ha).2 _ (List.getElem_mem hk)
  exact ⟨xs[a].2.2[k].toNat, by omega, by omega⟩
theorem exL_at (s : GStore) (f : Nat) {a : Nat} (h : a < s.length) : exL s (f + 1) a = 1 + (s[a].2.2.map fun q => exL s f q.toNat).sum := by
  simp only [exL, List.getElem?_eq_getElem h]
theorem exL_pos (s : GStore) (f a : Nat) (h : a < s.length) : 0 < exL s (f + 1) a := by
  rw [exL_at s f h]; omega
theorem adjN_at {k b : Int} {l : List GNode} {i : Nat} (h : i < l.length) (h' : i < (adjN k b l).length) : (adjN k b l)[i] = (l[i].1, if i = 0 then 0 else l[i].2.1 + b, if i = 0 then k else l[i].2.2.1, l[i].2.2.2.1, l[i].2.2.2.2.1, l[i].2.2.2.2.2.map (· + b)) := by
  cases l with
  | nil => simp at h
  | cons x l =>
    cases i with
    | zero => rfl
    | succ i => simp [adjN, shN]

/-- The joined nodes with one subtree more. -/
theorem joN_snoc (r : GNode) (ts : List (List GNode)) (t : List GNode) : joN r (ts ++ [t]) = (joN r ts).set 0 (r.1, -1, 0, r.2.2.2.1, r.2.2.2.2.1, (joK 1 1 ts).1 ++ [((joN r ts).length : Int)]) ++ adjN (1 + ts.length) ((joN r ts).length : Int) t := by
  unfold joN
  rw [joK_snoc]
  simp only [List.length_cons, List.set_cons_zero, List.cons_append]
  rw [show (1 : Int) + ((joK 1 1 ts).2.length : Int) = (((joK 1 1 ts).2.length + 1 : Nat) : Int) from by omega]

/-- Parents and children lie among the nodes. -/
def InN (M : Nat) (i p : Int) (n : Nat) (x : GNode) : Prop := (x.2.1 = p ∨ (i ≤ x.2.1 ∧ x.2.1 ≤ i + n)) ∧ x.2.2.2.2.2.length ≤ M ∧ ∀ c ∈ x.2.2.2.2.2, i ≤ c ∧ c ≤ i + n

theorem InN.mono {M : Nat} {i p j : Int} {n m : Nat} {x : GNode} (h : InN M i p n x) (h1 : j ≤ i) (h2 : i + n ≤ j + m) : InN M j p m x :=
  ⟨h.1.imp id fun h => by omega, h.2.1, fun c hc => by have := h.2.2 c hc; omega⟩

theorem exK_small {T : Int → Int → Int → Int → List GNode} {M : Nat} (i : Int) (H : ∀ c b k, ∀ x ∈ T c b i k, InN M b i (T c b i k).length x) (cs : List Int) :
    ∀ k b, (∀ x ∈ (exK T i k b cs).2, InN M b i (exK T i k b cs).2.length x) ∧ ∀ c ∈ (exK T i k b cs).1, b ≤ c ∧ c ≤ b + (exK T i k b cs).2.length := by
  induction cs with
  | nil => intro k b; simp [exK]
  | cons d cs ih =>
    intro k b
    have h1 := ih (k + 1) (b + (T d b i k).length)
    simp only [exK, List.length_append]
    refine ⟨fun x hx => ?_, fun c hc => ?_⟩
    · rcases List.mem_append.1 hx with hx | hx
      · exact (H d b k x hx).mono (by omega) (by omega)
      · exact (h1.1 x hx).mono (by omega) (by omega)
    · rcases List.mem_cons.1 hc with rfl | hc
      · omega
      · have := h1.2 c hc; omega

theorem exN_small (s : GStore) {M : Nat} (hs : ∀ c ∈ s, c.2.2.length ≤ M) : ∀ f a i p l, ∀ x ∈ exN s f a i p l, InN M i p (exN s f a i p l).length x := by
  intro f
  induction f with
  | zero => intro a i p l x hx; simp [exN] at hx
  | succ f ih =>
    intro a i p l x hx
    cases hc : s[a]? with
    | none => simp only [exN, hc] at hx; simp at hx
    | some c =>
      rw [exN_at s f hc] at hx ⊢
      have hk := exK_small (T := fun q b i k => exN s f q.toNat b i k) (M := M) i (fun q b k => ih q.toNat b i k) c.2.2 1 (i + 1)
      rcases List.mem_cons.1 hx with rfl | hx
      · refine ⟨.inl rfl, ?_, fun d hd => ?_⟩
        · simp only
          rw [(exK_len (L := fun q => exL s f q.toNat) (fun q b i k => exN_len s f q.toNat b i k) i c.2.2 1 (i + 1)).2]
          exact hs c (List.mem_of_getElem? hc)
        · have := hk.2 d hd
          simp only [List.length_cons]
          omega
      · refine ⟨.inr ?_, ?_, fun d hd => ?_⟩
        · have := (hk.1 x hx).1
          simp only [List.length_cons]
          rcases this with h | h <;> omega
        · exact (hk.1 x hx).2.1
        · have := (hk.1 x hx).2.2 d hd
          simp only [List.length_cons]
          omega

/-- The tree of a cell with Ids, where there is one. -/
def ExpOk (s : GStore) (a first : Int) : Prop := ValidStore s ∧ (0 ≤ a ∧ a ≤ (s.length : Int) - 1) ∧ (1 ≤ first ∧ first ≤ 999) ∧ exL s s.length a.toNat ≤ 16
open Classical in
noncomputable def expOf (s : GStore) (a first : Int) : Option (List GNode) := if ExpOk s a first then some (idN first 0 (exN s s.length a.toNat 0 (-1) 0)) else none
theorem expOf_yes {s : GStore} {a first : Int} (h : ExpOk s a first) : expOf s a first = some (idN first 0 (exN s s.length a.toNat 0 (-1) 0)) := if_pos h
theorem expOf_no {s : GStore} {a first : Int} (h : ¬ ExpOk s a first) : expOf s a first = none := if_neg h
theorem cells_small {s : GStore} (h : wtStore s ≤ 1048576) : s.length ≤ 1048576 ∧ ∀ c ∈ s, c.2.2.length ≤ 1048576 := by
  have h0 : wtL wtCell s ≤ 1048576 := h
  refine ⟨Nat.le_trans (wtL_len wtCell s) h0, fun c hc => ?_⟩
  obtain ⟨i, hi, rfl⟩ := List.mem_iff_getElem.1 hc
  have h1 := wtL_at wtCell s hi
  have h2 : s[i].2.2.length ≤ wtCell s[i] := Nat.le_add_left _ _
  omega

theorem idN_step (first : Int) (NS : List GNode) {i : Nat} (h : i < NS.length) : (idN first 0 (NS.take i) ++ NS.drop i).set i (first + i, NS[i].2) = idN first 0 (NS.take (i + 1)) ++ NS.drop (i + 1) ∧ (idN first 0 (NS.take i) ++ NS.drop i)[i]? = some NS[i] := by
  have hl : (idN first 0 (NS.take i)).length = i := by rw [idN_len, List.length_take]; omega
  have e : (0 : Int) + ((NS.take i).length : Int) = i := by rw [List.length_take]; omega
  constructor
  · rw [List.take_succ_eq_append_getElem h, idN_append, e, List.drop_eq_getElem_cons h, List.set_append]
    rw [if_neg (by omega), hl, Nat.sub_self, List.set_cons_zero, List.append_assoc]
    rfl
  · rw [List.getElem?_append_right (by omega), hl, Nat.sub_self, List.drop_eq_getElem_cons h]
    rfl

theorem kids_idN {first : Int} {M : Nat} {xs : List GNode} : ∀ {j : Int} (h : ∀ x ∈ xs, x.2.2.2.2.2.length ≤ M), ∀ x ∈ idN first j xs, x.2.2.2.2.2.length ≤ M := by
  induction xs with
  | nil => intro j h x hx; simp [idN] at hx
  | cons y ys ih =>
    intro j h x hx
    rcases List.mem_cons.1 hx with rfl | hx
    · exact h y (by simp)
    · exact ih (fun z hz => h z (List.mem_cons_of_mem _ hz)) x hx

theorem exK_all {T : Int → Int → Int → Int → List GNode} {P : GNode → Prop} (i : Int) (H : ∀ c b k, ∀ x ∈ T c b i k, P x) (cs : List Int) : ∀ k b, ∀ x ∈ (exK T i k b cs).2, P x := by
  induction cs with
  | nil => intro k b x hx; simp [exK] at hx
  | cons d cs ih =>
    intro k b x hx
    simp only [exK] at hx
    rcases List.mem_append.1 hx with hx | hx
    · exact H d b k x hx
    · exact ih _ _ x hx

theorem exN_wt (s : GStore) {M K : Nat} (hs : ∀ c ∈ s, c.2.2.length ≤ M) (hr : ∀ c ∈ s, c.1.size ≤ K) : ∀ f a i p l, ∀ x ∈ exN s f a i p l, wtNode x ≤ K + M := by
  intro f
  induction f with
  | zero => intro a i p l x hx; simp [exN] at hx
  | succ f ih =>
    intro a i p l x hx
    cases hc : s[a]? with
    | none => simp only [exN, hc] at hx; simp at hx
    | some c =>
      rw [exN_at s f hc] at hx
      rcases List.mem_cons.1 hx with rfl | hx
      · show c.1.size + (exK (fun q b i k => exN s f q.toNat b i k) i 1 (i + 1) c.2.2).1.length ≤ _
        rw [(exK_len (L := fun q => exL s f q.toNat) (fun q b i k => exN_len s f q.toNat b i k) i c.2.2 1 (i + 1)).2]
        have h1 := hs c (List.mem_of_getElem? hc)
        have h2 := hr c (List.mem_of_getElem? hc)
        omega
      · exact exK_all i (fun q b k => ih q.toNat b i k) c.2.2 1 (i + 1) x hx

theorem wt_idN {first : Int} {M : Nat} {xs : List GNode} : ∀ {j : Int} (h : ∀ x ∈ xs, wtNode x ≤ M), ∀ x ∈ idN first j xs, wtNode x ≤ M := by
  induction xs with
  | nil => intro j h x hx; simp [idN] at hx
  | cons y ys ih =>
    intro j h x hx
    rcases List.mem_cons.1 hx with rfl | hx
    · exact h y (by simp)
    · exact ih (fun z hz => h z (List.mem_cons_of_mem _ hz)) x hx

theorem wtS_le {M : Nat} (xs : List GNode) (h : ∀ x ∈ xs, wtNode x ≤ M) : wtL wtNode xs ≤ xs.length * (M + 1) := by
  induction xs with
  | nil => simp [wtL]
  | cons x xs ih =>
    have h1 := ih (fun y hy => h y (List.mem_cons_of_mem _ hy))
    have h2 := h x (by simp)
    simp only [wtL, List.map_cons, List.sum_cons, List.length_cons] at h1 ⊢
    rw [Nat.add_mul]
    omega

end Go.Proofs.Ytadoalpcakninaa
