/- Plain functions: symbols and rules by name, nodes, attributes, the check of a tree, its instances, definitions and sources. No condition. -/
import Derived.Test.YtbfmeiooeaaibaaGreatFamGram
import Derived.Test.YtbfmeiooeaaibaaGreatFamTree
import Derived.Test.YtbfmeiooeaaibaaGreatFamEntry
namespace Go.Proofs.YtbfmeiooeaaibaaGreat
open Go.RowKit
variable {d : Nat}

/-- The element at a whole number. -/
def nth {α : Type} (l : List α) (i : Int) : Option α := if 0 ≤ i then l[i.toNat]? else none
theorem nth_nat {α : Type} (l : List α) (k : Nat) : nth l (k : Int) = l[k]? := by unfold nth; rw [if_pos (by omega)]; simp
theorem nth_in {α : Type} {l : List α} {k : Nat} (h : k < l.length) : nth l (k : Int) = some l[k] := by rw [nth_nat]; simp [h]
theorem nth_out {α : Type} {l : List α} {i : Int} (h : i < 0 ∨ (l.length : Int) - 1 < i) : nth l i = none := by
  unfold nth
  split
  · exact List.getElem?_eq_none (by omega)
  · rfl

def lookS (ss : List GSymbol) (n : ByteArray) : Option GSymbol := ss.find? fun s => decide (s.1 = n)
def lookR (rs : List (GRule d)) (n : ByteArray) : Option (GRule d) := rs.find? fun r => decide (r.1 = n)
def lookA (xs : List GAttribute) (n : ByteArray) : Option GAttribute := xs.find? fun a => decide (a.1 = n)
def lookQ (es : List (GEquation d)) (o : GOccurrence) : Option (GEquation d) := es.find? fun e => decide (e.1 = o)
def zeroS : GSymbol := (ByteArray.empty, [])
def zeroR : GRule d := (ByteArray.empty, ByteArray.empty, [], false, [], [])
def zeroA : GAttribute := (ByteArray.empty, 0, 0, false)

/-- The first node with an Id. -/
def nodeIx (t : List GNode) (id : Int) : Int := idxOf (fun n => decide (n.1 = id)) t
/-- The left side of the rule of a node. -/
def leftOf (g : GGrammar d) (n : GNode) : ByteArray := ((lookR g.2 n.2.2.2.2.1).getD zeroR).2.1
/-- The symbol of a node by its index. -/
def symAt (g : GGrammar d) (t : List GNode) (i : Int) : ByteArray := match nth t i with | none => ByteArray.empty | some n => leftOf g n
/-- The attribute of an instance. -/
def attrOf (g : GGrammar d) (t : List GNode) (x : GInstance) : Option GAttribute :=
  if nodeIx t x.1 < 0 then none else lookA ((lookS g.1 (symAt g t (nodeIx t x.1))).getD zeroS).2 x.2

/-- What a literal must be. -/
def litOK (v : Int) (lit : Bool) : Bool := decide (-1000000 ≤ v ∧ v ≤ 1000000) && (lit || decide (v = 0))

/-- The children of a node: each begins where the one before ended. -/
def kidsT (walk : Int → Int → ByteArray → Int) : List Int → List ByteArray → Int → Int → Int
  | c :: cs, s :: ss, k, at_ => if c ≠ at_ then -1 else if walk at_ k s < 0 then -1 else kidsT walk cs ss (k + 1) (walk at_ k s)
  | _, _, _, at_ => at_

/-- The index behind the subtree at an index, -1 where something is wrong. -/
def walkT (g : GGrammar d) (t : List GNode) : Nat → Int → Int → Int → ByteArray → Int
  | 0, _, _, _, _ => -1
  | f + 1, i, parent, place, sym =>
    match nth t i with
    | none => -1
    | some n => match lookR g.2 n.2.2.2.2.1 with
      | none => -1
      | some r => if r.2.1 = sym ∧ n.2.1 = parent ∧ n.2.2.1 = place ∧ n.2.2.2.2.2.length = r.2.2.1.length ∧ litOK n.2.2.2.1 r.2.2.2.1 = true
        then kidsT (fun at_ k s => walkT g t f at_ i k s) n.2.2.2.2.2 r.2.2.1 1 (i + 1) else -1

/-- The Ids of nodes are in their range, no two the same. -/
def idsOK (t : List GNode) : Prop := ∀ i (h : i < t.length), (1 ≤ t[i].1 ∧ t[i].1 ≤ 999) ∧ ∀ j (hj : j < t.length), j < i → t[j].1 ≠ t[i].1
noncomputable def treeOf (g : GGrammar d) (t : List GNode) (sym : ByteArray) : Bool :=
  @decide ((1 ≤ t.length ∧ t.length ≤ 16) ∧ idsOK t ∧ walkT g t (t.length + 1) 0 (-1) 0 sym = t.length) (Classical.propDecidable _)
noncomputable def isTreeB (g : GGrammar d) (t : List GNode) : Bool := treeOf g t (symAt g t 0)

/-- The instances of one node. -/
def instN (g : GGrammar d) (n : GNode) : List GInstance := ((lookS g.1 (leftOf g n)).getD zeroS).2.map fun a => (n.1, a.1)
noncomputable def instsOf (g : GGrammar d) (t : List GNode) : List GInstance := if isTreeB g t = true then t.flatMap (instN g) else []

theorem treeOf_yes {g : GGrammar d} {t : List GNode} {sym : ByteArray} (h1 : 1 ≤ t.length ∧ t.length ≤ 16) (h2 : idsOK t) (h3 : walkT g t (t.length + 1) 0 (-1) 0 sym = t.length) : treeOf g t sym = true := by
  unfold treeOf; exact @decide_eq_true _ (Classical.propDecidable _) ⟨h1, h2, h3⟩
theorem treeOf_no {g : GGrammar d} {t : List GNode} {sym : ByteArray} (h : ¬ ((1 ≤ t.length ∧ t.length ≤ 16) ∧ idsOK t ∧ walkT g t (t.length + 1) 0 (-1) 0 sym = t.length)) : treeOf g t sym = false := by
  unfold treeOf; exact @decide_eq_false _ (Classical.propDecidable _) h
theorem treeOf_iff {g : GGrammar d} {t : List GNode} {sym : ByteArray} : treeOf g t sym = true ↔ (1 ≤ t.length ∧ t.length ≤ 16) ∧ idsOK t ∧ walkT g t (t.length + 1) 0 (-1) 0 sym = t.length := by
  unfold treeOf; exact @decide_eq_true_iff _ (Classical.propDecidable _)

theorem idxOf_lt {α : Type} (p : α → Bool) (xs : List α) : idxOf p xs < xs.length ∨ idxOf p xs = -1 := by
  induction xs with
  | nil => right; rfl
  | cons x xs ih =>
    simp only [idxOf, List.length_cons]
    split
    · left; omega
    · split <;> omega

/-- The walk ends behind where it began, and inside of the tree. -/
theorem kidsT_lt {w : Int → Int → ByteArray → Int} {n : Int} (hw : ∀ a k s, 0 ≤ w a k s → a < w a k s ∧ w a k s ≤ n) : ∀ (cs : List Int) (ss : List ByteArray) (k a : Int), a ≤ n → 0 ≤ kidsT w cs ss k a → a ≤ kidsT w cs ss k a ∧ kidsT w cs ss k a ≤ n := by
  intro cs
  induction cs with
  | nil => intro ss k a ha h; simp only [kidsT]; omega
  | cons c cs ih =>
    intro ss k a ha h
    cases ss with
    | nil => simp only [kidsT]; omega
    | cons s ss =>
      simp only [kidsT] at h ⊢
      by_cases h1 : c ≠ a
      · rw [if_pos h1] at h; omega
      · rw [if_neg h1] at h ⊢
        by_cases h2 : w a k s < 0
        · rw [if_pos h2] at h; omega
        · rw [if_neg h2] at h ⊢
          have := hw a k s (by omega)
          have := ih ss (k + 1) (w a k s) (by omega) h
          omega

theorem walkT_lt (g : GGrammar d) (t : List GNode) : ∀ (f : Nat) (i parent place : Int) (sym : ByteArray), 0 ≤ walkT g t f i parent place sym → i < walkT g t f i parent place sym ∧ walkT g t f i parent place sym ≤ t.length := by
  intro f
  induction f with
  | zero => intro i parent place sym h; simp [walkT] at h
  | succ f ih =>
    intro i parent place sym h
    rw [walkT] at h ⊢
    cases hn : nth t i with
    | none => simp [hn] at h
    | some n =>
      have hi : i + 1 ≤ t.length := by
        unfold nth at hn
        split at hn
        · have := (List.getElem?_eq_some_iff.1 hn).1; omega
        · cases hn
      simp only [hn] at h ⊢
      cases hr : lookR g.2 n.2.2.2.2.1 with
      | none => simp [hr] at h
      | some r =>
        simp only [hr] at h ⊢
        split at h
        · rename_i hc
          rw [if_pos hc]
          have := kidsT_lt (w := fun at_ k s => walkT g t f at_ i k s) (n := t.length) (fun a k s hs => ih a i k s hs) _ _ _ _ hi h
          omega
        · omega

theorem kidsT_ge {w : Int → Int → ByteArray → Int} (hw : ∀ a k s, -1 ≤ w a k s) : ∀ (cs : List Int) (ss : List ByteArray) (k a : Int), -1 ≤ a → -1 ≤ kidsT w cs ss k a := by
  intro cs
  induction cs with
  | nil => intro ss k a ha; simpa only [kidsT] using ha
  | cons c cs ih =>
    intro ss k a ha
    cases ss with
    | nil => simpa only [kidsT] using ha
    | cons s ss =>
      simp only [kidsT]
      split
      · omega
      · split
        · omega
        · exact ih _ _ _ (hw _ _ _)

end Go.Proofs.YtbfmeiooeaaibaaGreat
