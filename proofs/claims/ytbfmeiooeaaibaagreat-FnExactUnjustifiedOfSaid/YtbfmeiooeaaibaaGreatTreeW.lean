/- The check of a subtree: the program's and the reference's. No condition. -/
import Derived.Test.YtbfmeiooeaaibaaGreatTreeN
import Derived.IntWalk
namespace Go.Proofs.YtbfmeiooeaaibaaGreat
open Go.RowKit
variable {d : Nat}
set_option linter.unusedVariables false

theorem some_of {α : Type} {o : Option α} {y z : α} (hy : y = o.getD z) (hb : true = o.isSome) : o = some y := by
  cases o with
  | none => cases hb
  | some v => rw [hy]; rfl
theorem none_of {α : Type} {o : Option α} (hb : false = o.isSome) : o = none := by
  cases o with
  | none => rfl
  | some v => cases hb

section
variable {g : GGrammar d} {t : List GNode} {f : Nat} {i parent place : Int} {sym : ByteArray}
theorem walkT_none (h : nth t i = none) : walkT g t (f + 1) i parent place sym = -1 := by rw [walkT]; simp only [h]
theorem walkT_norule {n : GNode} (h : nth t i = some n) (hr : lookR g.2 n.2.2.2.2.1 = none) : walkT g t (f + 1) i parent place sym = -1 := by rw [walkT]; simp only [h, hr]
theorem walkT_bad {n : GNode} {r : GRule d} (h : nth t i = some n) (hr : lookR g.2 n.2.2.2.2.1 = some r) (hc : ¬ (r.2.1 = sym ∧ n.2.1 = parent ∧ n.2.2.1 = place ∧ n.2.2.2.2.2.length = r.2.2.1.length ∧ litOK n.2.2.2.1 r.2.2.2.1 = true)) : walkT g t (f + 1) i parent place sym = -1 := by
  rw [walkT]; simp only [h, hr]; rw [if_neg hc]
theorem walkT_good {n : GNode} {r : GRule d} (h : nth t i = some n) (hr : lookR g.2 n.2.2.2.2.1 = some r) (hc : r.2.1 = sym ∧ n.2.1 = parent ∧ n.2.2.1 = place ∧ n.2.2.2.2.2.length = r.2.2.1.length ∧ litOK n.2.2.2.1 r.2.2.2.1 = true) :
    walkT g t (f + 1) i parent place sym = kidsT (fun at_ k s => walkT g t f at_ i k s) n.2.2.2.2.2 r.2.2.1 1 (i + 1) := by
  rw [walkT]; simp only [h, hr]; rw [if_pos hc]
end

section
variable {wk : Int → Int → ByteArray → Int} {cs : List Int} {ss : List ByteArray} {k : Nat} {a : Int}
theorem kidsT_end (h : cs.length ≤ k) : kidsT wk (cs.drop k) (ss.drop k) (k + 1) a = a := by
  rw [List.drop_eq_nil_of_le h]; cases ss.drop k <;> rfl
theorem kidsT_off (h : k < cs.length) (h' : k < ss.length) (hc : cs[k] ≠ a) : kidsT wk (cs.drop k) (ss.drop k) (k + 1) a = -1 := by
  rw [List.drop_eq_getElem_cons h, List.drop_eq_getElem_cons h', kidsT, if_pos hc]
theorem kidsT_low (h : k < cs.length) (h' : k < ss.length) (hc : cs[k] = a) (hw : wk a (k + 1) ss[k] < 0) : kidsT wk (cs.drop k) (ss.drop k) (k + 1) a = -1 := by
  rw [List.drop_eq_getElem_cons h, List.drop_eq_getElem_cons h', kidsT, if_neg (by omega), if_pos hw]
theorem kidsT_on (h : k < cs.length) (h' : k < ss.length) (hc : cs[k] = a) (hw : ¬ wk a (k + 1) ss[k] < 0) : kidsT wk (cs.drop k) (ss.drop k) (k + 1) a = kidsT wk (cs.drop (k + 1)) (ss.drop (k + 1)) (((k + 1 : Nat) : Int) + 1) (wk a (k + 1) ss[k]) := by
  rw [List.drop_eq_getElem_cons h, List.drop_eq_getElem_cons h', kidsT, if_neg (by omega), if_neg hw]; simp
end

theorem walkT_ge (g : GGrammar d) (t : List GNode) : ∀ (f : Nat) (i parent place : Int) (sym : ByteArray), -1 ≤ walkT g t f i parent place sym := by
  intro f
  induction f with
  | zero => intro i parent place sym; simp [walkT]
  | succ f ih =>
    intro i parent place sym
    rw [walkT]
    cases hn : nth t i with
    | none => simp
    | some n =>
      have hi : 0 ≤ i := by
        unfold nth at hn
        split at hn
        · assumption
        · cases hn
      cases hr : lookR g.2 n.2.2.2.2.1 with
      | none => simp [hr]
      | some r =>
        simp only [hr]
        split
        · exact kidsT_ge (w := fun at_ k s => walkT g t f at_ i k s) (fun a k s => ih a i k s) _ _ _ _ (by omega)
        · omega

theorem litOK_no {v : Int} {l : Bool} (h : (!(decide (-1000000 ≤ v) && decide (v ≤ 1000000))) = true) : litOK v l = false := by
  unfold litOK
  have : ¬ (-1000000 ≤ v ∧ v ≤ 1000000) := by simp at h; omega
  simp [this]

end Go.Proofs.YtbfmeiooeaaibaaGreat