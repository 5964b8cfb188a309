/- A region that draws its order, by what is known of each operation's value: each operation is walked once. A row of nodes of one's own whose rows of children are one's own, too: read, appended to, an element's children made more, an Id written. No condition. -/
import Derived.Test.YtmfcagcanhmdbaaE13
import Derived.Test.YtmfcagcanhmdbaaE08
import Derived.Test.YtmfcagcanhmdbaaE15
namespace Go.Proofs.Ytmfcagcanhmdbaa
open Go.RowKit

section
variable {P : Program} {ops : Array Oper} {Q : Exit → Act → World → Prop}

def dstsI (ops : Array Oper) : List Nat := ops.toList.filterMap (·.dst)
def okI (z n : Nat) (ops : Array Oper) : Bool :=
 ((List.range ops.size).all fun i => ((ops[i]?).map fun o => o.guard.isNone && o.after.all (fun e => decide (e.on < i)) && o.dst.all (fun d => decide (d < n))).getD false) && decide ((dstsI ops).Nodup) && decide (z < ops.size)

def FrI (a0 : Act) (ds : List Nat) (a : Act) : Prop := a.defers = a0.defers ∧ a.tmps.size = a0.tmps.size ∧ ∀ k, k ∉ ds → a.eval (.tmp k) = a0.eval (.tmp k)
def layI (ds : List Nat) (t : Nat → Value) (a0 : Act) : Act := ds.foldl (fun b d => b.put (some d) (t d)) a0

theorem layI_get (t : Nat → Value) : ∀ (ds : List Nat) (a0 : Act), (layI ds t a0).defers = a0.defers ∧ (layI ds t a0).tmps.size = a0.tmps.size ∧ ∀ k, k < a0.tmps.size → (layI ds t a0).eval (.tmp k) = if k ∈ ds then t k else a0.eval (.tmp k)
 | [], a0 => ⟨rfl, rfl, fun k _ => by simp [layI]⟩
 | d :: ds, a0 => by
  obtain ⟨h1, h2, h3⟩ := layI_get t ds (a0.put (some d) (t d))
  have e : layI (d :: ds) t a0 = layI ds t (a0.put (some d) (t d)) := rfl
  have hs : (a0.put (some d) (t d)).tmps.size = a0.tmps.size := by simp [Act.put]
  rw [e]
  refine ⟨h1.trans rfl, h2.trans hs, fun k hk => ?_⟩
  rw [h3 k (by rw [hs]; exact hk)]
  by_cases hm : k ∈ ds
  ·rw [if_pos hm, if_pos (List.mem_cons_of_mem _ hm)]
  ·rw [if_neg hm]
   by_cases hd : k = d
   ·subst hd
    rw [if_pos List.mem_cons_self]
    show (a0.tmps.setIfInBounds k (t k)).getD k undef = t k
    simp [Array.getD, hk]
   ·rw [if_neg (by simp [hd, hm])]
    show (a0.tmps.setIfInBounds d (t d)).getD k undef = a0.tmps.getD k undef
    simp only [Array.getD_eq_getD_getElem?, Array.getElem?_setIfInBounds, if_neg (Ne.symm hd)]
theorem FrI.lay {a0 a : Act} {ds : List Nat} (h : FrI a0 ds a) : a = layI ds (fun d => a.eval (.tmp d)) a0 := by
 obtain ⟨g1, g2, g3⟩ := layI_get (fun d => a.eval (.tmp d)) ds a0
 obtain ⟨h1, h2, h3⟩ := h
 have ht : a.tmps = (layI ds (fun d => a.eval (.tmp d)) a0).tmps := by
  apply Array.ext
  ·rw [h2, g2]
  ·intro k hk hk'
   have gen : ∀ (b : Act) (h : k < b.tmps.size), b.eval (.tmp k) = b.tmps[k] := fun b h => by simp [Act.eval, Array.getD, h]
   have e1 := gen a hk
   have e2 := gen _ hk'
   rw [← e1, ← e2, g3 k (by omega)]
   split
   ·rfl
   ·rename_i hm; exact h3 k hm
 have hd : a.defers = (layI ds (fun d => a.eval (.tmp d)) a0).defers := h1.trans g1.symm
 generalize layI ds (fun d => a.eval (.tmp d)) a0 = b at ht hd
 cases a; cases b; simp at ht hd; rw [ht, hd]

theorem eval_put_self {a : Act} {d : Nat} {v : Value} (h : d < a.tmps.size) : (a.put (some d) v).eval (.tmp d) = v := by
 show (a.tmps.setIfInBounds d v).getD d undef = v
 simp [Array.getD, h]
theorem eval_put_ne {a : Act} {d k : Nat} {v : Value} (h : k ≠ d) : (a.put (some d) v).eval (.tmp k) = a.eval (.tmp k) := by
 show (a.tmps.setIfInBounds d v).getD k undef = a.tmps.getD k undef
 simp only [Array.getD_eq_getD_getElem?, Array.getElem?_setIfInBounds, if_neg (Ne.symm h)]

def predsI (ops : Array Oper) (o : Oper) : List Nat := o.after.toList.filterMap fun e => if Region.binds .any e then (ops[e.on]?).bind (·.dst) else none

def StepI (P : Program) (ops : Array Oper) (Q : Exit → Act → World → Prop) (S : Bool → World → Prop) (V : Bool → Nat → Value → World → Prop) (z : Nat) (a0 : Act) (i : Nat) (o : Oper) : Prop :=
 ∀ (f : Bool) (a : Act) (w : World), (i = z ∨ waits .any ops z i = true → f = false) → S f w → (∀ k, (dstsI ops).contains k = false → a.tmps[k]?.getD undef = a0.tmps[k]?.getD undef) →
  (∀ d, (predsI ops o).contains d = true → V f d (a.tmps[d]?.getD undef) w) →
  ∀ K : Act → World → Prop, Shut (∀ v u, S (f || decide (i = z)) u → (∀ d, V f d (a.tmps[d]?.getD undef) w → V (f || decide (i = z)) d (a.tmps[d]?.getD undef) u) → (∀ d, o.dst = some d → V (f || decide (i = z)) d v u) → K (a.put o.dst v) u) → Oper.wp P o a w K Q
theorem eval_tmp (a : Act) (k : Nat) : a.eval (.tmp k) = a.tmps[k]?.getD undef := Array.getD_eq_getD_getElem? ..

def AllI (p : Nat → Oper → Prop) : Nat → List Oper → Prop
 | _, [] => True
 | k, o :: os => p k o ∧ AllI p (k + 1) os
theorem AllI.at {p : Nat → Oper → Prop} : ∀ {k : Nat} {os : List Oper}, AllI p k os → ∀ {i : Nat} {o : Oper}, os[i]? = some o → p (k + i) o
 | _, [], _, _, _, h => by simp at h
 | _, _ :: _, h, 0, _, e => by simp at e; subst e; exact h.1
 | k, _ :: _, h, i + 1, _, e => by
  have := AllI.at h.2 (i := i) (by simpa using e)
  rwa [Nat.add_assoc, Nat.add_comm 1 i] at this

structure InvI (P : Program) (ops : Array Oper) (S : Bool → World → Prop) (V : Bool → Nat → Value → World → Prop) (z : Nat) (a0 : Act) (l : Array Bool) (a : Act) (w : World) : Prop where
 size : l.size = ops.size
 fr : FrI a0 (dstsI ops) a
 s : S (l.getD z false) w
 v : ∀ j o d, ops[j]? = some o → l.getD j false = true → o.dst = some d → V (l.getD z false) d (a.eval (.tmp d)) w
 z : l.getD z false = true → ∀ o, ops[z]? = some o → ∀ e ∈ o.after, Region.binds .any e = true → l.getD e.on false = true

theorem okI_at {z n : Nat} (h : okI z n ops = true) {i : Nat} {o : Oper} (ho : ops[i]? = some o) : o.guard = none ∧ (∀ e ∈ o.after, e.on < i) ∧ ∀ d, o.dst = some d → d < n := by
 unfold okI at h
 simp only [Bool.and_eq_true, List.all_eq_true, List.mem_range] at h
 have hi : i < ops.size := (Array.getElem?_eq_some_iff.1 ho).1
 have h1 := h.1.1 i hi
 rw [ho] at h1
 simp only [Option.map_some, Option.getD_some, Bool.and_eq_true, Array.all_eq_true_iff_forall_mem, decide_eq_true_eq, Option.isNone_iff_eq_none] at h1
 refine ⟨h1.1.1, h1.1.2, fun d hd => ?_⟩
 have := h1.2
 rw [hd] at this
 simpa using this
theorem okI_inj {z n : Nat} (h : okI z n ops = true) {i j : Nat} {o p : Oper} {d : Nat} (ho : ops[i]? = some o) (hp : ops[j]? = some p) (hd : o.dst = some d) (hd' : p.dst = some d) : i = j := by
 unfold okI at h
 simp only [Bool.and_eq_true, decide_eq_true_eq] at h
 have hn := h.1.2
 unfold dstsI at hn
 rw [← Array.getElem?_toList] at ho hp
 generalize ops.toList = xs at hn ho hp
 clear h
 induction xs generalizing i j with
 | nil => simp at ho
 | cons x xs ih =>
  have mem : ∀ {k : Nat} {q : Oper}, xs[k]? = some q → q.dst = some d → d ∈ xs.filterMap (·.dst) := fun hq hd => List.mem_filterMap.2 ⟨_, List.mem_of_getElem? hq, hd⟩
  cases i with
  | zero =>
   cases j with
   | zero => rfl
   | succ j =>
    simp at ho hp
    subst ho
    rw [List.filterMap_cons, hd] at hn
    exact absurd (mem hp hd') (List.nodup_cons.1 hn).1
  | succ i =>
   cases j with
   | zero =>
    simp at ho hp
    subst hp
    rw [List.filterMap_cons, hd'] at hn
    exact absurd (mem ho hd) (List.nodup_cons.1 hn).1
   | succ j =>
    simp at ho hp
    have : (xs.filterMap (·.dst)).Nodup := by
     rw [List.filterMap_cons] at hn
     split at hn
     ·exact hn
     ·exact (List.nodup_cons.1 hn).2
    rw [ih this ho hp]

theorem mem_dstsI {i : Nat} {o : Oper} {d : Nat} (ho : ops[i]? = some o) (hd : o.dst = some d) : d ∈ dstsI ops := by
 unfold dstsI
 exact List.mem_filterMap.2 ⟨o, by rw [← Array.getElem?_toList] at ho; exact List.mem_of_getElem? ho, hd⟩

theorem getD_setTrue {l : Array Bool} {i j : Nat} (hi : i < l.size) : (l.setIfInBounds i true).getD j false = if j = i then true else l.getD j false := by
 by_cases h : j = i
 ·subst h; simp [Array.getD, hi]
 ·rw [if_neg h, getD_set_ne false (Ne.symm h)]

theorem invI_any {S : Bool → World → Prop} {V : Bool → Nat → Value → World → Prop} {z : Nat} {a0 : Act} (hok : okI z a0.tmps.size ops = true) (step : AllI (StepI P ops Q S V z a0) 0 ops.toList)
  (hend : ∀ (t : Nat → Value) (w : World), S true w → (∀ d, (dstsI ops).contains d = true → V true d (t d) w) → Q .normal (layI (dstsI ops) t a0) w) :
  ∀ (n : Nat) (l : Array Bool) (a : Act) (w : World), InvI P ops S V z a0 l a w → l.toList.count false ≤ n → wpAny P .any ops Q n l a w := by
 have hzs : z < ops.size := by unfold okI at hok; simp only [Bool.and_eq_true, decide_eq_true_eq] at hok; exact hok.2
 have fin : ∀ (l : Array Bool) (a : Act) (w : World), InvI P ops S V z a0 l a w → Region.ready .any ops l = [] → Q .normal a w := by
  intro l a w hI hr
  have all : ∀ k, k < ops.size → l.getD k false = true := by
   intro k
   induction k using Nat.strongRecOn with
   | ind k ih =>
    intro hk
    rcases hlk : l.getD k false with _ | _
    ·have ho : ops[k]? = some ops[k] := Array.getElem?_eq_getElem hk
     have hm : k ∈ Region.ready .any ops l := mem_ready.2 ⟨by
      have hks : k < l.size := by rw [hI.size]; exact hk
      simpa [Array.getD, hks] using hlk, _, ho, fun e he _ => ih e.on ((okI_at hok ho).2.1 e he) (by have := (okI_at hok ho).2.1 e he; omega)⟩
     rw [hr] at hm; cases hm
    ·rfl
  have hz := all z hzs
  rw [hI.fr.lay]
  refine hend _ w (hz ▸ hI.s) fun d hd => ?_
  have hd : d ∈ dstsI ops := by simpa using hd
  obtain ⟨o, ho, hod⟩ := List.mem_filterMap.1 hd
  obtain ⟨j, hj⟩ := List.mem_iff_getElem?.1 ho
  rw [Array.getElem?_toList] at hj
  have := hI.v j o d hj (all j (Array.getElem?_eq_some_iff.1 hj).1) hod
  rwa [hz] at this
 intro n
 induction n with
 | zero =>
  intro l a w hI hc
  have hr : Region.ready .any ops l = [] := by
   rw [List.eq_nil_iff_forall_not_mem]
   intro i hi
   obtain ⟨h0, o, ho, -⟩ := mem_ready.1 hi
   have hil : i < l.size := by rw [hI.size]; exact (Array.getElem?_eq_some_iff.1 ho).1
   have : false ∈ l.toList := by
    simp [Array.getD, hil] at h0
    rw [← h0]
    exact Array.getElem_mem_toList hil
   have := List.count_pos_iff.2 this
   omega
  exact ⟨hr, fin l a w hI hr⟩
 | succ n ih =>
  intro l a w hI hc
  refine ⟨fin l a w hI, fun i hi => ?_⟩
  obtain ⟨h0, o, ho, hall⟩ := mem_ready.1 hi
  have his : i < ops.size := (Array.getElem?_eq_some_iff.1 ho).1
  have hil : i < l.size := by rw [hI.size]; exact his
  have hli : l.getD i false = false := by simpa [Array.getD, hil] using h0
  refine wpOp_step ho fun K' hK => ?_
  rw [if_pos (by simp [Region.wanted, (okI_at hok ho).1])]
  have step' : StepI P ops Q S V z a0 i o := by have := step.at (i := i) (o := o) (by rw [Array.getElem?_toList]; exact ho); rwa [Nat.zero_add] at this
  refine step' (l.getD z false) a w (fun hor => ?_) hI.s (fun k hk => by rw [← eval_tmp, ← eval_tmp]; exact hI.fr.2.2 k (by simpa using hk)) (fun d hd => ?_) K' (fun v u hS hst hV => hK _ _ (ih _ _ _ ⟨?_, ?_, ?_, ?_, ?_⟩ ?_))
  ·rcases hz : l.getD z false with _ | _
   ·rfl
   ·exfalso
    rcases hor with e | hw
    ·rw [← e, hli] at hz; cases hz
    ·obtain ⟨q, hq⟩ : ∃ q, ops[z]? = some q := ⟨_, Array.getElem?_eq_getElem hzs⟩
     unfold waits at hw
     rw [hq] at hw
     simp only [Option.map_some, Option.getD_some] at hw
     obtain ⟨x, hx, h2⟩ := Array.any_eq_true'.1 hw
     simp only [Bool.and_eq_true, beq_iff_eq] at h2
     have := hI.z hz q hq x hx h2.1
     rw [h2.2, hli] at this
     cases this
  ·rw [← eval_tmp]
   have hd : d ∈ predsI ops o := by simpa using hd
   obtain ⟨e, he, hed⟩ := List.mem_filterMap.1 hd
   have he : e ∈ o.after := by simpa using he
   split at hed
   ·rename_i hb
    cases hp : ops[e.on]? with
    | none => rw [hp] at hed; cases hed
    | some p =>
     rw [hp] at hed
     exact hI.v e.on p d hp (hall e he hb) hed
   ·cases hed
  ·simp [hI.size]
  ·refine ⟨?_, ?_, fun k hk => ?_⟩
   ·cases o.dst <;> exact hI.fr.1
   ·cases o.dst
    ·exact hI.fr.2.1
    ·exact (show (Array.setIfInBounds _ _ _).size = _ by simp).trans hI.fr.2.1
   ·cases hd : o.dst with
    | none => exact hI.fr.2.2 k hk
    | some d => rw [eval_put_ne (fun e => hk (by rw [e]; exact mem_dstsI ho hd))]; exact hI.fr.2.2 k hk
  ·rw [getD_setTrue hil]
   by_cases e : i = z
   ·subst e; simpa using hS
   ·rw [if_neg (Ne.symm e)]
    simpa [e] using hS
  ·intro j p d hj hdj hd
   have hfz : (l.setIfInBounds i true).getD z false = (l.getD z false || decide (i = z)) := by
    rw [getD_setTrue hil]
    by_cases e : i = z
    ·subst e; simp
    ·rw [if_neg (Ne.symm e)]; simp [e]
   rw [hfz]
   rw [getD_setTrue hil] at hdj
   by_cases e : j = i
   ·subst e
    rw [ho] at hj
    cases hj
    rw [hd, eval_put_self (by rw [hI.fr.2.1]; exact (okI_at hok ho).2.2 d hd)]
    exact hV d hd
   ·rw [if_neg e] at hdj
    have hvj := hst d (by rw [← eval_tmp]; exact hI.v j p d hj hdj hd)
    rw [← eval_tmp] at hvj
    cases hod : o.dst with
    | none => exact hvj
    | some d' =>
     rw [eval_put_ne (fun h => e (okI_inj hok hj ho hd (by rw [hod, h])))]
     exact hvj
  ·intro hz q hq e he hb
   rw [getD_setTrue hil]
   split
   ·rfl
   ·rename_i hne
    rw [getD_setTrue hil] at hz
    by_cases hzi : z = i
    ·subst hzi
     rw [ho] at hq
     cases hq
     exact hall e he hb
    ·rw [if_neg hzi] at hz
     exact hI.z hz q hq e he hb
  ·have hgl : l.toList[i]'(by simpa using hil) = false := by simpa [Array.getD, hil] using h0
   rw [Array.toList_setIfInBounds, List.count_set (by simpa using hil)]
   have hpos : 0 < l.toList.count false := List.count_pos_iff.2 (by rw [← hgl]; exact List.getElem_mem _)
   rw [hgl]
   have e1 : (if (true == false) = true then 1 else 0) = 0 := rfl
   simp only [beq_self_eq_true, if_true, e1]
   omega

theorem wp_region_I {id : Nat} {a0 : Act} {w0 : World} (S : Bool → World → Prop) (V : Bool → Nat → Value → World → Prop) (z : Nat) (ds : List Nat) (hds : dstsI ops = ds) (hm : P.follows .mixedOrders = true) (hok : okI z a0.tmps.size ops = true) (hS : S false w0.drew)
  (step : AllI (StepI P ops Q S V z a0) 0 ops.toList)
  (hend : ∀ (t : Nat → Value) (w : World), S true w → (∀ d, ds.contains d = true → V true d (t d) w) → Q .normal (layI ds t a0) w) : (Code.region id ops true).wp P Q a0 w0 := by
 subst hds
 refine wp_region_any hm (invI_any hok step hend _ _ _ _ ⟨by simp, ⟨rfl, rfl, fun _ _ => rfl⟩, ?_, fun j o d hj h => ?_, fun h => ?_⟩ ?_)
 ·have : (Array.replicate ops.size false).getD z false = false := by simp [Array.getD]
  rw [this]; exact hS
 ·simp [Array.getD] at h
 ·simp [Array.getD] at h
 ·simp
end
end Go.Proofs.Ytmfcagcanhmdbaa

namespace Go.Proofs.Ytmfcagcanhmdbaa
open Go.RowKit
set_option linter.unusedVariables false

theorem wf_of {y : Int} (h0 : -1048576 ≤ y) (h1 : y ≤ 140737488351232) : (Lit.int .i64 y).wf = true := by
 simp only [Lit.wf, Bool.and_eq_true, decide_eq_true_eq]
 have e1 : IntKind.i64.min = -9223372036854775808 := by decide
 have e2 : IntKind.i64.max = 9223372036854775807 := by decide
 omega

abbrev NodeO (base : Nat) := Int × Int × Int × Int × ByteArray × ORow base 3
def outN {base : Nat} (x : NodeO base) : GNode := (x.1, x.2.1, x.2.2.1, x.2.2.2.1, x.2.2.2.2.1, x.2.2.2.2.2.out)

theorem rdNodeO_inv {base : Nat} {fp : List Nat} {w : World} {cs : List Value} (q0 q1 q2 q3 : Int) (q4 : ByteArray) (q5 : ORow base 3) (h : Rd.rd (α := NodeO base) fp w cs (q0, q1, q2, q3, q4, q5)) :
  ∃ v, cs = [.int .i64 q0, .int .i64 q1, .int .i64 q2, .int .i64 q3, .string q4, v] ∧ fp = v.ownBlock.toList ∧ (Lit.int .i64 q0).wf = true ∧ (Lit.int .i64 q1).wf = true ∧ (Lit.int .i64 q2).wf = true ∧ (Lit.int .i64 q3).wf = true ∧ q4.size ≤ maxLen ∧ Rd.rd v.ownBlock.toList w [v] q5 := by
 obtain ⟨_, _, _, _, rfl, rfl, ⟨rfl, rfl, hq0⟩, ⟨_, _, _, _, rfl, rfl, ⟨rfl, rfl, hq1⟩, ⟨_, _, _, _, rfl, rfl, ⟨rfl, rfl, hq2⟩, ⟨_, _, _, _, rfl, rfl, ⟨rfl, rfl, hq3⟩, ⟨_, _, _, _, rfl, rfl, ⟨rfl, rfl, hq4⟩, ⟨v, rfl, h1, h2, rfl⟩⟩⟩⟩⟩⟩ := h
 exact ⟨v, rfl, by simp, hq0, hq1, hq2, hq3, hq4, v, rfl, h1, h2, rfl⟩

theorem rdNodeO_mk {base : Nat} {w : World} (q0 q1 q2 q3 : Int) (q4 : ByteArray) {q5 : ORow base 3} {v : Value} (hq0 : (Lit.int .i64 q0).wf = true) (hq1 : (Lit.int .i64 q1).wf = true) (hq2 : (Lit.int .i64 q2).wf = true) (hq3 : (Lit.int .i64 q3).wf = true) (hq4 : q4.size ≤ maxLen) (h : Rd.rd v.ownBlock.toList w [v] q5) :
  Rd.rd (α := NodeO base) v.ownBlock.toList w [.int .i64 q0, .int .i64 q1, .int .i64 q2, .int .i64 q3, .string q4, v] (q0, q1, q2, q3, q4, q5) := by
 have : v.ownBlock.toList = [] ++ ([] ++ ([] ++ ([] ++ ([] ++ v.ownBlock.toList)))) := by simp
 rw [this]
 exact ⟨_, _, _, _, rfl, rfl, ⟨rfl, rfl, hq0⟩, ⟨_, _, _, _, rfl, rfl, ⟨rfl, rfl, hq1⟩, ⟨_, _, _, _, rfl, rfl, ⟨rfl, rfl, hq2⟩, ⟨_, _, _, _, rfl, rfl, ⟨rfl, rfl, hq3⟩, ⟨_, _, _, _, rfl, rfl, ⟨rfl, rfl, hq4⟩, by simpa using h⟩⟩⟩⟩⟩

def OwnT (w0 w : World) (v : Value) (F : List Nat) (ns : List GNode) : Prop :=
 ∃ (fps : List (List Nat)) (xs : List (NodeO w0.heap.size)), OwnR w0 86 w v fps xs ∧ xs.map outN = ns ∧ fps.flatten.Nodup ∧ (∀ b ∈ fps.flatten, w0.heap.size ≤ b) ∧ F = v.ownBlock.toList ++ fps.flatten

theorem OwnT.nil (w0 w : World) : OwnT w0 w (.slice none 0 0) [] [] := ⟨[], [], OwnR.nil _ _ _, rfl, by simp, by simp, rfl⟩
theorem OwnT.lt {w0 w : World} {v : Value} {F : List Nat} {ns : List GNode} (h : OwnT w0 w v F ns) : ∀ b ∈ F, b < w.heap.size := by
 obtain ⟨fps, xs, h1, h2, h3, h4, rfl⟩ := h
 intro b hb
 rcases List.mem_append.1 hb with hb | hb
 ·exact (h1.base b (by simpa using hb)).2
 ·exact h1.lt b hb
theorem OwnT.ge {w0 w : World} {v : Value} {F : List Nat} {ns : List GNode} (h : OwnT w0 w v F ns) : ∀ b ∈ F, w0.heap.size ≤ b := by
 obtain ⟨fps, xs, h1, h2, h3, h4, rfl⟩ := h
 intro b hb
 rcases List.mem_append.1 hb with hb | hb
 ·exact (h1.base b (by simpa using hb)).1
 ·exact h4 b hb
theorem OwnT.own {w0 w : World} {v : Value} {F : List Nat} {ns : List GNode} (h : OwnT w0 w v F ns) : ∀ b ∈ v.ownBlock.toList, b ∈ F := by
 obtain ⟨fps, xs, h1, h2, h3, h4, rfl⟩ := h
 intro b hb
 exact List.mem_append_left _ hb
theorem OwnT.form {w0 w : World} {v : Value} {F : List Nat} {ns : List GNode} (h : OwnT w0 w v F ns) : ∃ a c, v = .slice a ns.length c := by
 obtain ⟨fps, xs, h1, rfl, -⟩ := h
 rw [List.length_map]
 exact h1.form
theorem OwnT.wr {w0 w w' : World} {v : Value} {F fq : List Nat} {ns : List GNode} (h : OwnT w0 w v F ns) (hw : Wr fq w w') (hd : ∀ b ∈ F, b ∉ fq) : OwnT w0 w' v F ns := by
 obtain ⟨fps, xs, h1, h2, h3, h4, rfl⟩ := h
 exact ⟨fps, xs, h1.wr hw (fun b hb => hd b (List.mem_append_right _ hb)) (fun b hb => hd b (List.mem_append_left _ (by simpa using hb))), h2, h3, h4, rfl⟩
theorem OwnT.gr {w0 w w' : World} {v : Value} {F : List Nat} {ns : List GNode} (h : OwnT w0 w v F ns) (hg : Gr w w') : OwnT w0 w' v F ns := h.wr (hg.toWr []) (by simp)

theorem OwnT.of_append {w0 w' : World} {v' : Value} {fps : List (List Nat)} {xs : List (NodeO w0.heap.size)} {c : Value} {y : NodeO w0.heap.size} {ns : List GNode} (h : OwnR w0 86 w' v' (fps ++ [c.ownBlock.toList]) (xs ++ [y])) (h2 : xs.map outN = ns) (h3 : fps.flatten.Nodup) (h4 : ∀ b ∈ fps.flatten, w0.heap.size ≤ b)
  (hc : ∀ b ∈ c.ownBlock.toList, w0.heap.size ≤ b ∧ b ∉ fps.flatten) : OwnT w0 w' v' (v'.ownBlock.toList ++ (fps.flatten ++ c.ownBlock.toList)) (ns ++ [outN y]) := by
 refine ⟨_, _, h, by simp [h2], ?_, ?_, by simp⟩
 ·rw [List.flatten_append]
  refine List.nodup_append.2 ⟨h3, by cases c.ownBlock <;> simp, fun a ha b hb e => ?_⟩
  subst e
  exact (hc a (by simpa using hb)).2 ha
 ·intro b hb
  rw [List.flatten_append, List.mem_append] at hb
  rcases hb with hb | hb
  ·exact h4 b hb
  ·exact (hc b (by simpa using hb)).1

theorem set_out {base : Nat} {xs : List (NodeO base)} {ns : List GNode} (h : xs.map outN = ns) {i : Nat} (y : NodeO base) : (xs.set i y).map outN = ns.set i (outN y) := by
 rw [← h, List.map_set]

theorem OwnT.at {w0 w : World} {v : Value} {F : List Nat} {ns : List GNode} (h : OwnT w0 w v F ns) {i : Nat} (hi : i < ns.length) :
  ∃ g cap vj fpj, v = .slice (some ⟨g, 0, none⟩) ns.length cap ∧ g < w.heap.size ∧ w0.heap.size ≤ g ∧ g ∈ F ∧ (∀ j u, [Value.int .i64 ns[i].1, .int .i64 ns[i].2.1, .int .i64 ns[i].2.2.1, .int .i64 ns[i].2.2.2.1, .string ns[i].2.2.2.2.1, vj][j]? = some u → w.cell? ⟨g, i * 6 + j, none⟩ = some u) ∧ (∀ o, w.frozen? ⟨g, o, none⟩ = false) ∧
   OwnR (α := Int) w0 3 w vj fpj ns[i].2.2.2.2.2 ∧ fpj.flatten = [] ∧ g ∉ vj.ownBlock.toList ∧ (∀ b ∈ vj.ownBlock.toList, b ∈ F) ∧
   (∀ w9 v9 ys, Wr vj.ownBlock.toList w w9 → OwnR (α := Int) w0 3 w9 v9 (fpj ++ [[]]) ys → (v9.ownBlock = vj.ownBlock ∨ ∃ n, v9.ownBlock = some n ∧ w.heap.size ≤ n) →
    ∃ F', OwnT w0 (w9.setCell ⟨g, i * 6 + 5, none⟩ v9) v F' (ns.set i (ns[i].1, ns[i].2.1, ns[i].2.2.1, ns[i].2.2.2.1, ns[i].2.2.2.2.1, ys)) ∧ ∀ b ∈ F', b ∈ F ∨ w.heap.size ≤ b) ∧
   (∀ y, (Lit.int .i64 y).wf = true → OwnT w0 (w.setCell ⟨g, i * 6, none⟩ (.int .i64 y)) v F (ns.set i (y, ns[i].2))) := by
 obtain ⟨fps, xs, hO, rfl, hnd, hge, rfl⟩ := h
 have hix : i < xs.length := by simpa using hi
 have hbase := hO.base
 have hap := hO.apart
 have hltf := hO.lt
 obtain ⟨g, cap, cs, fq, rfl, h1, h2, h3, h4, h5, h6, h7, h8⟩ := hO.upd hix
 obtain ⟨hjf, hjq⟩ := List.getElem?_eq_some_iff.1 h4
 have hel : (xs.map outN)[i] = outN xs[i] := by simp
 obtain ⟨X, hX⟩ : ∃ X, X = xs[i] := ⟨_, rfl⟩
 rw [← hX] at hel h6
 obtain ⟨q0, q1, q2, q3, q4, q5⟩ := X
 obtain ⟨vj, rfl, hfq, w0', w1', w2', w3', w4', h6'⟩ := rdNodeO_inv q0 q1 q2 q3 q4 q5 h6
 obtain ⟨vj2, fpj, e1, -, hOj, hfl⟩ := ORow.toOwn h6'
 obtain rfl : vj = vj2 := by simpa using e1
 have hsub : ∀ c ∈ fq, c ∈ fps.flatten := fun c hc => List.mem_flatten.2 ⟨_, List.getElem_mem hjf, by rw [hjq]; exact hc⟩
 have hgq : g ∉ fq := fun hm => hap g rfl (hsub g hm)
 have hn : Rd.n (NodeO w0.heap.size) = 6 := rfl
 have hpw : ∀ k (hk : k < fps.length), k ≠ i → ∀ c ∈ fps[k], c ∉ fq := fun k hk hkj c hc hcq => by
  have hp := List.pairwise_iff_getElem.1 (List.pairwise_flatten.1 hnd).2
  rw [← hjq] at hcq
  rcases Nat.lt_or_gt_of_ne hkj with hlt | hgt
  ·exact hp k i hk hjf hlt c hc c hcq rfl
  ·exact hp i k hjf hk hgt c hcq c hc rfl
 rw [hn] at h5
 refine ⟨g, cap, vj, fpj, by rw [List.length_map], h2, h1, by simp [Value.ownBlock], ?_, h7, ?_, hfl, by rw [← hfq]; exact hgq, fun b hb => List.mem_append_right _ (hsub b (by rw [hfq]; exact hb)), fun w9 v9 ys hw hO9 hv9 => ?_, fun y hy => ?_⟩
 ·rw [hel]; exact h5
 ·rw [hel]; exact hOj
 ·rw [← hfq] at hw
  have hown9 : ∀ c ∈ v9.ownBlock.toList, c ∈ fq ∨ w.heap.size ≤ c := by
   intro c hc
   rcases hv9 with e9 | ⟨n, e9, hn⟩
   ·rw [e9, ← hfq] at hc; exact .inl hc
   ·rw [e9] at hc
    simp at hc
    subst hc
    exact .inr hn
  have hgv : g ∉ v9.ownBlock.toList := fun hm => by
   rcases hown9 g hm with h | h
   ·exact hgq h
   ·omega
  have hr5 : Rd.rd v9.ownBlock.toList (w9.setCell ⟨g, i * 6 + 5, none⟩ v9) [v9] (ORow.mk w0.heap.size 3 ys) := Rd.wr hO9.toORow ((Wr.refl [g] _).setCell (by simp) v9) (fun c hc hm => by simp at hm; subst hm; exact hgv hc)
  have hr := rdNodeO_mk q0 q1 q2 q3 q4 w0' w1' w2' w3' w4' hr5
  have h9 := h8 w9 5 v9 v9.ownBlock.toList (q0, q1, q2, q3, q4, ORow.mk w0.heap.size 3 ys) hw hgq hpw (by rw [hn]; omega) hgv (by rw [hn]; exact hr)
  rw [hn] at h9
  refine ⟨_, ⟨_, _, h9, ?_, nodup_set hnd hjf (by cases v9.ownBlock <;> simp) fun c hc => ?_, fun b hb => ?_, rfl⟩, fun b hb => ?_⟩
  ·rw [set_out rfl, hel]; rfl
  ·rcases hown9 c hc with h | h
   ·rw [← hjq] at h; exact .inl h
   ·exact .inr fun hm => by have := hltf c hm; omega
  ·rcases mem_set_flatten hb with hb | hb
   ·exact hge b hb
   ·exact (hO9.base b (by simpa using hb)).1
  ·rcases List.mem_append.1 hb with hb | hb
   ·exact .inl (List.mem_append_left _ hb)
   ·rcases mem_set_flatten hb with hb | hb
    ·exact .inl (List.mem_append_right _ hb)
    ·rcases hown9 b hb with h | h
     ·exact .inl (List.mem_append_right _ (hsub b h))
     ·exact .inr h
 ·have hr5 : Rd.rd vj.ownBlock.toList (w.setCell ⟨g, i * 6 + 0, none⟩ (.int .i64 y)) [vj] q5 := Rd.wr h6' ((Wr.refl [g] _).setCell (by simp) _) (fun c hc hm => by simp at hm; subst hm; rw [← hfq] at hc; exact hgq hc)
  have hr := rdNodeO_mk y q1 q2 q3 q4 hy w1' w2' w3' w4' hr5
  have h9 := h8 w 0 (.int .i64 y) fq (y, q1, q2, q3, q4, q5) (Wr.refl _ _) hgq hpw (by rw [hn]; omega) hgq (by rw [hn, hfq]; exact hr)
  rw [hn, Nat.add_zero] at h9
  have hset : fps.set i fq = fps := by rw [← hjq]; exact List.set_getElem_self hjf
  rw [hset] at h9
  refine ⟨_, _, h9, ?_, hnd, hge, rfl⟩
  rw [set_out rfl, hel]
  rfl

theorem ORow.lower {b0 b1 : Nat} (h : b0 ≤ b1) {fp : List Nat} {w : World} {cs : List Value} {x : List Int} (hx : Rd.rd fp w cs (ORow.mk b1 3 x)) : Rd.rd fp w cs (ORow.mk b0 3 x) := by
 obtain ⟨v, rfl, ho, h2, rfl⟩ := hx
 refine ⟨v, rfl, ⟨ho.1, ?_⟩, h2, rfl⟩
 rcases ho.2 with h0 | ⟨g, cap, cur, hv, hb, hr⟩
 ·exact .inl h0
 ·exact .inr ⟨g, cap, cur, hv, Nat.le_trans h hb, hr⟩

def lowN {b1 : Nat} (b0 : Nat) (x : NodeO b1) : NodeO b0 := (x.1, x.2.1, x.2.2.1, x.2.2.2.1, x.2.2.2.2.1, ORow.mk b0 3 x.2.2.2.2.2.out)
theorem OwnT.lower {w0 w1 w : World} {v : Value} {F : List Nat} {ns : List GNode} (h : OwnT w1 w v F ns) (hs : w0.heap.size ≤ w1.heap.size) : OwnT w0 w v F ns := by
 obtain ⟨fps, xs, hO, rfl, hnd, hge, rfl⟩ := h
 refine ⟨fps, xs.map (lowN w0.heap.size), ?_, by rw [List.map_map]; rfl, hnd, fun b hb => Nat.le_trans hs (hge b hb), rfl⟩
 obtain ⟨⟨css, ho, hE⟩, ha⟩ := hO.base_eq hs
 refine ⟨⟨css, by rw [List.length_map]; exact ho, ⟨by simp [hE.cl], by simp [hE.fl], fun i h0 h1 h2 => ?_⟩⟩, ha⟩
 have h0' : i < xs.length := by simpa using h0
 have := hE.rd i h0' h1 h2
 rw [List.getElem_map]
 obtain ⟨X, hX⟩ : ∃ X, X = xs[i] := ⟨_, rfl⟩
 rw [← hX] at this ⊢
 obtain ⟨q0, q1, q2, q3, q4, q5⟩ := X
 obtain ⟨vj, e, hfq, w0', w1', w2', w3', w4', h6'⟩ := rdNodeO_inv q0 q1 q2 q3 q4 q5 this
 rw [e, hfq]
 exact rdNodeO_mk q0 q1 q2 q3 q4 w0' w1' w2' w3' w4' (ORow.lower hs h6')

theorem OwnT.read {w0 w : World} {v : Value} {F : List Nat} {ns : List GNode} (h : OwnT w0 w v F ns) (hl : ns.length ≤ reachLen) (hl2 : ∀ x ∈ ns, x.2.2.2.2.2.length ≤ reachLen) :
  ∃ fq, SlR fq w v ns ∧ Fresh w0 fq ∧ ∀ b ∈ fq, b ∈ F := by
 obtain ⟨fps, xs, hO, rfl, hnd, hge, rfl⟩ := h
 have hfl := hO.fl
 have hbase := hO.base
 obtain ⟨⟨css, ho, hE⟩, ha⟩ := hO
 have each : ∀ i, ∃ fq : List Nat, ∀ (h : i < xs.length) (h1 : i < css.length) (h2 : i < fps.length), Rd.rd (α := GNode) fq w css[i] (outN xs[i]) ∧ fq.Sublist fps[i] := by
  intro i
  by_cases hi : i < xs.length
  ·have h1 : i < css.length := by rw [hE.cl]; exact hi
   have h2 : i < fps.length := by rw [hfl]; exact hi
   have h3 := hE.rd i hi h1 h2
   have h4 : (outN xs[i]).2.2.2.2.2.length ≤ reachLen := hl2 _ (List.mem_map.2 ⟨_, List.getElem_mem hi, rfl⟩)
   obtain ⟨X, hX⟩ : ∃ X, X = xs[i] := ⟨_, rfl⟩
   rw [← hX] at h3 h4
   obtain ⟨q0, q1, q2, q3, q4, q5⟩ := X
   obtain ⟨vj, e, hfq, w0', w1', w2', w3', w4', h6'⟩ := rdNodeO_inv q0 q1 q2 q3 q4 q5 h3
   obtain ⟨fq, ⟨v5, e5, hr⟩, hs⟩ := ORow.read h6' h4
   obtain rfl : vj = v5 := by simpa using e5
   refine ⟨[] ++ ([] ++ ([] ++ ([] ++ ([] ++ fq)))), fun _ _ _ => ⟨?_, ?_⟩⟩
   ·rw [e, ← hX]; exact rdNode_mk q0 q1 q2 q3 q4 _ w0' w1' w2' w3' w4' hr
   ·rw [hfq]; simpa using hs
  ·exact ⟨[], fun h => absurd h hi⟩
 obtain ⟨f, hf⟩ := Classical.axiomOfChoice each
 have hsub : ∀ (l : List (List Nat)) (g : Nat → List Nat) , (∀ i (h : i < l.length), (g i).Sublist l[i]) → ((List.range l.length).map g).flatten.Sublist l.flatten := by
  intro l
  induction l with
  | nil => intro g _; simp
  | cons a l ih =>
   intro g hg
   rw [List.length_cons, List.range_succ_eq_map, List.map_cons, List.flatten_cons, List.flatten_cons, List.map_map]
   exact (hg 0 (by simp)).append (ih (g ∘ Nat.succ) fun i hi => hg (i + 1) (by simpa using hi))
 have hs := hsub fps f fun i hi => (hf i (by omega) (by rw [hE.cl]; omega) hi).2
 have hO2 : OwnR (α := GNode) w0 86 w v ((List.range fps.length).map f) (xs.map outN) := by
  refine ⟨⟨css, by rw [List.length_map]; exact ho, ⟨by simp [hE.cl], by simp [hfl], fun i h0 h1 h2 => ?_⟩⟩, fun b hb hm => ha b hb (hs.subset hm)⟩
  have h0' : i < xs.length := by simpa using h0
  simpa using (hf i h0' h1 (by omega)).1
 obtain ⟨fq, h1, h2⟩ := hO2.slR hl
 refine ⟨fq, h1, ?_, ?_⟩
 ·rcases h2 with ⟨_, rfl⟩ | ⟨b, hb, rfl⟩
  ·exact Fresh.nil _
  ·refine ⟨List.nodup_cons.2 ⟨fun hm => ha b hb (hs.subset hm), hs.nodup hnd⟩, fun c hc => ?_⟩
   rcases List.mem_cons.1 hc with rfl | hc
   ·exact (hbase _ hb).1
   ·exact hge c (hs.subset hc)
 ·rcases h2 with ⟨_, rfl⟩ | ⟨b, hb, rfl⟩
  ·simp
  ·intro c hc
   rcases List.mem_cons.1 hc with rfl | hc
   ·exact List.mem_append_left _ (by simpa using hb)
   ·exact List.mem_append_right _ (hs.subset hc)
theorem OwnR.lit1 {α : Type} [Rd α] {w0 w : World} (e : TypeId) (h : w0.heap.size ≤ w.heap.size) {g : Nat} (hg : g = w.heap.size) {cs : Array Value} {fq : List Nat} {x : α} (hr : Rd.rd fq w cs.toList x) : OwnR w0 e (w.alloc (.cells cs e)) (.slice (some ⟨g, 0, none⟩) 1 1) [fq] [x] := by
 subst hg
 refine ⟨⟨[cs.toList], ?_, (Els.one hr).mono (((Gr.refl w).alloc _).sameOn (by simpa using Rd.lt hr))⟩, fun b hb hm => ?_⟩
 ·have hl := Rd.len hr
  have := World.ownsRow_lit (base := w0.heap.size) (e := e) (size := Rd.n α) w cs 1 h (by unfold maxLen; omega) (by simpa using hl)
  simpa using this
 ·injection hb with hb
  subst hb
  exact Nat.lt_irrefl _ (Rd.lt hr _ (by simpa using hm))

theorem OwnT.lit1 {w0 w : World} (h : w0.heap.size ≤ w.heap.size) {g : Nat} (hg : g = w.heap.size) {q0 q1 q2 q3 : Int} {q4 : ByteArray} {q5 : List Int} {c : Value} {fpc : List (List Nat)} (hq0 : (Lit.int .i64 q0).wf = true) (hq1 : (Lit.int .i64 q1).wf = true) (hq2 : (Lit.int .i64 q2).wf = true) (hq3 : (Lit.int .i64 q3).wf = true) (hq4 : q4.size ≤ maxLen) (hc : OwnR (α := Int) w0 3 w c fpc q5) :
  OwnT w0 (w.alloc (.cells #[.int .i64 q0, .int .i64 q1, .int .i64 q2, .int .i64 q3, .string q4, c] 86)) (.slice (some ⟨g, 0, none⟩) 1 1) (g :: c.ownBlock.toList) [(q0, q1, q2, q3, q4, q5)] := by
 have hb := hc.base
 refine ⟨[c.ownBlock.toList], [(q0, q1, q2, q3, q4, ORow.mk w0.heap.size 3 q5)], OwnR.lit1 (α := NodeO w0.heap.size) 86 h hg (rdNodeO_mk q0 q1 q2 q3 q4 hq0 hq1 hq2 hq3 hq4 hc.toORow), rfl, ?_, ?_, ?_⟩
 ·cases c.ownBlock <;> simp
 ·intro b hm
  exact (hb b (by simpa using hm)).1
 ·simp [Value.ownBlock]
theorem Wr.frozenC {fp : List Nat} {w w' : World} (h : Wr fp w w') {b o : Nat} {r : Bool} (hc : w.frozen? ⟨b, o, none⟩ = r) (hl : b < w.heap.size) (hn : b ∉ fp) : w'.frozen? ⟨b, o, none⟩ = r :=
 (World.frozen?_of_block (a := ⟨b, o, none⟩) (h.block b hl hn)).trans hc

end Go.Proofs.Ytmfcagcanhmdbaa
