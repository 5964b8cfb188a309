/- A region that draws its order, with a condition on the world that every operation but the last keeps. No condition. -/
import Derived.Test.YtmfcagcanhmdbaaBase
import Derived.Deep.RegionHeld3
namespace Go.Proofs.Ytmfcagcanhmdbaa
open Go.RowKit

section
variable {P : Program} {ops : Array Oper} {Q : Exit → Act → World → Prop} {md : Region.Mode} {S : World → Prop} {z : Nat}

/-- Operation z waits for operation i. -/
def waits (md : Region.Mode) (ops : Array Oper) (z i : Nat) : Bool := ((ops[z]?).map fun p => p.after.any fun e => Region.binds md e && e.on == i).getD false

/-- Whatever comes up next: behind it S holds, but behind operation z it need not. -/
def anyU (P : Program) (md : Region.Mode) (ops : Array Oper) (Q : Exit → Act → World → Prop) (S : World → Prop) (z : Nat) : Nat → Array Bool → Act → World → Prop
  | 0, l, a, w => Region.ready md ops l = [] ∧ Q .normal a w
  | n + 1, l, a, w => (Region.ready md ops l = [] → Q .normal a w) ∧
      ∀ i ∈ Region.ready md ops l, wpOp P ops Q i (fun b u => (i ≠ z → S u) ∧ anyU P md ops Q S z n (l.setIfInBounds i true) b u) a w

theorem anyU_any : ∀ (n : Nat) (l : Array Bool) (a : Act) (w : World), anyU P md ops Q S z n l a w → wpAny P md ops Q n l a w
  | 0, _, _, _, h => h
  | n + 1, _, _, _, h => ⟨h.1, fun i hi => wpOp_mono (fun b u k => anyU_any n _ b u k.2) (h.2 i hi)⟩

/-- What is listed, and what is not. -/
theorem ready_fresh {i j : Nat} {l : Array Bool} (hr : i ∈ Region.ready md ops l) (hl : l.getD i false = true) : j = i → False := by
  intro _
  have k0 := (mem_ready.1 hr).1
  by_cases h : i < l.size
  · simp [h] at k0 hl; rw [k0] at hl; cases hl
  · simp [Array.getElem?_eq_none (Nat.le_of_not_lt h)] at hl

theorem anyU_first {i : Nat} {o : Oper} {v : Value} (hi : ops[i]? = some o) (hz : waits md ops z i = true) (hs : ∀ (j : Nat) (p : Oper) cs b, ops[j]? = some p → p.op ≠ .select cs b)
    (hq : ∀ c a w, Q (.panic c) (a.put o.dst v) w → Q (.panic c) a w) (n : Nat) :
    ∀ (l : Array Bool) (a : Act) (w : World),
      (∀ j p, ops[j]? = some p → j ≠ i → l.getD j true = false → (∀ e ∈ p.after, Region.binds md e = true → e.on ≠ i) → o.apart ops p = true) →
      i ∈ Region.ready md ops l → YieldsIf P ops S o v a → S w → anyU P md ops Q S z n (l.setIfInBounds i true) (a.put o.dst v) w → anyU P md ops Q S z (n + 1) l a w := by
  induction n with
  | zero =>
    intro l a w _ hr hy hw hu
    constructor
    · intro h0; rw [h0] at hr; cases hr
    · intro j hj
      by_cases e : j = i
      · subst e; exact hy.wpOp hi hw ⟨fun _ => hw, hu⟩
      · have hm := ready_mono hj e
        rw [hu.1] at hm; cases hm
  | succ n ih =>
    intro l a w hf hr hy hw hu
    constructor
    · intro h0; rw [h0] at hr; cases hr
    · intro j hj
      by_cases e : j = i
      · subst e; exact hy.wpOp hi hw ⟨fun _ => hw, hu⟩
      · have step := hu.2 j (ready_mono hj e)
        obtain ⟨hj0, p, hp, hall⟩ := mem_ready.1 hj
        have hno : ∀ x ∈ p.after, Region.binds md x = true → x.on ≠ i := fun x hx hb he => by
          have k1 := hall x hx hb
          rw [he] at k1
          exact ready_fresh (j := i) hr k1 rfl
        have hjz : j ≠ z := by
          intro c
          subst c
          simp only [waits, hp, Option.map_some, Option.getD_some] at hz
          obtain ⟨x, hx, h2⟩ := Array.any_eq_true'.1 hz
          simp only [Bool.and_eq_true, beq_iff_eq] at h2
          exact hno x hx h2.1 h2.2
        have moved := wpOp_putIf hp (hf j p hp e hj0 hno) (fun cs b => hs i o cs b hi) (fun cs b => hs j p cs b hp) hq hy step
        have hf2 : ∀ k q, ops[k]? = some q → k ≠ i → (l.setIfInBounds j true).getD k true = false → (∀ x ∈ q.after, Region.binds md x = true → x.on ≠ i) → o.apart ops q = true := by
          intro k q hk hki hun hn
          refine hf k q hk hki ?_ hn
          by_cases c : j = k
          · subst c; exact hj0
          · rwa [getD_set_ne true c] at hun
        refine wpOp_mono ?_ moved
        rintro b u ⟨hyb, hSu, hU⟩
        refine ⟨hSu, ih _ b u hf2 (ready_mono hr (Ne.symm e)) hyb (hSu hjz) ?_⟩
        rw [Array.setIfInBounds_comm _ _ e]; exact hU

/-- Number i is taken first. -/
theorem anyU_take {i : Nat} {o : Oper} {v : Value} {n : Nat} {l : Array Bool} {a : Act} {w : World} (hi : ops[i]? = some o) (hz : waits md ops z i = true)
    (hs : Region.noSelect ops = true) (hf : Region.free md ops l i = true) (hr : (Region.ready md ops l).contains i = true)
    (hq : ∀ c a w, Q (.panic c) (a.put o.dst v) w → Q (.panic c) a w) (hy : YieldsIf P ops S o v a) (hw : S w)
    (h : anyU P md ops Q S z n (l.setIfInBounds i true) (a.put o.dst v) w) : anyU P md ops Q S z (n + 1) l a w :=
  anyU_first hi hz (Region.noSelect_spec hs) hq n l a w (Region.free_spec hi hf) (by simpa using hr) hy hw h

def ReadyU (P : Program) (md : Region.Mode) (ops : Array Oper) (Q : Exit → Act → World → Prop) (S : World → Prop) (z : Nat) (n : Nat) (l : Array Bool) (a : Act) (w : World) (rs : List Nat) : Prop :=
  ∀ i ∈ rs, wpOp P ops Q i (fun b u => (i ≠ z → S u) ∧ anyU P md ops Q S z n (l.setIfInBounds i true) b u) a w

theorem ReadyU.nil {n : Nat} {l : Array Bool} {a : Act} {w : World} : ReadyU P md ops Q S z n l a w [] := fun _ h => by cases h
/-- One that may come up, and is not the last. -/
theorem ReadyU.cons {n : Nat} {l : Array Bool} {a : Act} {w : World} {i : Nat} {o : Oper} {rs : List Nat} (ho : ops[i]? = some o)
    (h : ∀ K' : Act → World → Prop, Shut (∀ a w, S w → (S w → anyU P md ops Q S z n (l.setIfInBounds i true) a w) → K' a w) → if Region.wanted o (yielded ops a.tmps) = true then Oper.wp P o a w K' Q else K' (a.put o.dst undef) w)
    (hs : ReadyU P md ops Q S z n l a w rs) : ReadyU P md ops Q S z n l a w (i :: rs) := fun j hj => by
  rcases List.mem_cons.1 hj with rfl | hj
  · exact wpOp_step ho (fun K' hK => h K' (fun a w hS hW => hK a w ⟨fun _ => hS, hW hS⟩))
  · exact hs j hj
/-- The last. -/
theorem ReadyU.last {n : Nat} {l : Array Bool} {a : Act} {w : World} {o : Oper} (ho : ops[z]? = some o)
    (h : ∀ K' : Act → World → Prop, Shut (∀ a w, anyU P md ops Q S z n (l.setIfInBounds z true) a w → K' a w) → if Region.wanted o (yielded ops a.tmps) = true then Oper.wp P o a w K' Q else K' (a.put o.dst undef) w) :
    ReadyU P md ops Q S z n l a w [z] := fun j hj => by
  obtain rfl : j = z := by simpa using hj
  exact wpOp_step ho (fun K' hK => h K' (fun a w hW => hK a w ⟨fun c => absurd rfl c, hW⟩))

theorem anyU_ready {rs : List Nat} {n : Nat} {l : Array Bool} {a : Act} {w : World} (hr : Region.ready md ops l = rs) (hne : rs ≠ [])
    (h : ReadyU P md ops Q S z n l a w rs) : anyU P md ops Q S z (n + 1) l a w := ⟨fun h0 => absurd (hr ▸ h0) hne, hr ▸ h⟩
theorem anyU_done {l : Array Bool} {a : Act} {w : World} (hr : Region.ready md ops l = []) (h : Q .normal a w) : ∀ n, anyU P md ops Q S z n l a w
  | 0 => ⟨hr, h⟩
  | _ + 1 => ⟨fun _ => h, by rw [hr]; simp⟩

/-- The beginning. -/
theorem wp_region_U {id : Nat} {a : Act} {w : World} (S : World → Prop) (z : Nat) (hm : P.follows .mixedOrders = true) (hS : S w.drew)
    (h : S w.drew → anyU P .any ops Q S z ops.size (Array.replicate ops.size false) a w.drew) : (Code.region id ops true).wp P Q a w :=
  wp_region_any hm (anyU_any _ _ _ _ (h hS))
end
end Go.Proofs.Ytmfcagcanhmdbaa
