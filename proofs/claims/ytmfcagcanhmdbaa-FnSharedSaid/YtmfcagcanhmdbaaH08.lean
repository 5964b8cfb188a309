/- Rows of numbers written in place, boxes of variables, appends inside a drawn region, and elements that are rows of one's own. A region that draws its order, with a condition on the world that every operation but the last keeps. A copy of a slice whose elements lead nowhere; slices.Clone at numbers. A copy of a row inside a region that draws its order. No condition. -/
import Derived.Test.YtmfcagcanhmdbaaH07
import Derived.Deep.RegionHeld3
import Derived.Test.YtmfcagcanhmdbaaH00
import Derived.Test.YtmfcagcanhmdbaaH06
import Derived.Lib.SliceRun
namespace Go.Proofs.Ytmfcagcanhmdbaa
open Go.RowKit

def VRow (w : World) (b : Nat) (t : TypeId) (vs : List Value) : Prop := w.heap[b]? = some (.cells vs.toArray t)
theorem VRow.lt {w : World} {b : Nat} {t : TypeId} {vs : List Value} (h : VRow w b t vs) : b < w.heap.size := (Array.getElem?_eq_some_iff.1 h).1
theorem VRow.cell {w : World} {b : Nat} {t : TypeId} {vs : List Value} (h : VRow w b t vs) {k : Nat} (hk : k < vs.length) : w.cell? ⟨b, k, none⟩ = some vs[k] := by
 rw [cell_of_row w b k _ t (0, 0) h]
 simp [hk]
theorem VRow.frozen {w : World} {b : Nat} {t : TypeId} {vs : List Value} (h : VRow w b t vs) (k : Nat) : w.frozen? ⟨b, k, none⟩ = false := frozen_block h k
theorem VRow.keep {w w' : World} {b : Nat} {t : TypeId} {vs : List Value} (h : VRow w b t vs) (e : w'.heap[b]? = w.heap[b]?) : VRow w' b t vs := e.trans h
theorem VRow.gr {w w' : World} {b : Nat} {t : TypeId} {vs : List Value} (h : VRow w b t vs) (hg : Gr w w') : VRow w' b t vs := h.keep (hg.below.block b h.lt)
theorem VRow.wr {w w' : World} {b : Nat} {t : TypeId} {vs : List Value} {fp : List Nat} (h : VRow w b t vs) (hw : Wr fp w w') (hb : b ∉ fp) : VRow w' b t vs := h.keep (hw.block b h.lt hb)
theorem VRow.set {w : World} {b : Nat} {t : TypeId} {vs : List Value} (h : VRow w b t vs) (k : Nat) (u : Value) : VRow (w.setCell ⟨b, k, none⟩ u) b t (vs.set k u) := by
 unfold VRow at *
 unfold World.setCell
 simp only [Array.getElem?_modify, if_pos]
 rw [h]
 simp
theorem VRow.ne {w : World} {b c k : Nat} {t : TypeId} {vs : List Value} {u : Value} (h : VRow w b t vs) (hc : b ≠ c) : VRow (w.setCell ⟨c, k, none⟩ u) b t vs := h.keep (heap_setCell hc)
theorem VRow.box {w : World} {b : Nat} {t : TypeId} {v : Value} (h : VRow w b t [v]) : w.cell? ⟨b, 0, none⟩ = some v := h.cell (k := 0) (by simp)

def IRow (w : World) (b : Nat) (t : TypeId) (xs : List Int) : Prop := VRow w b t (xs.map (Value.int .i64))
theorem IRow.lt {w : World} {b : Nat} {t : TypeId} {xs : List Int} (h : IRow w b t xs) : b < w.heap.size := VRow.lt h
theorem IRow.cell {w : World} {b : Nat} {t : TypeId} {xs : List Int} (h : IRow w b t xs) {k : Nat} (hk : k < xs.length) : w.cell? ⟨b, k, none⟩ = some (.int .i64 xs[k]) := by
 have := VRow.cell h (k := k) (by simpa using hk)
 simpa using this
theorem IRow.set {w : World} {b : Nat} {t : TypeId} {xs : List Int} (h : IRow w b t xs) (k : Nat) (y : Int) : IRow (w.setCell ⟨b, k, none⟩ (.int .i64 y)) b t (xs.set k y) := by
 have := VRow.set h k (.int .i64 y)
 unfold IRow
 rwa [List.map_set]
theorem IRow.made (w : World) (n : Nat) (t : TypeId) : IRow (w.alloc (.cells (madeCells #[.int .i64 0] n) t)) w.heap.size t (List.replicate n 0) := by
 unfold IRow VRow
 rw [heap_alloc_new]
 congr 2
 apply Array.toList_inj.1
 rw [toList_madeCells_one]
 simp

theorem ownB {g o n c b : Nat} (h : (Value.slice (some ⟨g, o, none⟩) n c).ownBlock = some b) : g = b := by injection h

theorem OwnR.base_eq {α : Type} [Rd α] {w0 w1 w : World} {e : TypeId} {v : Value} {fps : List (List Nat)} {xs : List α} (h : OwnR w0 e w v fps xs) (hs : w1.heap.size ≤ w0.heap.size) : OwnR w1 e w v fps xs := by
 obtain ⟨⟨css, ho, hE⟩, ha⟩ := h
 refine ⟨⟨css, ⟨ho.1, ?_⟩, hE⟩, ha⟩
 rcases ho.2 with h0 | ⟨g, cap, cur, hv, hb, hr⟩
 ·exact .inl h0
 ·exact .inr ⟨g, cap, cur, hv, Nat.le_trans hs hb, hr⟩

theorem SrcR.gr {α : Type} [Rd α] {w w' : World} {x : Value} {gps : List (List Nat)} {ys : List α} (h : SrcR w x gps ys) (hg : Gr w w') : SrcR w' x gps ys := by
 rcases h with h | ⟨b, off, c, css, rfl, hE, hc⟩
 ·exact .inl h
 ·exact .inr ⟨b, off, c, css, rfl, hE.mono (hg.sameOn hE.lt), fun j u hj => hg.keep (hc j u hj)⟩

section
variable {P : Program}
theorem step_append_RB {α : Type} [Rd α] {wg w0 w : World} (hG : Gr wg w) (hgw : wg.heap.size ≤ w0.heap.size) (h0w : w0.heap.size ≤ w.heap.size) {ops : Array Oper} {o : Oper} {a : Act} {K : Act → World → Prop} {Q : Exit → Act → World → Prop} {E : Prop} (hgd : o.guard = none) (s x : Operand) (t : TypeId)
  (ho : o.op = .call { callee := .builtin .append, args := #[s, x], argTypes := #[t, t] })
  (e : TypeId) (i : TypeInfo) (z : Value) (bytes : Nat) (ht : P.underlying t = some (.slice e)) (hi : P.info? e = some i) (hz : i.zero = some z)
  (hsize : i.size = Rd.n α) (hby : i.bytes = bytes) (hzs : z.cells.size = Rd.n α)
  (v : Value) (fps : List (List Nat)) (xs : List α) (hs : a.eval s = v) (hown : OwnR w0 e w v fps xs)
  (xv : Value) (gps : List (List Nat)) (ys : List α) (hx : a.eval x = xv) (hsrc : SrcR w xv gps ys) (hap : ∀ b, v.ownBlock = some b → b ∉ gps.flatten)
  (h63 : xs.length + ys.length ≤ maxLen) (hbytes : (xs.length + ys.length) * bytes ≤ 140737488355328)
  (hK : ∀ v' w', OwnR w0 e w' v' (fps ++ gps) (xs ++ ys) → Wr v.ownBlock.toList w w' → (v'.ownBlock = v.ownBlock ∨ v'.ownBlock = some w.heap.size) → Gr wg w' → K (a.put o.dst v') w') :
  if Region.wanted o (yielded ops a.tmps) = true then Oper.wp P o a w K Q else E := by
 have hw : Region.wanted o (yielded ops a.tmps) = true := by simp [Region.wanted, hgd]
 rw [if_pos hw]
 obtain ⟨v', w', hr, h2, h3, h4, h5, h6⟩ := run_append_RB (P := P) hG hgw h0w t o.type e i z bytes ht hi hz hsize hby hzs hown hsrc hap h63 hbytes
 unfold Oper.wp
 simp only [execOp, ho, resolve, invoke, builtin, Sem.run_bind, Sem.run_pure, Result.andThen_ok, List.map_toArray, List.map_cons, List.map_nil, hs, hx, hr]
 exact hK v' w' h2 (Wr.of_grown h3 h6) h4 h5
end

theorem ORow.toOwn {w0 w : World} {e : TypeId} {fq : List Nat} {cs : List Value} {x : ORow w0.heap.size e} (h : Rd.rd fq w cs x) : ∃ v fps, cs = [v] ∧ fq = v.ownBlock.toList ∧ OwnR (α := Int) w0 e w v fps x.out ∧ fps.flatten = [] := by
 obtain ⟨v, rfl, h, h2, rfl⟩ := h
 refine ⟨v, List.replicate x.out.length [], rfl, rfl, ⟨⟨x.out.map fun y => [Value.int .i64 y], ?_, ?_⟩, by simp⟩, by simp⟩
 ·have e1 : (x.out.map fun y => [Value.int .i64 y]).flatten = x.out.map (Value.int .i64) := by
   induction x.out with
   | nil => rfl
   | cons a l ih => simp [ih]
  rw [e1]; exact h
 ·exact ⟨by simp, by simp, fun i h0 h1 h2' => by simpa using intRd (h2 _ (List.getElem_mem h0)) w⟩

theorem OwnR.toORow {w0 w : World} {e : TypeId} {v : Value} {fps : List (List Nat)} {xs : List Int} (h : OwnR (α := Int) w0 e w v fps xs) : Rd.rd v.ownBlock.toList w [v] (ORow.mk w0.heap.size e xs) := by
 obtain ⟨⟨css, ho, hE⟩, -⟩ := h
 have e1 : ∀ i (h : i < xs.length) (h1 : i < css.length), css[i] = [Value.int .i64 xs[i]] ∧ (Lit.int .i64 xs[i]).wf = true := fun i h h1 => (hE.rd i h h1 (by rw [hE.fl]; exact h)).2
 have e2 : css = xs.map fun y => [Value.int .i64 y] := by
  apply List.ext_getElem
  ·rw [hE.cl]; simp
  ·intro i h1 h2
   rw [(e1 i (by simpa using h2) h1).1]
   simp
 have e3 : css.flatten = xs.map (Value.int .i64) := by
  rw [e2]
  clear e1 e2 ho hE
  induction xs with
  | nil => rfl
  | cons a l ih => simp [ih]
 rw [e3] at ho
 refine ⟨v, rfl, ho, fun y hy => ?_, rfl⟩
 obtain ⟨i, hi, rfl⟩ := List.mem_iff_getElem.1 hy
 exact (e1 i hi (by rw [hE.cl]; exact hi)).2

theorem OwnR.read {w0 w : World} {base : Nat} {e e2 : TypeId} {v : Value} {fps : List (List Nat)} {xs : List (ORow base e2)} (h : OwnR w0 e w v fps xs) (hl : ∀ x ∈ xs, x.out.length ≤ reachLen) :
  ∃ gps : List (List Nat), OwnR (α := List Int) w0 e w v gps (xs.map ORow.out) ∧ gps.length = fps.length ∧ gps.flatten.Sublist fps.flatten := by
 have hfl := h.fl
 obtain ⟨⟨css, ho, hE⟩, ha⟩ := h
 have each : ∀ i, ∃ fq : List Nat, ∀ (h : i < xs.length) (h1 : i < css.length) (h2 : i < fps.length), Rd.rd (α := List Int) fq w css[i] xs[i].out ∧ fq.Sublist fps[i] := by
  intro i
  by_cases hi : i < xs.length
  ·have h1 : i < css.length := by rw [hE.cl]; exact hi
   have h2 : i < fps.length := by rw [hfl]; exact hi
   obtain ⟨fq, hr, hs⟩ := ORow.read (hE.rd i hi h1 h2) (hl _ (List.getElem_mem hi))
   exact ⟨fq, fun _ _ _ => ⟨hr, hs⟩⟩
  ·exact ⟨[], fun h => absurd h hi⟩
 obtain ⟨f, hf⟩ := Classical.axiomOfChoice each
 have hsub : ∀ (l : List (List Nat)) (g : Nat → List Nat) , (∀ i (h : i < l.length), (g i).Sublist l[i]) → ((List.range l.length).map g).flatten.Sublist l.flatten := by
  intro l
  induction l with
  | nil => intro g _; simp
  | cons a l ih =>
   intro g hg
   rw [List.length_cons, List.range_succ_eq_map, List.map_cons, List.flatten_cons, List.flatten_cons, List.map_map]
   exact (hg 0 (by simp)).append (ih (g ∘ Nat.succ) fun i hi => hg (i + 1) (by simpa using hi))
 have hs := hsub fps f fun i hi => (hf i (by omega) (by rw [hE.cl]; omega) hi).2
 refine ⟨(List.range fps.length).map f, ⟨⟨css, by rw [List.length_map]; exact ho, ⟨by simp [hE.cl], by simp [hfl], fun i h0 h1 h2 => ?_⟩⟩, fun b hb hm => ha b hb (hs.subset hm)⟩, by simp, hs⟩
 have h0' : i < xs.length := by simpa using h0
 simpa using (hf i h0' h1 (by omega)).1
end Go.Proofs.Ytmfcagcanhmdbaa

namespace Go.Proofs.Ytmfcagcanhmdbaa
open Go.RowKit

section
variable {P : Program} {ops : Array Oper} {Q : Exit → Act → World → Prop} {md : Region.Mode} {S : World → Prop} {z : Nat}

def waits (md : Region.Mode) (ops : Array Oper) (z i : Nat) : Bool := ((ops[z]?).map fun p => p.after.any fun e => Region.binds md e && e.on == i).getD false

def anyU (P : Program) (md : Region.Mode) (ops : Array Oper) (Q : Exit → Act → World → Prop) (S : World → Prop) (z : Nat) : Nat → Array Bool → Act → World → Prop
 | 0, l, a, w => Region.ready md ops l = [] ∧ Q .normal a w
 | n + 1, l, a, w => (Region.ready md ops l = [] → Q .normal a w) ∧
   ∀ i ∈ Region.ready md ops l, wpOp P ops Q i (fun b u => (i ≠ z → S u) ∧ anyU P md ops Q S z n (l.setIfInBounds i true) b u) a w

theorem anyU_any : ∀ (n : Nat) (l : Array Bool) (a : Act) (w : World), anyU P md ops Q S z n l a w → wpAny P md ops Q n l a w
 | 0, _, _, _, h => h
 | n + 1, _, _, _, h => ⟨h.1, fun i hi => wpOp_mono (fun b u k => anyU_any n _ b u k.2) (h.2 i hi)⟩

theorem ready_fresh {i j : Nat} {l : Array Bool} (hr : i ∈ Region.ready md ops l) (hl : l.getD i false = true) : j = i → False := by
 intro _
 have k0 := (mem_ready.1 hr).1
 by_cases h : i < l.size
 ·simp [h] at k0 hl; rw [k0] at hl; cases hl
 ·simp [Array.getElem?_eq_none (Nat.le_of_not_lt h)] at hl

theorem anyU_first {i : Nat} {o : Oper} {v : Value} (hi : ops[i]? = some o) (hz : waits md ops z i = true) (hs : ∀ (j : Nat) (p : Oper) cs b, ops[j]? = some p → p.op ≠ .select cs b)
  (hq : ∀ c a w, Q (.panic c) (a.put o.dst v) w → Q (.panic c) a w) (n : Nat) :
  ∀ (l : Array Bool) (a : Act) (w : World),
   (∀ j p, ops[j]? = some p → j ≠ i → l.getD j true = false → (∀ e ∈ p.after, Region.binds md e = true → e.on ≠ i) → o.apart ops p = true) →
   i ∈ Region.ready md ops l → YieldsIf P ops S o v a → S w → anyU P md ops Q S z n (l.setIfInBounds i true) (a.put o.dst v) w → anyU P md ops Q S z (n + 1) l a w := by
 induction n with
 | zero =>
  intro l a w _ hr hy hw hu
  constructor
  ·intro h0; rw [h0] at hr; cases hr
  ·intro j hj
   by_cases e : j = i
   ·subst e; exact hy.wpOp hi hw ⟨fun _ => hw, hu⟩
   ·have hm := ready_mono hj e
    rw [hu.1] at hm; cases hm
 | succ n ih =>
  intro l a w hf hr hy hw hu
  constructor
  ·intro h0; rw [h0] at hr; cases hr
  ·intro j hj
   by_cases e : j = i
   ·subst e; exact hy.wpOp hi hw ⟨fun _ => hw, hu⟩
   ·have step := hu.2 j (ready_mono hj e)
    obtain ⟨hj0, p, hp, hall⟩ := mem_ready.1 hj
    have hno : ∀ x ∈ p.after, Region.binds md x = true → x.on ≠ i := fun x hx hb he => by
     have k1 := hall x hx hb
     rw [he] at k1
     exact ready_fresh (j := i) hr k1 rfl
    have hjz : j ≠ z := by
     intro c
     subst c
     simp only [waits, hp, Option.map_some, Option.getD_some] at hz
     obtain ⟨x, hx, h2⟩ := Array.any_eq_true'.1 hz
     simp only [Bool.and_eq_true, beq_iff_eq] at h2
     exact hno x hx h2.1 h2.2
    have moved := wpOp_putIf hp (hf j p hp e hj0 hno) (fun cs b => hs i o cs b hi) (fun cs b => hs j p cs b hp) hq hy step
    have hf2 : ∀ k q, ops[k]? = some q → k ≠ i → (l.setIfInBounds j true).getD k true = false → (∀ x ∈ q.after, Region.binds md x = true → x.on ≠ i) → o.apart ops q = true := by
     intro k q hk hki hun hn
     refine hf k q hk hki ?_ hn
     by_cases c : j = k
     ·subst c; exact hj0
     ·rwa [getD_set_ne true c] at hun
    refine wpOp_mono ?_ moved
    rintro b u ⟨hyb, hSu, hU⟩
    refine ⟨hSu, ih _ b u hf2 (ready_mono hr (Ne.symm e)) hyb (hSu hjz) ?_⟩
    rw [Array.setIfInBounds_comm _ _ e]; exact hU

theorem anyU_take {i : Nat} {o : Oper} {v : Value} {n : Nat} {l : Array Bool} {a : Act} {w : World} (hi : ops[i]? = some o) (hz : waits md ops z i = true)
  (hs : Region.noSelect ops = true) (hf : Region.free md ops l i = true) (hr : (Region.ready md ops l).contains i = true)
  (hq : ∀ c a w, Q (.panic c) (a.put o.dst v) w → Q (.panic c) a w) (hy : YieldsIf P ops S o v a) (hw : S w)
  (h : anyU P md ops Q S z n (l.setIfInBounds i true) (a.put o.dst v) w) : anyU P md ops Q S z (n + 1) l a w :=
 anyU_first hi hz (Region.noSelect_spec hs) hq n l a w (Region.free_spec hi hf) (by simpa using hr) hy hw h

theorem anyU_q (i : Nat) {o : Oper} {v : Value} {n : Nat} {l : Array Bool} {a : Act} {w : World} (h : anyU P md ops Q S z n (l.setIfInBounds i true) (a.put o.dst v) w) (hi : ops[i]? = some o := by rfl) (hz : waits md ops z i = true := by kernel_rfl)
  (hs : Region.noSelect ops = true := by kernel_rfl) (hf : Region.free md ops l i = true := by kernel_rfl) (hr : (Region.ready md ops l).contains i = true := by kernel_rfl)
  (hq : ∀ c a w, Q (.panic c) (a.put o.dst v) w → Q (.panic c) a w := by exact fun _ _ _ h => h) (hy : YieldsIf P ops S o v a := by refine Or.inl ⟨by rfl, ?_⟩; intro w hSw; (try dsimp only at hSw); go_simp; all_goals with_reducible rfl) (hw : S w := by assumption) :
  anyU P md ops Q S z (n + 1) l a w := anyU_take hi hz hs hf hr hq hy hw h
theorem uq1 {α : Type} (l : List α) (i : Nat) (a : α) : l.toArray.setIfInBounds i a = (l.set i a).toArray := List.setIfInBounds_toArray l i a
theorem uq2 {α : Type} {x : α} {xs : List α} {a : α} : (x :: xs).set 0 a = a :: xs := rfl
theorem uq3 {α : Type} {x : α} {xs : List α} {n : Nat} {a : α} : (x :: xs).set (n + 1) a = x :: xs.set n a := rfl

def ReadyU (P : Program) (md : Region.Mode) (ops : Array Oper) (Q : Exit → Act → World → Prop) (S : World → Prop) (z : Nat) (n : Nat) (l : Array Bool) (a : Act) (w : World) (rs : List Nat) : Prop :=
 ∀ i ∈ rs, wpOp P ops Q i (fun b u => (i ≠ z → S u) ∧ anyU P md ops Q S z n (l.setIfInBounds i true) b u) a w

theorem ReadyU.nil {n : Nat} {l : Array Bool} {a : Act} {w : World} : ReadyU P md ops Q S z n l a w [] := fun _ h => by cases h
theorem ReadyU.cons {n : Nat} {l : Array Bool} {a : Act} {w : World} {i : Nat} {o : Oper} {rs : List Nat} (ho : ops[i]? = some o)
  (h : ∀ K' : Act → World → Prop, Shut (∀ a w, S w → (S w → anyU P md ops Q S z n (l.setIfInBounds i true) a w) → K' a w) → if Region.wanted o (yielded ops a.tmps) = true then Oper.wp P o a w K' Q else K' (a.put o.dst undef) w)
  (hs : ReadyU P md ops Q S z n l a w rs) : ReadyU P md ops Q S z n l a w (i :: rs) := fun j hj => by
 rcases List.mem_cons.1 hj with rfl | hj
 ·exact wpOp_step ho (fun K' hK => h K' (fun a w hS hW => hK a w ⟨fun _ => hS, hW hS⟩))
 ·exact hs j hj
theorem ReadyU.last {n : Nat} {l : Array Bool} {a : Act} {w : World} {o : Oper} (ho : ops[z]? = some o)
  (h : ∀ K' : Act → World → Prop, Shut (∀ a w, anyU P md ops Q S z n (l.setIfInBounds z true) a w → K' a w) → if Region.wanted o (yielded ops a.tmps) = true then Oper.wp P o a w K' Q else K' (a.put o.dst undef) w) :
  ReadyU P md ops Q S z n l a w [z] := fun j hj => by
 obtain rfl : j = z := by simpa using hj
 exact wpOp_step ho (fun K' hK => h K' (fun a w hW => hK a w ⟨fun c => absurd rfl c, hW⟩))

theorem anyU_ready {rs : List Nat} {n : Nat} {l : Array Bool} {a : Act} {w : World} (hr : Region.ready md ops l = rs) (hne : rs ≠ [])
  (h : ReadyU P md ops Q S z n l a w rs) : anyU P md ops Q S z (n + 1) l a w := ⟨fun h0 => absurd (hr ▸ h0) hne, hr ▸ h⟩
theorem anyU_done {l : Array Bool} {a : Act} {w : World} (hr : Region.ready md ops l = []) (h : Q .normal a w) : ∀ n, anyU P md ops Q S z n l a w
 | 0 => ⟨hr, h⟩
 | _ + 1 => ⟨fun _ => h, by rw [hr]; simp⟩

theorem wp_region_U {id : Nat} {a : Act} {w : World} (S : World → Prop) (z : Nat) (hm : P.follows .mixedOrders = true) (hS : S w.drew)
  (h : S w.drew → anyU P .any ops Q S z ops.size (Array.replicate ops.size false) a w.drew) : (Code.region id ops true).wp P Q a w :=
 wp_region_any hm (anyU_any _ _ _ _ (h hS))
end
end Go.Proofs.Ytmfcagcanhmdbaa

namespace Go.Proofs.Ytmfcagcanhmdbaa
open Go.RowKit

def FlatT (α : Type) [Rd α] : Prop := ∀ (fp : List Nat) (w : World) (cs : List Value) (x : α), Rd.rd fp w cs x → fp = []
theorem flatInt : FlatT Int := fun _ _ _ _ h => h.1
theorem flatStr : FlatT ByteArray := fun _ _ _ _ h => h.1
theorem flatProd {α β : Type} [Rd α] [Rd β] (h1 : FlatT α) (h2 : FlatT β) : FlatT (α × β) := fun _ _ _ _ h => by
 obtain ⟨c1, c2, f1, f2, rfl, rfl, k1, k2⟩ := h
 rw [h1 _ _ _ _ k1, h2 _ _ _ _ k2]; rfl

theorem Els.flat {α : Type} [Rd α] (hF : FlatT α) {w : World} {css : List (List Value)} {fps : List (List Nat)} {xs : List α} (h : Els w css fps xs) : fps.flatten = [] := by
 rw [List.flatten_eq_nil_iff]
 intro l hl
 obtain ⟨i, hi, rfl⟩ := List.mem_iff_getElem.1 hl
 exact hF _ _ _ _ (h.rd i (by rw [← h.fl]; exact hi) (by rw [h.cl, ← h.fl]; exact hi) hi)
theorem SrcR.flat {α : Type} [Rd α] (hF : FlatT α) {w : World} {x : Value} {gps : List (List Nat)} {ys : List α} (h : SrcR w x gps ys) : gps.flatten = [] := by
 rcases h with ⟨_, rfl, _⟩ | ⟨_, _, _, _, _, hE, _⟩
 ·rfl
 ·exact hE.flat hF

section
variable {P : Program}
theorem wpList_clone {α : Type} [Rd α] (hF : FlatT α) {w : World} {ops : Array Oper} {rest : List Oper} {o : Oper} {a : Act} {Q : Exit → Act → World → Prop} (hgd : o.guard = none) (s x : Operand) (t : TypeId)
  (ho : o.op = .call { callee := .builtin .append, args := #[s, x], argTypes := #[t, t] })
  (e : TypeId) (i : TypeInfo) (z : Value) (bytes : Nat) (ht : P.underlying t = some (.slice e)) (hi : P.info? e = some i) (hz : i.zero = some z)
  (hsize : i.size = Rd.n α) (hby : i.bytes = bytes) (hzs : z.cells.size = Rd.n α)
  {g : Nat} (hs : a.eval s = .slice (some ⟨g, 0, none⟩) 0 0) (hg : g = w.heap.size) {fp : List Nat} {xv : Value} {ys : List α} (hx : a.eval x = xv) (hsrc : SlR fp w xv ys)
  (hlen : ys.length ≤ 1048576) (hbytes : ys.length * bytes ≤ 140737488355328)
  (h : ∀ b c fq y, SlR fq (w.ext y) (.slice (some ⟨b, 0, none⟩) ys.length c) ys → Fresh w fq → wpList P ops Q rest (a.put o.dst (.slice (some ⟨b, 0, none⟩) ys.length c)) (w.ext y)) : wpList P ops Q (o :: rest) a (w.alloc (.cells #[] e)) := by
 have hG : Gr w (w.alloc (.cells #[] e)) := gd
 obtain ⟨gps, hS, -, -⟩ := SrcR.of_slR (hsrc.gr hG)
 have hfl := hS.flat hF
 refine wpList_append_R (α := α) hG hgd s x t ho e i z bytes ht hi hz hsize hby hzs _ [] [] hs (OwnR.lit0 e (Nat.le_refl _) hg) xv gps ys hx hS (fun b hb => by rw [hfl]; simp) (by simp only [List.length_nil, maxLen]; omega) (by simpa using hbytes) ?_
 intro v' w' h1 h2 h3 h4
 obtain ⟨y, rfl⟩ := h4
 simp only [List.nil_append] at h1
 obtain ⟨fq, hs2, hf2⟩ := h1.fresh (by unfold reachLen; omega) (by rw [hfl]; exact Fresh.nil _)
 have hv : ∃ b c, v' = .slice (some ⟨b, 0, none⟩) ys.length c := by
  obtain ⟨⟨css, ho, hE⟩, ha⟩ := h1
  rcases ho.2 with ⟨rfl, h0⟩ | ⟨g, cap, cur, rfl, _⟩
  ·rcases h3 with h3 | h3 <;> simp [Value.ownBlock] at h3
  ·exact ⟨g, cap, rfl⟩
 obtain ⟨b, c, rfl⟩ := hv
 exact h b c fq y hs2 hf2
end

theorem Try.infoIntC : (Try.prog.info? 3).map (fun i => (i.zero, i.size, i.bytes)) = some (some (.int .i64 0), 1, 8) := by kernel_rfl

set_option maxRecDepth 10000 in
set_option maxHeartbeats 400000 in
theorem cloneInt_any (fp : List Nat) (u : Value) (xs : List Int) (w : World) (hu : SlR fp w u xs) (hlen : xs.length ≤ 1048576) :
  Calls Try.prog 71 #[u] w fun e w' => ∃ v fq, e = .returned v ∧ SlR fq w' v xs ∧ Fresh w fq ∧ Gr w w' := by
 obtain ⟨i0, hi, hz0, hz1, hz2⟩ := info_parts Try.infoIntC
 have HZ := Lib.hid (And.intro hi (And.intro hz0 (And.intro hz1 hz2)))
 clear hi hz0 hz1 hz2
 have HU := Lib.hid hu
 obtain ⟨a, c, rfl, h1, h2, h3⟩ := hu.open
 have kn := fun (W : World) (a : Option Addr) (n c : Nat) => Lib.run_eql_slice_nil (P := Try.prog) W 59 3 a n c 0 0 Try.underlying59
 clear hu
 cases a with
 | none =>
  have h0 : xs = [] := by
   cases xs with
   | nil => rfl
   | cons y ys => obtain ⟨b, off, hb, _⟩ := h3 0 (by simp); cases hb
  subst h0
  clear h3
  go_enter Try.func71, Try.ntmps71
  go_wp2
  go_ret
  exact ⟨_, [], rfl, SlR.nil _, Fresh.nil _, gd⟩
 | some ad =>
  clear h3
  go_enter Try.func71, Try.ntmps71
  go_wp2_with (first | (at_builtin; refine wpList_clone flatInt rfl _ _ 59 rfl 3 i0 (.int .i64 0) 8 Try.underlying59 HZ.out.1 HZ.out.2.1 HZ.out.2.2.1 HZ.out.2.2.2 rfl (by rfl) (by simp) (by rfl) HU.out hlen (by omega) ?_; intro b2 c2 fq y hs hf; replace hs := Lib.hid hs))
  go_ret
  exact ⟨_, fq, rfl, hs.out, hf, gd⟩
end Go.Proofs.Ytmfcagcanhmdbaa

namespace Go.Proofs.Ytmfcagcanhmdbaa
open Go.RowKit

section
variable {P : Program}
theorem step_clone {α : Type} [Rd α] (hF : FlatT α) {w W : World} (hG : Gr w W) {ops : Array Oper} {o : Oper} {a : Act} {K : Act → World → Prop} {Q : Exit → Act → World → Prop} {E : Prop} (hgd : o.guard = none) (s x : Operand) (t : TypeId)
  (ho : o.op = .call { callee := .builtin .append, args := #[s, x], argTypes := #[t, t] })
  (e : TypeId) (i : TypeInfo) (z : Value) (bytes : Nat) (ht : P.underlying t = some (.slice e)) (hi : P.info? e = some i) (hz : i.zero = some z)
  (hsize : i.size = Rd.n α) (hby : i.bytes = bytes) (hzs : z.cells.size = Rd.n α)
  (v : Value) (hs : a.eval s = v) (hown : OwnR (α := α) w e W v [] []) (hblk : v.ownBlock ≠ none) {fp : List Nat} (xv : Value) (ys : List α) (hx : a.eval x = xv) (hsrc : SlR fp W xv ys)
  (hlen : ys.length ≤ 1048576) (hbytes : ys.length * bytes ≤ 140737488355328)
  (h : ∀ b c fq y, SlR fq (w.ext y) (.slice (some ⟨b, 0, none⟩) ys.length c) ys → Fresh w fq → Gr w (w.ext y) → w.heap.size ≤ b → Wr v.ownBlock.toList W (w.ext y) → (∀ c ∈ fq, v.ownBlock = some c ∨ W.heap.size ≤ c) → K (a.put o.dst (.slice (some ⟨b, 0, none⟩) ys.length c)) (w.ext y)) :
  if Region.wanted o (yielded ops a.tmps) = true then Oper.wp P o a W K Q else E := by
 obtain ⟨gps, hS, -, -⟩ := SrcR.of_slR hsrc
 have hfl := hS.flat hF
 refine step_append_RB (α := α) (wg := w) (w0 := w) hG (Nat.le_refl _) hG.size hgd s x t ho e i z bytes ht hi hz hsize hby hzs v [] [] hs hown xv gps ys hx hS (fun b hb => by rw [hfl]; simp) (by simp only [List.length_nil, maxLen]; omega) (by simpa using hbytes) ?_
 intro v' w' h1 h2 h3 h4
 obtain ⟨y, rfl⟩ := h4
 simp only [List.nil_append] at h1
 have h5 : ∃ fq, SlR fq (w.ext y) v' ys ∧ Fresh w fq ∧ ∀ c ∈ fq, v.ownBlock = some c ∨ W.heap.size ≤ c := by
  obtain ⟨fp, hs, ⟨rfl, rfl⟩ | ⟨b, hb, rfl⟩⟩ := h1.slR (by unfold reachLen; omega)
  ·exact ⟨[], hs, Fresh.nil _, by simp⟩
  ·rw [hfl] at hs
   refine ⟨_, hs, Fresh.cons (h1.base b hb).1, fun c hc => ?_⟩
   obtain rfl : c = b := by simpa using hc
   rcases h3 with h3 | h3
   ·exact .inl (h3.symm.trans hb)
   ·rw [hb] at h3; injection h3 with h3; exact .inr (by omega)
 obtain ⟨fq, hs2, hf2, hq2⟩ := h5
 have hb := h1.base
 have hv : ∃ b c, v' = .slice (some ⟨b, 0, none⟩) ys.length c := by
  obtain ⟨⟨css, ho, hE⟩, ha⟩ := h1
  rcases ho.2 with ⟨rfl, h0⟩ | ⟨g, cap, cur, rfl, _⟩
  ·rcases h3 with h3 | h3
   ·exact absurd h3.symm hblk
   ·simp [Value.ownBlock] at h3
  ·exact ⟨g, cap, rfl⟩
 obtain ⟨b, c, rfl⟩ := hv
 exact h b c fq y hs2 hf2 ⟨y, rfl⟩ (hb b rfl).1 h2 hq2
end
theorem own_new {α : Type} [Rd α] {w0 w : World} {e : TypeId} {v : Value} {fps : List (List Nat)} {xs : List α} (h : OwnR w0 e w v fps xs) {b : Nat} (hb : b < w0.heap.size) : b ∉ v.ownBlock.toList := by
 intro hm
 have := (h.base b (by simpa using hm)).1
 omega
theorem Wr.keepC {fp : List Nat} {w w' : World} (h : Wr fp w w') {b o : Nat} {v : Value} (hc : w.cell? ⟨b, o, none⟩ = some v) (hn : b ∉ fp) : w'.cell? ⟨b, o, none⟩ = some v :=
 (World.cell?_of_block (a := ⟨b, o, none⟩) (h.block b (blk hc) hn)).trans hc
theorem OwnR.setOld {α : Type} [Rd α] {w0 w : World} {e : TypeId} {v : Value} {fps : List (List Nat)} {xs : List α} (h : OwnR w0 e w v fps xs) (hf : Fresh w0 fps.flatten) {b o : Nat} {u : Value} (hb : b < w0.heap.size) : OwnR w0 e (w.setCell ⟨b, o, none⟩ u) v fps xs :=
 h.wr ((Wr.refl [b] w).setCell (by simp) u) (fun c hc hm => by
  obtain rfl : c = b := by simpa using hm
  have := hf.2 c hc
  omega) (fun c hc hm => by
  obtain rfl : c = b := by simpa using hm
  have := (h.base c hc).1
  omega)
theorem SlR.setAt {α : Type} [Rd α] {fq : List Nat} {w : World} {v : Value} {xs : List α} (h : SlR fq w v xs) {b o : Nat} {u : Value} (hb : b ∉ fq) : SlR fq (w.setCell ⟨b, o, none⟩ u) v xs :=
 h.wr ((Wr.refl [b] w).setCell (by simp) u) (fun c hc hm => by
  obtain rfl : c = b := by simpa using hm
  exact hb hc)
end Go.Proofs.Ytmfcagcanhmdbaa
