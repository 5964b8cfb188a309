/- Rows of numbers written in place, boxes of variables, appends inside a drawn region, and elements that are rows of one's own. No condition. -/
import Derived.Test.YtmfcagcanhmdbaaOwnRow
import Derived.Deep.RegionHeld3
namespace Go.Proofs.Ytmfcagcanhmdbaa
open Go.RowKit

/-! ### Blocks known whole -/

/-- Block b holds the values vs. -/
def VRow (w : World) (b : Nat) (t : TypeId) (vs : List Value) : Prop := w.heap[b]? = some (.cells vs.toArray t)
theorem VRow.lt {w : World} {b : Nat} {t : TypeId} {vs : List Value} (h : VRow w b t vs) : b < w.heap.size := (Array.getElem?_eq_some_iff.1 h).1
theorem VRow.cell {w : World} {b : Nat} {t : TypeId} {vs : List Value} (h : VRow w b t vs) {k : Nat} (hk : k < vs.length) : w.cell? ⟨b, k, none⟩ = some vs[k] := by
  rw [cell_of_row w b k _ t (0, 0) h]
  simp [hk]
theorem VRow.frozen {w : World} {b : Nat} {t : TypeId} {vs : List Value} (h : VRow w b t vs) (k : Nat) : w.frozen? ⟨b, k, none⟩ = false := frozen_block h k
theorem VRow.keep {w w' : World} {b : Nat} {t : TypeId} {vs : List Value} (h : VRow w b t vs) (e : w'.heap[b]? = w.heap[b]?) : VRow w' b t vs := e.trans h
theorem VRow.gr {w w' : World} {b : Nat} {t : TypeId} {vs : List Value} (h : VRow w b t vs) (hg : Gr w w') : VRow w' b t vs := h.keep (hg.below.block b h.lt)
theorem VRow.wr {w w' : World} {b : Nat} {t : TypeId} {vs : List Value} {fp : List Nat} (h : VRow w b t vs) (hw : Wr fp w w') (hb : b ∉ fp) : VRow w' b t vs := h.keep (hw.block b h.lt hb)
theorem VRow.set {w : World} {b : Nat} {t : TypeId} {vs : List Value} (h : VRow w b t vs) (k : Nat) (u : Value) : VRow (w.setCell ⟨b, k, none⟩ u) b t (vs.set k u) := by
  unfold VRow at *
  unfold World.setCell
  simp only [Array.getElem?_modify, if_pos]
  rw [h]
  simp
theorem VRow.ne {w : World} {b c k : Nat} {t : TypeId} {vs : List Value} {u : Value} (h : VRow w b t vs) (hc : b ≠ c) : VRow (w.setCell ⟨c, k, none⟩ u) b t vs := h.keep (heap_setCell hc)
theorem VRow.box {w : World} {b : Nat} {t : TypeId} {v : Value} (h : VRow w b t [v]) : w.cell? ⟨b, 0, none⟩ = some v := h.cell (k := 0) (by simp)

/-- Block b holds the numbers xs. -/
def IRow (w : World) (b : Nat) (t : TypeId) (xs : List Int) : Prop := VRow w b t (xs.map (Value.int .i64))
theorem IRow.lt {w : World} {b : Nat} {t : TypeId} {xs : List Int} (h : IRow w b t xs) : b < w.heap.size := VRow.lt h
theorem IRow.cell {w : World} {b : Nat} {t : TypeId} {xs : List Int} (h : IRow w b t xs) {k : Nat} (hk : k < xs.length) : w.cell? ⟨b, k, none⟩ = some (.int .i64 xs[k]) := by
  have := VRow.cell h (k := k) (by simpa using hk)
  simpa using this
theorem IRow.set {w : World} {b : Nat} {t : TypeId} {xs : List Int} (h : IRow w b t xs) (k : Nat) (y : Int) : IRow (w.setCell ⟨b, k, none⟩ (.int .i64 y)) b t (xs.set k y) := by
  have := VRow.set h k (.int .i64 y)
  unfold IRow
  rwa [List.map_set]
theorem IRow.made (w : World) (n : Nat) (t : TypeId) : IRow (w.alloc (.cells (madeCells #[.int .i64 0] n) t)) w.heap.size t (List.replicate n 0) := by
  unfold IRow VRow
  rw [heap_alloc_new]
  congr 2
  apply Array.toList_inj.1
  rw [toList_madeCells_one]
  simp

theorem ownB {g o n c b : Nat} (h : (Value.slice (some ⟨g, o, none⟩) n c).ownBlock = some b) : g = b := by injection h

theorem OwnR.same {α : Type} [Rd α] {w0 w w' : World} {e : TypeId} {v : Value} {fps : List (List Nat)} {xs : List α} (h : OwnR w0 e w v fps xs) (h1 : ∀ b ∈ fps.flatten, w'.heap[b]? = w.heap[b]?) (h2 : ∀ b, v.ownBlock = some b → w'.heap[b]? = w.heap[b]?) : OwnR w0 e w' v fps xs := by
  obtain ⟨⟨css, ho, hE⟩, ha⟩ := h
  refine ⟨⟨css, ⟨ho.1, ?_⟩, hE.mono h1⟩, ha⟩
  rcases ho.2 with h0 | ⟨g, cap, cur, rfl, hb, hg, hr⟩
  · exact .inl h0
  · exact .inr ⟨g, cap, cur, rfl, hb, by rw [h2 g rfl]; exact hg, hr⟩

/-- A row of one's own depends on where it begins alone. -/
theorem OwnR.base_eq {α : Type} [Rd α] {w0 w1 w : World} {e : TypeId} {v : Value} {fps : List (List Nat)} {xs : List α} (h : OwnR w0 e w v fps xs) (hs : w1.heap.size ≤ w0.heap.size) : OwnR w1 e w v fps xs := by
  obtain ⟨⟨css, ho, hE⟩, ha⟩ := h
  refine ⟨⟨css, ⟨ho.1, ?_⟩, hE⟩, ha⟩
  rcases ho.2 with h0 | ⟨g, cap, cur, hv, hb, hr⟩
  · exact .inl h0
  · exact .inr ⟨g, cap, cur, hv, Nat.le_trans hs hb, hr⟩

theorem SrcR.gr {α : Type} [Rd α] {w w' : World} {x : Value} {gps : List (List Nat)} {ys : List α} (h : SrcR w x gps ys) (hg : Gr w w') : SrcR w' x gps ys := by
  rcases h with h | ⟨b, off, c, css, rfl, hE, hc⟩
  · exact .inl h
  · exact .inr ⟨b, off, c, css, rfl, hE.mono (hg.sameOn hE.lt), fun j u hj => hg.keep (hc j u hj)⟩

/-! ### 'append' inside a drawn region -/
section
variable {P : Program}
theorem step_append_RB {α : Type} [Rd α] {wg w0 w : World} (hG : Gr wg w) (hgw : wg.heap.size ≤ w0.heap.size) (h0w : w0.heap.size ≤ w.heap.size) {ops : Array Oper} {o : Oper} {a : Act} {K : Act → World → Prop} {Q : Exit → Act → World → Prop} {E : Prop} (hgd : o.guard = none) (s x : Operand) (t : TypeId)
    (ho : o.op = .call { callee := .builtin .append, args := #[s, x], argTypes := #[t, t] })
    (e : TypeId) (i : TypeInfo) (z : Value) (bytes : Nat) (ht : P.underlying t = some (.slice e)) (hi : P.info? e = some i) (hz : i.zero = some z)
    (hsize : i.size = Rd.n α) (hby : i.bytes = bytes) (hzs : z.cells.size = Rd.n α)
    (v : Value) (fps : List (List Nat)) (xs : List α) (hs : a.eval s = v) (hown : OwnR w0 e w v fps xs)
    (xv : Value) (gps : List (List Nat)) (ys : List α) (hx : a.eval x = xv) (hsrc : SrcR w xv gps ys) (hap : ∀ b, v.ownBlock = some b → b ∉ gps.flatten)
    (h63 : xs.length + ys.length ≤ maxLen) (hbytes : (xs.length + ys.length) * bytes ≤ 140737488355328)
    (hK : ∀ v' w', OwnR w0 e w' v' (fps ++ gps) (xs ++ ys) → Wr v.ownBlock.toList w w' → (v'.ownBlock = v.ownBlock ∨ v'.ownBlock = some w.heap.size) → Gr wg w' → K (a.put o.dst v') w') :
    if Region.wanted o (yielded ops a.tmps) = true then Oper.wp P o a w K Q else E := by
  have hw : Region.wanted o (yielded ops a.tmps) = true := by simp [Region.wanted, hgd]
  rw [if_pos hw]
  obtain ⟨v', w', hr, h2, h3, h4, h5, h6⟩ := run_append_RB (P := P) hG hgw h0w t o.type e i z bytes ht hi hz hsize hby hzs hown hsrc hap h63 hbytes
  unfold Oper.wp
  simp only [execOp, ho, resolve, invoke, builtin, Sem.run_bind, Sem.run_pure, Result.andThen_ok, List.map_toArray, List.map_cons, List.map_nil, hs, hx, hr]
  exact hK v' w' h2 (Wr.of_grown h3 h6) h4 h5
end

/-! ### Elements that are rows of one's own -/

theorem ORow.toOwn {w0 w : World} {e : TypeId} {fq : List Nat} {cs : List Value} {x : ORow w0.heap.size e} (h : Rd.rd fq w cs x) : ∃ v fps, cs = [v] ∧ fq = v.ownBlock.toList ∧ OwnR (α := Int) w0 e w v fps x.out ∧ fps.flatten = [] := by
  obtain ⟨v, rfl, h, h2, rfl⟩ := h
  refine ⟨v, List.replicate x.out.length [], rfl, rfl, ⟨⟨x.out.map fun y => [Value.int .i64 y], ?_, ?_⟩, by simp⟩, by simp⟩
  · have e1 : (x.out.map fun y => [Value.int .i64 y]).flatten = x.out.map (Value.int .i64) := by
      induction x.out with
      | nil => rfl
      | cons a l ih => simp [ih]
    rw [e1]; exact h
  · exact ⟨by simp, by simp, fun i h0 h1 h2' => by simpa using intRd (h2 _ (List.getElem_mem h0)) w⟩

theorem OwnR.toORow {w0 w : World} {e : TypeId} {v : Value} {fps : List (List Nat)} {xs : List Int} (h : OwnR (α := Int) w0 e w v fps xs) : Rd.rd v.ownBlock.toList w [v] (ORow.mk w0.heap.size e xs) := by
  obtain ⟨⟨css, ho, hE⟩, -⟩ := h
  have e1 : ∀ i (h : i < xs.length) (h1 : i < css.length), css[i] = [Value.int .i64 xs[i]] ∧ (Lit.int .i64 xs[i]).wf = true := fun i h h1 => (hE.rd i h h1 (by rw [hE.fl]; exact h)).2
  have e2 : css = xs.map fun y => [Value.int .i64 y] := by
    apply List.ext_getElem
    · rw [hE.cl]; simp
    · intro i h1 h2
      rw [(e1 i (by simpa using h2) h1).1]
      simp
  have e3 : css.flatten = xs.map (Value.int .i64) := by
    rw [e2]
    clear e1 e2 ho hE
    induction xs with
    | nil => rfl
    | cons a l ih => simp [ih]
  rw [e3] at ho
  refine ⟨v, rfl, ho, fun y hy => ?_, rfl⟩
  obtain ⟨i, hi, rfl⟩ := List.mem_iff_getElem.1 hy
  exact (e1 i hi (by rw [hE.cl]; exact hi)).2

/-- A row of rows of one's own reads as a row of rows. -/
theorem OwnR.read {w0 w : World} {base : Nat} {e e2 : TypeId} {v : Value} {fps : List (List Nat)} {xs : List (ORow base e2)} (h : OwnR w0 e w v fps xs) (hl : ∀ x ∈ xs, x.out.length ≤ reachLen) :
    ∃ gps : List (List Nat), OwnR (α := List Int) w0 e w v gps (xs.map ORow.out) ∧ gps.length = fps.length ∧ gps.flatten.Sublist fps.flatten := by
  have hfl := h.fl
  obtain ⟨⟨css, ho, hE⟩, ha⟩ := h
  have each : ∀ i, ∃ fq : List Nat, ∀ (h : i < xs.length) (h1 : i < css.length) (h2 : i < fps.length), Rd.rd (α := List Int) fq w css[i] xs[i].out ∧ fq.Sublist fps[i] := by
    intro i
    by_cases hi : i < xs.length
    · have h1 : i < css.length := by rw [hE.cl]; exact hi
      have h2 : i < fps.length := by rw [hfl]; exact hi
      obtain ⟨fq, hr, hs⟩ := ORow.read (hE.rd i hi h1 h2) (hl _ (List.getElem_mem hi))
      exact ⟨fq, fun _ _ _ => ⟨hr, hs⟩⟩
    · exact ⟨[], fun h => absurd h hi⟩
  obtain ⟨f, hf⟩ := Classical.axiomOfChoice each
  have hsub : ∀ (l : List (List Nat)) (g : Nat → List Nat) , (∀ i (h : i < l.length), (g i).Sublist l[i]) → ((List.range l.length).map g).flatten.Sublist l.flatten := by
    intro l
    induction l with
    | nil => intro g _; simp
    | cons a l ih =>
      intro g hg
      rw [List.length_cons, List.range_succ_eq_map, List.map_cons, List.flatten_cons, List.flatten_cons, List.map_map]
      exact (hg 0 (by simp)).append (ih (g ∘ Nat.succ) fun i hi => hg (i + 1) (by simpa using hi))
  have hs := hsub fps f fun i hi => (hf i (by omega) (by rw [hE.cl]; omega) hi).2
  refine ⟨(List.range fps.length).map f, ⟨⟨css, by rw [List.length_map]; exact ho, ⟨by simp [hE.cl], by simp [hfl], fun i h0 h1 h2 => ?_⟩⟩, fun b hb hm => ha b hb (hs.subset hm)⟩, by simp, hs⟩
  have h0' : i < xs.length := by simpa using h0
  simpa using (hf i h0' h1 (by omega)).1
/-- One element of a row of numbers' rows written anew: more of the same, in place or in a new block. -/
theorem OwnR.grow {w0 w4 w : World} {e e2 : TypeId} {v : Value} {fps : List (List Nat)} {xs : List (ORow w4.heap.size e2)} (h : OwnR w0 e w v fps xs) (hnd : fps.flatten.Nodup) (hge : ∀ b ∈ fps.flatten, w4.heap.size ≤ b) {j : Nat} (hj : j < xs.length) :
    ∃ g cap vj fpj, v = .slice (some ⟨g, 0, none⟩) xs.length cap ∧ g < w.heap.size ∧ w0.heap.size ≤ g ∧ xs.length ≤ cap ∧ w.cell? ⟨g, j, none⟩ = some vj ∧ w.frozen? ⟨g, j, none⟩ = false ∧ OwnR (α := Int) w4 e2 w vj fpj xs[j].out ∧ fpj.flatten = [] ∧ g ∉ vj.ownBlock.toList ∧
      (∀ w9 v9 ys, Wr vj.ownBlock.toList w w9 → OwnR (α := Int) w4 e2 w9 v9 (fpj ++ [[]]) ys → (v9.ownBlock = vj.ownBlock ∨ ∃ n, v9.ownBlock = some n ∧ w.heap.size ≤ n) →
        ∃ fps', OwnR w0 e (w9.setCell ⟨g, j, none⟩ v9) v fps' (xs.set j (ORow.mk w4.heap.size e2 ys)) ∧ fps'.flatten.Nodup ∧ ∀ b ∈ fps'.flatten, w4.heap.size ≤ b) := by
  have hbase := h.base
  have hap := h.apart
  have hltf := h.lt
  obtain ⟨g, cap, cs, fq, rfl, h1, h2, h3, h4, h5, h6, h7, h8⟩ := h.upd hj
  obtain ⟨hjf, hjq⟩ := List.getElem?_eq_some_iff.1 h4
  obtain ⟨vj, fpj, rfl, hfq, hO, hfl⟩ := ORow.toOwn h6
  have hsub : ∀ c ∈ fq, c ∈ fps.flatten := fun c hc => List.mem_flatten.2 ⟨_, List.getElem_mem hjf, by rw [hjq]; exact hc⟩
  have hgq : g ∉ fq := fun hm => hap g rfl (hsub g hm)
  have hn1 : Rd.n (ORow w4.heap.size e2) = 1 := rfl
  have c1 := h5 0 vj rfl
  rw [hn1, Nat.mul_one, Nat.add_zero] at c1
  refine ⟨g, cap, vj, fpj, rfl, h2, h1, h3, c1, h7 j, hO, hfl, by rw [← hfq]; exact hgq, fun w9 v9 ys hw hO9 hv9 => ?_⟩
  rw [← hfq] at hw
  have hown9 : ∀ c ∈ v9.ownBlock.toList, c ∈ fq ∨ w.heap.size ≤ c := by
    intro c hc
    rcases hv9 with e9 | ⟨n, e9, hn⟩
    · rw [e9, ← hfq] at hc; exact .inl hc
    · rw [e9] at hc
      simp at hc
      subst hc
      exact .inr hn
  have hgv : g ∉ v9.ownBlock.toList := fun hm => by
    rcases hown9 g hm with h | h
    · exact hgq h
    · omega
  have hr : Rd.rd v9.ownBlock.toList (w9.setCell ⟨g, j, none⟩ v9) [v9] (ORow.mk w4.heap.size e2 ys) := Rd.wr hO9.toORow ((Wr.refl [g] _).setCell (by simp) v9) (fun c hc hm => by simp at hm; subst hm; exact hgv hc)
  have h9 := h8 w9 0 v9 v9.ownBlock.toList (ORow.mk w4.heap.size e2 ys) hw hgq (fun k hk hkj c hc hcq => by
    have hp := List.pairwise_iff_getElem.1 (List.pairwise_flatten.1 hnd).2
    rw [← hjq] at hcq
    rcases Nat.lt_or_gt_of_ne hkj with hlt | hgt
    · exact hp k j hk hjf hlt c hc c hcq rfl
    · exact hp j k hjf hk hgt c hcq c hc rfl) (by rw [hn1]; omega) hgv (by rw [hn1, Nat.mul_one, Nat.add_zero]; exact hr)
  rw [hn1, Nat.mul_one, Nat.add_zero] at h9
  refine ⟨_, h9, nodup_set hnd hjf (by cases v9.ownBlock <;> simp) fun c hc => ?_, fun b hb => ?_⟩
  · rcases hown9 c hc with h | h
    · rw [← hjq] at h; exact .inl h
    · exact .inr fun hm => by have := hltf c hm; omega
  · rcases mem_set_flatten hb with hb | hb
    · exact hge b hb
    · exact (hO9.base b (by simpa using hb)).1

end Go.Proofs.Ytmfcagcanhmdbaa
