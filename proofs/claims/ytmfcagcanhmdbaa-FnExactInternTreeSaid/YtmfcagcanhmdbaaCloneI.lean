/- A copy of a slice whose elements lead nowhere; slices.Clone at numbers. No condition. -/
import Derived.Test.YtmfcagcanhmdbaaAppendGr
import Derived.Lib.SliceRun
namespace Go.Proofs.Ytmfcagcanhmdbaa
open Go.RowKit

/-- Data that lead nowhere. -/
def FlatT (α : Type) [Rd α] : Prop := ∀ (fp : List Nat) (w : World) (cs : List Value) (x : α), Rd.rd fp w cs x → fp = []
theorem flatInt : FlatT Int := fun _ _ _ _ h => h.1
theorem flatStr : FlatT ByteArray := fun _ _ _ _ h => h.1
theorem flatProd {α β : Type} [Rd α] [Rd β] (h1 : FlatT α) (h2 : FlatT β) : FlatT (α × β) := fun _ _ _ _ h => by
  obtain ⟨c1, c2, f1, f2, rfl, rfl, k1, k2⟩ := h
  rw [h1 _ _ _ _ k1, h2 _ _ _ _ k2]; rfl

theorem Els.flat {α : Type} [Rd α] (hF : FlatT α) {w : World} {css : List (List Value)} {fps : List (List Nat)} {xs : List α} (h : Els w css fps xs) : fps.flatten = [] := by
  rw [List.flatten_eq_nil_iff]
  intro l hl
  obtain ⟨i, hi, rfl⟩ := List.mem_iff_getElem.1 hl
  exact hF _ _ _ _ (h.rd i (by rw [← h.fl]; exact hi) (by rw [h.cl, ← h.fl]; exact hi) hi)
theorem SrcR.flat {α : Type} [Rd α] (hF : FlatT α) {w : World} {x : Value} {gps : List (List Nat)} {ys : List α} (h : SrcR w x gps ys) : gps.flatten = [] := by
  rcases h with ⟨_, rfl, _⟩ | ⟨_, _, _, _, _, hE, _⟩
  · rfl
  · exact hE.flat hF

section
variable {P : Program}
/-- A slice appended to an empty one that was just made: a copy in new memory. -/
theorem wpList_clone {α : Type} [Rd α] (hF : FlatT α) {w : World} {ops : Array Oper} {rest : List Oper} {o : Oper} {a : Act} {Q : Exit → Act → World → Prop} (hgd : o.guard = none) (s x : Operand) (t : TypeId)
    (ho : o.op = .call { callee := .builtin .append, args := #[s, x], argTypes := #[t, t] })
    (e : TypeId) (i : TypeInfo) (z : Value) (bytes : Nat) (ht : P.underlying t = some (.slice e)) (hi : P.info? e = some i) (hz : i.zero = some z)
    (hsize : i.size = Rd.n α) (hby : i.bytes = bytes) (hzs : z.cells.size = Rd.n α)
    {g : Nat} (hs : a.eval s = .slice (some ⟨g, 0, none⟩) 0 0) (hg : g = w.heap.size) {fp : List Nat} {xv : Value} {ys : List α} (hx : a.eval x = xv) (hsrc : SlR fp w xv ys)
    (hlen : ys.length ≤ 1048576) (hbytes : ys.length * bytes ≤ 140737488355328)
    (h : ∀ b c fq y, SlR fq (w.ext y) (.slice (some ⟨b, 0, none⟩) ys.length c) ys → Fresh w fq → wpList P ops Q rest (a.put o.dst (.slice (some ⟨b, 0, none⟩) ys.length c)) (w.ext y)) : wpList P ops Q (o :: rest) a (w.alloc (.cells #[] e)) := by
  have hG : Gr w (w.alloc (.cells #[] e)) := (by repeat (first | exact Gr.refl _ | apply Gr.ext | apply Gr.alloc | apply Gr.drew))
  obtain ⟨gps, hS, -, -⟩ := SrcR.of_slR (hsrc.gr hG)
  have hfl := hS.flat hF
  refine wpList_append_R (α := α) hG hgd s x t ho e i z bytes ht hi hz hsize hby hzs _ [] [] hs (OwnR.lit0 e (Nat.le_refl _) hg) xv gps ys hx hS (fun b hb => by rw [hfl]; simp) (by simp only [List.length_nil, maxLen]; omega) (by simpa using hbytes) ?_
  intro v' w' h1 h2 h3 h4
  obtain ⟨y, rfl⟩ := h4
  simp only [List.nil_append] at h1
  obtain ⟨fq, hs2, hf2⟩ := h1.fresh (by unfold reachLen; omega) (by rw [hfl]; exact Fresh.nil _)
  have hv : ∃ b c, v' = .slice (some ⟨b, 0, none⟩) ys.length c := by
    obtain ⟨⟨css, ho, hE⟩, ha⟩ := h1
    rcases ho.2 with ⟨rfl, h0⟩ | ⟨g, cap, cur, rfl, _⟩
    · rcases h3 with h3 | h3 <;> simp [Value.ownBlock] at h3
    · exact ⟨g, cap, rfl⟩
  obtain ⟨b, c, rfl⟩ := hv
  exact h b c fq y hs2 hf2
end

theorem Try.infoIntC : (Try.prog.info? 3).map (fun i => (i.zero, i.size, i.bytes)) = some (some (.int .i64 0), 1, 8) := by kernel_rfl

set_option maxRecDepth 10000 in
set_option maxHeartbeats 400000 in
theorem cloneInt_any (fp : List Nat) (u : Value) (xs : List Int) (w : World) (hu : SlR fp w u xs) (hlen : xs.length ≤ 1048576) :
    Calls Try.prog 71 #[u] w fun e w' => ∃ v fq, e = .returned v ∧ SlR fq w' v xs ∧ Fresh w fq ∧ Gr w w' := by
  obtain ⟨i0, hi, hz0, hz1, hz2⟩ := info_parts Try.infoIntC
  have HZ := Lib.hid (And.intro hi (And.intro hz0 (And.intro hz1 hz2)))
  clear hi hz0 hz1 hz2
  have HU := Lib.hid hu
  obtain ⟨a, c, rfl, h1, h2, h3⟩ := hu.open
  have kn := fun (W : World) (a : Option Addr) (n c : Nat) => Lib.run_eql_slice_nil (P := Try.prog) W 59 3 a n c 0 0 Try.underlying59
  clear hu
  cases a with
  | none =>
    have h0 : xs = [] := by
      cases xs with
      | nil => rfl
      | cons y ys => obtain ⟨b, off, hb, _⟩ := h3 0 (by simp); cases hb
    subst h0
    clear h3
    go_enter Try.func71, Try.ntmps71
    go_wp2
    go_ret
    exact ⟨_, [], rfl, SlR.nil _, Fresh.nil _, (by repeat (first | exact Gr.refl _ | apply Gr.ext | apply Gr.alloc | apply Gr.drew))⟩
  | some ad =>
    clear h3
    go_enter Try.func71, Try.ntmps71
    go_wp2_with (first | (at_builtin; refine wpList_clone flatInt rfl _ _ 59 rfl 3 i0 (.int .i64 0) 8 Try.underlying59 HZ.out.1 HZ.out.2.1 HZ.out.2.2.1 HZ.out.2.2.2 rfl (by rfl) (by simp) (by rfl) HU.out hlen (by omega) ?_; intro b2 c2 fq y hs hf; replace hs := Lib.hid hs))
    go_ret
    exact ⟨_, fq, rfl, hs.out, hf, (by repeat (first | exact Gr.refl _ | apply Gr.ext | apply Gr.alloc | apply Gr.drew))⟩
end Go.Proofs.Ytmfcagcanhmdbaa
