/- Words for writes into blocks of one's own: what they leave alone, and one element of a slice in view. No condition. -/
import Derived.Test.YtmfcagcanhmdbaaBaseB
namespace Go.Proofs.Ytmfcagcanhmdbaa
open Go.RowKit

/-- w' is w with new blocks, draws, and writes into the blocks fp. -/
structure Wr (fp : List Nat) (w w' : World) : Prop where
  os : w'.os = w.os
  tape : w'.tape = w.tape
  output : w'.output = w.output
  size : w.heap.size ≤ w'.heap.size
  drawn : w.drawn ≤ w'.drawn
  block : ∀ b, b < w.heap.size → b ∉ fp → w'.heap[b]? = w.heap[b]?

theorem Wr.refl (fp : List Nat) (w : World) : Wr fp w w := ⟨rfl, rfl, rfl, Nat.le_refl _, Nat.le_refl _, fun _ _ _ => rfl⟩
theorem Wr.trans {fp : List Nat} {a b c : World} (h : Wr fp a b) (k : Wr fp b c) : Wr fp a c :=
  ⟨k.os.trans h.os, k.tape.trans h.tape, k.output.trans h.output, Nat.le_trans h.size k.size, Nat.le_trans h.drawn k.drawn,
    fun x hx hn => (k.block x (Nat.lt_of_lt_of_le hx h.size) hn).trans (h.block x hx hn)⟩
theorem Wr.sub {fp fq : List Nat} {a b : World} (h : Wr fp a b) (hs : ∀ c ∈ fp, c ∈ fq) : Wr fq a b :=
  ⟨h.os, h.tape, h.output, h.size, h.drawn, fun x hx hn => h.block x hx fun e => hn (hs x e)⟩
theorem Gr.toWr {w w' : World} (h : Gr w w') (fp : List Nat) : Wr fp w w' := by
  obtain ⟨x, rfl⟩ := h
  exact ⟨rfl, rfl, rfl, by simp, by simp, fun b hb _ => heap_ext w x hb⟩
theorem Wr.gr {fp : List Nat} {a b c : World} (h : Wr fp a b) (k : Gr b c) : Wr fp a c := h.trans (k.toWr fp)
theorem heap_setCell {w : World} {b o c : Nat} {v : Value} (h : c ≠ b) : (w.setCell ⟨b, o, none⟩ v).heap[c]? = w.heap[c]? := by
  unfold World.setCell
  simp only [Array.getElem?_modify]
  rw [if_neg (fun e => h e.symm)]
theorem size_setCell' {w : World} {a : Addr} {v : Value} : (w.setCell a v).heap.size = w.heap.size := by
  unfold World.setCell; simp
theorem Wr.setCell {fp : List Nat} {a c : World} (h : Wr fp a c) {b o : Nat} (hb : b ∈ fp) (v : Value) : Wr fp a (c.setCell ⟨b, o, none⟩ v) :=
  ⟨h.os, h.tape, h.output, by rw [size_setCell']; exact h.size, h.drawn, fun x hx hn => by rw [heap_setCell (fun e => hn (by rw [e]; exact hb))]; exact h.block x hx hn⟩

theorem Gr.wr {w0 w w' : World} {fp : List Nat} (h : Gr w0 w) (k : Wr fp w w') (hf : ∀ b ∈ fp, w0.heap.size ≤ b) : Gr w0 w' :=
  Gr.of_below ⟨k.os.trans h.below.os, k.tape.trans h.below.tape, k.output.trans h.below.output, Nat.le_trans h.below.size k.size,
    fun b hb => (k.block b (Nat.lt_of_lt_of_le hb h.below.size) (fun e => by have := hf b e; omega)).trans (h.below.block b hb)⟩ (Nat.le_trans h.drawn k.drawn)

theorem Wr.sameOn {fp fq : List Nat} {w w' : World} (h : Wr fp w w') (hlt : ∀ b ∈ fq, b < w.heap.size) (hd : ∀ b ∈ fq, b ∉ fp) : SameOn fq w w' :=
  fun b hb => h.block b (hlt b hb) (hd b hb)

/-- What is read elsewhere is read behind the writes. -/
theorem SlR.wr {α : Type} [Rd α] {fp fq : List Nat} {w w' : World} {v : Value} {xs : List α} (h : SlR fq w v xs) (k : Wr fp w w') (hd : ∀ b ∈ fq, b ∉ fp) : SlR fq w' v xs :=
  h.mono (k.sameOn h.lt hd)
theorem Rd.wr {α : Type} [Rd α] {fp fq : List Nat} {w w' : World} {cs : List Value} {x : α} (h : Rd.rd fq w cs x) (k : Wr fp w w') (hd : ∀ b ∈ fq, b ∉ fp) : Rd.rd fq w' cs x :=
  Rd.mono (k.sameOn (Rd.lt h) hd) h

/-- Writes to n cells of block b from lo on, and into the blocks fq. -/
structure Foc (b lo n : Nat) (fq : List Nat) (w w' : World) : Prop where
  wr : Wr (b :: fq) w w'
  cell : ∀ o, o < lo ∨ lo + n ≤ o → w'.cell? ⟨b, o, none⟩ = w.cell? ⟨b, o, none⟩
  frozen : ∀ o, w'.frozen? ⟨b, o, none⟩ = w.frozen? ⟨b, o, none⟩

theorem cell_setCell_ne {w : World} {b o o' : Nat} {v : Value} (h : o' ≠ o) : (w.setCell ⟨b, o, none⟩ v).cell? ⟨b, o', none⟩ = w.cell? ⟨b, o', none⟩ := by
  unfold World.cell? World.setCell
  simp only [Array.getElem?_modify, if_pos]
  cases hb : w.heap[b]? with
  | none => rfl
  | some x =>
    cases x <;> simp [Ne.symm h]

theorem cell_setCell_eq {w : World} {b o : Nat} {u v : Value} (h : w.cell? ⟨b, o, none⟩ = some u) : (w.setCell ⟨b, o, none⟩ v).cell? ⟨b, o, none⟩ = some v := by
  unfold World.cell? at h
  split at h
  · rename_i c t fr hb
    have hc : c[o]? = some u := by simpa using h
    have hlt : o < c.size := (Array.getElem?_eq_some_iff.1 hc).1
    unfold World.cell? World.setCell
    simp only [Array.getElem?_modify, if_pos]
    simp only [] at hb
    rw [hb]
    simp [hlt]
  · cases h

theorem cell_setCell_blk {w : World} {b c o o' : Nat} {v : Value} (h : c ≠ b) : (w.setCell ⟨b, o, none⟩ v).cell? ⟨c, o', none⟩ = w.cell? ⟨c, o', none⟩ :=
  World.cell?_of_block (heap_setCell h)

theorem frozen_setCell' {w : World} {b c o o' : Nat} {v : Value} : (w.setCell ⟨b, o, none⟩ v).frozen? ⟨c, o', none⟩ = w.frozen? ⟨c, o', none⟩ := by
  unfold World.frozen? World.setCell
  simp only [Array.getElem?_modify]
  by_cases e : b = c
  · subst e
    simp only [if_pos]
    cases hb : w.heap[b]? with
    | none => rfl
    | some x => cases x <;> rfl
  · rw [if_neg e]

theorem Foc.refl (b lo n : Nat) (fq : List Nat) (w : World) : Foc b lo n fq w w := ⟨Wr.refl _ _, fun _ _ => rfl, fun _ => rfl⟩
theorem Foc.set {b lo n : Nat} {fq : List Nat} {w w' : World} (h : Foc b lo n fq w w') {o : Nat} (h1 : lo ≤ o) (h2 : o < lo + n) (v : Value) : Foc b lo n fq w (w'.setCell ⟨b, o, none⟩ v) :=
  ⟨h.wr.setCell (by simp) v, fun o' ho => by rw [cell_setCell_ne (by omega)]; exact h.cell o' ho, fun o' => by rw [frozen_setCell']; exact h.frozen o'⟩
theorem Foc.inner {b lo n : Nat} {fq fs : List Nat} {w w' w'' : World} (h : Foc b lo n fq w w') (hb : b < w.heap.size) (k : Wr fs w' w'') (hs : ∀ c ∈ fs, c ∈ fq) (hn : b ∉ fs) : Foc b lo n fq w w'' := by
  have e : w''.heap[b]? = w'.heap[b]? := k.block b (Nat.lt_of_lt_of_le hb h.wr.size) hn
  exact ⟨h.wr.trans (k.sub fun c hc => List.mem_cons_of_mem _ (hs c hc)), fun o ho => (World.cell?_of_block (a := ⟨b, o, none⟩) e).trans (h.cell o ho),
    fun o => (World.frozen?_of_block (a := ⟨b, o, none⟩) e).trans (h.frozen o)⟩
theorem Foc.gr {b lo n : Nat} {fq : List Nat} {w w' w'' : World} (h : Foc b lo n fq w w') (hb : b < w.heap.size) (k : Gr w' w'') : Foc b lo n fq w w'' :=
  h.inner hb (k.toWr []) (by simp) (by simp)

theorem nodup_app {a b : List Nat} (h : (a ++ b).Nodup) : a.Nodup ∧ b.Nodup ∧ ∀ c ∈ a, c ∉ b := by
  obtain ⟨h1, h2, h3⟩ := List.nodup_append.1 h
  exact ⟨h1, h2, fun c hc hd => h3 c hc c hd rfl⟩

/-- One element of a slice in view: what is written there alone leaves a slice with this element changed. -/
theorem SlR.focus {α : Type} [Rd α] {fp : List Nat} {w : World} {b off len cap : Nat} {xs : List α} (h : SlR fp w (.slice (some ⟨b, off, none⟩) len cap) xs) (hnd : fp.Nodup) {i : Nat} (hi : i < xs.length) :
    ∃ cs fq, CellsAt w b (off + i * Rd.n α) cs ∧ Rd.rd fq w cs xs[i] ∧ (∀ c ∈ fq, c ∈ fp) ∧ b ∈ fp ∧ b ∉ fq ∧ fq.Nodup ∧
      (∀ j, j < Rd.n α → w.frozen? ⟨b, off + i * Rd.n α + j, none⟩ = false) ∧
      ∀ w' cs' y, Foc b (off + i * Rd.n α) (Rd.n α) fq w w' → CellsAt w' b (off + i * Rd.n α) cs' → Rd.rd fq w' cs' y → SlR fp w' (.slice (some ⟨b, off, none⟩) len cap) (xs.set i y) := by
  have hlt := h.lt
  obtain ⟨a, cap', hv, h1, h2, ⟨rfl, rfl⟩ | ⟨b', off', fps, hne, rfl, rfl, hl, hfr, hx⟩⟩ := h
  · simp at hi
  · injection hv with e1 e2 e3
    injection e1 with e1
    injection e1 with e1 e4 _
    subst e1 e4 e2 e3
    have hnd1 := List.nodup_cons.1 hnd
    have hnd2 := List.pairwise_flatten.1 hnd1.2
    have hpw := List.pairwise_iff_getElem.1 hnd2.2
    obtain ⟨cs, hc, hr⟩ := hx i hi (by omega)
    have hmem : ∀ c ∈ fps[i]'(by omega), c ∈ fps.flatten := fun c hc => List.mem_flatten.2 ⟨_, List.getElem_mem _, hc⟩
    refine ⟨cs, fps[i]'(by omega), hc, hr, fun c hc => List.mem_cons_of_mem _ (hmem c hc), by simp, fun e => hnd1.1 (hmem _ e), hnd2.1 _ (List.getElem_mem _), fun j hj => ?_, fun w' cs' y hF hc' hr' => ?_⟩
    · have := hfr (i * Rd.n α + j) (by
        have : (i + 1) * Rd.n α ≤ xs.length * Rd.n α := Nat.mul_le_mul_right _ hi
        rw [Nat.add_mul] at this; omega)
      rwa [← Nat.add_assoc] at this
    · refine ⟨_, cap, by simp, by simpa using h1, by simpa using h2, .inr ⟨b, off, fps, fun e => hne (List.length_eq_zero_iff.1 (by have := congrArg List.length e; simpa using this)), rfl, rfl, by simpa using hl, fun j hj => by rw [hF.frozen]; exact hfr j (by simpa using hj), fun k hk hk' => ?_⟩⟩
      simp only [List.length_set] at hk
      by_cases hki : k = i
      · subst hki
        exact ⟨cs', hc', by simpa using hr'⟩
      · obtain ⟨ck, hck, hrk⟩ := hx k hk hk'
        refine ⟨ck, fun j v hj => ?_, ?_⟩
        · have hjl : j < Rd.n α := by
            have := Rd.len hrk
            have := (List.getElem?_eq_some_iff.1 hj).1
            omega
          rw [hF.cell _ ?_]
          · exact hck j v hj
          · rcases Nat.lt_or_gt_of_ne hki with hlt' | hgt
            · left
              have : (k + 1) * Rd.n α ≤ i * Rd.n α := Nat.mul_le_mul_right _ hlt'
              rw [Nat.add_mul] at this; omega
            · right
              have : (i + 1) * Rd.n α ≤ k * Rd.n α := Nat.mul_le_mul_right _ hgt
              rw [Nat.add_mul] at this; omega
        · rw [List.getElem_set_ne (fun e => hki e.symm)]
          refine Rd.wr hrk hF.wr fun c hck2 hcm => ?_
          rcases List.mem_cons.1 hcm with e | hcm
          · subst e
            exact hnd1.1 (List.mem_flatten.2 ⟨_, List.getElem_mem _, hck2⟩)
          · rcases Nat.lt_or_gt_of_ne hki with hlt' | hgt
            · exact hpw k i hk' (by omega) hlt' c hck2 c hcm rfl
            · exact hpw i k (by omega) hk' hgt c hcm c hck2 rfl

/-- A walk along a list that hands a number on. -/
def markL {α : Type} (f : Int → α → α × Int) : Int → List α → List α × Int
  | k, [] => ([], k)
  | k, x :: xs => ((f k x).1 :: (markL f (f k x).2 xs).1, (markL f (f k x).2 xs).2)

theorem markL_len {α : Type} (f : Int → α → α × Int) (xs : List α) : ∀ k, (markL f k xs).1.length = xs.length := by
  induction xs with
  | nil => intro k; rfl
  | cons x xs ih => intro k; simp [markL, ih]

theorem markL_append {α : Type} (f : Int → α → α × Int) (xs ys : List α) : ∀ k, markL f k (xs ++ ys) = ((markL f k xs).1 ++ (markL f (markL f k xs).2 ys).1, (markL f (markL f k xs).2 ys).2) := by
  induction xs with
  | nil => intro k; rfl
  | cons x xs ih => intro k; simp [markL, ih]

/-- The list of which the first i elements are marked. -/
def markT {α : Type} (f : Int → α → α × Int) (k : Int) (xs : List α) (i : Nat) : List α := (markL f k (xs.take i)).1 ++ xs.drop i

theorem markT_zero {α : Type} (f : Int → α → α × Int) (k : Int) (xs : List α) : markT f k xs 0 = xs := by simp [markT, markL]
theorem markT_all {α : Type} (f : Int → α → α × Int) (k : Int) (xs : List α) : markT f k xs xs.length = (markL f k xs).1 := by simp [markT]
theorem markT_len {α : Type} (f : Int → α → α × Int) (k : Int) (xs : List α) (i : Nat) : (markT f k xs i).length = xs.length := by
  simp [markT, markL_len]; omega

theorem markT_at {α : Type} (f : Int → α → α × Int) (k : Int) (xs : List α) {i : Nat} (hi : i < xs.length) : (markT f k xs i)[i]'(by rw [markT_len]; exact hi) = xs[i] := by
  unfold markT
  rw [List.getElem_append_right (by simp [markL_len]; omega)]
  simp [markL_len, Nat.min_eq_left (Nat.le_of_lt hi)]

theorem markT_succ {α : Type} (f : Int → α → α × Int) (k : Int) (xs : List α) {i : Nat} (hi : i < xs.length) :
    markT f k xs (i + 1) = (markT f k xs i).set i (f (markL f k (xs.take i)).2 xs[i]).1 := by
  unfold markT
  rw [List.take_succ_eq_append_getElem hi, markL_append]
  have hl : (markL f k (xs.take i)).1.length = i := by simp [markL_len]; omega
  rw [List.set_append_right _ _ (by omega), hl, Nat.sub_self]
  rw [List.drop_eq_getElem_cons hi]
  simp only [markL, List.set_cons_zero, List.append_assoc, List.cons_append, List.nil_append]

theorem markK_succ {α : Type} (f : Int → α → α × Int) (k : Int) (xs : List α) {i : Nat} (hi : i < xs.length) :
    (markL f k (xs.take (i + 1))).2 = (f (markL f k (xs.take i)).2 xs[i]).2 := by
  rw [List.take_succ_eq_append_getElem hi, markL_append]; rfl

theorem markL_at {α : Type} (f : Int → α → α × Int) (k : Int) (xs : List α) {i : Nat} (hi : i < xs.length) :
    (markL f k xs).1[i]'(by rw [markL_len]; exact hi) = (f (markL f k (xs.take i)).2 xs[i]).1 := by
  have h : markL f k xs = markL f k (xs.take i ++ xs.drop i) := by rw [List.take_append_drop]
  have hl : (markL f k (xs.take i)).1.length = i := by simp [markL_len]; omega
  have h2 : (markL f k xs).1 = (markL f k (xs.take i)).1 ++ (markL f (markL f k (xs.take i)).2 (xs.drop i)).1 := by rw [h, markL_append]
  have h3 : (markL f k xs).1[i]? = some (f (markL f k (xs.take i)).2 xs[i]).1 := by
    rw [h2, List.getElem?_append_right (by omega), hl, Nat.sub_self, List.drop_eq_getElem_cons hi]
    simp [markL]
  exact (List.getElem_eq_iff _).2 h3

/-- How many marks at most: where each element takes at most what it weighs and c more. -/
theorem markK_le {α : Type} (f : Int → α → α × Int) (g : α → Nat) (hf : ∀ k x, k ≤ (f k x).2 ∧ (f k x).2 ≤ k + g x) (xs : List α) : ∀ k, k ≤ (markL f k xs).2 ∧ (markL f k xs).2 ≤ k + (xs.map g).sum := by
  induction xs with
  | nil => intro k; simp [markL]
  | cons x xs ih =>
    intro k
    have h1 := hf k x
    have h2 := ih (f k x).2
    simp only [markL, List.map_cons, List.sum_cons]
    omega

end Go.Proofs.Ytmfcagcanhmdbaa
