/- Rows of one's own that read as data, whatever the elements lead to; what 'append' makes of them. 'append' to a row of one's own, in a world that has grown. No condition. -/
import Derived.Test.YtmfcagcanhmdbaaH05
import Derived.Maps.AppendAt
import Derived.Deep.Upon
import Derived.Test.YtmfcagcanhmdbaaH02
namespace Go.Proofs.Ytmfcagcanhmdbaa
open Go.RowKit

theorem ownsRow_gr {w w' : World} {base n size : Nat} {e : TypeId} {v : Value} {xs : List Value} (h : w.ownsRow base e size v n xs) (hg : Gr w w') : w'.ownsRow base e size v n xs :=
 h.kept (row := none) ⟨hg.below.os, hg.below.tape, hg.below.output, hg.below.size, fun k hk _ => hg.below.block k hk⟩ (by cases hb : v.ownBlock <;> simp)

theorem ownForm {w : World} {base size n : Nat} {e : TypeId} {v : Value} {xs : List Value} (h : w.ownsRow base e size v n xs) (hn : 0 < n) :
  ∃ g cap, v = .slice (some ⟨g, 0, none⟩) n cap ∧ base ≤ g ∧ g < w.heap.size := by
 rcases h.2 with ⟨_, h0⟩ | ⟨g, cap, cur, hv, hb, hg, _⟩
 ·omega
 ·refine ⟨g, cap, hv, hb, ?_⟩
  rcases Nat.lt_or_ge g w.heap.size with hlt | hge
  ·exact hlt
  ·rw [Array.getElem?_eq_none hge] at hg; cases hg

theorem wf_small {y : Int} (h0 : 0 ≤ y) (h1 : y ≤ 140737488351232) : (Lit.int .i64 y).wf = true := by
 simp only [Lit.wf, Bool.and_eq_true, decide_eq_true_eq]
 have e1 : IntKind.i64.min = -9223372036854775808 := by decide
 have e2 : IntKind.i64.max = 9223372036854775807 := by decide
 omega

theorem intRd {y : Int} (h : (Lit.int .i64 y).wf = true) (w : World) : Rd.rd (α := Int) [] w [.int .i64 y] y := ⟨rfl, rfl, h⟩

theorem Gr.grown {w0 w w' : World} (h : Gr w0 w) {row : Option Nat} (hg : w.grownBy w' row) (hrow : ∀ b, row = some b → w0.heap.size ≤ b) (hd : w.drawn ≤ w'.drawn) : Gr w0 w' := by
 refine Gr.of_below ⟨hg.os.trans h.below.os, hg.tape.trans h.below.tape, hg.output.trans h.below.output, Nat.le_trans h.below.size hg.size, fun k hk => ?_⟩ (Nat.le_trans h.drawn hd)
 rw [hg.block k (Nat.lt_of_lt_of_le hk h.below.size) (fun e => by have := hrow k e.symm; omega)]
 exact h.below.block k hk

theorem flat_get {css : List (List Value)} {n : Nat} (hn : ∀ c ∈ css, c.length = n) {i j : Nat} (hi : i < css.length) (hj : j < n) : css.flatten[i * n + j]? = css[i][j]? := by
 induction css generalizing i with
 | nil => simp at hi
 | cons c css ih =>
  have hc : c.length = n := hn c (by simp)
  rw [List.flatten_cons]
  cases i with
  | zero =>
   rw [Nat.zero_mul, Nat.zero_add, List.getElem?_append_left (by omega)]
   rfl
  | succ i =>
   rw [List.getElem?_append_right (by rw [hc, Nat.add_mul]; omega), hc]
   have e : (i + 1) * n + j - n = i * n + j := by rw [Nat.add_mul]; omega
   rw [e, ih (fun d hd => hn d (List.mem_cons_of_mem _ hd)) (by simpa using hi)]
   rfl

theorem flat_len {css : List (List Value)} {n : Nat} (hn : ∀ c ∈ css, c.length = n) : css.flatten.length = css.length * n := by
 induction css with
 | nil => simp
 | cons c css ih =>
  rw [List.flatten_cons, List.length_append, hn c (by simp), ih (fun d hd => hn d (List.mem_cons_of_mem _ hd)), List.length_cons, Nat.add_mul]
  omega

structure Els {α : Type} [Rd α] (w : World) (css : List (List Value)) (fps : List (List Nat)) (xs : List α) : Prop where
 cl : css.length = xs.length
 fl : fps.length = xs.length
 rd : ∀ i (h : i < xs.length) (h1 : i < css.length) (h2 : i < fps.length), Rd.rd fps[i] w css[i] xs[i]

theorem Els.nil {α : Type} [Rd α] (w : World) : Els (α := α) w [] [] [] := ⟨rfl, rfl, fun _ h => absurd h (Nat.not_lt_zero _)⟩
theorem Els.one {α : Type} [Rd α] {w : World} {cs : List Value} {fq : List Nat} {x : α} (h : Rd.rd fq w cs x) : Els w [cs] [fq] [x] :=
 ⟨rfl, rfl, fun i h0 _ _ => by
  obtain rfl : i = 0 := by simpa using h0
  exact h⟩
theorem Els.n {α : Type} [Rd α] {w : World} {css : List (List Value)} {fps : List (List Nat)} {xs : List α} (h : Els w css fps xs) : ∀ c ∈ css, c.length = Rd.n α := by
 intro c hc
 obtain ⟨i, hi, rfl⟩ := List.mem_iff_getElem.1 hc
 exact Rd.len (h.rd i (by rw [← h.cl]; exact hi) hi (by rw [h.fl, ← h.cl]; exact hi))
theorem Els.mono {α : Type} [Rd α] {w w' : World} {css : List (List Value)} {fps : List (List Nat)} {xs : List α} (h : Els w css fps xs) (hs : SameOn fps.flatten w w') : Els w' css fps xs :=
 ⟨h.cl, h.fl, fun i h0 h1 h2 => Rd.mono (hs.sub fun _ hc => List.mem_flatten.2 ⟨_, List.getElem_mem h2, hc⟩) (h.rd i h0 h1 h2)⟩
theorem Els.lt {α : Type} [Rd α] {w : World} {css : List (List Value)} {fps : List (List Nat)} {xs : List α} (h : Els w css fps xs) : ∀ b ∈ fps.flatten, b < w.heap.size := by
 intro b hb
 obtain ⟨f, hf, hbf⟩ := List.mem_flatten.1 hb
 obtain ⟨i, hi, rfl⟩ := List.mem_iff_getElem.1 hf
 exact Rd.lt (h.rd i (by rw [← h.fl]; exact hi) (by rw [h.cl, ← h.fl]; exact hi) hi) b hbf
theorem Els.app {α : Type} [Rd α] {w : World} {css dss : List (List Value)} {fps gps : List (List Nat)} {xs ys : List α} (h : Els w css fps xs) (k : Els w dss gps ys) : Els w (css ++ dss) (fps ++ gps) (xs ++ ys) := by
 refine ⟨by simp [h.cl, k.cl], by simp [h.fl, k.fl], fun i h0 h1 h2 => ?_⟩
 have e1 := h.cl
 have e2 := h.fl
 by_cases hi : i < xs.length
 ·rw [List.getElem_append_left (by omega), List.getElem_append_left (by omega), List.getElem_append_left hi]
  exact h.rd i hi _ _
 ·simp only [List.length_append] at h0 h1 h2
  have r := k.rd (i - xs.length) (by omega) (by have := k.cl; omega) (by have := k.fl; omega)
  rw [List.getElem_append_right (by omega), List.getElem_append_right (by omega), List.getElem_append_right (by omega)]
  simpa [e1, e2] using r
theorem Els.oneCell {α : Type} [Rd α] {w : World} {css : List (List Value)} {fps : List (List Nat)} {xs : List α} (h : Els w css fps xs) : ∀ u ∈ css.flatten, u.oneCell' = true := by
 intro u hu
 obtain ⟨c, hc, huc⟩ := List.mem_flatten.1 hu
 obtain ⟨i, hi, rfl⟩ := List.mem_iff_getElem.1 hc
 exact Rd.one (h.rd i (by rw [← h.cl]; exact hi) hi (by rw [h.fl, ← h.cl]; exact hi)) u huc

structure OwnR {α : Type} [Rd α] (w0 : World) (e : TypeId) (w : World) (v : Value) (fps : List (List Nat)) (xs : List α) : Prop where
 own : ∃ css : List (List Value), w.ownsRow w0.heap.size e (Rd.n α) v xs.length css.flatten ∧ Els w css fps xs
 apart : ∀ b, v.ownBlock = some b → b ∉ fps.flatten

theorem OwnR.nil {α : Type} [Rd α] (w0 w : World) (e : TypeId) : OwnR (α := α) w0 e w (.slice none 0 0) [] [] :=
 ⟨⟨[], World.ownsRow_nil _ _ _ _, Els.nil w⟩, fun _ _ => by simp⟩
theorem OwnR.lit0 {α : Type} [Rd α] {w0 w : World} (e : TypeId) (h : w0.heap.size ≤ w.heap.size) {g : Nat} (hg : g = w.heap.size) : OwnR (α := α) w0 e (w.alloc (.cells #[] e)) (.slice (some ⟨g, 0, none⟩) 0 0) [] [] := by
 subst hg
 exact ⟨⟨[], World.ownsRow_lit w #[] 0 h (Nat.zero_le _) (by simp), Els.nil _⟩, fun _ _ => by simp⟩
theorem OwnR.gr {α : Type} [Rd α] {w0 w w' : World} {e : TypeId} {v : Value} {fps : List (List Nat)} {xs : List α} (h : OwnR w0 e w v fps xs) (hg : Gr w w') : OwnR w0 e w' v fps xs := by
 obtain ⟨⟨css, ho, hE⟩, ha⟩ := h
 exact ⟨⟨css, ownsRow_gr ho hg, hE.mono (hg.sameOn hE.lt)⟩, ha⟩
theorem OwnR.form {α : Type} [Rd α] {w0 w : World} {e : TypeId} {v : Value} {fps : List (List Nat)} {xs : List α} (h : OwnR w0 e w v fps xs) : ∃ a c, v = .slice a xs.length c := by
 obtain ⟨⟨css, ho, hE⟩, ha⟩ := h
 rcases ho.2 with ⟨rfl, h0⟩ | ⟨g, cap, cur, rfl, _⟩
 ·exact ⟨none, 0, by rw [h0]⟩
 ·exact ⟨_, cap, rfl⟩
theorem OwnR.base {α : Type} [Rd α] {w0 w : World} {e : TypeId} {v : Value} {fps : List (List Nat)} {xs : List α} (h : OwnR w0 e w v fps xs) : ∀ b, v.ownBlock = some b → w0.heap.size ≤ b ∧ b < w.heap.size := by
 obtain ⟨⟨css, ho, hE⟩, ha⟩ := h
 exact ho.lt
theorem OwnR.lt {α : Type} [Rd α] {w0 w : World} {e : TypeId} {v : Value} {fps : List (List Nat)} {xs : List α} (h : OwnR w0 e w v fps xs) : ∀ b ∈ fps.flatten, b < w.heap.size := by
 obtain ⟨⟨css, ho, hE⟩, ha⟩ := h
 exact hE.lt
theorem OwnR.fl {α : Type} [Rd α] {w0 w : World} {e : TypeId} {v : Value} {fps : List (List Nat)} {xs : List α} (h : OwnR w0 e w v fps xs) : fps.length = xs.length := by
 obtain ⟨⟨css, ho, hE⟩, ha⟩ := h
 exact hE.fl
theorem OwnR.wr {α : Type} [Rd α] {w0 w w' : World} {e : TypeId} {v : Value} {fps : List (List Nat)} {xs : List α} {fq : List Nat} (h : OwnR w0 e w v fps xs) (hw : Wr fq w w') (h1 : ∀ b ∈ fps.flatten, b ∉ fq) (h2 : ∀ b, v.ownBlock = some b → b ∉ fq) : OwnR w0 e w' v fps xs := by
 obtain ⟨⟨css, ho, hE⟩, ha⟩ := h
 refine ⟨⟨css, ⟨ho.1, ?_⟩, hE.mono (hw.sameOn hE.lt h1)⟩, ha⟩
 rcases ho.2 with h0 | ⟨g, cap, cur, rfl, hb, hg, hr⟩
 ·exact .inl h0
 ·have hgl : g < w.heap.size := by
   rcases Nat.lt_or_ge g w.heap.size with hlt | hge
   ·exact hlt
   ·rw [Array.getElem?_eq_none hge] at hg; cases hg
  exact .inr ⟨g, cap, cur, rfl, hb, by rw [hw.block g hgl (h2 g rfl)]; exact hg, hr⟩

theorem OwnR.slR {α : Type} [Rd α] {w0 w : World} {e : TypeId} {v : Value} {fps : List (List Nat)} {xs : List α} (h : OwnR w0 e w v fps xs) (hlen : xs.length ≤ reachLen) :
  ∃ fp, SlR fp w v xs ∧ ((xs = [] ∧ fp = []) ∨ ∃ b, v.ownBlock = some b ∧ fp = b :: fps.flatten) := by
 obtain ⟨⟨css, ho, hE⟩, ha⟩ := h
 by_cases h0 : xs = []
 ·subst h0
  rcases ho.2 with ⟨rfl, _⟩ | ⟨g, cap, cur, rfl, _⟩
  ·exact ⟨[], SlR.nil w, .inl ⟨rfl, rfl⟩⟩
  ·exact ⟨[], ⟨_, cap, rfl, by simp, by simp, .inl ⟨rfl, rfl⟩⟩, .inl ⟨rfl, rfl⟩⟩
 ·have hp : 0 < xs.length := List.length_pos_iff.2 h0
  rcases ho.2 with ⟨_, hz⟩ | ⟨g, cap, cur, rfl, hb, hg, hnc, hcm, hcs, htake⟩
  ·omega
  ·refine ⟨g :: fps.flatten, ⟨_, cap, rfl, hnc, hlen, .inr ⟨g, 0, fps, h0, rfl, rfl, hE.fl, fun j _ => frozen_block hg _, fun i hi hi' => ?_⟩⟩, .inr ⟨g, rfl, rfl⟩⟩
   have hic : i < css.length := by rw [hE.cl]; exact hi
   refine ⟨css[i], cellsAt_block hg fun j u hj => ?_, hE.rd i hi hic hi'⟩
   have hjl : j < Rd.n α := by
    have := hE.n _ (List.getElem_mem hic)
    have := (List.getElem?_eq_some_iff.1 hj).1
    omega
   have h1 := flat_get hE.n hic hjl
   have h2 : i * Rd.n α + j < xs.length * Rd.n α := by
    have : (i + 1) * Rd.n α ≤ xs.length * Rd.n α := Nat.mul_le_mul_right _ hi
    rw [Nat.add_mul] at this; omega
   have h3 : (cur.toList.take (xs.length * Rd.n α))[i * Rd.n α + j]? = css.flatten[i * Rd.n α + j]? := by rw [htake]
   rw [List.getElem?_take_of_lt h2, h1, hj] at h3
   rw [Nat.zero_add]
   simpa using h3

theorem OwnR.fresh {α : Type} [Rd α] {w0 w : World} {e : TypeId} {v : Value} {fps : List (List Nat)} {xs : List α} (h : OwnR w0 e w v fps xs) (hlen : xs.length ≤ reachLen) (hf : Fresh w0 fps.flatten) :
  ∃ fp, SlR fp w v xs ∧ Fresh w0 fp := by
 obtain ⟨fp, hs, ⟨rfl, rfl⟩ | ⟨b, hb, rfl⟩⟩ := h.slR hlen
 ·exact ⟨[], hs, Fresh.nil _⟩
 ·exact ⟨_, hs, List.nodup_cons.2 ⟨h.apart b hb, hf.1⟩, fun c hc => by
   rcases List.mem_cons.1 hc with rfl | hc
   ·exact (h.base _ hb).1
   ·exact hf.2 c hc⟩

def SrcR {α : Type} [Rd α] (w : World) (x : Value) (gps : List (List Nat)) (ys : List α) : Prop :=
 (ys = [] ∧ gps = [] ∧ ∃ a c, x = .slice a 0 c) ∨
 ∃ b off c css, x = .slice (some ⟨b, off, none⟩) ys.length c ∧ Els w css gps ys ∧ ∀ j u, css.flatten[j]? = some u → w.cell? ⟨b, off + j, none⟩ = some u

theorem SrcR.one {α : Type} [Rd α] {w : World} {fq : List Nat} {cs : Array Value} {e : TypeId} {y : α} {g : Nat} (hg : g = w.heap.size) (h : Rd.rd fq (w.alloc (.cells cs e)) cs.toList y) :
  SrcR (w.alloc (.cells cs e)) (.slice (some ⟨g, 0, none⟩) 1 1) [fq] [y] := by
 subst hg
 refine .inr ⟨w.heap.size, 0, 1, [cs.toList], rfl, Els.one h, fun j u hj => ?_⟩
 rw [Nat.zero_add, World.cell?_alloc_new]
 simpa using hj

theorem SrcR.of_slR {α : Type} [Rd α] {w : World} {fp : List Nat} {v : Value} {ys : List α} (h : SlR fp w v ys) : ∃ gps, SrcR w v gps ys ∧ (∀ c ∈ gps.flatten, c ∈ fp) ∧ (fp.Nodup → gps.flatten.Nodup) := by
 obtain ⟨a, cap, rfl, h1, h2, ⟨rfl, rfl⟩ | ⟨b, off, fps, hne, rfl, rfl, hl, hfr, hx⟩⟩ := h
 ·exact ⟨[], .inl ⟨rfl, rfl, _, cap, rfl⟩, by simp, by simp⟩
 ·have each : ∀ i, ∃ cs : List Value, ∀ (h : i < ys.length) (h' : i < fps.length), CellsAt w b (off + i * Rd.n α) cs ∧ Rd.rd fps[i] w cs ys[i] := by
   intro i
   by_cases hi : i < ys.length
   ·obtain ⟨cs, hc, hr⟩ := hx i hi (by omega)
    exact ⟨cs, fun _ _ => ⟨hc, hr⟩⟩
   ·exact ⟨[], fun h => absurd h hi⟩
  obtain ⟨f, hf⟩ := Classical.axiomOfChoice each
  have hE : Els w ((List.range ys.length).map f) fps ys := ⟨by simp, hl, fun i h0 h1 h2 => by simpa using (hf i h0 h2).2⟩
  refine ⟨fps, .inr ⟨b, off, cap, _, rfl, hE, fun j u hj => ?_⟩, fun c hc => List.mem_cons_of_mem _ hc, fun hn => (List.nodup_cons.1 hn).2⟩
  have hjl : j < ys.length * Rd.n α := by
   have := (List.getElem?_eq_some_iff.1 hj).1
   rw [flat_len hE.n] at this
   simpa using this
  have hp := Rd.pos (α := α)
  have hi : j / Rd.n α < ys.length := Nat.div_lt_of_lt_mul (by rw [Nat.mul_comm]; exact hjl)
  have hm := Nat.mod_lt j hp
  have hd : j / Rd.n α * Rd.n α + j % Rd.n α = j := by rw [Nat.mul_comm]; exact Nat.div_add_mod j _
  have h1 := flat_get hE.n (i := j / Rd.n α) (j := j % Rd.n α) (by simpa using hi) hm
  rw [hd, hj] at h1
  have := (hf (j / Rd.n α) hi (by omega)).1 (j % Rd.n α) u (by simpa using h1.symm)
  rwa [Nat.add_assoc, hd] at this

section
variable {P : Program}

theorem run_append_gr {w : World} (base : Nat) (t ty e : TypeId) (i : TypeInfo) (z : Value) (size bytes : Nat) (ht : P.underlying t = some (.slice e)) (hi : P.info? e = some i) (hz : i.zero = some z)
  (hsize : i.size = size) (hby : i.bytes = bytes) (hzs : z.cells.size = size) (hsz : 0 < size)
  (v : Value) (n : Nat) (xs : List Value) (hown : w.ownsRow base e size v n xs)
  (a : Addr) (m c : Nat) (news : List Value) (hl : news.length = m * size) (hnews : ∀ j u, news[j]? = some u → w.cell? (a.add j) = some u) (h1 : ∀ u ∈ news, u.oneCell' = true) (hm : 0 < m)
  (h63 : n + m ≤ maxLen) (hbytes : (n + m) * bytes ≤ 140737488355328) (hbase : base ≤ w.heap.size) :
  ∃ v' w', (Builtin.append_ #[t, t] ty #[v, .slice (some a) m c]).run P w = .ok v' w' ∧ w'.ownsRow base e size v' (n + m) (xs ++ news) ∧ w.grownBy w' v.ownBlock ∧ w.drawn ≤ w'.drawn := by
 obtain ⟨v', w', hr, h2, h3, -⟩ := run_append_own (P := P) w base t ty e i z size bytes ht hi hz hsize hby hzs hsz v n xs hown a m c news hl hnews h1 h63 hbytes hbase
 refine ⟨v', w', hr, h2, h3, ?_⟩
 subst hsize
 subst hby
 have hsmall : n + m ≤ 9223372036854775807 := by simp only [maxLen] at h63; omega
 rcases hown.2 with ⟨rfl, rfl⟩ | ⟨g, cap, cur, rfl, hbg, hg, hnc, hcm, hcs, htake⟩
 ·have hr2 := run_append_nil (P := P) w t ty e i z ht hi hz a m c news hl hnews hm (by omega) (by have hb := hbytes; simp only [Nat.zero_add] at hb; omega)
  have := hr.symm.trans hr2
  injection this with _ e2
  rw [e2]
  show w.drawn ≤ w.drawn + 1
  omega
 ·by_cases hroom : n + m ≤ cap
  ·have hfit : n * i.size + news.length ≤ cur.size := by rw [hl, hcs, ← Nat.add_mul]; exact Nat.mul_le_mul_right _ hroom
   have hr2 := run_append_room (P := P) w t ty e i ht hi g n cap cur hg a m c news hl hnews h1 hroom hfit
   have := hr.symm.trans hr2
   injection this with _ e2
   rw [e2]
   exact Nat.le_refl _
  ·have holds : ∀ j u, xs[j]? = some u → w.cell? ((⟨g, 0, none⟩ : Addr).add j) = some u := hown.cells (g := g) rfl
   have hr2 := run_append_grow (P := P) w t ty e i z ht hi hz ⟨g, 0, none⟩ n cap xs hown.1 holds a m c news hl hnews (by omega) (by omega) (growslice_fits (by omega) hbytes)
   have := hr.symm.trans hr2
   injection this with _ e2
   rw [e2]
   show w.drawn ≤ w.drawn + 1
   omega

theorem run_append_RB {α : Type} [Rd α] {wg w0 w : World} (hG : Gr wg w) (hgw : wg.heap.size ≤ w0.heap.size) (h0w : w0.heap.size ≤ w.heap.size) (t ty e : TypeId) (i : TypeInfo) (z : Value) (bytes : Nat) (ht : P.underlying t = some (.slice e)) (hi : P.info? e = some i) (hz : i.zero = some z)
  (hsize : i.size = Rd.n α) (hby : i.bytes = bytes) (hzs : z.cells.size = Rd.n α) {v : Value} {fps : List (List Nat)} {xs : List α} (hown : OwnR w0 e w v fps xs)
  {x : Value} {gps : List (List Nat)} {ys : List α} (hsrc : SrcR w x gps ys) (hap : ∀ b, v.ownBlock = some b → b ∉ gps.flatten) (h63 : xs.length + ys.length ≤ maxLen) (hbytes : (xs.length + ys.length) * bytes ≤ 140737488355328) :
  ∃ v' w', (Builtin.append_ #[t, t] ty #[v, x]).run P w = .ok v' w' ∧ OwnR w0 e w' v' (fps ++ gps) (xs ++ ys) ∧ w.grownBy w' v.ownBlock ∧ (v'.ownBlock = v.ownBlock ∨ v'.ownBlock = some w.heap.size) ∧ Gr wg w' ∧ w.drawn ≤ w'.drawn := by
 have hbase := hown.base
 have hlt := hown.lt
 have hapart := hown.apart
 obtain ⟨a1, c1, hv1⟩ := hown.form
 obtain ⟨⟨css, ho, hE⟩, ha⟩ := hown
 rcases hsrc with ⟨rfl, rfl, a, c, rfl⟩ | ⟨b, off, c, dss, rfl, hF, hnews⟩
 ·have hs : Src P i.size t (.slice a 0 c) 0 [] w := by
   cases a with
   | none => exact Src.ofNil w ht c
   | some a => exact Src.ofSlice w ht a 0 c [] (by simp) (by simp) (by simp)
  have hle : xs.length ≤ c1 := by
   rcases ho.2 with ⟨rfl, h0⟩ | ⟨g, cap, cur, rfl, _, _, hnc, _⟩
   ·omega
   ·injection hv1 with _ _ e3; omega
  have hr := run_append_nothing (P := P) w t t ty e i ht hi a1 xs.length c1 hle _ hs
  rw [← hv1] at hr
  exact ⟨v, w, hr, ⟨⟨css, by simpa using ho, by simpa using hE⟩, by simpa using ha⟩, ⟨rfl, rfl, rfl, Nat.le_refl _, fun _ _ _ => rfl⟩, .inl rfl, hG, Nat.le_refl _⟩
 ·have hp := Rd.pos (α := α)
  have hl : dss.flatten.length = ys.length * Rd.n α := by rw [flat_len hF.n, hF.cl]
  have hn2 : ∀ j u, dss.flatten[j]? = some u → w.cell? ((⟨b, off, none⟩ : Addr).add j) = some u := by
   intro j u hj
   have e : (⟨b, off, none⟩ : Addr).add j = ⟨b, off + j, none⟩ := by
    unfold Addr.add
    split
    ·rename_i e; subst e; rfl
    ·rfl
   rw [e]; exact hnews j u hj
  obtain ⟨v', w', hr, h2, h3, -, h5⟩ := run_append_own_at (P := P) w w0.heap.size t ty e i z (Rd.n α) bytes ht hi hz hsize hby hzs hp v xs.length _ ho ⟨b, off, none⟩ ys.length c _ hl hn2 hF.oneCell h63 hbytes h0w
  have hd : w.drawn ≤ w'.drawn := by
   by_cases h0 : ys.length = 0
   ·have hs : Src P i.size t (.slice (some ⟨b, off, none⟩) ys.length c) 0 [] w := by
     rw [h0]; exact Src.ofSlice w ht _ 0 c [] (by simp) (by simp) (by simp)
    have hle : xs.length ≤ c1 := by
     rcases ho.2 with ⟨rfl, h0⟩ | ⟨g, cap, cur, rfl, _, _, hnc, _⟩
     ·omega
     ·injection hv1 with _ _ e3; omega
    have hr2 := run_append_nothing (P := P) w t t ty e i ht hi a1 xs.length c1 hle _ hs
    rw [← hv1] at hr2
    have := hr.symm.trans hr2
    injection this with _ e2
    rw [e2]
    exact Nat.le_refl _
   ·obtain ⟨v2, w2, hr2, -, -, h4⟩ := run_append_gr (P := P) (w := w) w0.heap.size t ty e i z (Rd.n α) bytes ht hi hz hsize hby hzs hp v xs.length _ ho ⟨b, off, none⟩ ys.length c _ hl hn2 hF.oneCell (by omega) h63 hbytes h0w
    have := hr.symm.trans hr2
    injection this with _ e2
    rw [e2]
    exact h4
  have hs1 : SameOn fps.flatten w w' := fun c hc => h3.block c (hlt c hc) fun e => hapart c e.symm hc
  have hs2 : SameOn gps.flatten w w' := fun c hc => h3.block c (hF.lt c hc) fun e => hap c e.symm hc
  refine ⟨v', w', hr, ⟨⟨css ++ dss, by simpa using h2, (hE.mono hs1).app (hF.mono hs2)⟩, fun b' hb' hm => ?_⟩, h3, h5, hG.grown h3 (fun b hb => Nat.le_trans hgw (hbase b hb).1) hd, hd⟩
  rw [List.flatten_append, List.mem_append] at hm
  rcases h5 with e5 | e5
  ·rw [e5] at hb'
   rcases hm with hm | hm
   ·exact hapart b' hb' hm
   ·exact hap b' hb' hm
  ·rw [e5] at hb'
   injection hb' with hb'
   subst hb'
   rcases hm with hm | hm
   ·exact Nat.lt_irrefl _ (hlt _ hm)
   ·exact Nat.lt_irrefl _ (hF.lt _ hm)

theorem run_append_R {α : Type} [Rd α] {w0 w : World} (hG : Gr w0 w) (t ty e : TypeId) (i : TypeInfo) (z : Value) (bytes : Nat) (ht : P.underlying t = some (.slice e)) (hi : P.info? e = some i) (hz : i.zero = some z)
  (hsize : i.size = Rd.n α) (hby : i.bytes = bytes) (hzs : z.cells.size = Rd.n α) {v : Value} {fps : List (List Nat)} {xs : List α} (hown : OwnR w0 e w v fps xs)
  {x : Value} {gps : List (List Nat)} {ys : List α} (hsrc : SrcR w x gps ys) (hap : ∀ b, v.ownBlock = some b → b ∉ gps.flatten) (h63 : xs.length + ys.length ≤ maxLen) (hbytes : (xs.length + ys.length) * bytes ≤ 140737488355328) :
  ∃ v' w', (Builtin.append_ #[t, t] ty #[v, x]).run P w = .ok v' w' ∧ OwnR w0 e w' v' (fps ++ gps) (xs ++ ys) ∧ w.grownBy w' v.ownBlock ∧ (v'.ownBlock = v.ownBlock ∨ v'.ownBlock = some w.heap.size) ∧ Gr w0 w' := by
 obtain ⟨v', w', h1, h2, h3, h4, h5, -⟩ := run_append_RB (P := P) hG (Nat.le_refl _) hG.size t ty e i z bytes ht hi hz hsize hby hzs hown hsrc hap h63 hbytes
 exact ⟨v', w', h1, h2, h3, h4, h5⟩

theorem Wr.of_grown {w w' : World} {row : Option Nat} (h : w.grownBy w' row) (hd : w.drawn ≤ w'.drawn) : Wr row.toList w w' :=
 ⟨h.os, h.tape, h.output, h.size, hd, fun b hb hn => h.block b hb fun e => hn (by rw [← e]; simp)⟩

theorem wpList_append_R {α : Type} [Rd α] {w0 w : World} (hG : Gr w0 w) {ops : Array Oper} {rest : List Oper} {o : Oper} {a : Act} {Q : Exit → Act → World → Prop} (hgd : o.guard = none) (s x : Operand) (t : TypeId)
  (ho : o.op = .call { callee := .builtin .append, args := #[s, x], argTypes := #[t, t] })
  (e : TypeId) (i : TypeInfo) (z : Value) (bytes : Nat) (ht : P.underlying t = some (.slice e)) (hi : P.info? e = some i) (hz : i.zero = some z)
  (hsize : i.size = Rd.n α) (hby : i.bytes = bytes) (hzs : z.cells.size = Rd.n α)
  (v : Value) (fps : List (List Nat)) (xs : List α) (hs : a.eval s = v) (hown : OwnR w0 e w v fps xs)
  (xv : Value) (gps : List (List Nat)) (ys : List α) (hx : a.eval x = xv) (hsrc : SrcR w xv gps ys) (hap : ∀ b, v.ownBlock = some b → b ∉ gps.flatten)
  (h63 : xs.length + ys.length ≤ maxLen) (hbytes : (xs.length + ys.length) * bytes ≤ 140737488355328)
  (h : ∀ v' w', OwnR w0 e w' v' (fps ++ gps) (xs ++ ys) → w.grownBy w' v.ownBlock → (v'.ownBlock = v.ownBlock ∨ v'.ownBlock = some w.heap.size) → Gr w0 w' → wpList P ops Q rest (a.put o.dst v') w') : wpList P ops Q (o :: rest) a w := by
 refine wpList_plain hgd fun K hK => ?_
 obtain ⟨v', w', hr, h2, h3, h4, h5⟩ := run_append_R (P := P) hG t o.type e i z bytes ht hi hz hsize hby hzs hown hsrc hap h63 hbytes
 unfold Oper.wp execOp
 simp only [ho, resolve, invoke, builtin, Sem.run_bind, Sem.run_pure, Result.andThen_ok, List.map_toArray, List.map_cons, List.map_nil, hs, hx, hr]
 exact hK _ _ (h v' w' h2 h3 h4 h5)

theorem wpList_append_RB {α : Type} [Rd α] {wg w0 w : World} (hG : Gr wg w) (hgw : wg.heap.size ≤ w0.heap.size) (h0w : w0.heap.size ≤ w.heap.size) {ops : Array Oper} {rest : List Oper} {o : Oper} {a : Act} {Q : Exit → Act → World → Prop} (hgd : o.guard = none) (s x : Operand) (t : TypeId)
  (ho : o.op = .call { callee := .builtin .append, args := #[s, x], argTypes := #[t, t] })
  (e : TypeId) (i : TypeInfo) (z : Value) (bytes : Nat) (ht : P.underlying t = some (.slice e)) (hi : P.info? e = some i) (hz : i.zero = some z)
  (hsize : i.size = Rd.n α) (hby : i.bytes = bytes) (hzs : z.cells.size = Rd.n α)
  (v : Value) (fps : List (List Nat)) (xs : List α) (hs : a.eval s = v) (hown : OwnR w0 e w v fps xs)
  (xv : Value) (gps : List (List Nat)) (ys : List α) (hx : a.eval x = xv) (hsrc : SrcR w xv gps ys) (hap : ∀ b, v.ownBlock = some b → b ∉ gps.flatten)
  (h63 : xs.length + ys.length ≤ maxLen) (hbytes : (xs.length + ys.length) * bytes ≤ 140737488355328)
  (h : ∀ v' w', OwnR w0 e w' v' (fps ++ gps) (xs ++ ys) → Wr v.ownBlock.toList w w' → (v'.ownBlock = v.ownBlock ∨ v'.ownBlock = some w.heap.size) → Gr wg w' → wpList P ops Q rest (a.put o.dst v') w') : wpList P ops Q (o :: rest) a w := by
 refine wpList_plain hgd fun K hK => ?_
 obtain ⟨v', w', hr, h2, h3, h4, h5, h6⟩ := run_append_RB (P := P) hG hgw h0w t o.type e i z bytes ht hi hz hsize hby hzs hown hsrc hap h63 hbytes
 unfold Oper.wp execOp
 simp only [ho, resolve, invoke, builtin, Sem.run_bind, Sem.run_pure, Result.andThen_ok, List.map_toArray, List.map_cons, List.map_nil, hs, hx, hr]
 exact hK _ _ (h v' w' h2 (Wr.of_grown h3 h6) h4 h5)
end
end Go.Proofs.Ytmfcagcanhmdbaa

namespace Go.Proofs.Ytmfcagcanhmdbaa
open Go.RowKit

section
variable {P : Program}
theorem wpList_append_gr {w0 w : World} (hG : Gr w0 w) {ops : Array Oper} {rest : List Oper} {o : Oper} {a : Act} {Q : Exit → Act → World → Prop} (hgd : o.guard = none) (s x : Operand) (t : TypeId)
  (ho : o.op = .call { callee := .builtin .append, args := #[s, x], argTypes := #[t, t] })
  (e : TypeId) (i : TypeInfo) (z : Value) (size bytes : Nat) (ht : P.underlying t = some (.slice e)) (hi : P.info? e = some i) (hz : i.zero = some z)
  (hsize : i.size = size) (hby : i.bytes = bytes) (hzs : z.cells.size = size) (hsz : 0 < size)
  (v : Value) (n : Nat) (xs : List Value) (hs : a.eval s = v) (hown : w.ownsRow w0.heap.size e size v n xs)
  (ad : Addr) (m c : Nat) (news : List Value) (hx : a.eval x = .slice (some ad) m c) (hl : news.length = m * size) (hnews : ∀ j u, news[j]? = some u → w.cell? (ad.add j) = some u) (h1 : ∀ u ∈ news, u.oneCell' = true) (hm : 0 < m)
  (h63 : n + m ≤ maxLen) (hbytes : (n + m) * bytes ≤ 140737488355328)
  (h : ∀ v' w', w'.ownsRow w0.heap.size e size v' (n + m) (xs ++ news) → w.grownBy w' v.ownBlock → Gr w0 w' → wpList P ops Q rest (a.put o.dst v') w') : wpList P ops Q (o :: rest) a w := by
 refine wpList_plain hgd fun K hK => ?_
 obtain ⟨v', w', hr, h2, h3, h4⟩ := run_append_gr (P := P) w0.heap.size t o.type e i z size bytes ht hi hz hsize hby hzs hsz v n xs hown ad m c news hl hnews h1 hm h63 hbytes hG.below.size
 unfold Oper.wp execOp
 simp only [ho, resolve, invoke, builtin, Sem.run_bind, Sem.run_pure, Result.andThen_ok, List.map_toArray, List.map_cons, List.map_nil, hs, hx, hr]
 exact hK _ _ (h v' w' h2 h3 (hG.grown h3 (fun b hb => (hown.lt b hb).1) h4))
end

theorem ownsFlat {α : Type} [Rd α] (hn1 : Rd.n α = 1) (enc : α → Value) {w : World} {base n : Nat} {v : Value} {xs : List α} {e : TypeId} (h : w.ownsRow base e 1 v n (xs.map enc))
  (hw : ∀ y ∈ xs, Rd.rd [] w [enc y] y) (hlen : xs.length ≤ reachLen) : ∃ fq, SlR fq w v xs ∧ (∀ b ∈ fq, base ≤ b ∧ b < w.heap.size) ∧ fq.Nodup ∧ n = xs.length := by
 have hn : n = xs.length := by have := h.1; simpa using this.symm
 subst hn
 rcases h.2 with ⟨rfl, h0⟩ | ⟨g, cap, cur, rfl, hbg, hg, hnc, hcm, hcs, htake⟩
 ·have : xs = [] := List.eq_nil_of_length_eq_zero h0
  subst this
  exact ⟨[], SlR.nil w, by simp, by simp, rfl⟩
 ·have hgl : g < w.heap.size := by
   rcases Nat.lt_or_ge g w.heap.size with hlt | hge
   ·exact hlt
   ·rw [Array.getElem?_eq_none hge] at hg; cases hg
  have hx : ∀ i (h : i < xs.length), ∃ c, cur[i]? = some c ∧ Rd.rd [] w [c] xs[i] := fun i hi => by
   refine ⟨enc xs[i], ?_, hw _ (List.getElem_mem hi)⟩
   have h2 : (cur.toList.take (xs.length * 1))[i]? = (xs.map enc)[i]? := by rw [htake]
   rw [List.getElem?_take_of_lt (by omega), List.getElem?_map, List.getElem?_eq_getElem hi] at h2
   simpa using h2
  obtain ⟨fp, hs, hfp⟩ := SlR.flat (xs := xs) (cap := cap) hg hn1 hx hnc hlen
  refine ⟨fp, hs, ?_, ?_, rfl⟩
  ·rcases hfp with rfl | rfl
   ·simp
   ·intro b hb
    obtain rfl : b = g := by simpa using hb
    exact ⟨hbg, hgl⟩
  ·rcases hfp with rfl | rfl <;> simp
end Go.Proofs.Ytmfcagcanhmdbaa
