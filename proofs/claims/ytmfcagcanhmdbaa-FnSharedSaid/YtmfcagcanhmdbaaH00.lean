/- Words for worlds that have only grown (new blocks, draws), and for cells of memory that read as data of Lean. No condition. -/
import Derived.WalkKit
import Derived.OpenShut
import Derived.Deep.QuietTactic
import Derived.BigQuiet
import Derived.Lib.Hide
import Derived.Deep.DeepFit
import Derived.WalkSmall
namespace Go.Proofs.Ytmfcagcanhmdbaa
open Go.RowKit

structure Ext where
 objs : Array Obj
 drawn : Nat

instance : Inhabited Ext := ⟨⟨#[], 0⟩⟩

def _root_.Go.World.ext (w : World) (x : Ext) : World := { w with heap := w.heap ++ x.objs, drawn := w.drawn + x.drawn }

section
variable (w : World) (x y : Ext)

@[simp, go_sem] theorem size_ext : (w.ext x).heap.size = w.heap.size + x.objs.size := by simp [World.ext]
@[simp, go_sem] theorem drawn_ext : (w.ext x).drawn = w.drawn + x.drawn := rfl

theorem heap_ext {b : Nat} (h : b < w.heap.size) : (w.ext x).heap[b]? = w.heap[b]? := by
 simp [World.ext, Array.getElem?_append, h]

@[simp, go_sem] theorem cell?_ext {b o : Nat} {s : Option Nat} (h : b < w.heap.size) : (w.ext x).cell? ⟨b, o, s⟩ = w.cell? ⟨b, o, s⟩ :=
 World.cell?_of_block (heap_ext w x h)
@[simp, go_sem] theorem frozen?_ext {b o : Nat} {s : Option Nat} (h : b < w.heap.size) : (w.ext x).frozen? ⟨b, o, s⟩ = w.frozen? ⟨b, o, s⟩ :=
 World.frozen?_of_block (heap_ext w x h)

@[simp, go_sem] theorem lt_size_ext {b : Nat} (h : b < w.heap.size) : (b < w.heap.size + x.objs.size) = True := by
 simp; omega
@[simp, go_sem] theorem lt_size_one {b n : Nat} (h : b < n) : (b < n + 1) = True := by
 simp; omega
@[simp, go_sem] theorem lt_size_add {b n m : Nat} (h : b < n) : (b < n + m) = True := by
 simp; omega

@[go_sem] theorem setCell_ext {b o : Nat} {s : Option Nat} {v : Value} (h : b < w.heap.size) : (w.ext x).setCell ⟨b, o, s⟩ v = (w.setCell ⟨b, o, s⟩ v).ext x := by
 unfold World.setCell World.ext
 congr 1
 apply Array.ext_getElem?
 intro k
 simp only [Array.getElem?_modify, Array.getElem?_append, Array.size_modify]
 by_cases hk : b = k
 ·subst hk
  simp [h]
 ·simp [hk]

@[simp, go_sem] theorem lt_size_add2 {b n m0 m1 : Nat} (h : b < n) : (b < n + m0 + m1) = True := by
 simp; omega
@[simp, go_sem] theorem lt_size_add3 {b n m0 m1 m2 : Nat} (h : b < n) : (b < n + m0 + m1 + m2) = True := by
 simp; omega
@[simp, go_sem] theorem lt_size_add4 {b n m0 m1 m2 m3 : Nat} (h : b < n) : (b < n + m0 + m1 + m2 + m3) = True := by
 simp; omega
@[simp, go_sem] theorem lt_size_add5 {b n m0 m1 m2 m3 m4 : Nat} (h : b < n) : (b < n + m0 + m1 + m2 + m3 + m4) = True := by
 simp; omega
@[simp, go_sem] theorem lt_size_add6 {b n m0 m1 m2 m3 m4 m5 : Nat} (h : b < n) : (b < n + m0 + m1 + m2 + m3 + m4 + m5) = True := by
 simp; omega
@[simp, go_sem] theorem lt_size_add7 {b n m0 m1 m2 m3 m4 m5 m6 : Nat} (h : b < n) : (b < n + m0 + m1 + m2 + m3 + m4 + m5 + m6) = True := by
 simp; omega
@[simp, go_sem] theorem lt_size_add8 {b n m0 m1 m2 m3 m4 m5 m6 m7 : Nat} (h : b < n) : (b < n + m0 + m1 + m2 + m3 + m4 + m5 + m6 + m7) = True := by
 simp; omega
@[simp, go_sem] theorem lt_size_add9 {b n m0 m1 m2 m3 m4 m5 m6 m7 m8 : Nat} (h : b < n) : (b < n + m0 + m1 + m2 + m3 + m4 + m5 + m6 + m7 + m8) = True := by
 simp; omega
@[simp, go_sem] theorem lt_size_add10 {b n m0 m1 m2 m3 m4 m5 m6 m7 m8 m9 : Nat} (h : b < n) : (b < n + m0 + m1 + m2 + m3 + m4 + m5 + m6 + m7 + m8 + m9) = True := by
 simp; omega
@[simp, go_sem] theorem lt_size_add11 {b n m0 m1 m2 m3 m4 m5 m6 m7 m8 m9 m10 : Nat} (h : b < n) : (b < n + m0 + m1 + m2 + m3 + m4 + m5 + m6 + m7 + m8 + m9 + m10) = True := by
 simp; omega
@[simp, go_sem] theorem lt_size_add12 {b n m0 m1 m2 m3 m4 m5 m6 m7 m8 m9 m10 m11 : Nat} (h : b < n) : (b < n + m0 + m1 + m2 + m3 + m4 + m5 + m6 + m7 + m8 + m9 + m10 + m11) = True := by
 simp; omega
@[simp, go_sem] theorem lt_size_add13 {b n m0 m1 m2 m3 m4 m5 m6 m7 m8 m9 m10 m11 m12 : Nat} (h : b < n) : (b < n + m0 + m1 + m2 + m3 + m4 + m5 + m6 + m7 + m8 + m9 + m10 + m11 + m12) = True := by
 simp; omega
@[simp, go_sem] theorem lt_size_add14 {b n m0 m1 m2 m3 m4 m5 m6 m7 m8 m9 m10 m11 m12 m13 : Nat} (h : b < n) : (b < n + m0 + m1 + m2 + m3 + m4 + m5 + m6 + m7 + m8 + m9 + m10 + m11 + m12 + m13) = True := by
 simp; omega

theorem ext_below : Below w.heap.size w (w.ext x) :=
 ⟨rfl, rfl, rfl, by simp, fun _ hk => heap_ext w x hk⟩

end

def Gr (w w' : World) : Prop := ∃ x, w' = w.ext x

theorem Gr.of_below {w w' : World} (h : Below w.heap.size w w') (hd : w.drawn ≤ w'.drawn) : Gr w w' := by
 refine ⟨⟨w'.heap.extract w.heap.size w'.heap.size, w'.drawn - w.drawn⟩, ?_⟩
 obtain ⟨h1, h2, h3, h4, h5⟩ := h
 cases w; cases w'
 simp only [World.ext, World.mk.injEq] at *
 refine ⟨?_, h2, by omega, h1, h3⟩
 apply Array.ext_getElem?
 intro i
 rw [Array.getElem?_append]
 split
 ·rename_i hi; exact h5 i hi
 ·rename_i hi
  rw [Array.getElem?_extract]
  split
  ·congr 1; omega
  ·exact Array.getElem?_eq_none (by omega)

theorem Gr.below {w w' : World} (h : Gr w w') : Below w.heap.size w w' := by
 obtain ⟨x, rfl⟩ := h; exact ext_below w x

theorem Gr.drawn {w w' : World} (h : Gr w w') : w.drawn ≤ w'.drawn := by
 obtain ⟨x, rfl⟩ := h; simp

theorem Gr.refl (w : World) : Gr w w := ⟨⟨#[], 0⟩, by simp [World.ext]⟩
theorem Gr.trans {a b c : World} (h : Gr a b) (k : Gr b c) : Gr a c :=
 Gr.of_below (h.below.trans (k.below.mono h.below.size)) (Nat.le_trans h.drawn k.drawn)
theorem Gr.ext {a b : World} (h : Gr a b) (x : Ext) : Gr a (b.ext x) := h.trans ⟨x, rfl⟩
theorem Gr.alloc {a b : World} (h : Gr a b) (o : Obj) : Gr a (b.alloc o) :=
 h.trans (Gr.of_below ((Below.refl _ _).alloc (Nat.le_refl _) o) (Nat.le_refl _))
theorem Gr.drew {a b : World} (h : Gr a b) : Gr a b.drew :=
 h.trans (Gr.of_below ((Below.refl _ _).drew) (Nat.le_succ _))
theorem gd {a b : World} (h : Gr a b := by repeat (first | exact Gr.refl _ | apply Gr.ext | apply Gr.alloc | apply Gr.drew)) : Gr a b := h
theorem Gr.setCell {a b : World} (h : Gr a b) {p : Addr} (hp : a.heap.size ≤ p.block) (v : Value) : Gr a (b.setCell p v) :=
 Gr.of_below (h.below.setCell hp v) h.drawn

theorem Gr.size {w w' : World} (h : Gr w w') : w.heap.size ≤ w'.heap.size := h.below.size

def Ext.comp (x y : Ext) : Ext := ⟨x.objs ++ y.objs, x.drawn + y.drawn⟩

theorem ext_ext (w : World) (x y : Ext) : (w.ext x).ext y = w.ext (x.comp y) := by
 simp [World.ext, Ext.comp, Array.append_assoc, Nat.add_assoc]

theorem ext_zero (w : World) : w.ext ⟨#[], 0⟩ = w := by simp [World.ext]

theorem wp_region_grown {P : Program} {id : Nat} {Q : Exit → Act → World → Prop} {a : Act} {w : World} {l : List Oper} (hm : P.follows .mixedOrders = true) (hB : Region.lexB .any l.toArray = true)
  (h : wpQuiet P l.toArray (fun w' => ∃ x, w' = w.ext x) (fun a' => ∀ w', (∃ x, w' = w.ext x) → Q .normal a' w') l a) : (Code.region id l.toArray true).wp P Q a w :=
 wp_region_quiet (C := fun w' => ∃ x, w' = w.ext x) hm hB (Gr.drew (Gr.refl w)) (by simpa using h)

theorem grown_call {P : Program} {f : FuncId} {args : Array Value} {w : World} {x : Ext} {v : Value}
  (h : Calls P f args (w.ext x) fun e w' => e = .returned v ∧ Gr (w.ext x) w') : Calls P f args (w.ext x) fun e w'' => e = .returned v ∧ ∃ y, w'' = w.ext y :=
 h.mono fun _ _ ⟨he, hg⟩ => ⟨he, ((Gr.refl w).ext x).trans hg⟩

def SameOn (fp : List Nat) (w w' : World) : Prop := ∀ b ∈ fp, w'.heap[b]? = w.heap[b]?

theorem SameOn.refl (fp : List Nat) (w : World) : SameOn fp w w := fun _ _ => rfl
theorem SameOn.trans {fp : List Nat} {a b c : World} (h : SameOn fp a b) (k : SameOn fp b c) : SameOn fp a c := fun x hx => (k x hx).trans (h x hx)
theorem SameOn.sub {fp fq : List Nat} {w w' : World} (h : SameOn fp w w') (hs : ∀ b ∈ fq, b ∈ fp) : SameOn fq w w' := fun b hb => h b (hs b hb)
theorem SameOn.cell {fp : List Nat} {w w' : World} (h : SameOn fp w w') {b : Nat} (hb : b ∈ fp) (o : Nat) : w'.cell? ⟨b, o, none⟩ = w.cell? ⟨b, o, none⟩ := World.cell?_of_block (a := ⟨b, o, none⟩) (h b hb)
theorem SameOn.frozen {fp : List Nat} {w w' : World} (h : SameOn fp w w') {b : Nat} (hb : b ∈ fp) (o : Nat) : w'.frozen? ⟨b, o, none⟩ = w.frozen? ⟨b, o, none⟩ := World.frozen?_of_block (a := ⟨b, o, none⟩) (h b hb)
theorem Gr.sameOn {w w' : World} (h : Gr w w') {fp : List Nat} (hf : ∀ b ∈ fp, b < w.heap.size) : SameOn fp w w' := fun b hb => h.below.block b (hf b hb)

def CellsAt (w : World) (b off : Nat) (cs : List Value) : Prop := ∀ j v, cs[j]? = some v → w.cell? ⟨b, off + j, none⟩ = some v

theorem blk {w : World} {b o : Nat} {v : Value} (h : w.cell? ⟨b, o, none⟩ = some v) : b < w.heap.size := World.block_lt_of_cell? w ⟨b, o, none⟩ h

class Rd (α : Type) where
 n : Nat
 pos : 0 < n
 rd : List Nat → World → List Value → α → Prop
 len : ∀ {fp w cs x}, rd fp w cs x → cs.length = n
 lt : ∀ {fp w cs x}, rd fp w cs x → ∀ b ∈ fp, b < w.heap.size
 mono : ∀ {fp w w' cs x}, SameOn fp w w' → rd fp w cs x → rd fp w' cs x
 one : ∀ {fp w cs x}, rd fp w cs x → ∀ u ∈ cs, u.oneCell' = true

instance : Rd Int where
 n := 1
 pos := by omega
 rd fp _ cs x := fp = [] ∧ cs = [.int .i64 x] ∧ (Lit.int .i64 x).wf = true
 len h := by simp [h.2.1]
 lt h := by simp [h.1]
 mono _ h := h
 one h u hu := by rw [h.2.1] at hu; simp at hu; subst hu; rfl

instance : Rd Bool where
 n := 1
 pos := by omega
 rd fp _ cs x := fp = [] ∧ cs = [.bool x]
 len h := by simp [h.2]
 lt h := by simp [h.1]
 mono _ h := h
 one h u hu := by rw [h.2] at hu; simp at hu; subst hu; rfl

instance : Rd ByteArray where
 n := 1
 pos := by omega
 rd fp _ cs x := fp = [] ∧ cs = [.string x] ∧ x.size ≤ maxLen
 len h := by simp [h.2.1]
 lt h := by simp [h.1]
 mono _ h := h
 one h u hu := by rw [h.2.1] at hu; simp at hu; subst hu; rfl

def reachLen : Nat := 140737488351232

def RowR {α : Type} [Rd α] (w : World) (b off : Nat) (fps : List (List Nat)) (xs : List α) : Prop :=
 fps.length = xs.length ∧ (∀ j, j < xs.length * Rd.n α → w.frozen? ⟨b, off + j, none⟩ = false) ∧ ∀ i (h : i < xs.length) (h' : i < fps.length), ∃ cs, CellsAt w b (off + i * Rd.n α) cs ∧ Rd.rd fps[i] w cs xs[i]

def SlR {α : Type} [Rd α] (fp : List Nat) (w : World) (v : Value) (xs : List α) : Prop :=
 ∃ a cap, v = .slice a xs.length cap ∧ xs.length ≤ cap ∧ xs.length ≤ reachLen ∧
  ((xs = [] ∧ fp = []) ∨ ∃ b off fps, xs ≠ [] ∧ a = some ⟨b, off, none⟩ ∧ fp = b :: fps.flatten ∧ RowR w b off fps xs)

theorem rd_cell {α : Type} [Rd α] {w : World} {b off : Nat} {fp : List Nat} {cs : List Value} {x : α} (hc : CellsAt w b off cs) (h : Rd.rd fp w cs x) : b < w.heap.size := by
 have hl := Rd.len h
 have hp := Rd.pos (α := α)
 cases cs with
 | nil => simp at hl; omega
 | cons c cs => exact blk (hc 0 c rfl)

theorem SlR.lt {α : Type} [Rd α] {fp : List Nat} {w : World} {v : Value} {xs : List α} (h : SlR fp w v xs) : ∀ b ∈ fp, b < w.heap.size := by
 obtain ⟨a, cap, rfl, h1, h2, ⟨rfl, rfl⟩ | ⟨b, off, fps, hne, rfl, rfl, hl, hfr, hx⟩⟩ := h
 ·simp
 ·intro c hc
  have h0 : 0 < xs.length := List.length_pos_iff.2 hne
  rcases List.mem_cons.1 hc with rfl | hc
  ·obtain ⟨cs, hc, hr⟩ := hx 0 h0 (by omega)
   exact rd_cell hc hr
  ·obtain ⟨f, hf, hcf⟩ := List.mem_flatten.1 hc
   obtain ⟨i, hi, rfl⟩ := List.mem_iff_getElem.1 hf
   obtain ⟨cs, _, hr⟩ := hx i (by omega) hi
   exact Rd.lt hr c hcf

theorem RowR.mono {α : Type} [Rd α] {w w' : World} {b off : Nat} {fps : List (List Nat)} {xs : List α} (h : RowR w b off fps xs) (hw : SameOn (b :: fps.flatten) w w') : RowR w' b off fps xs := by
 obtain ⟨hl, hfr, hx⟩ := h
 refine ⟨hl, fun j hj => by rw [hw.frozen (by simp)]; exact hfr j hj, fun i hi hi' => ?_⟩
 obtain ⟨cs, hc, hr⟩ := hx i hi hi'
 refine ⟨cs, fun j v hj => by rw [hw.cell (by simp)]; exact hc j v hj, Rd.mono (hw.sub fun c hc => ?_) hr⟩
 exact List.mem_cons_of_mem _ (List.mem_flatten.2 ⟨_, List.getElem_mem hi', hc⟩)

theorem SlR.mono {α : Type} [Rd α] {fp : List Nat} {w w' : World} {v : Value} {xs : List α} (hw : SameOn fp w w') (h : SlR fp w v xs) : SlR fp w' v xs := by
 obtain ⟨a, cap, rfl, h1, h2, h3⟩ := h
 refine ⟨a, cap, rfl, h1, h2, ?_⟩
 rcases h3 with h3 | ⟨b, off, fps, hne, rfl, rfl, hx⟩
 ·exact .inl h3
 ·exact .inr ⟨b, off, fps, hne, rfl, rfl, hx.mono hw⟩

theorem SlR.gr {α : Type} [Rd α] {fp : List Nat} {w w' : World} {v : Value} {xs : List α} (h : SlR fp w v xs) (hw : Gr w w') : SlR fp w' v xs := h.mono (hw.sameOn h.lt)

theorem Rd.gr {α : Type} [Rd α] {fp : List Nat} {w w' : World} {cs : List Value} {x : α} (h : Rd.rd fp w cs x) (hw : Gr w w') : Rd.rd fp w' cs x := Rd.mono (hw.sameOn (Rd.lt h)) h

instance {α : Type} [Rd α] : Rd (List α) where
 n := 1
 pos := by omega
 rd fp w cs x := ∃ v, cs = [v] ∧ SlR fp w v x
 len h := by obtain ⟨v, rfl, _⟩ := h; rfl
 lt h := by obtain ⟨v, rfl, h⟩ := h; exact h.lt
 mono hw h := by obtain ⟨v, rfl, h⟩ := h; exact ⟨v, rfl, h.mono hw⟩
 one h u hu := by obtain ⟨v, rfl, a, cap, rfl, _⟩ := h; simp at hu; subst hu; rfl

theorem SlR.open {α : Type} [Rd α] {fp : List Nat} {w : World} {v : Value} {xs : List α} (h : SlR fp w v xs) :
  ∃ a cap, v = .slice a xs.length cap ∧ xs.length ≤ cap ∧ xs.length ≤ 140737488351232 ∧
   ∀ i (_ : i < xs.length), ∃ b off, a = some ⟨b, off, none⟩ ∧ b < w.heap.size := by
 have hlt := h.lt
 obtain ⟨a, cap, rfl, h1, h2, ⟨rfl, rfl⟩ | ⟨b, off, fps, hne, rfl, rfl, hl, hfr, hx⟩⟩ := h
 ·exact ⟨a, cap, rfl, h1, h2, fun i hi => absurd hi (by simp)⟩
 ·exact ⟨_, cap, rfl, h1, h2, fun i hi => ⟨b, off, rfl, hlt b (by simp)⟩⟩

theorem SlR.at {α : Type} [Rd α] {fp : List Nat} {w : World} {b off len cap : Nat} {xs : List α} (h : SlR fp w (.slice (some ⟨b, off, none⟩) len cap) xs) {i : Nat} (hi : i < xs.length) :
  ∃ cs fq, CellsAt w b (off + i * Rd.n α) cs ∧ Rd.rd fq w cs xs[i] ∧ (∀ c ∈ fq, c ∈ fp) := by
 obtain ⟨a, cap, hv, h1, h2, ⟨rfl, rfl⟩ | ⟨b', off', fps, hne, rfl, rfl, hl, hfr, hx⟩⟩ := h
 ·simp at hi
 ·injection hv with e1 e2 e3
  injection e1 with e1
  injection e1 with e1 e4 _
  subst e1 e4
  obtain ⟨cs, hc, hr⟩ := hx i hi (by omega)
  exact ⟨cs, _, hc, hr, fun c hc => List.mem_cons_of_mem _ (List.mem_flatten.2 ⟨_, List.getElem_mem _, hc⟩)⟩

theorem SlR.int_at {fp : List Nat} {w : World} {b off len cap : Nat} {xs : List Int} (h : SlR fp w (.slice (some ⟨b, off, none⟩) len cap) xs) {i : Nat} (hi : i < xs.length) :
  w.cell? ⟨b, off + i, none⟩ = some (.int .i64 xs[i]) ∧ (Lit.int .i64 xs[i]).wf = true := by
 obtain ⟨cs, fq, hc, ⟨rfl, rfl, hw⟩, _⟩ := h.at hi
 exact ⟨by simpa [Rd.n] using hc 0 _ rfl, hw⟩

theorem SlR.str_at {fp : List Nat} {w : World} {b off len cap : Nat} {xs : List ByteArray} (h : SlR fp w (.slice (some ⟨b, off, none⟩) len cap) xs) {i : Nat} (hi : i < xs.length) :
  w.cell? ⟨b, off + i, none⟩ = some (.string xs[i]) ∧ xs[i].size ≤ maxLen := by
 obtain ⟨cs, fq, hc, ⟨rfl, rfl, hw⟩, _⟩ := h.at hi
 exact ⟨by simpa [Rd.n] using hc 0 _ rfl, hw⟩

theorem SlR.sl_at {α : Type} [Rd α] {fp : List Nat} {w : World} {b off len cap : Nat} {xs : List (List α)} (h : SlR fp w (.slice (some ⟨b, off, none⟩) len cap) xs) {i : Nat} (hi : i < xs.length) :
  ∃ v fq, w.cell? ⟨b, off + i, none⟩ = some v ∧ SlR fq w v xs[i] ∧ (∀ c ∈ fq, c ∈ fp) := by
 obtain ⟨cs, fq, hc, ⟨v, rfl, hw⟩, hs⟩ := h.at hi
 exact ⟨v, fq, by simpa [Rd.n] using hc 0 _ rfl, hw, hs⟩

theorem SlR.length_le {α : Type} [Rd α] {fp : List Nat} {w : World} {v : Value} {xs : List α} (h : SlR fp w v xs) : xs.length ≤ 140737488351232 := by
 obtain ⟨_, _, _, _, h2, _⟩ := h
 exact h2

theorem SlR.nil {α : Type} [Rd α] (w : World) : SlR (α := α) [] w (.slice none 0 0) [] := ⟨none, 0, rfl, Nat.le_refl _, by simp, .inl ⟨rfl, rfl⟩⟩

theorem cellsAt_block {w : World} {b : Nat} {C : Array Value} {t : TypeId} {fr : Nat × Nat} (hb : w.heap[b]? = some (.cells C t fr)) {off : Nat} {cs : List Value} (h : ∀ j v, cs[j]? = some v → C[off + j]? = some v) : CellsAt w b off cs := by
 intro j v hj
 rw [cell_of_row w b (off + j) C t fr hb]
 exact h j v hj

theorem frozen_block {w : World} {b : Nat} {C : Array Value} {t : TypeId} (hb : w.heap[b]? = some (.cells C t)) (o : Nat) : w.frozen? ⟨b, o, none⟩ = false := by
 unfold World.frozen?; rw [hb]; simp

theorem SlR.flat {α : Type} [Rd α] {w : World} {b : Nat} {C : Array Value} {t : TypeId} {cap : Nat} {xs : List α} (hb : w.heap[b]? = some (.cells C t)) (hn : Rd.n α = 1)
  (hx : ∀ i (h : i < xs.length), ∃ c, C[i]? = some c ∧ Rd.rd [] w [c] xs[i]) (hcap : xs.length ≤ cap) (hr : xs.length ≤ reachLen) :
  ∃ fp, SlR fp w (.slice (some ⟨b, 0, none⟩) xs.length cap) xs ∧ (fp = [] ∨ fp = [b]) := by
 by_cases h0 : xs = []
 ·subst h0
  exact ⟨[], ⟨_, _, rfl, hcap, hr, .inl ⟨rfl, rfl⟩⟩, .inl rfl⟩
 ·have hfl : ∀ n : Nat, (List.replicate n ([] : List Nat)).flatten = [] := by intro n; simp
  refine ⟨[b], ⟨_, _, rfl, hcap, hr, .inr ⟨b, 0, List.replicate xs.length [], h0, rfl, by rw [hfl], by simp, fun j _ => frozen_block hb _, fun i hi hi' => ?_⟩⟩, .inr rfl⟩
  obtain ⟨c, hc, hrd⟩ := hx i hi
  refine ⟨[c], cellsAt_block hb fun j v hj => ?_, by simpa using hrd⟩
  cases j with
  | zero => simp at hj; subst hj; simpa [hn] using hc
  | succ j => simp at hj

def Fresh (w : World) (fp : List Nat) : Prop := fp.Nodup ∧ ∀ b ∈ fp, w.heap.size ≤ b

theorem ret_bool {a b : Bool} (h : a = b) : Ending.returned (.bool a) = Ending.returned (.bool b) := by rw [h]
theorem ret_int {a b : Int} (h : a = b) : Ending.returned (.int .i64 a) = Ending.returned (.int .i64 b) := by rw [h]

def idxOf {α : Type} (p : α → Bool) : List α → Int
 | [] => -1
 | x :: xs => if p x then 0 else let r := idxOf p xs; if r < 0 then -1 else r + 1

theorem idxOf_ge {α : Type} (p : α → Bool) (xs : List α) : -1 ≤ idxOf p xs := by
 induction xs with
 | nil => simp [idxOf]
 | cons x xs ih =>
  simp only [idxOf]
  split
  ·omega
  ·split <;> omega

theorem idxOf_at {α : Type} {p : α → Bool} {xs : List α} {k : Nat} (hk : k < xs.length) (hp : p xs[k] = true) (h : ∀ j (h : j < xs.length), j < k → p xs[j] = false) : idxOf p xs = k := by
 induction xs generalizing k with
 | nil => simp at hk
 | cons x xs ih =>
  cases k with
  | zero => simp at hp; simp [idxOf, hp]
  | succ k =>
   have h0 := h 0 (by simp) (by omega)
   simp at h0
   have := ih (k := k) (by simpa using hk) (by simpa using hp) (fun j hj hjk => by
    have h1 := h (j + 1) (by simp; omega) (by omega)
    rwa [List.getElem_cons_succ] at h1)
   simp [idxOf, h0, this]
   omega

theorem idxOf_none {α : Type} {p : α → Bool} {xs : List α} (h : ∀ j (h : j < xs.length), p xs[j] = false) : idxOf p xs = -1 := by
 induction xs with
 | nil => rfl
 | cons x xs ih =>
  have h0 := h 0 (by simp)
  simp at h0
  have := ih (fun j hj => by
   have h1 := h (j + 1) (by simp; omega)
   rwa [List.getElem_cons_succ] at h1)
  simp [idxOf, h0, this]

theorem any_eq_at {xs : List Int} {y : Int} {k : Nat} (hk : k < xs.length) (h : (xs[k] == y) = true) : xs.any (fun z => y == z) = true := by
 rw [List.any_eq_true]
 exact ⟨xs[k], List.getElem_mem hk, by simp at h ⊢; exact h.symm⟩

theorem any_eq_none {xs : List Int} {y : Int} (h : ∀ j (h : j < xs.length), (xs[j] == y) = false) : xs.any (fun z => y == z) = false := by
 rw [List.any_eq_false]
 intro z hz
 obtain ⟨j, hj, rfl⟩ := List.mem_iff_getElem.1 hz
 have := h j hj
 simp at this ⊢
 exact fun e => this e.symm

theorem idxOf_nonneg {α : Type} {p : α → Bool} {xs : List α} : 0 ≤ idxOf p xs ↔ xs.any p = true := by
 induction xs with
 | nil => simp [idxOf]
 | cons x xs ih =>
  simp only [idxOf, List.any_cons, Bool.or_eq_true, ← ih]
  by_cases hx : p x = true
  ·simp [hx]
  ·have := idxOf_ge p xs
   simp only [hx, Bool.false_eq_true, if_false, false_or]
   split <;> omega

theorem Fresh.cons {w : World} {b : Nat} (hb : w.heap.size ≤ b) : Fresh w [b] := ⟨by simp, by simpa using hb⟩

theorem Fresh.append {w w1 : World} {fp fq : List Nat} (h : Fresh w fp) (hw : w.heap.size ≤ w1.heap.size) (hlt : ∀ b ∈ fp, b < w1.heap.size) (k : Fresh w1 fq) : Fresh w (fp ++ fq) := by
 refine ⟨List.nodup_append.2 ⟨h.1, k.1, fun a ha b hb e => ?_⟩, fun b hb => ?_⟩
 ·have := hlt a ha; have := k.2 b hb; omega
 ·rcases List.mem_append.1 hb with hb | hb
  ·exact h.2 b hb
  ·have := k.2 b hb; omega

theorem Fresh.sub {w : World} {fp fq : List Nat} (h : Fresh w fp) (hs : fq.Sublist fp) : Fresh w fq := ⟨h.1.sublist hs, fun b hb => h.2 b (hs.subset hb)⟩
theorem Fresh.of_le {w w1 : World} {fp : List Nat} (h : Fresh w1 fp) (hw : w.heap.size ≤ w1.heap.size) : Fresh w fp := ⟨h.1, fun b hb => Nat.le_trans hw (h.2 b hb)⟩
theorem Fresh.nil (w : World) : Fresh w [] := ⟨by simp, by simp⟩

structure PartR {α : Type} [Rd α] (w0 : World) (b : Nat) (w : World) (C : Array Value) (k : Nat) (fps : List (List Nat)) (xs : List α) : Prop where
 len : fps.length = k
 le : k ≤ xs.length
 rows : ∀ i (_ : i < k) (h1 : i < xs.length) (h2 : i < fps.length), ∃ cs, (∀ j v, cs[j]? = some v → C[i * Rd.n α + j]? = some v) ∧ Rd.rd fps[i] w cs xs[i]
 fresh : Fresh w0 (b :: fps.flatten)
 lt : ∀ c ∈ b :: fps.flatten, c < w.heap.size

theorem PartR.start {α : Type} [Rd α] {w0 : World} {b : Nat} {w : World} (C : Array Value) (xs : List α) (hb : w0.heap.size ≤ b) (hl : b < w.heap.size) : PartR w0 b w C 0 [] xs :=
 ⟨rfl, Nat.zero_le _, fun i h => absurd h (Nat.not_lt_zero _), by simpa using Fresh.cons hb, by simpa using hl⟩

theorem PartR.step {α : Type} [Rd α] {w0 : World} {b : Nat} {w w1 w2 : World} {C C' : Array Value} {k : Nat} {fps : List (List Nat)} {xs : List α} (h : PartR w0 b w C k fps xs) (hk : k < xs.length)
  {fq : List Nat} {cs : List Value} (hs : SameOn fps.flatten w w2) (hz : w.heap.size ≤ w1.heap.size) (hz0 : w0.heap.size ≤ w.heap.size) (hz2 : w1.heap.size ≤ w2.heap.size)
  (hr : Rd.rd fq w2 cs xs[k]) (hf : Fresh w1 fq) (hold : ∀ j, j < k * Rd.n α → C'[j]? = C[j]?) (hnew : ∀ j v, cs[j]? = some v → C'[k * Rd.n α + j]? = some v) :
  PartR w0 b w2 C' (k + 1) (fps ++ [fq]) xs := by
 obtain ⟨h1, h2, h3, h4, h5⟩ := h
 refine ⟨by simp [h1], hk, fun i hi hi1 hi2 => ?_, ?_, ?_⟩
 ·by_cases hik : i < k
  ·obtain ⟨cs', hc, hr'⟩ := h3 i hik hi1 (by omega)
   refine ⟨cs', fun j v hj => ?_, ?_⟩
   ·have hjl : j < Rd.n α := by
     have := Rd.len hr'
     have := (List.getElem?_eq_some_iff.1 hj).1
     omega
    have hm : i * Rd.n α + j < k * Rd.n α := by
     have : (i + 1) * Rd.n α ≤ k * Rd.n α := Nat.mul_le_mul_right _ hik
     rw [Nat.add_mul] at this
     omega
    rw [hold _ hm]
    exact hc j v hj
   ·rw [List.getElem_append_left (by omega)]
    exact Rd.mono (hs.sub fun c hc => List.mem_flatten.2 ⟨_, List.getElem_mem _, hc⟩) hr'
  ·obtain rfl : i = k := by omega
   refine ⟨cs, hnew, ?_⟩
   rw [List.getElem_append_right (by omega)]
   simpa [h1] using hr
 ·have := h4.append (fq := fq) (w1 := w1) (by omega) (fun c hc => Nat.lt_of_lt_of_le (h5 c hc) hz) hf
  simpa using this
 ·intro c hc
  rw [List.flatten_append] at hc
  simp only [List.flatten_cons, List.flatten_nil, List.append_nil, List.mem_cons, List.mem_append] at hc
  rcases hc with rfl | hc | hc
  ·exact Nat.lt_of_lt_of_le (h5 c (by simp)) (by omega)
  ·exact Nat.lt_of_lt_of_le (h5 c (List.mem_cons_of_mem _ hc)) (by omega)
  ·exact Rd.lt hr c hc

theorem PartR.keep {α : Type} [Rd α] {w0 : World} {b : Nat} {w w2 : World} {C : Array Value} {k : Nat} {fps : List (List Nat)} {xs : List α} (h : PartR w0 b w C k fps xs)
  (hs : SameOn fps.flatten w w2) (hz : w.heap.size ≤ w2.heap.size) : PartR w0 b w2 C k fps xs := by
 obtain ⟨h1, h2, h3, h4, h5⟩ := h
 refine ⟨h1, h2, fun i hi hi1 hi2 => ?_, h4, fun c hc => Nat.lt_of_lt_of_le (h5 c hc) hz⟩
 obtain ⟨cs, hc, hr⟩ := h3 i hi hi1 hi2
 exact ⟨cs, hc, Rd.mono (hs.sub fun c hc => List.mem_flatten.2 ⟨_, List.getElem_mem _, hc⟩) hr⟩

theorem PartR.done {α : Type} [Rd α] {w0 : World} {b : Nat} {w : World} {C : Array Value} {fps : List (List Nat)} {xs : List α} (h : PartR w0 b w C xs.length fps xs)
  {t : TypeId} (hb : w.heap[b]? = some (.cells C t)) {cap : Nat} (hcap : xs.length ≤ cap) (hr : xs.length ≤ reachLen) :
  ∃ fp, SlR fp w (.slice (some ⟨b, 0, none⟩) xs.length cap) xs ∧ Fresh w0 fp := by
 obtain ⟨h1, h2, h3, h4, h5⟩ := h
 by_cases h0 : xs = []
 ·subst h0
  exact ⟨[], ⟨_, _, rfl, hcap, hr, .inl ⟨rfl, rfl⟩⟩, Fresh.nil _⟩
 ·refine ⟨b :: fps.flatten, ⟨_, _, rfl, hcap, hr, .inr ⟨b, 0, fps, h0, rfl, rfl, h1, fun j _ => frozen_block hb _, fun i hi hi' => ?_⟩⟩, h4⟩
  obtain ⟨cs, hc, hrd⟩ := h3 i hi hi hi'
  exact ⟨cs, cellsAt_block hb (fun j v hj => by rw [Nat.zero_add]; exact hc j v hj), hrd⟩

end Go.Proofs.Ytmfcagcanhmdbaa
