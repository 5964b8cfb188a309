/- IsValidStore of the program and of the reference. A subtree interned in a store, plainly. No condition. -/
import Derived.Test.YtmfcagcanhmdbaaH03
import Derived.Test.YtmfcagcanhmdbaaH02
namespace Go.Proofs.Ytmfcagcanhmdbaa
open Go.RowKit

def ValidStore (xs : List GCell) : Prop := ∀ i (h : i < xs.length), (∀ j (hj : j < xs.length), j < i → xs[j] ≠ xs[i]) ∧ ∀ c ∈ xs[i].2.2, 0 ≤ c ∧ c ≤ (i : Int) - 1

noncomputable def validB (xs : List GCell) : Bool := @decide (ValidStore xs) (Classical.propDecidable _)

theorem validB_true {xs : List GCell} (h : ValidStore xs) : validB xs = true := by unfold validB; exact @decide_eq_true _ (Classical.propDecidable _) h
theorem validB_false {xs : List GCell} (h : ¬ ValidStore xs) : validB xs = false := by unfold validB; exact @decide_eq_false _ (Classical.propDecidable _) h
theorem validB_iff {xs : List GCell} : validB xs = true ↔ ValidStore xs := by
 unfold validB; exact @decide_eq_true_iff _ (Classical.propDecidable _)

theorem idxOf_self {xs : List GCell} {i : Nat} (h : i < xs.length) : idxOf (fun z => decide (z = xs[i])) xs = i ↔ ∀ j (hj : j < xs.length), j < i → xs[j] ≠ xs[i] := by
 constructor
 ·intro he j hj hji e
  have h1 : ∃ m, ∃ hm : m < xs.length, m ≤ j ∧ xs[m] = xs[i] ∧ ∀ l (hl : l < xs.length), l < m → xs[l] ≠ xs[i] := by
   have : ∀ n, ∀ j (hj : j < xs.length), j ≤ n → xs[j] = xs[i] → ∃ m, ∃ hm : m < xs.length, m ≤ j ∧ xs[m] = xs[i] ∧ ∀ l (hl : l < xs.length), l < m → xs[l] ≠ xs[i] := by
    intro n
    induction n with
    | zero => intro j hj hj0 e; exact ⟨j, hj, Nat.le_refl _, e, fun l hl hlm => by omega⟩
    | succ n ih =>
     intro j hj hjn e
     by_cases hex : ∃ l, ∃ hl : l < xs.length, l < j ∧ xs[l] = xs[i]
     ·obtain ⟨l, hl, hlj, hle⟩ := hex
      obtain ⟨m, hm, hml, hme, hmn⟩ := ih l hl (by omega) hle
      exact ⟨m, hm, by omega, hme, hmn⟩
     ·exact ⟨j, hj, Nat.le_refl _, e, fun l hl hlj hle => hex ⟨l, hl, hlj, hle⟩⟩
   exact this j j hj (Nat.le_refl _) e
  obtain ⟨m, hm, hmj, hme, hmn⟩ := h1
  have := idxOf_at (p := fun z => decide (z = xs[i])) hm (decide_eq_true hme) (fun l hl hlm => decide_eq_false (hmn l hl hlm))
  omega
 ·intro hn
  exact idxOf_at h (decide_eq_true rfl) (fun j hj hji => decide_eq_false (hn j hj hji))

set_option maxHeartbeats 2000000 in
theorem specValid_any (fp : List Nat) (cs : Array Value) (xs : List GCell) (w : World) (hx : Rd.rd fp w cs.toList xs) :
  Calls Try.prog 23 #[.agg cs] w fun e w' => e = .returned (.bool (validB xs)) ∧ Gr w w' := by
 have hrx := hx
 obtain ⟨v, f, rfl, -, hu⟩ := rdStore_inv xs hx
 obtain ⟨a, ca, rfl, h1, h2, h3⟩ := hu.open
 clear hx
 go_enter Try.func23, Try.ntmps23
 go_wp2
 go_loopw [3, 4] (fun s3 s4 wr => ∃ k : Nat, ∃ x, k ≤ xs.length ∧ (∀ i (h : i < xs.length), i < k → (∀ j (hj : j < xs.length), j < i → xs[j] ≠ xs[i]) ∧ ∀ c ∈ xs[i].2.2, 0 ≤ c ∧ c ≤ (i : Int) - 1) ∧ wr = (w.alloc (.cells #[.slice a xs.length ca] 32)).ext x ∧ s3 = .int .i64 k) (fun s3 s4 _ => xs.length - (intOf s3).toNat)
 case atStart => exact ⟨0, ⟨#[], 0⟩, by omega, by omega, (ext_zero _).symm, rfl⟩
 case round =>
  obtain ⟨k, x, hk, ht, rfl, rfl⟩ := hrel
  have hT := Lib.hid ht
  clear ht
  by_cases hlt : k < xs.length
  ·obtain ⟨b, off, rfl, hb⟩ := h3 k hlt
   obtain ⟨csq, feq, hcq, hrq, -⟩ := hu.at hlt
   have hrdq := hrq
   generalize hyq : xs[k] = yq at hrq
   obtain ⟨q0, q1, q2⟩ := yq
   obtain ⟨vq2, fq2, hcsq, -, hq0, hq1, hq2⟩ := rdCell_inv (cs := csq.toArray) q0 q1 q2 (by simpa using hrq)
   obtain rfl : csq = [.string q0, .int .i64 q1, vq2] := by have := congrArg Array.toList hcsq; simpa using this
   have z0 : w.cell? ⟨b, off + k * 3, none⟩ = some (.string q0) := by simpa [Rd.n] using hcq 0 _ rfl
   have z1 : w.cell? ⟨b, off + k * 3 + 1, none⟩ = some (.int .i64 q1) := hcq 1 _ rfl
   have z2 : w.cell? ⟨b, off + k * 3 + 2, none⟩ = some vq2 := hcq 2 _ rfl
   obtain ⟨aq, cq, rfl, k1, k2, k3⟩ := hq2.open
   have HY := Lib.hid hyq
   clear h3 hcsq hcq hrq hyq
   by_cases hfirst : idxOf (fun z => decide (z = xs[k])) xs = k
   ·have hF := Lib.hid hfirst
    have hne : ((idxOf (fun z => decide (z = xs[k])) xs) != (k : Int)) = false := by simp [hfirst]
    clear hfirst
    go_wp2_with fail
    refine wp_region_grown (by kernel_rfl) (by kernel_rfl) ?_
    repeat (go_big_quiet_step ((go_at_call 63; refine grown_call (l39Find_any _ _ _ _ xs xs[k] _ (Rd.gr hrx ?_) (Rd.gr hrdq ?_)) <;> exact gd)))
    refine wpQuiet_nil ?_
    intro _ hw'
    obtain ⟨nx, hw''⟩ := hw'
    subst hw''
    go_wp2_with fail
    go_loopw [4] (fun s4 wr => ∃ j : Nat, ∃ y, j ≤ q2.length ∧ (∀ i (h : i < q2.length), i < j → 0 ≤ q2[i] ∧ q2[i] ≤ (k : Int) - 1) ∧ wr = (w.alloc (.cells #[.slice (some ⟨b, off, none⟩) xs.length ca] 32)).ext y ∧ s4 = .int .i64 j) (fun s4 _ => q2.length - (intOf s4).toNat)
    case atStart => exact ⟨0, x.comp nx, by omega, by omega, ext_ext _ _ _, rfl⟩
    case round =>
     obtain ⟨j, y, hj, ht, rfl, rfl⟩ := hrel
     have hT2 := Lib.hid ht
     clear ht
     by_cases hjl : j < q2.length
     ·obtain ⟨bq, oq, rfl, hbq⟩ := k3 j hjl
      have x3 := (hq2.int_at hjl).1
      clear k3
      by_cases hin : 0 ≤ q2[j] ∧ q2[j] ≤ (k : Int) - 1
      ·have HI := Lib.hid hin
       clear hin
       go_wp2_with (go_at_call 31; refine (l1In_yes _ _ _ _ HI.out.1 HI.out.2).mono ?_; rintro e w' ⟨rfl, x4, rfl⟩)
       refine ⟨⟨j + 1, y.comp x4, by omega, fun i hi hij => ?_, ext_ext _ _ _, by go_num⟩, by simp [intOf]; omega⟩
       by_cases hij' : i < j
       ·exact hT2.out i hi hij'
       ·obtain rfl : i = j := by omega
        exact HI.out
      ·have hor : q2[j] < 0 ∨ (k : Int) - 1 < q2[j] := by omega
       have HI := Lib.hid hor
       have HN := Lib.hid hin
       clear hin hor
       go_wp2_with (go_at_call 31; refine (l1In_no _ _ _ _ HI.out).mono ?_; rintro e w' ⟨rfl, x4, rfl⟩)
       go_ret
       refine ⟨ret_bool (validB_false fun hv => HN.out ?_).symm, gd⟩
       have := (hv k hlt).2
       rw [HY.out] at this
       exact this _ (List.getElem_mem hjl)
     ·go_wp2
      refine ⟨⟨k + 1, y, by omega, fun i hi hik => ?_, rfl, by go_num⟩, by simp [intOf]; omega⟩
      by_cases hik' : i < k
      ·exact hT.out i hi hik'
      ·obtain rfl : i = k := by omega
       refine ⟨idxOf_self hlt |>.1 hF.out, fun c hc => ?_⟩
       rw [HY.out] at hc
       obtain ⟨m, hm, rfl⟩ := List.mem_iff_getElem.1 hc
       have hm2 : m < q2.length := hm
       exact hT2.out m hm2 (by omega)
   ·have hF := Lib.hid hfirst
    have hne : ((idxOf (fun z => decide (z = xs[k])) xs) != (k : Int)) = true := by simpa using hfirst
    clear hfirst
    go_wp2_with fail
    refine wp_region_grown (by kernel_rfl) (by kernel_rfl) ?_
    repeat (go_big_quiet_step ((go_at_call 63; refine grown_call (l39Find_any _ _ _ _ xs xs[k] _ (Rd.gr hrx ?_) (Rd.gr hrdq ?_)) <;> exact gd)))
    refine wpQuiet_nil ?_
    intro _ hw'
    obtain ⟨nx, hw''⟩ := hw'
    subst hw''
    go_wp2_with fail
    go_ret
    exact ⟨ret_bool (validB_false fun hv => hF.out (idxOf_self hlt |>.2 (hv k hlt).1)).symm, gd⟩
  ·go_wp2
   go_ret
   exact ⟨ret_bool (validB_true fun i hi => hT.out i hi (by omega)).symm, gd⟩

set_option maxHeartbeats 1000000 in
theorem cellTest_any (fp fq : List Nat) (cs : Array Value) (x y : GCell) (b : Nat) (d0 : ByteArray) (d1 : Int) (a2 : Option Addr) (l2 d2 : Nat) (w : World) (hx : Rd.rd fp w cs.toList x)
  (hy : Rd.rd fq w [.string d0, .int .i64 d1, .slice a2 l2 d2] y) (c0 : w.cell? ⟨b, 0, none⟩ = some (.string d0)) (c1 : w.cell? ⟨b, 1, none⟩ = some (.int .i64 d1)) (c2 : w.cell? ⟨b, 2, none⟩ = some (.slice a2 l2 d2)) :
  Calls Try.prog 84 #[.agg cs, .pointer (some ⟨b, 0, none⟩)] w fun e w' => e = .returned (.bool (decide (x = y))) ∧ Gr w w' := by
 have hrx := hx
 obtain ⟨q0, q1, qa, ql, qc, rfl⟩ := rdCell_shape hx
 have hb := blk c0
 clear hx
 go_enter Try.func84, Try.ntmps84
 go_wp2_with (go_at_call 85; refine (implSameCell_any _ _ _ #[.string d0, .int .i64 d1, .slice a2 l2 d2] x y _ (Rd.gr hrx gd) (Rd.gr hy gd)).mono ?_; rintro e w' ⟨rfl, x3, rfl⟩)
 go_ret
 exact ⟨rfl, gd⟩

set_option maxHeartbeats 1000000 in
theorem cellIndex_any (fp fq : List Nat) (u : Value) (ds : Array Value) (xs : List GCell) (y : GCell) (w : World) (hu : SlR fp w u xs) (hy : Rd.rd fq w ds.toList y) :
  Calls Try.prog 60 #[u, .agg ds] w fun e w' => e = .returned (.int .i64 (idxOf (fun z => decide (z = y)) xs)) ∧ Gr w w' := by
 have hry := hy
 obtain ⟨d0, d1, a2, l2, d2, rfl⟩ := rdCell_shape hy
 clear hy
 have hT : TestC (w.alloc (.cells #[.string d0, .int .i64 d1, .slice a2 l2 d2] 78)) 84 #[.pointer (some ⟨w.heap.size, 0, none⟩)] (fun z => decide (z = y)) xs :=
  ⟨Try.call84, fun z _ x fp cs hz => cellTest_any fp fq cs z y w.heap.size d0 d1 a2 l2 d2 _ hz (Rd.gr hry gd) (by simp) (by simp) (by simp)⟩
 have HT := Lib.hid hT
 clear hT
 go_enter Try.func60, Try.ntmps60
 go_wp2_with (go_at_call 83; refine (slicesIndexFuncC_any fp _ xs _ _ _ _ (hu.gr gd) HT.out).mono ?_; rintro e w' ⟨rfl, x3, rfl⟩)
 go_ret
 exact ⟨rfl, gd⟩

def outOf (k y : Int) : Bool := !(decide (0 ≤ y) && decide (y ≤ k - 1))

theorem childTest_any (y : Int) (k : Nat) (b : Nat) (w : World) (hk : k ≤ 140737488351232) (hc : w.cell? ⟨b, 0, none⟩ = some (.int .i64 k)) :
  Calls Try.prog 62 #[.int .i64 y, .pointer (some ⟨b, 0, none⟩)] w fun e w' => e = .returned (.bool (outOf k y)) ∧ Gr w w' := by
 go_enter Try.func62, Try.ntmps62
 go_wp2_with (go_at_call 55; refine (within_any _ _ _ _).mono ?_; rintro e w' ⟨rfl, rfl⟩)
 go_ret
 refine ⟨ret_bool ?_, Gr.refl w⟩
 unfold outOf; rw [Bool.not_and]

theorem any_outOf {k : Nat} {q : List Int} : q.any (outOf k) = true ↔ ¬ ∀ c ∈ q, 0 ≤ c ∧ c ≤ (k : Int) - 1 := by
 rw [List.any_eq_true]
 constructor
 ·rintro ⟨c, hc, ho⟩ hn
  have := hn c hc
  simp [outOf] at ho
  omega
 ·intro hn
  apply Classical.byContradiction
  intro hx
  apply hn
  intro c hc
  apply Classical.byContradiction
  intro hy
  apply hx
  refine ⟨c, hc, ?_⟩
  simp [outOf]
  omega

theorem any_take_iff {xs : List GCell} {k : Nat} (h : k < xs.length) : (0 ≤ idxOf (fun z => decide (z = xs[k])) (xs.take k)) ↔ ¬ ∀ j (hj : j < xs.length), j < k → xs[j] ≠ xs[k] := by
 rw [idxOf_nonneg, List.any_eq_true]
 constructor
 ·rintro ⟨z, hz, hp⟩ hn
  obtain ⟨j, hj, rfl⟩ := List.mem_iff_getElem.1 hz
  have hj2 : j < k := by simp at hj; omega
  have hj3 : j < xs.length := by omega
  simp only [List.getElem_take, decide_eq_true_eq] at hp
  exact hn j hj3 hj2 hp
 ·intro hn
  apply Classical.byContradiction
  intro hc
  apply hn
  intro j hj hjk e
  apply hc
  refine ⟨xs[j], ?_, by simpa using e⟩
  rw [List.mem_iff_getElem]
  exact ⟨j, by simp; omega, by simp⟩

end Go.Proofs.Ytmfcagcanhmdbaa

namespace Go.Proofs.Ytmfcagcanhmdbaa
open Go.RowKit
set_option linter.unusedVariables false

def kidsN (x : GNode) : List Int := x.2.2.2.2.2
theorem idxOf_ltC {α : Type} (p : α → Bool) (xs : List α) : idxOf p xs < xs.length ∨ idxOf p xs = -1 := by
 induction xs with
 | nil => right; rfl
 | cons x xs ih =>
  simp only [idxOf, List.length_cons]
  split
  ·left; omega
  ·split <;> omega

def inStep (T : GStore → List Int → Nat → Option (GStore × List Int × Int)) (i n : Nat) (st : Option (GStore × List Int × List Int)) (c : Int) : Option (GStore × List Int × List Int) :=
 match st with
 | none => none
 | some (s, d, ks) => if (i : Int) + 1 ≤ c ∧ c ≤ (n : Int) - 1 then
   match T s d c.toNat with
   | none => none
   | some (s', d', k) => some (s', d', ks ++ [k])
  else none
def inK (T : GStore → List Int → Nat → Option (GStore × List Int × Int)) (i n : Nat) (s : GStore) (d : List Int) (cs : List Int) : Option (GStore × List Int × List Int) := cs.foldl (inStep T i n) (some (s, d, []))
def putC (s : GStore) (x : GCell) : GStore × Int := if idxOf (fun z => decide (z = x)) s < 0 then (s ++ [x], s.length) else (s, idxOf (fun z => decide (z = x)) s)
def inN (t : List GNode) : Nat → GStore → List Int → Nat → Option (GStore × List Int × Int)
 | 0, _, _, _ => none
 | f + 1, s, d, i => if 0 ≤ d.getD i 0 then some (s, d, d.getD i 0) else
  match t[i]? with
  | none => none
  | some x => match inK (inN t f) i t.length s d (kidsN x) with
   | none => none
   | some (s', d', ks) => some ((putC s' (x.2.2.2.2.1, x.2.2.2.1, ks)).1, d'.set i (putC s' (x.2.2.2.2.1, x.2.2.2.1, ks)).2, (putC s' (x.2.2.2.2.1, x.2.2.2.1, ks)).2)

theorem inN_done {t : List GNode} {f : Nat} {s : GStore} {d : List Int} {i : Nat} {y : Int} (h : d[i]? = some y) (hy : 0 ≤ y) : inN t (f + 1) s d i = some (s, d, y) := by
 unfold inN
 rw [List.getD_eq_getElem?_getD, h, Option.getD_some, if_pos hy]
theorem inN_new {t : List GNode} {f : Nat} {s : GStore} {d : List Int} {i : Nat} {y : Int} {x : GNode} (h : d[i]? = some y) (hy : y < 0) (hx : t[i]? = some x) : inN t (f + 1) s d i =
  match inK (inN t f) i t.length s d (kidsN x) with
  | none => none
  | some (s', d', ks) => some ((putC s' (x.2.2.2.2.1, x.2.2.2.1, ks)).1, d'.set i (putC s' (x.2.2.2.2.1, x.2.2.2.1, ks)).2, (putC s' (x.2.2.2.2.1, x.2.2.2.1, ks)).2) := by
 conv => lhs; unfold inN
 rw [List.getD_eq_getElem?_getD, h, Option.getD_some, if_neg (by omega), hx]

theorem inK_none {T : GStore → List Int → Nat → Option (GStore × List Int × Int)} {i n : Nat} (cs : List Int) : cs.foldl (inStep T i n) none = none := by
 induction cs with
 | nil => rfl
 | cons c cs ih => exact ih
theorem inK_snoc (T : GStore → List Int → Nat → Option (GStore × List Int × Int)) (i n : Nat) (s : GStore) (d : List Int) (cs : List Int) (c : Int) : inK T i n s d (cs ++ [c]) = inStep T i n (inK T i n s d cs) c := by
 unfold inK; rw [List.foldl_append]; rfl
theorem inK_take {T : GStore → List Int → Nat → Option (GStore × List Int × Int)} {i n : Nat} {s : GStore} {d : List Int} {cs : List Int} {k : Nat} (h : inK T i n s d (cs.take k) = none) : inK T i n s d cs = none := by
 have e : inK T i n s d cs = (cs.drop k).foldl (inStep T i n) (inK T i n s d (cs.take k)) := by
  unfold inK
  rw [← List.foldl_append, List.take_append_drop]
 rw [e, h, inK_none]

def pot : List GNode → List Int → Nat
 | x :: xs, d :: ds => (if d < 0 then 1 + wtNode x else 0) + pot xs ds
 | _, _ => 0
theorem pot_set (xs : List GNode) : ∀ (ds : List Int) (i : Nat) (h1 : i < xs.length) (h2 : i < ds.length) (y : Int), ds[i] < 0 → 0 ≤ y → pot xs (ds.set i y) + (1 + wtNode xs[i]) = pot xs ds := by
 induction xs with
 | nil => intro ds i h1; simp at h1
 | cons x xs ih =>
  intro ds i h1 h2 y hd hy
  cases ds with
  | nil => simp at h2
  | cons d ds =>
   cases i with
   | zero =>
    simp only [List.getElem_cons_zero] at hd
    simp only [List.set_cons_zero, pot, List.getElem_cons_zero]
    rw [if_neg (by omega), if_pos hd]
    omega
   | succ i =>
    simp only [List.getElem_cons_succ] at hd
    have := ih ds i (by simpa using h1) (by simpa using h2) y hd hy
    simp only [List.set_cons_succ, pot, List.getElem_cons_succ]
    omega
theorem pot_start (xs : List GNode) : pot xs (List.replicate xs.length (-1)) = wtTree xs := by
 show _ = wtL wtNode xs
 induction xs with
 | nil => rfl
 | cons x xs ih =>
  simp only [List.length_cons, List.replicate_succ, pot, ih, wtL, List.map_cons, List.sum_cons]
  simp
  omega

theorem wtStore_snoc (s : GStore) (x : GCell) : wtStore (s ++ [x]) = wtStore s + (1 + wtCell x) := by
 show wtL wtCell _ = wtL wtCell _ + _
 unfold wtL
 simp
 omega
theorem putC_facts (s : GStore) (x : GCell) : 0 ≤ (putC s x).2 ∧ (putC s x).2 < ((putC s x).1.length : Int) ∧ wtStore (putC s x).1 ≤ wtStore s + (1 + wtCell x) ∧ s.length ≤ (putC s x).1.length := by
 unfold putC
 have h1 := idxOf_ge (fun z => decide (z = x)) s
 have h2 := idxOf_ltC (fun z => decide (z = x)) s
 split
 ·refine ⟨by simp, by simp; omega, by rw [wtStore_snoc]; exact Nat.le_refl _, by simp⟩
 ·refine ⟨by omega, by simp only; omega, by simp only; omega, Nat.le_refl _⟩

structure InOk (t : List GNode) (i : Nat) (s : GStore) (d : List Int) (s' : GStore) (d' : List Int) : Prop where
 len : d'.length = d.length
 low : ∀ j, j < i → d'[j]? = d[j]?
 wt : wtStore s' + pot t d' ≤ wtStore s + pot t d
 le : s.length ≤ s'.length
 bd : (∀ y ∈ d, y < (s.length : Int)) → ∀ y ∈ d', y < (s'.length : Int)

theorem InOk.refl (t : List GNode) (i : Nat) (s : GStore) (d : List Int) : InOk t i s d s d := ⟨rfl, fun _ _ => rfl, Nat.le_refl _, Nat.le_refl _, fun h => h⟩
theorem InOk.trans {t : List GNode} {i j : Nat} {s1 s2 s3 : GStore} {d1 d2 d3 : List Int} (h : InOk t i s1 d1 s2 d2) (k : InOk t j s2 d2 s3 d3) (hij : i ≤ j) : InOk t i s1 d1 s3 d3 :=
 ⟨k.len.trans h.len, fun m hm => (k.low m (by omega)).trans (h.low m hm), Nat.le_trans k.wt h.wt, Nat.le_trans h.le k.le, fun hb => k.bd (h.bd hb)⟩

theorem inK_ok {t : List GNode} {T : GStore → List Int → Nat → Option (GStore × List Int × Int)} {i : Nat} (n : Nat) (H : ∀ s d j s' d' k, i < j → j < n → d.length = n → T s d j = some (s', d', k) → InOk t j s d s' d' ∧ 0 ≤ k ∧ ((∀ y ∈ d, y < (s.length : Int)) → k < (s'.length : Int))) (cs : List Int) :
  ∀ s d ks s' d' ks', d.length = n → cs.foldl (inStep T i n) (some (s, d, ks)) = some (s', d', ks') → InOk t (i + 1) s d s' d' ∧ ks'.length = ks.length + cs.length ∧ ((∀ y ∈ d, y < (s.length : Int)) → (∀ y ∈ ks, 0 ≤ y ∧ y < (s.length : Int)) → ∀ y ∈ ks', 0 ≤ y ∧ y < (s'.length : Int)) := by
 induction cs with
 | nil =>
  intro s d ks s' d' ks' hd h
  simp only [List.foldl_nil, Option.some.injEq, Prod.mk.injEq] at h
  obtain ⟨rfl, rfl, rfl⟩ := h
  exact ⟨InOk.refl .., rfl, fun _ h => h⟩
 | cons c cs ih =>
  intro s d ks s' d' ks' hd h
  rw [List.foldl_cons] at h
  by_cases hc : (i : Int) + 1 ≤ c ∧ c ≤ (n : Int) - 1
  ·cases hT : T s d c.toNat with
   | none =>
    have : inStep T i n (some (s, d, ks)) c = none := by simp only [inStep]; rw [if_pos hc, hT]
    rw [this, inK_none] at h
    cases h
   | some r =>
    obtain ⟨s1, d1, k1⟩ := r
    have e : inStep T i n (some (s, d, ks)) c = some (s1, d1, ks ++ [k1]) := by simp only [inStep]; rw [if_pos hc, hT]
    rw [e] at h
    obtain ⟨h1, h2, h3⟩ := H s d c.toNat s1 d1 k1 (by omega) (by omega) hd hT
    obtain ⟨g1, g2, g3⟩ := ih s1 d1 (ks ++ [k1]) s' d' ks' (h1.len.trans hd) h
    have h1' : InOk t (i + 1) s d s1 d1 := ⟨h1.len, fun m hm => h1.low m (by omega), h1.wt, h1.le, h1.bd⟩
    refine ⟨h1'.trans g1 (Nat.le_refl _), by rw [g2]; simp; omega, fun hb hk => g3 (h1.bd hb) fun y hy => ?_⟩
    rcases List.mem_append.1 hy with hy | hy
    ·have := hk y hy
     have := h1.le
     omega
    ·simp at hy
     subst hy
     exact ⟨h2, h3 hb⟩
  ·have : inStep T i n (some (s, d, ks)) c = none := by simp only [inStep]; rw [if_neg hc]
   rw [this, inK_none] at h
   cases h

theorem inN_ok (t : List GNode) : ∀ f s d i s' d' k, i < t.length → d.length = t.length → inN t f s d i = some (s', d', k) → InOk t i s d s' d' ∧ 0 ≤ k ∧ ((∀ y ∈ d, y < (s.length : Int)) → k < (s'.length : Int)) := by
 intro f
 induction f with
 | zero => intro s d i s' d' k hit hd h; simp [inN] at h
 | succ f ih =>
  intro s d i s' d' k hit hd h
  by_cases hi : i < d.length
  ·have hi' : d[i]? = some d[i] := List.getElem?_eq_getElem hi
   by_cases hy : 0 ≤ d[i]
   ·rw [inN_done hi' hy] at h
    simp only [Option.some.injEq, Prod.mk.injEq] at h
    obtain ⟨rfl, rfl, rfl⟩ := h
    exact ⟨InOk.refl .., hy, fun h => h _ (List.getElem_mem hi)⟩
   ·have hx : t[i]? = some (t[i]'(by omega)) := List.getElem?_eq_getElem _
    rw [inN_new hi' (by omega) hx] at h
    cases hK : inK (inN t f) i t.length s d (kidsN (t[i]'(by omega))) with
    | none => rw [hK] at h; cases h
    | some r =>
     obtain ⟨s1, d1, ks⟩ := r
     rw [hK] at h
     simp only [Option.some.injEq, Prod.mk.injEq] at h
     obtain ⟨rfl, rfl, rfl⟩ := h
     obtain ⟨g1, g2, g3⟩ := inK_ok (t := t) (T := inN t f) (i := i) t.length (fun s d j s' d' k _ hj hd h => ih s d j s' d' k hj hd h) _ s d [] s1 d1 ks hd hK
     obtain ⟨p1, p2, p3, p4⟩ := putC_facts s1 ((t[i]'(by omega)).2.2.2.2.1, (t[i]'(by omega)).2.2.2.1, ks)
     have hl1 : i < d1.length := by rw [g1.len]; exact hi
     have hdi : d1[i] = d[i] := by
      have := g1.low i (by omega)
      rw [List.getElem?_eq_getElem hl1, List.getElem?_eq_getElem hi] at this
      exact Option.some.inj this
     have hp := pot_set t d1 i (by omega) hl1 _ (by rw [hdi]; omega) p1
     have hw : wtCell ((t[i]'(by omega)).2.2.2.2.1, (t[i]'(by omega)).2.2.2.1, ks) = wtNode (t[i]'(by omega)) := by
      show (t[i]'(by omega)).2.2.2.2.1.size + ks.length = (t[i]'(by omega)).2.2.2.2.1.size + (kidsN (t[i]'(by omega))).length
      rw [g2]; simp
     refine ⟨⟨by simp [g1.len], fun j hj => ?_, ?_, Nat.le_trans g1.le p4, fun hb y hy => ?_⟩, p1, fun _ => p2⟩
     ·rw [List.getElem?_set_ne (by omega)]; exact g1.low j (by omega)
     ·have := g1.wt
      rw [hw] at p3
      omega
     ·rcases List.mem_or_eq_of_mem_set hy with hy | rfl
      ·have := g1.bd hb y hy
       omega
      ·exact p2
  ·omega

end Go.Proofs.Ytmfcagcanhmdbaa
