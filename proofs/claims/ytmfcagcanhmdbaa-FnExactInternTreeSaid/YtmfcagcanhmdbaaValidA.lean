/- IsValidStore of the program and of the reference. No condition. -/
import Derived.Test.YtmfcagcanhmdbaaStore
import Derived.Test.YtmfcagcanhmdbaaFindA
namespace Go.Proofs.Ytmfcagcanhmdbaa
open Go.RowKit

/-- A store is valid: no two cells are equal, and children come ahead. -/
def ValidStore (xs : List GCell) : Prop := ∀ i (h : i < xs.length), (∀ j (hj : j < xs.length), j < i → xs[j] ≠ xs[i]) ∧ ∀ c ∈ xs[i].2.2, 0 ≤ c ∧ c ≤ (i : Int) - 1

noncomputable def validB (xs : List GCell) : Bool := @decide (ValidStore xs) (Classical.propDecidable _)

theorem validB_true {xs : List GCell} (h : ValidStore xs) : validB xs = true := by unfold validB; exact @decide_eq_true _ (Classical.propDecidable _) h
theorem validB_false {xs : List GCell} (h : ¬ ValidStore xs) : validB xs = false := by unfold validB; exact @decide_eq_false _ (Classical.propDecidable _) h
theorem validB_iff {xs : List GCell} : validB xs = true ↔ ValidStore xs := by
  unfold validB; exact @decide_eq_true_iff _ (Classical.propDecidable _)

theorem idxOf_self {xs : List GCell} {i : Nat} (h : i < xs.length) : idxOf (fun z => decide (z = xs[i])) xs = i ↔ ∀ j (hj : j < xs.length), j < i → xs[j] ≠ xs[i] := by
  constructor
  · intro he j hj hji e
    have h1 : ∃ m, ∃ hm : m < xs.length, m ≤ j ∧ xs[m] = xs[i] ∧ ∀ l (hl : l < xs.length), l < m → xs[l] ≠ xs[i] := by
      have : ∀ n, ∀ j (hj : j < xs.length), j ≤ n → xs[j] = xs[i] → ∃ m, ∃ hm : m < xs.length, m ≤ j ∧ xs[m] = xs[i] ∧ ∀ l (hl : l < xs.length), l < m → xs[l] ≠ xs[i] := by
        intro n
        induction n with
        | zero => intro j hj hj0 e; exact ⟨j, hj, Nat.le_refl _, e, fun l hl hlm => by omega⟩
        | succ n ih =>
          intro j hj hjn e
          by_cases hex : ∃ l, ∃ hl : l < xs.length, l < j ∧ xs[l] = xs[i]
          · obtain ⟨l, hl, hlj, hle⟩ := hex
            obtain ⟨m, hm, hml, hme, hmn⟩ := ih l hl (by omega) hle
            exact ⟨m, hm, by omega, hme, hmn⟩
          · exact ⟨j, hj, Nat.le_refl _, e, fun l hl hlj hle => hex ⟨l, hl, hlj, hle⟩⟩
      exact this j j hj (Nat.le_refl _) e
    obtain ⟨m, hm, hmj, hme, hmn⟩ := h1
    have := idxOf_at (p := fun z => decide (z = xs[i])) hm (decide_eq_true hme) (fun l hl hlm => decide_eq_false (hmn l hl hlm))
    omega
  · intro hn
    exact idxOf_at h (decide_eq_true rfl) (fun j hj hji => decide_eq_false (hn j hj hji))

set_option maxHeartbeats 2000000 in
theorem specValid_any (fp : List Nat) (cs : Array Value) (xs : List GCell) (w : World) (hx : Rd.rd fp w cs.toList xs) :
    Calls Try.prog 23 #[.agg cs] w fun e w' => e = .returned (.bool (validB xs)) ∧ Gr w w' := by
  have hrx := hx
  obtain ⟨v, f, rfl, -, hu⟩ := rdStore_inv xs hx
  obtain ⟨a, ca, rfl, h1, h2, h3⟩ := hu.open
  clear hx
  go_enter Try.func23, Try.ntmps23
  go_wp2
  go_loopw [3, 4] (fun s3 s4 wr => ∃ k : Nat, ∃ x, k ≤ xs.length ∧ (∀ i (h : i < xs.length), i < k → (∀ j (hj : j < xs.length), j < i → xs[j] ≠ xs[i]) ∧ ∀ c ∈ xs[i].2.2, 0 ≤ c ∧ c ≤ (i : Int) - 1) ∧ wr = (w.alloc (.cells #[.slice a xs.length ca] 32)).ext x ∧ s3 = .int .i64 k) (fun s3 s4 _ => xs.length - (intOf s3).toNat)
  case atStart => exact ⟨0, ⟨#[], 0⟩, by omega, by omega, (ext_zero _).symm, rfl⟩
  case round =>
    obtain ⟨k, x, hk, ht, rfl, rfl⟩ := hrel
    have hT := Lib.hid ht
    clear ht
    by_cases hlt : k < xs.length
    · obtain ⟨b, off, rfl, hb⟩ := h3 k hlt
      obtain ⟨csq, feq, hcq, hrq, -⟩ := hu.at hlt
      have hrdq := hrq
      generalize hyq : xs[k] = yq at hrq
      obtain ⟨q0, q1, q2⟩ := yq
      obtain ⟨vq2, fq2, hcsq, -, hq0, hq1, hq2⟩ := rdCell_inv (cs := csq.toArray) q0 q1 q2 (by simpa using hrq)
      obtain rfl : csq = [.string q0, .int .i64 q1, vq2] := by have := congrArg Array.toList hcsq; simpa using this
      have z0 : w.cell? ⟨b, off + k * 3, none⟩ = some (.string q0) := by simpa [Rd.n] using hcq 0 _ rfl
      have z1 : w.cell? ⟨b, off + k * 3 + 1, none⟩ = some (.int .i64 q1) := hcq 1 _ rfl
      have z2 : w.cell? ⟨b, off + k * 3 + 2, none⟩ = some vq2 := hcq 2 _ rfl
      obtain ⟨aq, cq, rfl, k1, k2, k3⟩ := hq2.open
      have HY := Lib.hid hyq
      clear h3 hcsq hcq hrq hyq
      by_cases hfirst : idxOf (fun z => decide (z = xs[k])) xs = k
      · have hF := Lib.hid hfirst
        have hne : ((idxOf (fun z => decide (z = xs[k])) xs) != (k : Int)) = false := by simp [hfirst]
        clear hfirst
        go_wp2_with fail
        refine wp_region_grown (by kernel_rfl) (by kernel_rfl) ?_
        repeat (go_big_quiet_step ((go_at_call 63; refine grown_call (l39Find_any _ _ _ _ xs xs[k] _ (Rd.gr hrx ?_) (Rd.gr hrdq ?_)) <;> exact (by repeat (first | exact Gr.refl _ | apply Gr.ext | apply Gr.alloc | apply Gr.drew)))))
        refine wpQuiet_nil ?_
        intro _ hw'
        obtain ⟨nx, hw''⟩ := hw'
        subst hw''
        go_wp2_with fail
        go_loopw [4] (fun s4 wr => ∃ j : Nat, ∃ y, j ≤ q2.length ∧ (∀ i (h : i < q2.length), i < j → 0 ≤ q2[i] ∧ q2[i] ≤ (k : Int) - 1) ∧ wr = (w.alloc (.cells #[.slice (some ⟨b, off, none⟩) xs.length ca] 32)).ext y ∧ s4 = .int .i64 j) (fun s4 _ => q2.length - (intOf s4).toNat)
        case atStart => exact ⟨0, x.comp nx, by omega, by omega, ext_ext _ _ _, rfl⟩
        case round =>
          obtain ⟨j, y, hj, ht, rfl, rfl⟩ := hrel
          have hT2 := Lib.hid ht
          clear ht
          by_cases hjl : j < q2.length
          · obtain ⟨bq, oq, rfl, hbq⟩ := k3 j hjl
            have x3 := (hq2.int_at hjl).1
            clear k3
            by_cases hin : 0 ≤ q2[j] ∧ q2[j] ≤ (k : Int) - 1
            · have HI := Lib.hid hin
              clear hin
              go_wp2_with (go_at_call 31; refine (l1In_yes _ _ _ _ HI.out.1 HI.out.2).mono ?_; rintro e w' ⟨rfl, x4, rfl⟩)
              refine ⟨⟨j + 1, y.comp x4, by omega, fun i hi hij => ?_, ext_ext _ _ _, by go_num⟩, by simp [intOf]; omega⟩
              by_cases hij' : i < j
              · exact hT2.out i hi hij'
              · obtain rfl : i = j := by omega
                exact HI.out
            · have hor : q2[j] < 0 ∨ (k : Int) - 1 < q2[j] := by omega
              have HI := Lib.hid hor
              have HN := Lib.hid hin
              clear hin hor
              go_wp2_with (go_at_call 31; refine (l1In_no _ _ _ _ HI.out).mono ?_; rintro e w' ⟨rfl, x4, rfl⟩)
              go_ret
              refine ⟨ret_bool (validB_false fun hv => HN.out ?_).symm, (by repeat (first | exact Gr.refl _ | apply Gr.ext | apply Gr.alloc | apply Gr.drew))⟩
              have := (hv k hlt).2
              rw [HY.out] at this
              exact this _ (List.getElem_mem hjl)
          · go_wp2
            refine ⟨⟨k + 1, y, by omega, fun i hi hik => ?_, rfl, by go_num⟩, by simp [intOf]; omega⟩
            by_cases hik' : i < k
            · exact hT.out i hi hik'
            · obtain rfl : i = k := by omega
              refine ⟨idxOf_self hlt |>.1 hF.out, fun c hc => ?_⟩
              rw [HY.out] at hc
              obtain ⟨m, hm, rfl⟩ := List.mem_iff_getElem.1 hc
              have hm2 : m < q2.length := hm
              exact hT2.out m hm2 (by omega)
      · have hF := Lib.hid hfirst
        have hne : ((idxOf (fun z => decide (z = xs[k])) xs) != (k : Int)) = true := by simpa using hfirst
        clear hfirst
        go_wp2_with fail
        refine wp_region_grown (by kernel_rfl) (by kernel_rfl) ?_
        repeat (go_big_quiet_step ((go_at_call 63; refine grown_call (l39Find_any _ _ _ _ xs xs[k] _ (Rd.gr hrx ?_) (Rd.gr hrdq ?_)) <;> exact (by repeat (first | exact Gr.refl _ | apply Gr.ext | apply Gr.alloc | apply Gr.drew)))))
        refine wpQuiet_nil ?_
        intro _ hw'
        obtain ⟨nx, hw''⟩ := hw'
        subst hw''
        go_wp2_with fail
        go_ret
        exact ⟨ret_bool (validB_false fun hv => hF.out (idxOf_self hlt |>.2 (hv k hlt).1)).symm, (by repeat (first | exact Gr.refl _ | apply Gr.ext | apply Gr.alloc | apply Gr.drew))⟩
    · go_wp2
      go_ret
      exact ⟨ret_bool (validB_true fun i hi => hT.out i hi (by omega)).symm, (by repeat (first | exact Gr.refl _ | apply Gr.ext | apply Gr.alloc | apply Gr.drew))⟩

set_option maxHeartbeats 1000000 in
theorem cellTest_any (fp fq : List Nat) (cs : Array Value) (x y : GCell) (b : Nat) (d0 : ByteArray) (d1 : Int) (a2 : Option Addr) (l2 d2 : Nat) (w : World) (hx : Rd.rd fp w cs.toList x)
    (hy : Rd.rd fq w [.string d0, .int .i64 d1, .slice a2 l2 d2] y) (c0 : w.cell? ⟨b, 0, none⟩ = some (.string d0)) (c1 : w.cell? ⟨b, 1, none⟩ = some (.int .i64 d1)) (c2 : w.cell? ⟨b, 2, none⟩ = some (.slice a2 l2 d2)) :
    Calls Try.prog 84 #[.agg cs, .pointer (some ⟨b, 0, none⟩)] w fun e w' => e = .returned (.bool (decide (x = y))) ∧ Gr w w' := by
  have hrx := hx
  obtain ⟨q0, q1, qa, ql, qc, rfl⟩ := rdCell_shape hx
  have hb := blk c0
  clear hx
  go_enter Try.func84, Try.ntmps84
  go_wp2_with (go_at_call 85; refine (implSameCell_any _ _ _ #[.string d0, .int .i64 d1, .slice a2 l2 d2] x y _ (Rd.gr hrx (by repeat (first | exact Gr.refl _ | apply Gr.ext | apply Gr.alloc | apply Gr.drew))) (Rd.gr hy (by repeat (first | exact Gr.refl _ | apply Gr.ext | apply Gr.alloc | apply Gr.drew)))).mono ?_; rintro e w' ⟨rfl, x3, rfl⟩)
  go_ret
  exact ⟨rfl, (by repeat (first | exact Gr.refl _ | apply Gr.ext | apply Gr.alloc | apply Gr.drew))⟩

set_option maxHeartbeats 1000000 in
theorem cellIndex_any (fp fq : List Nat) (u : Value) (ds : Array Value) (xs : List GCell) (y : GCell) (w : World) (hu : SlR fp w u xs) (hy : Rd.rd fq w ds.toList y) :
    Calls Try.prog 60 #[u, .agg ds] w fun e w' => e = .returned (.int .i64 (idxOf (fun z => decide (z = y)) xs)) ∧ Gr w w' := by
  have hry := hy
  obtain ⟨d0, d1, a2, l2, d2, rfl⟩ := rdCell_shape hy
  clear hy
  have hT : TestC (w.alloc (.cells #[.string d0, .int .i64 d1, .slice a2 l2 d2] 78)) 84 #[.pointer (some ⟨w.heap.size, 0, none⟩)] (fun z => decide (z = y)) xs :=
    ⟨Try.call84, fun z _ x fp cs hz => cellTest_any fp fq cs z y w.heap.size d0 d1 a2 l2 d2 _ hz (Rd.gr hry (by repeat (first | exact Gr.refl _ | apply Gr.ext | apply Gr.alloc | apply Gr.drew))) (by simp) (by simp) (by simp)⟩
  have HT := Lib.hid hT
  clear hT
  go_enter Try.func60, Try.ntmps60
  go_wp2_with (go_at_call 83; refine (slicesIndexFuncC_any fp _ xs _ _ _ _ (hu.gr (by repeat (first | exact Gr.refl _ | apply Gr.ext | apply Gr.alloc | apply Gr.drew))) HT.out).mono ?_; rintro e w' ⟨rfl, x3, rfl⟩)
  go_ret
  exact ⟨rfl, (by repeat (first | exact Gr.refl _ | apply Gr.ext | apply Gr.alloc | apply Gr.drew))⟩

/-- Is y outside of what a cell's child may be? -/
def outOf (k y : Int) : Bool := !(decide (0 ≤ y) && decide (y ≤ k - 1))

theorem childTest_any (y : Int) (k : Nat) (b : Nat) (w : World) (hk : k ≤ 140737488351232) (hc : w.cell? ⟨b, 0, none⟩ = some (.int .i64 k)) :
    Calls Try.prog 62 #[.int .i64 y, .pointer (some ⟨b, 0, none⟩)] w fun e w' => e = .returned (.bool (outOf k y)) ∧ Gr w w' := by
  go_enter Try.func62, Try.ntmps62
  go_wp2_with (go_at_call 55; refine (within_any _ _ _ _).mono ?_; rintro e w' ⟨rfl, rfl⟩)
  go_ret
  refine ⟨ret_bool ?_, Gr.refl w⟩
  unfold outOf; rw [Bool.not_and]

theorem any_outOf {k : Nat} {q : List Int} : q.any (outOf k) = true ↔ ¬ ∀ c ∈ q, 0 ≤ c ∧ c ≤ (k : Int) - 1 := by
  rw [List.any_eq_true]
  constructor
  · rintro ⟨c, hc, ho⟩ hn
    have := hn c hc
    simp [outOf] at ho
    omega
  · intro hn
    apply Classical.byContradiction
    intro hx
    apply hn
    intro c hc
    apply Classical.byContradiction
    intro hy
    apply hx
    refine ⟨c, hc, ?_⟩
    simp [outOf]
    omega

theorem any_take_iff {xs : List GCell} {k : Nat} (h : k < xs.length) : (0 ≤ idxOf (fun z => decide (z = xs[k])) (xs.take k)) ↔ ¬ ∀ j (hj : j < xs.length), j < k → xs[j] ≠ xs[k] := by
  rw [idxOf_nonneg, List.any_eq_true]
  constructor
  · rintro ⟨z, hz, hp⟩ hn
    obtain ⟨j, hj, rfl⟩ := List.mem_iff_getElem.1 hz
    have hj2 : j < k := by simp at hj; omega
    have hj3 : j < xs.length := by omega
    simp only [List.getElem_take, decide_eq_true_eq] at hp
    exact hn j hj3 hj2 hp
  · intro hn
    apply Classical.byContradiction
    intro hc
    apply hn
    intro j hj hjk e
    apply hc
    refine ⟨xs[j], ?_, by simpa using e⟩
    rw [List.mem_iff_getElem]
    exact ⟨j, by simp; omega, by simp⟩

end Go.Proofs.Ytmfcagcanhmdbaa
