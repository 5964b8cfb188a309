/- What the statement on components asks: each after its inputs, and every instance once. Plain Lean, no program in sight. -/
import Derived.Test.YtcphimmkkfpohaaCompsS
namespace Go.Proofs.Ytcphimmkkfpohaa
variable {T : List (List Int)}

theorem run_full : ∀ k, k ≤ (parts T).length → ∃ L, Run T L ∧ L.length = k := by
  intro k
  induction k with
  | zero => intro _; exact ⟨[], Run.nil, rfl⟩
  | succ k ih =>
    intro hk
    obtain ⟨L, hR, hL⟩ := ih (by omega)
    obtain ⟨p, hp, hpf⟩ := first_rdy (T := T) (L := L) (by omega) hR.facts.2
    exact ⟨L ++ [p], hR.snoc hp hpf, by simp [hL]⟩

theorem comps_run (T : List (List Int)) : ∃ L, Run T L ∧ L.length = (parts T).length ∧ compsOf T = outOfRun T L := by
  obtain ⟨L, hR, hL⟩ := run_full (T := T) _ (Nat.le_refl _)
  exact ⟨L, hR, hL, compsOf_run hR hL⟩

/-- Every input comes not later. -/
theorem comps_inputs {i : Nat} (hi : i < (compsOf T).length) {y z : Int} (hy : y ∈ (compsOf T)[i]) (hz : z ∈ insOf T y.toNat) : z ∈ ((compsOf T).take (i + 1)).flatten := by
  obtain ⟨L, hR, hL, e⟩ := comps_run T
  have hiL : i < L.length := by rw [e] at hi; simpa [outOfRun] using hi
  have hpi := hR.facts.2 _ (List.getElem_mem hiL)
  have e1 : (compsOf T)[i] = (parts T)[L[i]] := by
    have : (compsOf T)[i]? = (outOfRun T L)[i]? := by rw [e]
    rw [List.getElem?_eq_getElem hi] at this
    unfold outOfRun at this
    rw [List.getElem?_map, List.getElem?_eq_getElem hiL, Option.map_some, parts_getD hpi] at this
    exact Option.some.inj this
  rw [e1] at hy
  obtain ⟨_, _, h⟩ := hR.ready i hiL
  rw [List.take_succ_eq_append_getElem hi, List.flatten_append, List.mem_append]
  rcases h y hy z hz with h | ⟨q, hq, h⟩
  · right
    rw [e1]
    simpa using h
  · left
    obtain ⟨j, hj, rfl⟩ := List.mem_iff_getElem.1 hq
    refine List.mem_flatten.2 ⟨_, ?_, h⟩
    rw [e]
    unfold outOfRun
    rw [← List.map_take]
    exact List.mem_map.2 ⟨_, List.getElem_mem hj, rfl⟩

theorem sum_set {xs : List Nat} {j : Nat} (h : j < xs.length) (v : Nat) : (xs.set j v).sum + xs[j] = xs.sum + v := by
  induction xs generalizing j with
  | nil => simp at h
  | cons x xs ih =>
    cases j with
    | zero => simp; omega
    | succ j =>
      have := ih (j := j) (by simpa using h)
      simp at this ⊢
      omega

theorem partsI_sum : ∀ i, ((partsI T i).map List.length).sum = i := by
  intro i
  induction i with
  | zero => simp [partsI, ldrs]
  | succ i ih =>
    cases h : isLdr T i with
    | true => rw [partsI_ldr h]; simp [ih]
    | false =>
      obtain ⟨b, hb, he⟩ := isLdr_no h
      obtain ⟨j, hj, h2⟩ := place_of (T := T) hb
      have he2 := eqB_iff.2 (h2.trans (eqB_iff.1 he))
      rw [partsI_old h hj he2, List.map_set]
      have hj2 : j < ((partsI T i).map List.length).length := by rw [List.length_map, partsI_len]; exact hj
      have := sum_set hj2 ((partsI T i)[j]'(by rw [partsI_len]; exact hj) ++ [(i : Int)]).length
      rw [ih, List.getElem_map, List.length_append] at this
      simp only [List.length_cons, List.length_nil] at this ⊢
      simp only [List.length_append, List.length_cons, List.length_nil]
      omega

theorem sum_same {f : Nat → Nat} : ∀ {L R : List Nat}, L.Nodup → R.Nodup → (∀ x ∈ L, x ∈ R) → L.length = R.length → (L.map f).sum = (R.map f).sum := by
  intro L
  induction L with
  | nil => intro R _ _ _ h; rw [List.eq_nil_of_length_eq_zero h.symm]
  | cons x L ih =>
    intro R hL hR hs hl
    have hx := hs x (by simp)
    have hL2 := List.nodup_cons.1 hL
    have hp := List.perm_cons_erase hx
    have h1 := (hp.map f).sum_nat
    have h2 := ih (R := R.erase x) hL2.2 (hR.erase x) (fun y hy => (List.mem_erase_of_ne (fun e => by subst e; exact hL2.1 hy)).2 (hs y (List.mem_cons_of_mem _ hy))) (by have := List.length_erase_of_mem hx; simp at hl; omega)
    rw [h1, List.map_cons, List.sum_cons, List.map_cons, List.sum_cons, h2]

/-- Every instance once. -/
theorem comps_count (T : List (List Int)) : (compsOf T).flatten.length = T.length := by
  obtain ⟨L, hR, hL, e⟩ := comps_run T
  rw [e, List.length_flatten]
  unfold outOfRun
  rw [List.map_map]
  have h1 := sum_same (f := List.length ∘ fun p => (parts T).getD p []) hR.facts.1 (List.nodup_range (n := (parts T).length)) (fun x hx => List.mem_range.2 (hR.facts.2 x hx)) (by simp [hL])
  rw [h1]
  have h2 : (List.range (parts T).length).map (List.length ∘ fun p => (parts T).getD p []) = (parts T).map List.length := by
    apply List.ext_getElem
    · simp
    · intro i h1 h2
      have hi : i < (parts T).length := by simpa using h2
      simp [hi]
  rw [h2]
  exact partsI_sum T.length
theorem comps_range {i : Nat} (hi : i < (compsOf T).length) {y : Int} (hy : y ∈ (compsOf T)[i]) : ∃ n : Nat, y = n ∧ n < T.length := by
  obtain ⟨L, hR, hL, e⟩ := comps_run T
  have hiL : i < L.length := by rw [e] at hi; simpa [outOfRun] using hi
  have hpi := hR.facts.2 _ (List.getElem_mem hiL)
  have e1 : (compsOf T)[i] = (parts T)[L[i]] := by
    have : (compsOf T)[i]? = (outOfRun T L)[i]? := by rw [e]
    rw [List.getElem?_eq_getElem hi] at this
    unfold outOfRun at this
    rw [List.getElem?_map, List.getElem?_eq_getElem hiL, Option.map_some, parts_getD hpi] at this
    exact Option.some.inj this
  rw [e1] at hy
  obtain ⟨k, rfl, hk, _⟩ := (mem_parts hpi).1 hy
  exact ⟨k, rfl, hk⟩
end Go.Proofs.Ytcphimmkkfpohaa
