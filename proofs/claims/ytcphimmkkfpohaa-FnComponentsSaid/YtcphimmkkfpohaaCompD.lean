/- Flags of the parts that are done. Plain Lean, no program in sight. -/
import Derived.Test.YtcphimmkkfpohaaCompR
namespace Go.Proofs.Ytcphimmkkfpohaa

/-- All inputs of the instances of a list are in it or done. -/
def openB (T : List (List Int)) (l : List Int) (fl : List Bool) : Bool := l.all fun y => (insOf T y.toNat).all fun z => fl.getD z.toNat false || l.any (fun v => z == v)

theorem openB_no {T : List (List Int)} {l : List Int} {fl : List Bool} {i : Nat} (hi : i < l.length) {z : Int} (hz : z ∈ insOf T l[i].toNat) (h1 : fl.getD z.toNat false = false) (h2 : l.any (fun v => z == v) = false) : openB T l fl = false := by
  unfold openB
  rw [List.all_eq_false]
  refine ⟨l[i], List.getElem_mem hi, ?_⟩
  rw [Bool.not_eq_true, List.all_eq_false]
  exact ⟨z, hz, by rw [h1, h2]; simp⟩
theorem openB_yes {T : List (List Int)} {l : List Int} {fl : List Bool} (h : ∀ i (hi : i < l.length), ∀ z ∈ insOf T l[i].toNat, (fl.getD z.toNat false || l.any (fun v => z == v)) = true) : openB T l fl = true := by
  unfold openB
  rw [List.all_eq_true]
  intro y hy
  obtain ⟨i, hi, rfl⟩ := List.mem_iff_getElem.1 hy
  rw [List.all_eq_true]
  exact h i hi


variable {T : List (List Int)}

theorem openB_iff {l : List Int} {fl : List Bool} : openB T l fl = true ↔ ∀ y ∈ l, ∀ z ∈ insOf T y.toNat, fl.getD z.toNat false = true ∨ z ∈ l := by
  unfold openB
  simp only [List.all_eq_true, Bool.or_eq_true, List.any_eq_true, beq_iff_eq]
  constructor
  · intro h y hy z hz
    rcases h y hy z hz with h | ⟨v, hv, rfl⟩
    · exact .inl h
    · exact .inr hv
  · intro h y hy z hz
    rcases h y hy z hz with h | h
    · exact .inl h
    · exact .inr ⟨z, h, rfl⟩

/-- The flags of those whose parts are in the list L, and of the first j of part p. -/
structure DoneK (T : List (List Int)) (L : List Nat) (p j : Nat) (fl : List Bool) : Prop where
  len : fl.length = T.length
  iff : ∀ k (h : k < fl.length), fl[k] = true ↔ (∃ q ∈ L, (k : Int) ∈ (parts T).getD q []) ∨ (k : Int) ∈ ((parts T).getD p []).take j

theorem DoneK.start (p : Nat) : DoneK T [] p 0 (List.replicate T.length false) := ⟨by simp, fun k h => by simp⟩
theorem DoneK.other {L : List Nat} {p : Nat} {fl : List Bool} (h : DoneK T L p 0 fl) (q : Nat) : DoneK T L q 0 fl := ⟨h.len, fun k hk => by rw [h.iff k hk]; simp⟩
theorem DoneK.step {L : List Nat} {p j : Nat} {fl : List Bool} (h : DoneK T L p j fl) {z : Nat} (hz : ((parts T).getD p [])[j]? = some (z : Int)) : DoneK T L p (j + 1) (fl.set z true) := by
  refine ⟨by simpa using h.len, fun k hk => ?_⟩
  simp only [List.length_set] at hk
  have e : ((parts T).getD p []).take (j + 1) = ((parts T).getD p []).take j ++ [(z : Int)] := by rw [List.take_add_one, hz]; rfl
  rw [e, List.getElem_set, List.mem_append, List.mem_singleton]
  split
  · rename_i e; subst e; simp
  · rename_i hne
    rw [h.iff k hk]
    constructor
    · rintro (h | h)
      · exact .inl h
      · exact .inr (.inl h)
    · rintro (h | h | h)
      · exact .inl h
      · exact .inr h
      · exact absurd (by omega : z = k) hne
theorem DoneK.fin {L : List Nat} {p j : Nat} {fl : List Bool} (h : DoneK T L p j fl) (hj : ((parts T).getD p []).length ≤ j) (q : Nat) : DoneK T (L ++ [p]) q 0 fl := by
  refine ⟨h.len, fun k hk => ?_⟩
  rw [h.iff k hk, List.take_of_length_le hj]
  simp only [List.mem_append, List.mem_singleton, List.take_zero, List.not_mem_nil, or_false]
  constructor
  · rintro (⟨q, hq, h⟩ | h)
    · exact ⟨q, .inl hq, h⟩
    · exact ⟨p, .inr rfl, h⟩
  · rintro ⟨q, hq | hq, h5⟩
    · exact .inl ⟨q, hq, h5⟩
    · rw [hq] at h5
      exact .inr h5

theorem DoneK.getD {L : List Nat} {p : Nat} {fl : List Bool} (h : DoneK T L p 0 fl) {k : Nat} (hk : k < T.length) : fl.getD k false = true ↔ ∃ q ∈ L, (k : Int) ∈ (parts T).getD q [] := by
  have hk' : k < fl.length := by rw [h.len]; exact hk
  rw [List.getD_eq_getElem?_getD, List.getElem?_eq_getElem hk']
  have := h.iff k hk'
  simpa using this

/-- Ready, as the reference asks it. -/
theorem rdy_spec {L : List Nat} {p q : Nat} {fl : List Bool} (h : DoneK T L q 0 fl) (hL : ∀ q ∈ L, q < (parts T).length) (hp : p < (parts T).length) {a : Nat} {r : List Int} (ha : (parts T)[p] = (a : Int) :: r) (haT : a < T.length) :
    Rdy T L p ↔ fl.getD a false = false ∧ openB T (parts T)[p] fl = true := by
  have hin : fl.getD a false = true ↔ p ∈ L := by
    rw [h.getD haT]
    constructor
    · rintro ⟨q, hq, hm⟩
      rw [parts_getD (hL q hq)] at hm
      have := parts_disj hp (hL q hq) (y := (a : Int)) (by rw [ha]; simp) hm
      exact this ▸ hq
    · intro hm
      exact ⟨p, hm, by rw [parts_getD hp, ha]; simp⟩
  have hnot : fl.getD a false = false ↔ p ∉ L := by rw [← Bool.not_eq_true, hin]
  rw [hnot, openB_iff]
  constructor
  · rintro ⟨h1, _, h2⟩
    refine ⟨h1, fun y hy z hz => ?_⟩
    have hzr := mem_insOf.1 hz
    rcases h2 y hy z hz with h3 | h3
    · exact .inr h3
    · refine .inl ((h.getD (by omega)).2 ?_)
      obtain ⟨q, hq, hm⟩ := h3
      exact ⟨q, hq, by rw [show ((z.toNat : Nat) : Int) = z by omega]; exact hm⟩
  · rintro ⟨h1, h2⟩
    refine ⟨h1, hp, fun y hy z hz => ?_⟩
    have hzr := mem_insOf.1 hz
    rcases h2 y hy z hz with h3 | h3
    · obtain ⟨q, hq, hm⟩ := (h.getD (by omega)).1 h3
      exact .inr ⟨q, hq, by rw [show ((z.toNat : Nat) : Int) = z by omega] at hm; exact hm⟩
    · exact .inl h3

/-- The flags of those whose first is before i, and of those of i's part before k. -/
structure MetK (T : List (List Int)) (i k : Nat) (fl : List Bool) : Prop where
  len : fl.length = T.length
  iff : ∀ c (h : c < fl.length), fl[c] = true ↔ (∃ b, b < i ∧ isLdr T b = true ∧ Eqv T b c) ∨ (c < k ∧ Eqv T i c)

theorem MetK.start : MetK T 0 0 (List.replicate T.length false) := ⟨by simp, fun c h => by simp⟩
theorem MetK.zero {i k : Nat} {fl : List Bool} (h : MetK T i 0 fl) (hi : isLdr T i = true) (hk : k ≤ i) : MetK T i k fl := by
  refine ⟨h.len, fun c hc => ?_⟩
  rw [h.iff c hc]
  refine or_congr_right ⟨fun h => by omega, fun ⟨h1, h2⟩ => ?_⟩
  have := isLdr_yes hi (b := c) (by omega)
  rw [eqB_iff.2 h2.symm] at this
  cases this
theorem MetK.yes {i k : Nat} {fl : List Bool} (h : MetK T i k fl) (he : eqB T i k = true) : MetK T i (k + 1) (fl.set k true) := by
  refine ⟨by simpa using h.len, fun c hc => ?_⟩
  simp only [List.length_set] at hc
  rw [List.getElem_set]
  split
  · rename_i e; subst e
    exact ⟨fun _ => .inr ⟨by omega, eqB_iff.1 he⟩, fun _ => rfl⟩
  · rename_i hne
    rw [h.iff c hc]
    refine or_congr_right ⟨fun ⟨h1, h2⟩ => ⟨by omega, h2⟩, fun ⟨h1, h2⟩ => ⟨by omega, h2⟩⟩
theorem MetK.no {i k : Nat} {fl : List Bool} (h : MetK T i k fl) (he : eqB T i k = false) : MetK T i (k + 1) fl := by
  refine ⟨h.len, fun c hc => ?_⟩
  rw [h.iff c hc]
  refine or_congr_right ⟨fun ⟨h1, h2⟩ => ⟨by omega, h2⟩, fun ⟨h1, h2⟩ => ⟨?_, h2⟩⟩
  have : c ≠ k := fun e => by subst e; exact eqB_no.1 he h2
  omega
theorem MetK.fin {i : Nat} {fl : List Bool} (h : MetK T i T.length fl) (hi : isLdr T i = true) : MetK T (i + 1) 0 fl := by
  refine ⟨h.len, fun c hc => ?_⟩
  rw [h.iff c hc]
  have hcn : c < T.length := by rw [← h.len]; exact hc
  constructor
  · rintro (⟨b, h1, h2, h3⟩ | ⟨_, h3⟩)
    · exact .inl ⟨b, by omega, h2, h3⟩
    · exact .inl ⟨i, by omega, hi, h3⟩
  · rintro (⟨b, h1, h2, h3⟩ | ⟨h1, _⟩)
    · by_cases e : b = i
      · subst e; exact .inr ⟨hcn, h3⟩
      · exact .inl ⟨b, by omega, h2, h3⟩
    · omega
theorem MetK.skip {i : Nat} {fl : List Bool} (h : MetK T i 0 fl) (hi : isLdr T i = false) : MetK T (i + 1) 0 fl := by
  refine ⟨h.len, fun c hc => ?_⟩
  rw [h.iff c hc]
  constructor
  · rintro (⟨b, h1, h2, h3⟩ | ⟨h1, _⟩)
    · exact .inl ⟨b, by omega, h2, h3⟩
    · omega
  · rintro (⟨b, h1, h2, h3⟩ | ⟨h1, _⟩)
    · by_cases e : b = i
      · subst e; rw [hi] at h2; cases h2
      · exact .inl ⟨b, by omega, h2, h3⟩
    · omega
/-- The flag of i tells whether it is a first. -/
theorem MetK.here {i : Nat} {fl : List Bool} (h : MetK T i 0 fl) (hi : i < fl.length) : fl[i] = !isLdr T i := by
  rw [Bool.eq_iff_iff, h.iff i hi, Bool.not_eq_true']
  constructor
  · rintro (⟨b, h1, h2, h3⟩ | ⟨h1, _⟩)
    · exact isLdr_mk_no h1 (eqB_iff.2 h3)
    · omega
  · intro hf
    obtain ⟨b, h1, h2, h3⟩ := ldr_of (T := T) i
    refine .inl ⟨b, ?_, h2, h3⟩
    have : b ≠ i := fun e => by subst e; rw [hf] at h2; cases h2
    omega
end Go.Proofs.Ytcphimmkkfpohaa
