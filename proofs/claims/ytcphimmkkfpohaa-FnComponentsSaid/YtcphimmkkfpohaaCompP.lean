/- What the program asks of a part: the places of its inputs' parts, and flags of parts. Plain Lean, no program in sight. -/
import Derived.Test.YtcphimmkkfpohaaCompD
namespace Go.Proofs.Ytcphimmkkfpohaa
variable {T : List (List Int)}

/-- The place of the part of each of the first i instances. -/
def OfK (T : List (List Int)) (i : Nat) (ofs : List Int) : Prop := ofs.length = T.length ∧ ∀ k, k < i → ∃ j, ∃ h : j < (ldrs T i).length, ofs[k]? = some (j : Int) ∧ Eqv T (ldrs T i)[j] k

theorem ldrs_pre {i j : Nat} (h : j < (ldrs T i).length) : ∃ h2 : j < (ldrs T (i + 1)).length, (ldrs T (i + 1))[j] = (ldrs T i)[j] := by
  cases hl : isLdr T i with
  | true =>
    have e := ldrs_yes hl
    refine ⟨by rw [e]; simp; omega, ?_⟩
    simp only [e]
    exact List.getElem_append_left h
  | false =>
    have e := ldrs_no hl
    exact ⟨by rw [e]; exact h, by simp only [e]⟩

theorem OfK.step {i j : Nat} {ofs : List Int} (h : OfK T i ofs) (hi : i < T.length) (hj : j < (ldrs T (i + 1)).length) (he : Eqv T (ldrs T (i + 1))[j] i) : OfK T (i + 1) (ofs.set i (j : Int)) := by
  refine ⟨by simpa using h.1, fun k hk => ?_⟩
  by_cases hki : k = i
  · subst hki
    exact ⟨j, hj, by rw [List.getElem?_set_self (by rw [h.1]; exact hi)], he⟩
  · obtain ⟨q, hq, h1, h2⟩ := h.2 k (by omega)
    obtain ⟨h3, h4⟩ := ldrs_pre hq
    exact ⟨q, h3, by rw [List.getElem?_set_ne (fun e => hki e.symm)]; exact h1, by rw [h4]; exact h2⟩
theorem OfK.set {i j : Nat} {ofs : List Int} (h : OfK T i ofs) (v : Int) (hij : i ≤ j) : OfK T i (ofs.set j v) :=
  ⟨by simpa using h.1, fun k hk => by rw [List.getElem?_set_ne (by omega)]; exact h.2 k hk⟩

/-- The flags of the parts in L. -/
def FlP (T : List (List Int)) (L : List Nat) (fl : List Bool) : Prop := fl.length = (parts T).length ∧ ∀ q (h : q < fl.length), fl[q] = true ↔ q ∈ L
theorem FlP.start : FlP T [] (List.replicate (parts T).length false) := ⟨by simp, fun q h => by simp⟩
theorem FlP.step {L : List Nat} {fl : List Bool} (h : FlP T L fl) (p : Nat) : FlP T (L ++ [p]) (fl.set p true) := by
  refine ⟨by simpa using h.1, fun q hq => ?_⟩
  simp only [List.length_set] at hq
  rw [List.getElem_set, List.mem_append, List.mem_singleton]
  split
  · rename_i e; subst e; simp
  · rename_i hne
    rw [h.2 q hq]
    exact ⟨.inl, fun h => h.resolve_right fun e => hne e.symm⟩

/-- An input that is neither of part p nor done. -/
def notYet (ofs : List Int) (fl : List Bool) (p : Nat) (z : Int) : Bool := (ofs.getD z.toNat 0 != (p : Int)) && !fl.getD (ofs.getD z.toNat 0).toNat false
def notYetB (T : List (List Int)) (ofs : List Int) (fl : List Bool) (p : Nat) (y : Int) : Bool := (insOf T y.toNat).any (notYet ofs fl p)

theorem notYet_iff {ofs : List Int} {fl : List Bool} {L : List Nat} {p k : Nat} (ho : OfK T T.length ofs) (hf : FlP T L fl) (hL : ∀ q ∈ L, q < (parts T).length) (hp : p < (parts T).length) (hk : k < T.length) :
    notYet ofs fl p (k : Int) = false ↔ (k : Int) ∈ (parts T)[p] ∨ ∃ q ∈ L, (k : Int) ∈ (parts T).getD q [] := by
  obtain ⟨j, hj, h1, h2⟩ := ho.2 k hk
  have hjm : j < (parts T).length := by rw [partsI_len]; exact hj
  have hkj : (k : Int) ∈ (parts T)[j] := (mem_parts hjm).2 ⟨k, rfl, hk, hj, h2⟩
  have hjf : j < fl.length := by rw [hf.1]; exact hjm
  unfold notYet
  rw [Int.toNat_natCast, List.getD_eq_getElem?_getD, h1]
  simp only [Option.getD_some, Int.toNat_natCast]
  rw [List.getD_eq_getElem?_getD, List.getElem?_eq_getElem hjf]
  simp only [Option.getD_some, Bool.and_eq_false_iff, bne_eq_false_iff_eq, Bool.not_eq_false', hf.2 j hjf]
  constructor
  · rintro (h | h)
    · have e : j = p := by omega
      subst e; exact .inl hkj
    · exact .inr ⟨j, h, by rw [parts_getD hjm]; exact hkj⟩
  · rintro (h | ⟨q, hq, h⟩)
    · exact .inl (by rw [parts_disj hjm hp hkj h])
    · rw [parts_getD (hL q hq)] at h
      exact .inr (by rw [parts_disj hjm (hL q hq) hkj h]; exact hq)

/-- Ready, as the program asks it. -/
theorem rdy_impl {ofs : List Int} {fl : List Bool} {L : List Nat} {p : Nat} (ho : OfK T T.length ofs) (hf : FlP T L fl) (hL : ∀ q ∈ L, q < (parts T).length) (hp : p < (parts T).length) :
    Rdy T L p ↔ fl.getD p false = false ∧ (parts T)[p].any (notYetB T ofs fl p) = false := by
  have hpf : p < fl.length := by rw [hf.1]; exact hp
  have hnot : fl.getD p false = false ↔ p ∉ L := by
    rw [List.getD_eq_getElem?_getD, List.getElem?_eq_getElem hpf]
    simp only [Option.getD_some]
    rw [← Bool.not_eq_true, hf.2 p hpf]
  rw [hnot, List.any_eq_false]
  constructor
  · rintro ⟨h1, _, h2⟩
    refine ⟨h1, fun y hy => ?_⟩
    unfold notYetB
    rw [Bool.not_eq_true, List.any_eq_false]
    intro z hz
    have hzr := mem_insOf.1 hz
    obtain ⟨k, rfl⟩ : ∃ k : Nat, z = k := ⟨z.toNat, by omega⟩
    rw [Bool.not_eq_true]
    exact (notYet_iff ho hf hL hp (by omega)).2 (h2 y hy _ hz)
  · rintro ⟨h1, h2⟩
    refine ⟨h1, hp, fun y hy z hz => ?_⟩
    have h3 := h2 y hy
    unfold notYetB at h3
    rw [Bool.not_eq_true, List.any_eq_false] at h3
    have hzr := mem_insOf.1 hz
    obtain ⟨k, rfl⟩ : ∃ k : Nat, z = k := ⟨z.toNat, by omega⟩
    have h4 := h3 _ hz
    rw [Bool.not_eq_true] at h4
    exact (notYet_iff ho hf hL hp (by omega)).1 h4
end Go.Proofs.Ytcphimmkkfpohaa
