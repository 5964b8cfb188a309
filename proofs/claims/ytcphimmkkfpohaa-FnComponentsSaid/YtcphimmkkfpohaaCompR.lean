/- The search for what an instance reaches: flags, and a list of what was met. Plain Lean, no program in sight. -/
import Derived.Test.YtcphimmkkfpohaaComp
namespace Go.Proofs.Ytcphimmkkfpohaa

variable {T : List (List Int)}

noncomputable def reachRow (T : List (List Int)) (a : Nat) : List Bool := (List.range T.length).map (rcB T a)
noncomputable def reachAll (T : List (List Int)) : List (List Bool) := (List.range T.length).map (reachRow T)
theorem reachRow_len (a : Nat) : (reachRow T a).length = T.length := by simp [reachRow]
theorem reachRow_at {a c : Nat} (h : c < (reachRow T a).length) : (reachRow T a)[c] = rcB T a c := by simp [reachRow]
theorem reachAll_len : (reachAll T).length = T.length := by simp [reachAll]
theorem reachAll_at {a : Nat} (h : a < (reachAll T).length) : (reachAll T)[a] = reachRow T a := by simp [reachAll]

/-- a and the list R of instances met, the first i of a :: R looked through; fl: the flags of those met. -/
structure RInv (T : List (List Int)) (a i : Nat) (R : List Nat) (fl : List Bool) : Prop where
  len : fl.length = T.length
  al : a < T.length
  bnd : ∀ y ∈ R, y < T.length
  flg : ∀ c (h : c < fl.length), fl[c] = true ↔ c ∈ R
  nd : R.Nodup
  snd : ∀ c ∈ R, Rc T a c
  ile : i ≤ R.length + 1
  done : ∀ m (h : m < (a :: R).length), m < i → ∀ z : Nat, (z : Int) ∈ insOf T (a :: R)[m] → z ∈ R

theorem RInv.start {a : Nat} (ha : a < T.length) : RInv T a 0 [] (List.replicate T.length false) :=
  ⟨by simp, ha, by simp, fun c h => by simp, by simp, by simp, by simp, fun m _ hm => by omega⟩

theorem RInv.push {a i : Nat} {R : List Nat} {fl : List Bool} (h : RInv T a i R fl) (hi : i < (a :: R).length) {z : Nat} (hz : (z : Int) ∈ insOf T (a :: R)[i]) (hn : z ∉ R) : RInv T a i (R ++ [z]) (fl.set z true) := by
  have hzn : z < T.length := by have := mem_insOf.1 hz; omega
  obtain ⟨h1, h2, h3, h4, h5, h6, h7, h8⟩ := h
  refine ⟨by simpa using h1, h2, fun y hy => ?_, fun c hc => ?_, ?_, fun c hc => ?_, by simp; omega, fun m hm hmi y hy => ?_⟩
  · rcases List.mem_append.1 hy with hy | hy
    · exact h3 y hy
    · obtain rfl : y = z := by simpa using hy
      exact hzn
  · simp only [List.length_set] at hc
    rw [List.getElem_set]
    split
    · rename_i e; subst e; simp
    · rename_i e
      rw [h4 c hc, List.mem_append]
      simp only [List.mem_singleton]
      exact ⟨.inl, fun h => h.resolve_right fun h => e h.symm⟩
  · rw [List.nodup_append]
    exact ⟨h5, by simp, fun u hu v hv e => hn (by simp at hv; rw [← hv, ← e]; exact hu)⟩
  · rcases List.mem_append.1 hc with hc | hc
    · exact h6 c hc
    · obtain rfl : c = z := by simpa using hc
      cases i with
      | zero => exact Rc.one (by simpa using hz)
      | succ i =>
        have hi2 : i < R.length := by simpa using hi
        have : (a :: R)[i + 1] = R[i] := rfl
        rw [this] at hz
        exact (h6 _ (List.getElem_mem hi2)).step hz
  · have hm2 : m < (a :: R).length := by simp at hi ⊢; omega
    have e : (a :: (R ++ [z]))[m] = (a :: R)[m] := by
      cases m with
      | zero => rfl
      | succ m =>
        simp only [List.getElem_cons_succ]
        exact List.getElem_append_left (by simpa using hm2)
    rw [e] at hy
    exact List.mem_append_left _ (h8 m hm2 hmi y hy)

theorem RInv.next {a i : Nat} {R : List Nat} {fl : List Bool} (h : RInv T a i R fl) (hi : i < (a :: R).length) (hc : ∀ z : Nat, (z : Int) ∈ insOf T (a :: R)[i] → z ∈ R) : RInv T a (i + 1) R fl := by
  obtain ⟨h1, h2, h3, h4, h5, h6, h7, h8⟩ := h
  refine ⟨h1, h2, h3, h4, h5, h6, by simp at hi; omega, fun m hm hmi z hz => ?_⟩
  by_cases hmi2 : m < i
  · exact h8 m hm hmi2 z hz
  · obtain rfl : m = i := by omega
    exact hc z hz

theorem RInv.le {a i : Nat} {R : List Nat} {fl : List Bool} (h : RInv T a i R fl) : R.length ≤ T.length := by
  have := len_le_of_sub (R := R) (L := List.range T.length) h.nd fun y hy => List.mem_range.2 (h.bnd y hy)
  simpa using this

theorem RInv.at_lt {a i : Nat} {R : List Nat} {fl : List Bool} (h : RInv T a i R fl) {m : Nat} (hm : m < (a :: R).length) : (a :: R)[m] < T.length := by
  cases m with
  | zero => exact h.al
  | succ m => exact h.bnd _ (List.getElem_mem (l := R) (by simpa using hm))

theorem RInv.fin {a : Nat} {R : List Nat} {fl : List Bool} (h : RInv T a (R.length + 1) R fl) : fl = reachRow T a := by
  obtain ⟨h1, h2, h3, h4, h5, h6, h7, h8⟩ := h
  apply List.ext_getElem
  · rw [h1, reachRow_len]
  · intro c hc hc2
    rw [reachRow_at, Bool.eq_iff_iff, h4 c hc, rcB_iff]
    refine ⟨h6 c, fun hr => ?_⟩
    refine hr (fun x => x ∈ R) (fun d hd => h8 0 (by simp) (by omega) d hd) fun p d hp hd => ?_
    obtain ⟨m, hm, rfl⟩ := List.mem_iff_getElem.1 hp
    exact h8 (m + 1) (by simpa using hm) (by omega) d hd
end Go.Proofs.Ytcphimmkkfpohaa
