/- Components of a table: classes of instances that reach each other, in an order of their inputs. Plain Lean, no program in sight. -/
import Derived.Test.YtcphimmkkfpohaaBase
namespace Go.Proofs.Ytcphimmkkfpohaa

/-- The inputs of instance i that are instances. -/
def inR (n : Nat) (y : Int) : Bool := decide (0 ≤ y) && decide (y ≤ (n : Int) - 1)
theorem inR_yes {n : Nat} {y : Int} (h : 0 ≤ y) (k : y ≤ (n : Int) - 1) : inR n y = true := by
  unfold inR; rw [decide_eq_true h, decide_eq_true k]; rfl
theorem inR_no {n : Nat} {y : Int} (h : y < 0 ∨ (n : Int) - 1 < y) : inR n y = false := by
  unfold inR
  rcases h with h | h
  · rw [decide_eq_false (by omega)]; rfl
  · rw [decide_eq_false (p := y ≤ (n : Int) - 1) (by omega), Bool.and_false]
theorem inR_iff {n : Nat} {y : Int} : inR n y = true ↔ 0 ≤ y ∧ y ≤ (n : Int) - 1 := by
  unfold inR; rw [Bool.and_eq_true, decide_eq_true_iff, decide_eq_true_iff]
def insOf (T : List (List Int)) (i : Nat) : List Int := (T.getD i []).filter (inR T.length)

theorem mem_insOf {T : List (List Int)} {i : Nat} {y : Int} : y ∈ insOf T i ↔ y ∈ T.getD i [] ∧ 0 ≤ y ∧ y ≤ (T.length : Int) - 1 := by
  unfold insOf
  rw [List.mem_filter, inR_iff]
theorem insOf_at {T : List (List Int)} {i : Nat} (h : i < T.length) : insOf T i = T[i].filter (inR T.length) := by
  unfold insOf
  rw [List.getD_eq_getElem?_getD, List.getElem?_eq_getElem h]; rfl
/-- All inputs. -/
def insAll (T : List (List Int)) : List (List Int) := (List.range T.length).map (insOf T)
theorem insAll_len (T : List (List Int)) : (insAll T).length = T.length := by simp [insAll]
theorem insAll_at {T : List (List Int)} {i : Nat} (h : i < (insAll T).length) : (insAll T)[i] = insOf T i := by simp [insAll]

/-- One or more steps lead from a to c. -/
def Rc (T : List (List Int)) (a c : Nat) : Prop :=
  ∀ S : Nat → Prop, (∀ d : Nat, (d : Int) ∈ insOf T a → S d) → (∀ p d : Nat, S p → (d : Int) ∈ insOf T p → S d) → S c

section
variable {T : List (List Int)}

theorem Rc.one {a d : Nat} (h : (d : Int) ∈ insOf T a) : Rc T a d := fun _ h1 _ => h1 d h
theorem Rc.step {a p d : Nat} (h : Rc T a p) (hd : (d : Int) ∈ insOf T p) : Rc T a d := fun S h1 h2 => h2 p d (h S h1 h2) hd
theorem Rc.trans {a b c : Nat} (h : Rc T a b) (k : Rc T b c) : Rc T a c := k (fun x => Rc T a x) (fun _ hd => h.step hd) (fun _ _ hp hd => hp.step hd)
theorem Rc.lt {a c : Nat} (h : Rc T a c) : c < T.length :=
  h (fun x => x < T.length) (fun d hd => by have := mem_insOf.1 hd; omega) (fun _ d _ hd => by have := mem_insOf.1 hd; omega)

/-- The same component. -/
def Eqv (T : List (List Int)) (a b : Nat) : Prop := a = b ∨ (Rc T a b ∧ Rc T b a)
theorem Eqv.refl (a : Nat) : Eqv T a a := .inl rfl
theorem Eqv.symm {a b : Nat} (h : Eqv T a b) : Eqv T b a := by
  rcases h with rfl | ⟨h1, h2⟩
  · exact .inl rfl
  · exact .inr ⟨h2, h1⟩
theorem Eqv.trans {a b c : Nat} (h : Eqv T a b) (k : Eqv T b c) : Eqv T a c := by
  rcases h with rfl | ⟨h1, h2⟩
  · exact k
  · rcases k with rfl | ⟨k1, k2⟩
    · exact .inr ⟨h1, h2⟩
    · exact .inr ⟨h1.trans k1, k2.trans h2⟩

noncomputable def rcB (T : List (List Int)) (a c : Nat) : Bool := @decide (Rc T a c) (Classical.propDecidable _)
theorem rcB_iff {a c : Nat} : rcB T a c = true ↔ Rc T a c := @decide_eq_true_iff _ (Classical.propDecidable _)
noncomputable def eqB (T : List (List Int)) (a b : Nat) : Bool := @decide (Eqv T a b) (Classical.propDecidable _)
theorem eqB_iff {a c : Nat} : eqB T a c = true ↔ Eqv T a c := @decide_eq_true_iff _ (Classical.propDecidable _)
theorem eqB_no {a c : Nat} : eqB T a c = false ↔ ¬ Eqv T a c := by
  rw [← eqB_iff, Bool.not_eq_true]
theorem eqB_rc {a c : Nat} (h : a ≠ c) : eqB T a c = (rcB T a c && rcB T c a) := by
  rw [Bool.eq_iff_iff, eqB_iff, Bool.and_eq_true, rcB_iff, rcB_iff]
  exact ⟨fun e => e.resolve_left h, .inr⟩

/-- The first of its component. -/
noncomputable def isLdr (T : List (List Int)) (a : Nat) : Bool := !(List.range a).any fun b => eqB T b a
theorem isLdr_yes {a : Nat} (h : isLdr T a = true) {b : Nat} (hb : b < a) : eqB T b a = false := by
  unfold isLdr at h
  rw [Bool.not_eq_true', List.any_eq_false] at h
  simpa using h b (List.mem_range.2 hb)
theorem isLdr_no {a : Nat} (h : isLdr T a = false) : ∃ b, b < a ∧ eqB T b a = true := by
  unfold isLdr at h
  rw [Bool.not_eq_false', List.any_eq_true] at h
  obtain ⟨b, hb, he⟩ := h
  exact ⟨b, List.mem_range.1 hb, he⟩
theorem isLdr_mk {a : Nat} (h : ∀ b, b < a → eqB T b a = false) : isLdr T a = true := by
  unfold isLdr
  rw [Bool.not_eq_true', List.any_eq_false]
  intro b hb
  simp [h b (List.mem_range.1 hb)]
theorem isLdr_mk_no {a b : Nat} (hb : b < a) (h : eqB T b a = true) : isLdr T a = false := by
  unfold isLdr
  rw [Bool.not_eq_false', List.any_eq_true]
  exact ⟨b, List.mem_range.2 hb, h⟩

noncomputable def ldrs (T : List (List Int)) (i : Nat) : List Nat := (List.range i).filter (isLdr T)
theorem ldrs_zero : ldrs T 0 = [] := rfl
theorem ldrs_yes {i : Nat} (h : isLdr T i = true) : ldrs T (i + 1) = ldrs T i ++ [i] := by
  unfold ldrs; rw [List.range_succ, List.filter_append]; simp [h]
theorem ldrs_no {i : Nat} (h : isLdr T i = false) : ldrs T (i + 1) = ldrs T i := by
  unfold ldrs; rw [List.range_succ, List.filter_append]; simp [h]
theorem mem_ldrs {i a : Nat} : a ∈ ldrs T i ↔ a < i ∧ isLdr T a = true := by
  unfold ldrs; rw [List.mem_filter, List.mem_range]
theorem ldrs_nodup (i : Nat) : (ldrs T i).Nodup := List.nodup_range.sublist List.filter_sublist
theorem ldrs_le (i : Nat) : (ldrs T i).length ≤ i := by
  have := List.length_filter_le (isLdr T) (List.range i)
  unfold ldrs; simpa using this

/-- Whoever is equal to an instance has a first one. -/
theorem ldr_of (a : Nat) : ∃ b, b ≤ a ∧ isLdr T b = true ∧ Eqv T b a := by
  induction a using Nat.strongRecOn with
  | ind a ih =>
    by_cases h : isLdr T a = true
    · exact ⟨a, Nat.le_refl _, h, Eqv.refl a⟩
    · obtain ⟨b, hb, he⟩ := isLdr_no (by simpa using h)
      obtain ⟨c, hc, h1, h2⟩ := ih b hb
      exact ⟨c, by omega, h1, h2.trans (eqB_iff.1 he)⟩

theorem ldr_uniq {a b : Nat} (ha : isLdr T a = true) (hb : isLdr T b = true) (h : Eqv T a b) : a = b := by
  rcases Nat.lt_trichotomy a b with hlt | he | hgt
  · have := isLdr_yes hb hlt; rw [eqB_iff.2 h] at this; cases this
  · exact he
  · have := isLdr_yes ha hgt; rw [eqB_iff.2 h.symm] at this; cases this

/-- The instances before i that are in the component of a. -/
noncomputable def clsI (T : List (List Int)) (i a : Nat) : List Int := ((List.range i).filter (eqB T a)).map Int.ofNat
theorem mem_clsI {i a : Nat} {y : Int} : y ∈ clsI T i a ↔ ∃ k : Nat, y = k ∧ k < i ∧ Eqv T a k := by
  unfold clsI
  rw [List.mem_map]
  constructor
  · rintro ⟨k, hk, rfl⟩
    rw [List.mem_filter, List.mem_range, eqB_iff] at hk
    exact ⟨k, rfl, hk⟩
  · rintro ⟨k, rfl, h1, h2⟩
    exact ⟨k, by rw [List.mem_filter, List.mem_range, eqB_iff]; exact ⟨h1, h2⟩, rfl⟩
theorem clsI_zero (a : Nat) : clsI T 0 a = [] := rfl
theorem clsI_yes {i a : Nat} (h : eqB T a i = true) : clsI T (i + 1) a = clsI T i a ++ [(i : Int)] := by
  unfold clsI; rw [List.range_succ, List.filter_append]; simp [h]
theorem clsI_no {i a : Nat} (h : eqB T a i = false) : clsI T (i + 1) a = clsI T i a := by
  unfold clsI; rw [List.range_succ, List.filter_append]; simp [h]
theorem clsI_ldr {i : Nat} (h : isLdr T i = true) : clsI T i i = [] := by
  unfold clsI
  have : (List.range i).filter (eqB T i) = [] := by
    rw [List.filter_eq_nil_iff]
    intro b hb e
    have h1 := isLdr_yes h (List.mem_range.1 hb)
    rw [eqB_iff.2 (eqB_iff.1 e).symm] at h1
    cases h1
  rw [this]; rfl
theorem clsI_len (i a : Nat) : (clsI T i a).length ≤ i := by
  unfold clsI
  have := List.length_filter_le (eqB T a) (List.range i)
  simpa using this
theorem clsI_head {n a : Nat} (h : isLdr T a = true) (ha : a < n) : ∃ r, clsI T n a = (a : Int) :: r := by
  induction n with
  | zero => omega
  | succ n ih =>
    by_cases he : a = n
    · subst he
      rw [clsI_yes (eqB_iff.2 (Eqv.refl a)), clsI_ldr h]
      exact ⟨[], rfl⟩
    · obtain ⟨r, hr⟩ := ih (by omega)
      cases hb : eqB T a n with
      | true => rw [clsI_yes hb, hr]; exact ⟨_, rfl⟩
      | false => rw [clsI_no hb, hr]; exact ⟨_, rfl⟩

/-- The parts that the first i instances make. -/
noncomputable def partsI (T : List (List Int)) (i : Nat) : List (List Int) := (ldrs T i).map (clsI T i)
theorem partsI_len (i : Nat) : (partsI T i).length = (ldrs T i).length := by unfold partsI; simp
theorem partsI_at {i j : Nat} (h : j < (partsI T i).length) : (partsI T i)[j] = clsI T i ((ldrs T i)[j]'(by rw [← partsI_len]; exact h)) := by
  simp [partsI]
theorem partsI_ldr {i : Nat} (h : isLdr T i = true) : partsI T (i + 1) = partsI T i ++ [[(i : Int)]] := by
  unfold partsI
  rw [ldrs_yes h, List.map_append, List.map_cons, List.map_nil, clsI_yes (eqB_iff.2 (Eqv.refl i)), clsI_ldr h]
  congr 1
  apply List.map_congr_left
  intro a ha
  exact clsI_no (isLdr_yes h (mem_ldrs.1 ha).1)
theorem partsI_old {i j : Nat} (h : isLdr T i = false) (hj : j < (ldrs T i).length) (he : eqB T (ldrs T i)[j] i = true) :
    partsI T (i + 1) = (partsI T i).set j ((partsI T i)[j]'(by rw [partsI_len]; exact hj) ++ [(i : Int)]) := by
  apply List.ext_getElem
  · simp [partsI_len, ldrs_no h]
  · intro q h1 h2
    have hq : q < (ldrs T i).length := by rw [partsI_len, ldrs_no h] at h1; exact h1
    rw [partsI_at h1, List.getElem_set]
    simp only [ldrs_no h]
    split
    · rename_i e
      subst e
      rw [clsI_yes he, partsI_at]
    · rename_i e
      rw [partsI_at]
      refine clsI_no (eqB_no.2 fun hh => e ?_)
      have m1 := mem_ldrs.1 (List.getElem_mem (l := ldrs T i) hj)
      have m2 := mem_ldrs.1 (List.getElem_mem (l := ldrs T i) hq)
      have := ldr_uniq m1.2 m2.2 ((eqB_iff.1 he).trans hh.symm)
      exact (List.getElem_inj (ldrs_nodup i)).1 this

/-- The place of an instance's component. -/
theorem place_of {i k : Nat} (hk : k < i) : ∃ j, ∃ h : j < (ldrs T i).length, Eqv T (ldrs T i)[j] k := by
  obtain ⟨b, hb, h1, h2⟩ := ldr_of (T := T) k
  obtain ⟨j, hj, e⟩ := List.mem_iff_getElem.1 (mem_ldrs.2 ⟨(by omega : b < i), h1⟩)
  exact ⟨j, hj, by rw [e]; exact h2⟩
theorem place_uniq {i j q k : Nat} (hj : j < (ldrs T i).length) (hq : q < (ldrs T i).length) (h1 : Eqv T (ldrs T i)[j] k) (h2 : Eqv T (ldrs T i)[q] k) : j = q := by
  have m1 := mem_ldrs.1 (List.getElem_mem (l := ldrs T i) hj)
  have m2 := mem_ldrs.1 (List.getElem_mem (l := ldrs T i) hq)
  exact (List.getElem_inj (ldrs_nodup i)).1 (ldr_uniq m1.2 m2.2 (h1.trans h2.symm))

/-- All parts. -/
noncomputable abbrev parts (T : List (List Int)) : List (List Int) := partsI T T.length
theorem mem_parts {j : Nat} (hj : j < (parts T).length) {y : Int} : y ∈ (parts T)[j] ↔ ∃ k : Nat, y = k ∧ k < T.length ∧ ∃ h : j < (ldrs T T.length).length, Eqv T (ldrs T T.length)[j] k := by
  have hj' : j < (ldrs T T.length).length := by rw [← partsI_len]; exact hj
  rw [partsI_at, mem_clsI]
  exact ⟨fun ⟨k, h1, h2, h3⟩ => ⟨k, h1, h2, hj', h3⟩, fun ⟨k, h1, h2, _, h3⟩ => ⟨k, h1, h2, h3⟩⟩
theorem parts_getD {j : Nat} (hj : j < (parts T).length) : (parts T).getD j [] = (parts T)[j] := by
  rw [List.getD_eq_getElem?_getD, List.getElem?_eq_getElem hj]; rfl
theorem parts_le : (parts T).length ≤ T.length := by rw [partsI_len]; exact ldrs_le _
theorem parts_disj {j q : Nat} (hj : j < (parts T).length) (hq : q < (parts T).length) {y : Int} (h1 : y ∈ (parts T)[j]) (h2 : y ∈ (parts T)[q]) : j = q := by
  obtain ⟨k, rfl, hk, h3, h4⟩ := (mem_parts hj).1 h1
  obtain ⟨k', e, hk', h5, h6⟩ := (mem_parts hq).1 h2
  obtain rfl : k = k' := by omega
  exact place_uniq h3 h5 h4 h6
theorem parts_cover {k : Nat} (hk : k < T.length) : ∃ j, ∃ h : j < (parts T).length, (k : Int) ∈ (parts T)[j] := by
  obtain ⟨j, hj, he⟩ := place_of (T := T) hk
  exact ⟨j, by rw [partsI_len]; exact hj, (mem_parts _).2 ⟨k, rfl, hk, hj, he⟩⟩
theorem parts_head {j : Nat} (hj : j < (parts T).length) : ∃ (a : Nat) (r : List Int), (parts T)[j] = (a : Int) :: r ∧ a < T.length := by
  have hj' : j < (ldrs T T.length).length := by rw [← partsI_len]; exact hj
  have m := mem_ldrs.1 (List.getElem_mem (l := ldrs T T.length) hj')
  obtain ⟨r, hr⟩ := clsI_head m.2 m.1
  refine ⟨_, r, ?_, m.1⟩
  rw [partsI_at, hr]
theorem parts_size {j : Nat} (hj : j < (parts T).length) : (parts T)[j].length ≤ T.length := by
  rw [partsI_at]; exact clsI_len _ _

/-- A part is ready: it is not in the list, and all its inputs are its own or of parts in the list. -/
def Rdy (T : List (List Int)) (L : List Nat) (p : Nat) : Prop :=
  p ∉ L ∧ ∃ h : p < (parts T).length, ∀ y ∈ (parts T)[p], ∀ z ∈ insOf T y.toNat, z ∈ (parts T)[p] ∨ ∃ q ∈ L, z ∈ (parts T).getD q []

theorem filter_lt {α : Type} {p q : α → Bool} {l : List α} (h : ∀ x ∈ l, p x = true → q x = true) {a : α} (ha : a ∈ l) (h1 : q a = true) (h2 : p a = false) : (l.filter p).length < (l.filter q).length := by
  induction l with
  | nil => cases ha
  | cons x l ih =>
    have hle : (l.filter p).length ≤ (l.filter q).length := by
      have hh : ∀ y ∈ l, p y = true → q y = true := fun y hy => h y (List.mem_cons_of_mem _ hy)
      clear ih ha h
      induction l with
      | nil => simp
      | cons y l ih =>
        have := ih fun z hz => hh z (List.mem_cons_of_mem _ hz)
        have hy := hh y (by simp)
        simp only [List.filter_cons]
        cases hp : p y with
        | true => rw [hy hp]; simpa using this
        | false =>
          cases q y
          · simpa using this
          · simp; omega
    simp only [List.filter_cons]
    rcases List.mem_cons.1 ha with rfl | ha
    · rw [h1, h2]; simp; omega
    · have := ih (fun y hy => h y (List.mem_cons_of_mem _ hy)) ha
      have hx := h x (by simp)
      cases hp : p x with
      | true => rw [hx hp]; simpa using this
      | false =>
        cases q x
        · simpa using this
        · simp; omega

theorem len_le_of_sub {R : List Nat} : ∀ {L : List Nat}, R.Nodup → (∀ p ∈ R, p ∈ L) → R.length ≤ L.length := by
  induction R with
  | nil => intro L _ _; simp
  | cons x R ih =>
    intro L hn hs
    have hx := hs x (by simp)
    have h2 := List.nodup_cons.1 hn
    have h3 := ih (L := L.erase x) h2.2 fun p hp => (List.mem_erase_of_ne (fun e => by subst e; exact h2.1 hp)).2 (hs p (List.mem_cons_of_mem _ hp))
    have h4 := List.length_erase_of_mem hx
    have h5 : 0 < L.length := List.length_pos_of_mem hx
    simp only [List.length_cons]
    omega

/-- How many instances are reached from one, itself among them. -/
noncomputable def rsN (T : List (List Int)) (i : Nat) : Nat := ((List.range T.length).filter fun c => c == i || rcB T i c).length
theorem rs_iff {i c : Nat} : (c == i || rcB T i c) = true ↔ c = i ∨ Rc T i c := by
  rw [Bool.or_eq_true, beq_iff_eq, rcB_iff]

theorem rdy_from {L : List Nat} (N : Nat) : ∀ i, i < T.length → rsN T i ≤ N → (∀ q ∈ L, (i : Int) ∉ (parts T).getD q []) → ∃ p, Rdy T L p := by
  induction N with
  | zero =>
    intro i hi hN _
    have : 0 < rsN T i := by
      unfold rsN
      exact List.length_pos_of_mem (List.mem_filter.2 ⟨List.mem_range.2 hi, rs_iff.2 (.inl rfl)⟩)
    omega
  | succ N ih =>
    intro i hi hN hq
    obtain ⟨p, hp, hip⟩ := parts_cover hi
    have hpL : p ∉ L := fun h => hq p h (by rw [parts_getD hp]; exact hip)
    by_cases hall : ∀ y ∈ (parts T)[p], ∀ z ∈ insOf T y.toNat, z ∈ (parts T)[p] ∨ ∃ q ∈ L, z ∈ (parts T).getD q []
    · exact ⟨p, hpL, hp, hall⟩
    · simp only [Classical.not_forall, not_or, not_exists, not_and] at hall
      obtain ⟨y, hy, z, hz, h1, h2⟩ := hall
      obtain ⟨ky, rfl, hky, hpy, e1⟩ := (mem_parts hp).1 hy
      obtain ⟨ki, eki, hki, hpi, e2⟩ := (mem_parts hp).1 hip
      obtain rfl : i = ki := by omega
      have hzr := mem_insOf.1 hz
      obtain ⟨kz, rfl⟩ : ∃ kz : Nat, z = kz := ⟨z.toNat, by omega⟩
      have hkz : kz < T.length := by omega
      simp only [Int.toNat_natCast] at hz
      have hyz : Rc T ky kz := Rc.one hz
      have hiy : Eqv T i ky := e2.symm.trans e1
      have notback : ¬ (ky = kz ∨ Rc T kz ky) := fun h => h1 ((mem_parts hp).2 ⟨kz, rfl, hkz, hpy, e1.trans (by
        rcases h with rfl | h
        · exact Eqv.refl _
        · exact .inr ⟨hyz, h⟩)⟩)
      have hle : rsN T kz < rsN T i := by
        refine filter_lt (fun c _ hc => ?_) (a := ky) (List.mem_range.2 hky) ?_ ?_
        · rw [rs_iff] at hc ⊢
          have hyc : Rc T ky c := by
            rcases hc with rfl | hc
            · exact hyz
            · exact hyz.trans hc
          rcases hiy with rfl | ⟨h, _⟩
          · exact .inr hyc
          · exact .inr (h.trans hyc)
        · rw [rs_iff]
          rcases hiy with rfl | ⟨h, _⟩
          · exact .inl rfl
          · exact .inr h
        · exact Bool.eq_false_iff.2 fun h => notback (rs_iff.1 h)
      exact ih kz hkz (by omega) h2

/-- Where something is left, something is ready. -/
theorem rdy_exists {L : List Nat} (hlt : L.length < (parts T).length) (hb : ∀ q ∈ L, q < (parts T).length) : ∃ p, Rdy T L p := by
  have hmiss : ∃ p, p < (parts T).length ∧ p ∉ L := by
    refine Classical.byContradiction fun hn => ?_
    have := len_le_of_sub (R := List.range (parts T).length) (L := L) List.nodup_range fun p hp => Classical.byContradiction fun h => hn ⟨p, List.mem_range.1 hp, h⟩
    simp at this
    omega
  obtain ⟨p, hp, hpL⟩ := hmiss
  obtain ⟨a, r, ha, hat⟩ := parts_head hp
  refine rdy_from (rsN T a) a hat (Nat.le_refl _) fun q hq hm => ?_
  rw [parts_getD (hb q hq)] at hm
  have := parts_disj hp (hb q hq) (y := (a : Int)) (by rw [ha]; simp) hm
  exact hpL (this ▸ hq)

/-- The order of the parts: the first that is ready, again and again. -/
inductive Run (T : List (List Int)) : List Nat → Prop
  | nil : Run T []
  | snoc {L : List Nat} {p : Nat} : Run T L → Rdy T L p → (∀ q, q < p → ¬ Rdy T L q) → Run T (L ++ [p])

theorem Run.inv {L : List Nat} (h : Run T L) : L = [] ∨ ∃ M p, L = M ++ [p] ∧ Run T M ∧ Rdy T M p ∧ ∀ q, q < p → ¬ Rdy T M q := by
  cases h with
  | nil => exact .inl rfl
  | snoc h1 h2 h3 => exact .inr ⟨_, _, rfl, h1, h2, h3⟩

theorem run_uniq : ∀ (n : Nat) {L M : List Nat}, Run T L → Run T M → L.length = n → M.length = n → L = M := by
  intro n
  induction n with
  | zero => intro L M _ _ h1 h2; rw [List.eq_nil_of_length_eq_zero h1, List.eq_nil_of_length_eq_zero h2]
  | succ n ih =>
    intro L M hL hM h1 h2
    rcases hL.inv with rfl | ⟨L', p, rfl, hL', hp, hp'⟩
    · simp at h1
    rcases hM.inv with rfl | ⟨M', q, rfl, hM', hq, hq'⟩
    · simp at h2
    obtain rfl := ih hL' hM' (by simpa using h1) (by simpa using h2)
    rcases Nat.lt_trichotomy p q with h | rfl | h
    · exact absurd hp (hq' p h)
    · rfl
    · exact absurd hq (hp' q h)

theorem Run.facts {L : List Nat} (h : Run T L) : L.Nodup ∧ ∀ q ∈ L, q < (parts T).length := by
  induction h with
  | nil => simp
  | snoc h1 h2 h3 ih =>
    refine ⟨List.nodup_append.2 ⟨ih.1, by simp, fun a ha b hb e => ?_⟩, fun q hq => ?_⟩
    · simp at hb; subst hb; subst e; exact h2.1 ha
    · rcases List.mem_append.1 hq with hq | hq
      · exact ih.2 q hq
      · simp at hq; subst hq; exact h2.2.1

/-- Everything that comes after its inputs. -/
theorem Run.ready {L : List Nat} (h : Run T L) : ∀ i (hi : i < L.length), Rdy T (L.take i) L[i] := by
  induction h with
  | nil => intro i hi; simp at hi
  | @snoc L p h1 h2 h3 ih =>
    intro i hi
    by_cases hlt : i < L.length
    · rw [List.getElem_append_left hlt, List.take_append_of_le_length (by omega)]
      exact ih i hlt
    · obtain rfl : i = L.length := by simp at hi; omega
      simpa using h2

noncomputable def outOfRun (T : List (List Int)) (L : List Nat) : List (List Int) := L.map fun p => (parts T).getD p []

/-- What Components answers. -/
noncomputable def compsOf (T : List (List Int)) : List (List Int) :=
  @dite _ (∃ L, Run T L ∧ L.length = (parts T).length) (Classical.propDecidable _) (fun h => outOfRun T (Classical.choose h)) (fun _ => [])

theorem compsOf_run {L : List Nat} (h : Run T L) (hl : L.length = (parts T).length) : compsOf T = outOfRun T L := by
  have hx : ∃ L, Run T L ∧ L.length = (parts T).length := ⟨L, h, hl⟩
  unfold compsOf
  rw [@dif_pos _ (Classical.propDecidable _) hx]
  have hc := Classical.choose_spec hx
  rw [run_uniq _ hc.1 h hc.2 hl]
end
end Go.Proofs.Ytcphimmkkfpohaa
