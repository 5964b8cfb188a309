/- The first element that passes a test. No condition. -/
import Derived.Test.YtmfcagcanhmdbaaBase
namespace Go.Proofs.Ytmfcagcanhmdbaa
open Go.RowKit

theorem find_at {α : Type} {p : α → Bool} {xs : List α} {k : Nat} (hk : k < xs.length) (hp : p xs[k] = true) (h : ∀ j (h : j < xs.length), j < k → p xs[j] = false) : xs.find? p = some xs[k] := by
  induction xs generalizing k with
  | nil => simp at hk
  | cons x xs ih =>
    cases k with
    | zero => simp at hp; simp [hp]
    | succ k =>
      have h0 := h 0 (by simp) (by omega)
      simp at h0
      have := ih (k := k) (by simpa using hk) (by simpa using hp) (fun j hj hjk => by
        have h1 := h (j + 1) (by simp; omega) (by omega)
        rwa [List.getElem_cons_succ] at h1)
      simp [h0, this]

theorem find_none {α : Type} {p : α → Bool} {xs : List α} (h : ∀ j (h : j < xs.length), p xs[j] = false) : xs.find? p = none := by
  rw [List.find?_eq_none]
  intro x hx
  obtain ⟨j, hj, rfl⟩ := List.mem_iff_getElem.1 hx
  simp [h j hj]

theorem SlR.takeK {α : Type} [Rd α] {fp : List Nat} {w : World} {a : Option Addr} {len cap : Nat} {xs : List α} (h : SlR fp w (.slice a len cap) xs) {k : Nat} (hk : k ≤ xs.length) : ∃ fq, SlR fq w (.slice a k cap) (xs.take k) := by
  obtain ⟨a', cap', hv, h1, h2, h3⟩ := h
  injection hv with e1 e2 e3
  subst e1 e3
  have hl : (xs.take k).length = k := by simp; omega
  by_cases h0 : k = 0
  · subst h0
    exact ⟨[], a, cap, by simp, by simp, by simp, .inl ⟨by simp, rfl⟩⟩
  · rcases h3 with ⟨rfl, _⟩ | ⟨b, off, fps, hne, rfl, _, hlen, hfr, hx⟩
    · simp at hk; omega
    · refine ⟨b :: (fps.take k).flatten, some ⟨b, off, none⟩, cap, by rw [hl], by rw [hl]; omega, by rw [hl]; omega, .inr ⟨b, off, fps.take k, fun e => by rw [e] at hl; simp at hl; omega, rfl, rfl, by simp; omega, fun j hj => hfr j (Nat.lt_of_lt_of_le hj (Nat.mul_le_mul_right _ (by omega))), fun i hi hi' => ?_⟩⟩
      have hik : i < k := by omega
      obtain ⟨cs, hc, hr⟩ := hx i (by omega) (by omega)
      exact ⟨cs, hc, by simpa using hr⟩

end Go.Proofs.Ytmfcagcanhmdbaa
