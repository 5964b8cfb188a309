/- One's own row of cells whose children lead to blocks of one's own. No condition. -/
import Derived.Test.YtmfcagcanhmdbaaFamCell
import Derived.Test.YtmfcagcanhmdbaaOwnBox
import Derived.Test.YtmfcagcanhmdbaaRegC
import Derived.Test.YtmfcagcanhmdbaaCloneI
import Derived.Test.YtmfcagcanhmdbaaFirstW
namespace Go.Proofs.Ytmfcagcanhmdbaa
open Go.RowKit
set_option linter.unusedVariables false

def OwnC (w0 w : World) (v : Value) (F : List Nat) (xs : List GCell) : Prop :=
  ∃ fps : List (List Nat), OwnR (α := GCell) w0 78 w v fps xs ∧ fps.flatten.Nodup ∧ (∀ b ∈ fps.flatten, w0.heap.size ≤ b) ∧ F = v.ownBlock.toList ++ fps.flatten

theorem OwnC.nil (w0 w : World) : OwnC w0 w (.slice none 0 0) [] [] := ⟨[], OwnR.nil w0 w _, by simp, by simp, rfl⟩
theorem OwnC.gr {w0 w w' : World} {v : Value} {F : List Nat} {xs : List GCell} (h : OwnC w0 w v F xs) (hg : Gr w w') : OwnC w0 w' v F xs := by
  obtain ⟨fps, h1, h2, h3, h4⟩ := h
  exact ⟨fps, h1.gr hg, h2, h3, h4⟩
theorem OwnC.wr {w0 w w' : World} {v : Value} {F fq : List Nat} {xs : List GCell} (h : OwnC w0 w v F xs) (hw : Wr fq w w') (hd : ∀ b ∈ F, b ∉ fq) : OwnC w0 w' v F xs := by
  obtain ⟨fps, h1, h2, h3, rfl⟩ := h
  exact ⟨fps, h1.wr hw (fun b hb => hd b (List.mem_append_right _ hb)) (fun b hb => hd b (List.mem_append_left _ (by rw [hb]; simp))), h2, h3, rfl⟩
theorem OwnC.form {w0 w : World} {v : Value} {F : List Nat} {xs : List GCell} (h : OwnC w0 w v F xs) : ∃ a c, v = .slice a xs.length c := by
  obtain ⟨fps, h1, -⟩ := h
  exact h1.form
theorem OwnC.lt {w0 w : World} {v : Value} {F : List Nat} {xs : List GCell} (h : OwnC w0 w v F xs) : ∀ b ∈ F, b < w.heap.size := by
  obtain ⟨fps, h1, h2, h3, rfl⟩ := h
  intro b hb
  rcases List.mem_append.1 hb with hb | hb
  · exact (h1.base b (by simpa using hb)).2
  · exact h1.lt b hb
theorem OwnC.ge {w0 w : World} {v : Value} {F : List Nat} {xs : List GCell} (h : OwnC w0 w v F xs) : ∀ b ∈ F, w0.heap.size ≤ b := by
  obtain ⟨fps, h1, h2, h3, rfl⟩ := h
  intro b hb
  rcases List.mem_append.1 hb with hb | hb
  · exact (h1.base b (by simpa using hb)).1
  · exact h3 b hb
theorem OwnC.lower {w0 w1 w : World} {v : Value} {F : List Nat} {xs : List GCell} (h : OwnC w1 w v F xs) (hs : w0.heap.size ≤ w1.heap.size) : OwnC w0 w v F xs := by
  obtain ⟨fps, h1, h2, h3, rfl⟩ := h
  exact ⟨fps, h1.base_eq hs, h2, fun b hb => Nat.le_trans hs (h3 b hb), rfl⟩
theorem OwnC.of_append {w0 w9 : World} {v9 : Value} {fps : List (List Nat)} {fq : List Nat} {xs : List GCell} {x : GCell} (h : OwnR (α := GCell) w0 78 w9 v9 (fps ++ [fq]) (xs ++ [x])) (hnd : fps.flatten.Nodup) (hge : ∀ b ∈ fps.flatten, w0.heap.size ≤ b) (hq : fq.Nodup) (hq2 : ∀ b ∈ fq, w0.heap.size ≤ b ∧ b ∉ fps.flatten) : OwnC w0 w9 v9 (v9.ownBlock.toList ++ (fps.flatten ++ fq)) (xs ++ [x]) := by
  refine ⟨fps ++ [fq], h, ?_, ?_, by simp⟩
  · rw [List.flatten_append]
    refine List.nodup_append.2 ⟨hnd, by simpa using hq, fun a ha b hb e => ?_⟩
    subst e
    exact (hq2 a (by simpa using hb)).2 ha
  · intro b hb
    rw [List.flatten_append] at hb
    rcases List.mem_append.1 hb with hb | hb
    · exact hge b hb
    · exact (hq2 b (by simpa using hb)).1
/-- What the row reads as. -/
theorem OwnC.read {w0 w : World} {v : Value} {F : List Nat} {xs : List GCell} (h : OwnC w0 w v F xs) (hl : xs.length ≤ reachLen) : ∃ fq, SlR fq w v xs ∧ Fresh w0 fq ∧ ∀ b ∈ fq, b ∈ F := by
  obtain ⟨fps, h1, h2, h3, rfl⟩ := h
  obtain ⟨fp, hs, ⟨rfl, rfl⟩ | ⟨b, hb, rfl⟩⟩ := h1.slR hl
  · exact ⟨[], hs, Fresh.nil _, by simp⟩
  · refine ⟨_, hs, ⟨List.nodup_cons.2 ⟨h1.apart b hb, h2⟩, fun c hc => ?_⟩, fun c hc => ?_⟩
    · rcases List.mem_cons.1 hc with rfl | hc
      · exact (h1.base _ hb).1
      · exact h3 c hc
    · rcases List.mem_cons.1 hc with rfl | hc
      · exact List.mem_append_left _ (by rw [hb]; simp)
      · exact List.mem_append_right _ hc

theorem SrcR.wr {α : Type} [Rd α] {w w' : World} {x : Value} {gps : List (List Nat)} {ys : List α} {fq : List Nat} (h : SrcR w x gps ys) (k : Wr fq w w') (hb : ∀ b, x.ownBlock = some b → b ∉ fq) (hg : ∀ c ∈ gps.flatten, c ∉ fq) : SrcR w' x gps ys := by
  rcases h with h | ⟨b, off, c, css, rfl, hE, hc⟩
  · exact .inl h
  · exact .inr ⟨b, off, c, css, rfl, hE.mono (k.sameOn hE.lt hg), fun j u hj => k.keepC (hc j u hj) (hb b rfl)⟩

/-- A block that begins with numbers. -/
def DRow (rest : List Value) (w : World) (b : Nat) (xs : List Int) : Prop := VRow w b 3 (xs.map (Value.int .i64) ++ rest)
theorem DRow.lt {rest : List Value} {w : World} {b : Nat} {xs : List Int} (h : DRow rest w b xs) : b < w.heap.size := VRow.lt h
theorem DRow.cell {rest : List Value} {w : World} {b : Nat} {xs : List Int} (h : DRow rest w b xs) {k : Nat} (hk : k < xs.length) : w.cell? ⟨b, k, none⟩ = some (.int .i64 xs[k]) := by
  have h1 := VRow.cell h (k := k) (by simp; omega)
  rw [h1]
  simp [List.getElem_append_left, hk]
theorem DRow.set {rest : List Value} {w : World} {b : Nat} {xs : List Int} (h : DRow rest w b xs) {k : Nat} (hk : k < xs.length) (y : Int) : DRow rest (w.setCell ⟨b, k, none⟩ (.int .i64 y)) b (xs.set k y) := by
  have h1 := VRow.set h k (.int .i64 y)
  unfold DRow
  rw [List.map_set]
  rw [List.set_append_left _ _ (by simpa using hk)] at h1
  exact h1
theorem DRow.of_own {w0 w : World} {v : Value} {fps : List (List Nat)} {xs : List Int} (h : OwnR (α := Int) w0 3 w v fps xs) (hn : xs ≠ []) : ∃ g cap rest, v = .slice (some ⟨g, 0, none⟩) xs.length cap ∧ w0.heap.size ≤ g ∧ g < w.heap.size ∧ DRow rest w g xs := by
  have hb := h.base
  obtain ⟨v', e1, ho, -, -⟩ := h.toORow
  obtain rfl : v = v' := by simpa using e1
  rcases ho.2 with ⟨-, h0⟩ | ⟨g, cap, cur, rfl, h1, h2, h3, h4, h5, h6⟩
  · exact absurd (List.eq_nil_of_length_eq_zero h0) hn
  · have h7 := hb g rfl
    refine ⟨g, cap, cur.toList.drop xs.length, rfl, h7.1, h7.2, ?_⟩
    unfold DRow VRow
    rw [h2]
    have h8 : cur.toList.take xs.length = xs.map (Value.int .i64) := by
      have h9 : cur.toList.take (xs.length * 1) = xs.map (Value.int .i64) := h6
      rwa [Nat.mul_one] at h9
    rw [← h8, List.take_append_drop]

/-- A store copied into new memory. -/
def CopiedS (w : World) (xs : List GCell) (e : Ending) (w' : World) : Prop := ∃ v F, e = .returned (.agg #[v]) ∧ OwnC w w' v F xs ∧ Gr w w'
end Go.Proofs.Ytmfcagcanhmdbaa
