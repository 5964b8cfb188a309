/- The step from a row's own reading of an argument to the reading that the walks use; products for structs. No condition. -/
import Derived.Test.YtmfcagcanhmdbaaBase
import Derived.ProofKit
import Derived.SizedLaws
import Derived.ChangeArms
import Derived.Deep.Slices
namespace Go.Proofs.Ytmfcagcanhmdbaa
open Go.RowKit

/-! ### Structs: products -/

instance {α β : Type} [Rd α] [Rd β] : Rd (α × β) where
  n := Rd.n α + Rd.n β
  pos := by have := Rd.pos (α := α); omega
  rd fp w cs x := ∃ c1 c2 f1 f2, cs = c1 ++ c2 ∧ fp = f1 ++ f2 ∧ Rd.rd f1 w c1 x.1 ∧ Rd.rd f2 w c2 x.2
  len h := by obtain ⟨c1, c2, f1, f2, rfl, rfl, h1, h2⟩ := h; simp [Rd.len h1, Rd.len h2]
  lt h := by
    obtain ⟨c1, c2, f1, f2, rfl, rfl, h1, h2⟩ := h
    intro b hb
    rcases List.mem_append.1 hb with hb | hb
    · exact Rd.lt h1 b hb
    · exact Rd.lt h2 b hb
  mono hw h := by
    obtain ⟨c1, c2, f1, f2, rfl, rfl, h1, h2⟩ := h
    exact ⟨c1, c2, f1, f2, rfl, rfl, Rd.mono (hw.sub fun b hb => List.mem_append_left _ hb) h1, Rd.mono (hw.sub fun b hb => List.mem_append_right _ hb) h2⟩
  one h u hu := by
    obtain ⟨c1, c2, f1, f2, rfl, rfl, h1, h2⟩ := h
    rcases List.mem_append.1 hu with hu | hu
    · exact Rd.one h1 u hu
    · exact Rd.one h2 u hu

/-! ### From a row's reading -/

/-- Whatever the row's form reads at this type is a datum of α. -/
def Opens (α : Type) [Rd α] (P : Program) (t : TypeId) : Prop :=
  P.cellsOf t = Rd.n α ∧ ∀ {H : Type} (enc : TypeId × Value → H) (w : World) (fuel : Nat) (cs : List Value) (d : DataW H) (ps : List MemPlace),
    DataW.trod enc P w 0 (fun _ => true) true fuel t cs = some (d, ps) → (∀ n ∈ d.weights P t, n ≤ reachBytes) → w.noneFrozen ps → ∃ fp x, Rd.rd (α := α) fp w cs x

theorem opens_int {P : Program} {t : TypeId} (ht : P.underlying t = some (.int .i64)) (hc : P.cellsOf t = 1) : Opens Int P t :=
  ⟨hc, fun enc w fuel cs d ps h _ _ => by
    obtain ⟨n, rfl, _, hw⟩ := DataW.trod_int ht h
    exact ⟨[], n, rfl, rfl, hw⟩⟩

theorem opens_bool {P : Program} {t : TypeId} (ht : P.underlying t = some .bool) (hc : P.cellsOf t = 1) : Opens Bool P t :=
  ⟨hc, fun enc w fuel cs d ps h _ _ => by
    obtain ⟨n, rfl, _⟩ := DataW.trod_bool ht h
    exact ⟨[], n, rfl, rfl⟩⟩

theorem opens_string {P : Program} {t : TypeId} (ht : P.underlying t = some .string) (hc : P.cellsOf t = 1) : Opens ByteArray P t :=
  ⟨hc, fun enc w fuel cs d ps h _ _ => by
    obtain ⟨s, rfl, _, hw⟩ := DataW.trod_string ht h
    exact ⟨[], s, rfl, rfl, hw⟩⟩

theorem weightsAll_mem {H : Type} {P : Program} {e : TypeId} : ∀ {l : List (DataW H)} {d : DataW H}, d ∈ l → ∀ n ∈ d.weights P e, n ∈ DataW.weightsAll P e l
  | a :: l, d, hd, n, hn => by
    simp only [DataW.weightsAll, List.mem_append]
    rcases List.mem_cons.1 hd with rfl | hd
    · exact .inl hn
    · exact .inr (weightsAll_mem hd n hn)
  | [], _, hd, _, _ => by simp at hd

theorem cells_at {w : World} {base n : Nat} {a : Addr} {cs : List Value} (h : w.cells? base a n = some cs) (hn : 0 < n) : ∃ b off, a = ⟨b, off, none⟩ ∧ CellsAt w b off cs ∧ cs.length = n := by
  obtain ⟨_, hl, hx⟩ := World.cells?_some h
  have h0 := hx 0 hn
  obtain ⟨b, off, sp⟩ := a
  have e0 : (⟨b, off, sp⟩ : Addr).add 0 = ⟨b, off, sp⟩ := by simp [Addr.add]
  rw [e0] at h0
  have hs : sp = none := by
    cases sp with
    | none => rfl
    | some s =>
      have : w.cell? ⟨b, off, some s⟩ = none := by
        unfold World.cell?
        split <;> simp
      rw [this] at h0
      have := List.getElem?_eq_none_iff.1 h0.symm
      omega
  subst hs
  refine ⟨b, off, rfl, fun j v hj => ?_, hl⟩
  have hjl : j < n := by rw [← hl]; exact (List.getElem?_eq_some_iff.1 hj).1
  have := hx j hjl
  rw [hj] at this
  have e : (⟨b, off, none⟩ : Addr).add j = ⟨b, off + j, none⟩ := by
    unfold Addr.add
    split
    · rename_i e; subst e; rfl
    · rfl
  rwa [e] at this

theorem opens_slice {α : Type} [Rd α] {P : Program} {t e : TypeId} (ht : P.underlying t = some (.slice e)) (hc : P.cellsOf t = 1) (he : Opens α P e) (hb0 : decide (1 ≤ P.bytesOf e) = true) : Opens (List α) P t := by
  have hb := of_decide_eq_true hb0
  obtain ⟨hn, he⟩ := he
  refine ⟨hc, fun {H} enc w fuel cs d ps h hwt hfz => ?_⟩
  rcases DataW.trod_slice ht h with ⟨rfl, hd⟩ | ⟨a, len, cap, elems, rest, n, _, rfl, hd, _, hl, hm, hlen, hel, hsp, _⟩
  · exact ⟨[], [], _, rfl, SlR.nil w⟩
  · have hrl := (hsp rfl).1
    simp only [Prod.mk.injEq] at hd
    obtain ⟨hd, hps⟩ := hd
    subst hd hps
    have hreach : cap ≤ reachLen := by
      have := hwt ((elems.length + rest.length) * P.bytesOf e) (by simp [DataW.weights, ht])
      have e1 : elems.length + rest.length = cap := by omega
      rw [e1] at this
      have h2 : cap * 1 ≤ cap * P.bytesOf e := Nat.mul_le_mul_left _ hb
      have h3 : reachBytes = reachLen := by decide
      omega
    have each : ∀ i, i < len → ∃ b off cs' fq x, a.add (i * P.cellsOf e) = ⟨b, off, none⟩ ∧ CellsAt w b off cs' ∧ Rd.rd (α := α) fq w cs' x := by
      intro i hi
      have hx := hel i hi
      have hi' : i < elems.length := by omega
      rw [List.getElem?_eq_getElem hi'] at hx
      obtain ⟨cs', h1, h2⟩ := Option.bind_eq_some_iff.1 hx
      obtain ⟨b, off, ha, hca, _⟩ := cells_at h1 (by rw [hn]; exact Rd.pos)
      obtain ⟨fq, x, hr⟩ := he enc w n cs' (elems[i]).1 (elems[i]).2 h2 (fun k hk => hwt k (by
        simp only [DataW.weights, ht, List.mem_cons, List.mem_append]
        exact .inr (.inl (weightsAll_mem (List.mem_map_of_mem (List.getElem_mem hi')) k hk))))
        (fun b o hm => hfz b o (List.mem_append_right _ (List.mem_flatMap.2 ⟨_, List.mem_append_left _ (List.getElem_mem hi'), hm⟩)))
      exact ⟨b, off, cs', fq, x, ha, hca, hr⟩
    by_cases h0 : len = 0
    · subst h0
      exact ⟨[], [], _, rfl, some a, cap, rfl, by simp, by simp, .inl ⟨rfl, rfl⟩⟩
    · obtain ⟨b0, off0, _, _, x0, ha0, _, _⟩ := each 0 (by omega)
      have ea : a = ⟨b0, off0, none⟩ := by simpa [Addr.add] using ha0
      subst ea
      have each2 : ∀ i, ∃ y : List Nat × α, i < len → ∃ cs', CellsAt w b0 (off0 + i * Rd.n α) cs' ∧ Rd.rd y.1 w cs' y.2 := by
        intro i
        by_cases hi : i < len
        · obtain ⟨b, off, cs', fq, x, ha, hca, hr⟩ := each i hi
          refine ⟨(fq, x), fun _ => ⟨cs', ?_, hr⟩⟩
          have e : (⟨b0, off0, none⟩ : Addr).add (i * P.cellsOf e) = ⟨b0, off0 + i * P.cellsOf e, none⟩ := by
            unfold Addr.add
            split
            · rename_i e; rw [e]; rfl
            · rfl
          rw [e] at ha
          injection ha with e1 e2
          subst e1 e2
          rwa [hn] at hca
        · exact ⟨([], x0), fun h => absurd h hi⟩
      obtain ⟨f, hf⟩ := Classical.axiomOfChoice each2
      refine ⟨_, (List.range len).map fun i => (f i).2, _, rfl, some ⟨b0, off0, none⟩, cap, by simp, by simpa using hl, (by have this : len ≤ reachLen := Nat.le_trans hl hreach; simpa using this), .inr ⟨b0, off0, (List.range len).map fun i => (f i).1, by simp [h0], rfl, rfl, by simp, fun j hj => hfz _ _ (List.mem_append_left _ ?_), fun i hi hi' => ?_⟩⟩
      · simp only [List.length_map, List.length_range] at hj
        refine List.mem_map.2 ⟨j, List.mem_range.2 ?_, rfl⟩
        rw [hn, hlen]
        exact Nat.lt_of_lt_of_le hj (Nat.mul_le_mul_right _ (by omega))
      · simp only [List.length_map, List.length_range] at hi
        obtain ⟨cs', hca, hr⟩ := hf i hi
        exact ⟨cs', hca, by simpa using hr⟩

/-- Some fields in a row, from an offset on, read as a datum of α. -/
structure Seg (α : Type) [Rd α] (P : Program) (off : Nat) (fs : List Field) : Prop where
  out : ∀ (H : Type) (enc : TypeId × Value → H) (w : World) (cs : List Value), cs.length = off + Rd.n α →
    (∀ f ∈ fs, ∃ fuel d ps, DataW.trod enc P w 0 (fun _ => true) true fuel f.type ((cs.drop f.offset).take (P.cellsOf f.type)) = some (d, ps) ∧ (∀ n ∈ d.weights P f.type, n ≤ reachBytes) ∧ w.noneFrozen ps) →
    ∃ fp x, Rd.rd (α := α) fp w (cs.drop off) x

theorem seg_one {α : Type} [Rd α] {P : Program} {off : Nat} {f : Field} (hf : Opens α P f.type) (ho : f.offset = off) : Seg α P off [f] := by
  refine ⟨fun H enc w cs hl hx => ?_⟩
  obtain ⟨fuel, d, ps, h, hw, hz⟩ := hx f (by simp)
  rw [ho, hf.1, List.take_of_length_le (by simp; omega)] at h
  exact hf.2 enc w fuel _ d ps h hw hz

theorem seg_cons {α β : Type} [Rd α] [Rd β] {P : Program} {off : Nat} {f : Field} {fs : List Field} (hf : Opens α P f.type) (ho : f.offset = off) (hs : Seg β P (off + Rd.n α) fs) : Seg (α × β) P off (f :: fs) := by
  refine ⟨fun H enc w cs hl hx => ?_⟩
  obtain ⟨fuel, d, ps, h, hw, hz⟩ := hx f (by simp)
  rw [ho, hf.1] at h
  obtain ⟨f1, x, h1⟩ := hf.2 enc w fuel _ d ps h hw hz
  have hl' : Rd.n (α × β) = Rd.n α + Rd.n β := rfl
  obtain ⟨f2, y, h2⟩ := hs.out H enc w cs (by omega) (fun g hg => hx g (List.mem_cons_of_mem _ hg))
  refine ⟨f1 ++ f2, (x, y), _, _, f1, f2, ?_, rfl, h1, h2⟩
  rw [← List.drop_drop, List.take_append_drop]

theorem opens_struct {α : Type} [Rd α] {P : Program} {t : TypeId} {fs : Array Field} (n0 : Nat) (ht : P.underlying t = some (.struct fs)) (hn : Rd.n α = n0) (hc0 : P.cellsOf t = n0) (hs : Seg α P 0 fs.toList) : Opens α P t := by
  have hc : P.cellsOf t = Rd.n α := hc0.trans hn.symm
  refine ⟨hc, fun {H} enc w fuel cs d ps h hwt hfz => ?_⟩
  obtain ⟨xs, n, _, hd, hl, hlen, hx⟩ := DataW.trod_struct ht h
  simp only [Prod.mk.injEq] at hd
  obtain ⟨hd, hps⟩ := hd
  subst hd hps
  have := hs.out H enc w cs (by omega) (fun f hf => by
    obtain ⟨i, hi, rfl⟩ := List.mem_iff_getElem.1 hf
    have hi2 : i < fs.size := by simpa using hi
    have hi' : i < xs.length := by omega
    have h1 := hx i fs[i] (by simp [hi2])
    rw [List.getElem?_eq_getElem hi'] at h1
    refine ⟨n, (xs[i]).1, (xs[i]).2, by simpa using h1, fun k hk => hwt k ?_, fun b o hm => hfz b o (List.mem_flatMap.2 ⟨_, List.getElem_mem hi', hm⟩)⟩
    simp only [DataW.weights, ht]
    exact DataW.weights_mem_each (j := i) (t := fs[i].type) (d := (xs[i]).1) (by simp [hi2]) (by simp [List.getElem?_map, List.getElem?_eq_getElem hi']) k (by simpa using hk))
  simpa using this

end Go.Proofs.Ytmfcagcanhmdbaa
