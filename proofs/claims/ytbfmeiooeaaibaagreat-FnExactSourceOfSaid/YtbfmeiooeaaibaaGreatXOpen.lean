/- From a row's own reading to the walks', where the fuel bounds the depth; grammars. What the rows read at the types of the statements' arguments is what the walks read. Made by mk_opens.py. What the rows read at the types of the statements' arguments is what the walks read. Made by mk_opens.py. No condition. -/
import Derived.Test.YtbfmeiooeaaibaaGreatOpens
import Derived.Test.YtbfmeiooeaaibaaGreatFamGram
import Derived.Test.YtbfmeiooeaaibaaGreatFamTree
import Derived.Test.YtbfmeiooeaaibaaGreatFamEntry
namespace Go.Proofs.YtbfmeiooeaaibaaGreat
open Go.RowKit

/-- Whatever the row's form reads at this type with at most N units of fuel is a datum of α. -/
def OpensN (N : Nat) (α : Type) [Rd α] (P : Program) (t : TypeId) : Prop :=
  P.cellsOf t = Rd.n α ∧ ∀ {H : Type} (enc : TypeId × Value → H) (w : World) (fuel : Nat) (cs : List Value) (d : DataW H) (ps : List MemPlace), fuel ≤ N →
    DataW.trod enc P w 0 (fun _ => true) true fuel t cs = some (d, ps) → (∀ n ∈ d.weights P t, n ≤ reachBytes) → w.noneFrozen ps → ∃ fp x, Rd.rd (α := α) fp w cs x

theorem Opens.toN {α : Type} [Rd α] {P : Program} {t : TypeId} (N : Nat) (h : Opens α P t) : OpensN N α P t :=
  ⟨h.1, fun enc w fuel cs d ps _ h1 h2 h3 => h.2 enc w fuel cs d ps h1 h2 h3⟩
theorem OpensN.less {α : Type} [Rd α] {P : Program} {t : TypeId} {N : Nat} (h : OpensN (N + 1) α P t) : OpensN N α P t :=
  ⟨h.1, fun enc w fuel cs d ps hN h1 h2 h3 => h.2 enc w fuel cs d ps (by omega) h1 h2 h3⟩

theorem opensN_slice {N : Nat} {α : Type} [Rd α] {P : Program} {t e : TypeId} (ht : P.underlying t = some (.slice e)) (hc : P.cellsOf t = 1) (he : OpensN N α P e) (hb0 : decide (1 ≤ P.bytesOf e) = true) : OpensN (N + 1) (List α) P t := by
  have hb := of_decide_eq_true hb0
  obtain ⟨hn, he⟩ := he
  refine ⟨hc, fun {H} enc w fuel cs d ps hN h hwt hfz => ?_⟩
  rcases DataW.trod_slice ht h with ⟨rfl, hd⟩ | ⟨a, len, cap, elems, rest, n, hfn, rfl, hd, _, hl, hm, hlen, hel, hsp, _⟩
  · exact ⟨[], [], _, rfl, SlR.nil w⟩
  · have hrl := (hsp rfl).1
    simp only [Prod.mk.injEq] at hd
    obtain ⟨hd, hps⟩ := hd
    subst hd hps
    have hreach : cap ≤ reachLen := by
      have := hwt ((elems.length + rest.length) * P.bytesOf e) (by simp [DataW.weights, ht])
      have e1 : elems.length + rest.length = cap := by omega
      rw [e1] at this
      have h2 : cap * 1 ≤ cap * P.bytesOf e := Nat.mul_le_mul_left _ hb
      have h3 : reachBytes = reachLen := by decide
      omega
    have each : ∀ i, i < len → ∃ b off cs' fq x, a.add (i * P.cellsOf e) = ⟨b, off, none⟩ ∧ CellsAt w b off cs' ∧ Rd.rd (α := α) fq w cs' x := by
      intro i hi
      have hx := hel i hi
      have hi' : i < elems.length := by omega
      rw [List.getElem?_eq_getElem hi'] at hx
      obtain ⟨cs', h1, h2⟩ := Option.bind_eq_some_iff.1 hx
      obtain ⟨b, off, ha, hca, _⟩ := cells_at h1 (by rw [hn]; exact Rd.pos)
      obtain ⟨fq, x, hr⟩ := he enc w n cs' (elems[i]).1 (elems[i]).2 (by omega) h2 (fun k hk => hwt k (by
        simp only [DataW.weights, ht, List.mem_cons, List.mem_append]
        exact .inr (.inl (weightsAll_mem (List.mem_map_of_mem (List.getElem_mem hi')) k hk))))
        (fun b o hm => hfz b o (List.mem_append_right _ (List.mem_flatMap.2 ⟨_, List.mem_append_left _ (List.getElem_mem hi'), hm⟩)))
      exact ⟨b, off, cs', fq, x, ha, hca, hr⟩
    by_cases h0 : len = 0
    · subst h0
      exact ⟨[], [], _, rfl, some a, cap, rfl, by simp, by simp, .inl ⟨rfl, rfl⟩⟩
    · obtain ⟨b0, off0, _, _, x0, ha0, _, _⟩ := each 0 (by omega)
      have ea : a = ⟨b0, off0, none⟩ := by simpa [Addr.add] using ha0
      subst ea
      have each2 : ∀ i, ∃ y : List Nat × α, i < len → ∃ cs', CellsAt w b0 (off0 + i * Rd.n α) cs' ∧ Rd.rd y.1 w cs' y.2 := by
        intro i
        by_cases hi : i < len
        · obtain ⟨b, off, cs', fq, x, ha, hca, hr⟩ := each i hi
          refine ⟨(fq, x), fun _ => ⟨cs', ?_, hr⟩⟩
          have e : (⟨b0, off0, none⟩ : Addr).add (i * P.cellsOf e) = ⟨b0, off0 + i * P.cellsOf e, none⟩ := by
            unfold Addr.add
            split
            · rename_i e; rw [e]; rfl
            · rfl
          rw [e] at ha
          injection ha with e1 e2
          subst e1 e2
          rwa [hn] at hca
        · exact ⟨([], x0), fun h => absurd h hi⟩
      obtain ⟨f, hf⟩ := Classical.axiomOfChoice each2
      refine ⟨_, (List.range len).map fun i => (f i).2, _, rfl, some ⟨b0, off0, none⟩, cap, by simp, by simpa using hl, (by have this : len ≤ reachLen := Nat.le_trans hl hreach; simpa using this), .inr ⟨b0, off0, (List.range len).map fun i => (f i).1, by simp [h0], rfl, rfl, by simp, fun j hj => hfz _ _ (List.mem_append_left _ ?_), fun i hi hi' => ?_⟩⟩
      · simp only [List.length_map, List.length_range] at hj
        refine List.mem_map.2 ⟨j, List.mem_range.2 ?_, rfl⟩
        rw [hn, hlen]
        exact Nat.lt_of_lt_of_le hj (Nat.mul_le_mul_right _ (by omega))
      · simp only [List.length_map, List.length_range] at hi
        obtain ⟨cs', hca, hr⟩ := hf i hi
        exact ⟨cs', hca, by simpa using hr⟩

/-- Some fields in a row, from an offset on, read as a datum of α. -/
structure SegN (N : Nat) (α : Type) [Rd α] (P : Program) (off : Nat) (fs : List Field) : Prop where
  out : ∀ (H : Type) (enc : TypeId × Value → H) (w : World) (cs : List Value), cs.length = off + Rd.n α →
    (∀ f ∈ fs, ∃ fuel d ps, fuel ≤ N ∧ DataW.trod enc P w 0 (fun _ => true) true fuel f.type ((cs.drop f.offset).take (P.cellsOf f.type)) = some (d, ps) ∧ (∀ n ∈ d.weights P f.type, n ≤ reachBytes) ∧ w.noneFrozen ps) →
    ∃ fp x, Rd.rd (α := α) fp w (cs.drop off) x

theorem segN_one {N : Nat} {α : Type} [Rd α] {P : Program} {off : Nat} {f : Field} (hf : OpensN N α P f.type) (ho : f.offset = off) : SegN N α P off [f] := by
  refine ⟨fun H enc w cs hl hx => ?_⟩
  obtain ⟨fuel, d, ps, hfu, h, hw, hz⟩ := hx f (by simp)
  rw [ho, hf.1, List.take_of_length_le (by simp; omega)] at h
  exact hf.2 enc w fuel _ d ps hfu h hw hz

theorem segN_cons {N : Nat} {α β : Type} [Rd α] [Rd β] {P : Program} {off : Nat} {f : Field} {fs : List Field} (hf : OpensN N α P f.type) (ho : f.offset = off) (hs : SegN N β P (off + Rd.n α) fs) : SegN N (α × β) P off (f :: fs) := by
  refine ⟨fun H enc w cs hl hx => ?_⟩
  obtain ⟨fuel, d, ps, hfu, h, hw, hz⟩ := hx f (by simp)
  rw [ho, hf.1] at h
  obtain ⟨f1, x, h1⟩ := hf.2 enc w fuel _ d ps hfu h hw hz
  have hl' : Rd.n (α × β) = Rd.n α + Rd.n β := rfl
  obtain ⟨f2, y, h2⟩ := hs.out H enc w cs (by omega) (fun g hg => hx g (List.mem_cons_of_mem _ hg))
  refine ⟨f1 ++ f2, (x, y), _, _, f1, f2, ?_, rfl, h1, h2⟩
  rw [← List.drop_drop, List.take_append_drop]

theorem opensN_struct {N : Nat} {α : Type} [Rd α] {P : Program} {t : TypeId} {fs : Array Field} (n0 : Nat) (ht : P.underlying t = some (.struct fs)) (hn : Rd.n α = n0) (hc0 : P.cellsOf t = n0) (hs : SegN N α P 0 fs.toList) : OpensN (N + 1) α P t := by
  have hc : P.cellsOf t = Rd.n α := hc0.trans hn.symm
  refine ⟨hc, fun {H} enc w fuel cs d ps hN h hwt hfz => ?_⟩
  obtain ⟨xs, n, hfn, hd, hl, hlen, hx⟩ := DataW.trod_struct ht h
  simp only [Prod.mk.injEq] at hd
  obtain ⟨hd, hps⟩ := hd
  subst hd hps
  have := hs.out H enc w cs (by omega) (fun f hf => by
    obtain ⟨i, hi, rfl⟩ := List.mem_iff_getElem.1 hf
    have hi2 : i < fs.size := by simpa using hi
    have hi' : i < xs.length := by omega
    have h1 := hx i fs[i] (by simp [hi2])
    rw [List.getElem?_eq_getElem hi'] at h1
    refine ⟨n, (xs[i]).1, (xs[i]).2, by omega, by simpa using h1, fun k hk => hwt k ?_, fun b o hm => hfz b o (List.mem_flatMap.2 ⟨_, List.getElem_mem hi', hm⟩)⟩
    simp only [DataW.weights, ht]
    exact DataW.weights_mem_each (j := i) (t := fs[i].type) (d := (xs[i]).1) (by simp [hi2]) (by simp [List.getElem?_map, List.getElem?_eq_getElem hi']) k (by simpa using hk))
  simpa using this


/-! ### Grammars -/

theorem opensStringS (N : Nat) : OpensN N (List ByteArray) Tryz.prog 97 :=
  (opens_slice Tryz.underlying97 (by kernel_rfl) (opens_string Tryz.underlying9 (by kernel_rfl)) (by kernel_rfl)).toN N
theorem opensAttribute : Opens GAttribute Tryz.prog 201 := by
  refine opens_struct 4 Tryz.underlying201 rfl (by kernel_rfl) ?_
  refine seg_cons ?_ rfl (seg_cons ?_ rfl (seg_cons ?_ rfl (seg_one ?_ rfl)))
  · exact (opens_string Tryz.underlying9 (by kernel_rfl))
  · exact (opens_int Tryz.underlying3 (by kernel_rfl))
  · exact (opens_int Tryz.underlying3 (by kernel_rfl))
  · exact (opens_bool Tryz.underlying4 (by kernel_rfl))
theorem opensSymbol : Opens GSymbol Tryz.prog 134 := by
  refine opens_struct 2 Tryz.underlying134 rfl (by kernel_rfl) ?_
  refine seg_cons ?_ rfl (seg_one ?_ rfl)
  · exact (opens_string Tryz.underlying9 (by kernel_rfl))
  · exact (opens_slice Tryz.underlying132 (by kernel_rfl) opensAttribute (by kernel_rfl))
theorem opensOccurrence : Opens GOccurrence Tryz.prog 203 := by
  refine opens_struct 2 Tryz.underlying203 rfl (by kernel_rfl) ?_
  refine seg_cons ?_ rfl (seg_one ?_ rfl)
  · exact (opens_int Tryz.underlying3 (by kernel_rfl))
  · exact (opens_string Tryz.underlying9 (by kernel_rfl))
theorem opensExprOf {d : Nat} (h : OpensN d (GE d) Tryz.prog 206) : OpensN (d + 1) (GExpr d) Tryz.prog 206 := by
  refine opensN_struct 7 Tryz.underlying206 rfl (by kernel_rfl) ?_
  refine segN_cons ?_ rfl (segN_cons ?_ rfl (segN_cons ?_ rfl (segN_cons ?_ rfl (segN_cons ?_ rfl (segN_cons ?_ rfl (segN_one ?_ rfl))))))
  · exact (opens_int Tryz.underlying3 (by kernel_rfl)).toN _
  · exact (opens_int Tryz.underlying3 (by kernel_rfl)).toN _
  · exact (opens_int Tryz.underlying3 (by kernel_rfl)).toN _
  · exact (opens_int Tryz.underlying3 (by kernel_rfl)).toN _
  · exact (opens_string Tryz.underlying9 (by kernel_rfl)).toN _
  · exact (opens_string Tryz.underlying9 (by kernel_rfl)).toN _
  · exact (opensN_slice Tryz.underlying204 (by kernel_rfl) h (by kernel_rfl)).less
theorem opensGE : (d : Nat) → OpensN d (GE d) Tryz.prog 206
  | 0 => ⟨by show _ = 7; kernel_rfl, fun enc w fuel cs d ps hN h _ _ => by
      obtain rfl : fuel = 0 := by omega
      simp [DataW.trod] at h⟩
  | d + 1 => opensExprOf (opensGE d)
theorem opensExpr (d : Nat) : OpensN d (GExpr d) Tryz.prog 206 := (opensExprOf (opensGE d)).less
theorem opensEquation (d : Nat) : OpensN d (GEquation d) Tryz.prog 208 := by
  refine OpensN.less (opensN_struct 9 Tryz.underlying208 rfl (by kernel_rfl) ?_)
  refine segN_cons ?_ rfl (segN_one ?_ rfl)
  · exact opensOccurrence.toN _
  · exact opensExpr d
theorem opensContribution (d : Nat) : OpensN d (GContribution d) Tryz.prog 211 := by
  refine OpensN.less (opensN_struct 16 Tryz.underlying211 rfl (by kernel_rfl) ?_)
  refine segN_cons ?_ rfl (segN_cons ?_ rfl (segN_cons ?_ rfl (segN_one ?_ rfl)))
  · exact (opens_string Tryz.underlying9 (by kernel_rfl)).toN _
  · exact (opens_string Tryz.underlying9 (by kernel_rfl)).toN _
  · exact opensExpr d
  · exact opensExpr d
theorem opensRule (d : Nat) : OpensN d (GRule d) Tryz.prog 139 := by
  refine OpensN.less (opensN_struct 6 Tryz.underlying139 rfl (by kernel_rfl) ?_)
  refine segN_cons ?_ rfl (segN_cons ?_ rfl (segN_cons ?_ rfl (segN_cons ?_ rfl (segN_cons ?_ rfl (segN_one ?_ rfl)))))
  · exact (opens_string Tryz.underlying9 (by kernel_rfl)).toN _
  · exact (opens_string Tryz.underlying9 (by kernel_rfl)).toN _
  · exact opensStringS _
  · exact (opens_bool Tryz.underlying4 (by kernel_rfl)).toN _
  · exact (opensN_slice Tryz.underlying136 (by kernel_rfl) (opensEquation d) (by kernel_rfl)).less
  · exact (opensN_slice Tryz.underlying137 (by kernel_rfl) (opensContribution d) (by kernel_rfl)).less
theorem opensGrammarN (d : Nat) : OpensN d (GGrammar d) Tryz.prog 25 := by
  refine OpensN.less (opensN_struct 2 Tryz.underlying25 rfl (by kernel_rfl) ?_)
  refine segN_cons ?_ rfl (segN_one ?_ rfl)
  · exact (opens_slice Tryz.underlying22 (by kernel_rfl) opensSymbol (by kernel_rfl)).toN _
  · exact (opensN_slice Tryz.underlying23 (by kernel_rfl) (opensRule d) (by kernel_rfl)).less
/-- A grammar's reading, its depth the fuel. -/
theorem opensGrammar : True ∧ ∀ {H : Type} (enc : TypeId × Value → H) (w : World) (fuel : Nat) (cs : List Value) (d : DataW H) (ps : List MemPlace),
    DataW.trod enc Tryz.prog w 0 (fun _ => true) true fuel 25 cs = some (d, ps) → (∀ n ∈ d.weights Tryz.prog 25, n ≤ reachBytes) → w.noneFrozen ps → ∃ fp x, Rd.rd (α := GGrammar fuel) fp w cs x :=
  ⟨trivial, fun enc w fuel cs d ps h1 h2 h3 => (opensGrammarN fuel).2 enc w fuel cs d ps (Nat.le_refl _) h1 h2 h3⟩
end Go.Proofs.YtbfmeiooeaaibaaGreat

namespace Go.Proofs.YtbfmeiooeaaibaaGreat

theorem opensNode : Opens GNode Tryz.prog 141 := by
  refine opens_struct 6 Tryz.underlying141 rfl (by kernel_rfl) ?_
  refine (seg_cons ?_ rfl (seg_cons ?_ rfl (seg_cons ?_ rfl (seg_cons ?_ rfl (seg_cons ?_ rfl (seg_one ?_ rfl))))))
  · exact (opens_int Tryz.underlying3 (by kernel_rfl))
  · exact (opens_int Tryz.underlying3 (by kernel_rfl))
  · exact (opens_int Tryz.underlying3 (by kernel_rfl))
  · exact (opens_int Tryz.underlying3 (by kernel_rfl))
  · exact (opens_string Tryz.underlying9 (by kernel_rfl))
  · exact (opens_slice Tryz.underlying35 (by kernel_rfl) (opens_int Tryz.underlying3 (by kernel_rfl)) (by kernel_rfl))

theorem opensTree : Opens GTree Tryz.prog 28 := by
  refine opens_struct 1 Tryz.underlying28 rfl (by kernel_rfl) ?_
  refine (seg_one ?_ rfl)
  · exact (opens_slice Tryz.underlying26 (by kernel_rfl) opensNode (by kernel_rfl))

end Go.Proofs.YtbfmeiooeaaibaaGreat

namespace Go.Proofs.YtbfmeiooeaaibaaGreat

theorem opensInstance : Opens GInstance Tryz.prog 30 := by
  refine opens_struct 2 Tryz.underlying30 rfl (by kernel_rfl) ?_
  refine (seg_cons ?_ rfl (seg_one ?_ rfl))
  · exact (opens_int Tryz.underlying3 (by kernel_rfl))
  · exact (opens_string Tryz.underlying9 (by kernel_rfl))

theorem opensReading : Opens GReading Tryz.prog 220 := by
  refine opens_struct 4 Tryz.underlying220 rfl (by kernel_rfl) ?_
  refine (seg_cons ?_ rfl (seg_cons ?_ rfl (seg_one ?_ rfl)))
  · exact opensInstance
  · exact (opens_int Tryz.underlying3 (by kernel_rfl))
  · exact (opens_string Tryz.underlying9 (by kernel_rfl))

theorem opensEntry : Opens GEntry Tryz.prog 170 := by
  refine opens_struct 9 Tryz.underlying170 rfl (by kernel_rfl) ?_
  refine (seg_cons ?_ rfl (seg_cons ?_ rfl (seg_cons ?_ rfl (seg_cons ?_ rfl (seg_cons ?_ rfl (seg_cons ?_ rfl (seg_cons ?_ rfl (seg_one ?_ rfl))))))))
  · exact opensInstance
  · exact (opens_int Tryz.underlying3 (by kernel_rfl))
  · exact (opens_int Tryz.underlying3 (by kernel_rfl))
  · exact (opens_int Tryz.underlying3 (by kernel_rfl))
  · exact (opens_string Tryz.underlying9 (by kernel_rfl))
  · exact (opens_slice Tryz.underlying35 (by kernel_rfl) (opens_int Tryz.underlying3 (by kernel_rfl)) (by kernel_rfl))
  · exact (opens_slice Tryz.underlying35 (by kernel_rfl) (opens_int Tryz.underlying3 (by kernel_rfl)) (by kernel_rfl))
  · exact (opens_slice Tryz.underlying168 (by kernel_rfl) opensReading (by kernel_rfl))

theorem opensMemo : Opens GMemo Tryz.prog 60 := by
  refine opens_struct 2 Tryz.underlying60 rfl (by kernel_rfl) ?_
  refine (seg_cons ?_ rfl (seg_one ?_ rfl))
  · exact (opens_slice Tryz.underlying57 (by kernel_rfl) opensEntry (by kernel_rfl))
  · exact (opens_slice Tryz.underlying58 (by kernel_rfl) opensInstance (by kernel_rfl))

end Go.Proofs.YtbfmeiooeaaibaaGreat
