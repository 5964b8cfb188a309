/- From a row's own reading to the walks', where the fuel bounds the depth; grammars. What the rows read at the types of the statements' arguments is what the walks read. Made by mk_opens.py. What the rows read at the types of the statements' arguments is what the walks read. Made by mk_opens.py. The statement on FnExactUnjustifiedOf: for every input the law returns true, and each argument reads as it did. No condition. -/
import Derived.Test.YtbfmeiooeaaibaaGreatOpens
import Derived.Test.YtbfmeiooeaaibaaGreatFamGram
import Derived.Test.YtbfmeiooeaaibaaGreatFamTree
import Derived.Test.YtbfmeiooeaaibaaGreatFamEntry
import Derived.Test.YtbfmeiooeaaibaaGreatRows
import Derived.Test.YtbfmeiooeaaibaaGreatXUnjL
import Derived.ShutString
import Derived.ChangeOld
namespace Go.Proofs.YtbfmeiooeaaibaaGreat
open Go.RowKit

/-- Whatever the row's form reads at this type with at most N units of fuel is a datum of α. -/
def OpensN (N : Nat) (α : Type) [Rd α] (P : Program) (t : TypeId) : Prop :=
  P.cellsOf t = Rd.n α ∧ ∀ {H : Type} (enc : TypeId × Value → H) (w : World) (fuel : Nat) (cs : List Value) (d : DataW H) (ps : List MemPlace), fuel ≤ N →
    DataW.trod enc P w 0 (fun _ => true) true fuel t cs = some (d, ps) → (∀ n ∈ d.weights P t, n ≤ reachBytes) → w.noneFrozen ps → ∃ fp x, Rd.rd (α := α) fp w cs x

theorem Opens.toN {α : Type} [Rd α] {P : Program} {t : TypeId} (N : Nat) (h : Opens α P t) : OpensN N α P t :=
  ⟨h.1, fun enc w fuel cs d ps _ h1 h2 h3 => h.2 enc w fuel cs d ps h1 h2 h3⟩
theorem OpensN.less {α : Type} [Rd α] {P : Program} {t : TypeId} {N : Nat} (h : OpensN (N + 1) α P t) : OpensN N α P t :=
  ⟨h.1, fun enc w fuel cs d ps hN h1 h2 h3 => h.2 enc w fuel cs d ps (by omega) h1 h2 h3⟩

theorem opensN_slice {N : Nat} {α : Type} [Rd α] {P : Program} {t e : TypeId} (ht : P.underlying t = some (.slice e)) (hc : P.cellsOf t = 1) (he : OpensN N α P e) (hb0 : decide (1 ≤ P.bytesOf e) = true) : OpensN (N + 1) (List α) P t := by
  have hb := of_decide_eq_true hb0
  obtain ⟨hn, he⟩ := he
  refine ⟨hc, fun {H} enc w fuel cs d ps hN h hwt hfz => ?_⟩
  rcases DataW.trod_slice ht h with ⟨rfl, hd⟩ | ⟨a, len, cap, elems, rest, n, hfn, rfl, hd, _, hl, hm, hlen, hel, hsp, _⟩
  · exact ⟨[], [], _, rfl, SlR.nil w⟩
  · have hrl := (hsp rfl).1
    simp only [Prod.mk.injEq] at hd
    obtain ⟨hd, hps⟩ := hd
    subst hd hps
    have hreach : cap ≤ reachLen := by
      have := hwt ((elems.length + rest.length) * P.bytesOf e) (by simp [DataW.weights, ht])
      have e1 : elems.length + rest.length = cap := by omega
      rw [e1] at this
      have h2 : cap * 1 ≤ cap * P.bytesOf e := Nat.mul_le_mul_left _ hb
      have h3 : reachBytes = reachLen := by decide
      omega
    have each : ∀ i, i < len → ∃ b off cs' fq x, a.add (i * P.cellsOf e) = ⟨b, off, none⟩ ∧ CellsAt w b off cs' ∧ Rd.rd (α := α) fq w cs' x := by
      intro i hi
      have hx := hel i hi
      have hi' : i < elems.length := by omega
      rw [List.getElem?_eq_getElem hi'] at hx
      obtain ⟨cs', h1, h2⟩ := Option.bind_eq_some_iff.1 hx
      obtain ⟨b, off, ha, hca, _⟩ := cells_at h1 (by rw [hn]; exact Rd.pos)
      obtain ⟨fq, x, hr⟩ := he enc w n cs' (elems[i]).1 (elems[i]).2 (by omega) h2 (fun k hk => hwt k (by
        simp only [DataW.weights, ht, List.mem_cons, List.mem_append]
        exact .inr (.inl (weightsAll_mem (List.mem_map_of_mem (List.getElem_mem hi')) k hk))))
        (fun b o hm => hfz b o (List.mem_append_right _ (List.mem_flatMap.2 ⟨_, List.mem_append_left _ (List.getElem_mem hi'), hm⟩)))
      exact ⟨b, off, cs', fq, x, ha, hca, hr⟩
    by_cases h0 : len = 0
    · subst h0
      exact ⟨[], [], _, rfl, some a, cap, rfl, by simp, by simp, .inl ⟨rfl, rfl⟩⟩
    · obtain ⟨b0, off0, _, _, x0, ha0, _, _⟩ := each 0 (by omega)
      have ea : a = ⟨b0, off0, none⟩ := by simpa [Addr.add] using ha0
      subst ea
      have each2 : ∀ i, ∃ y : List Nat × α, i < len → ∃ cs', CellsAt w b0 (off0 + i * Rd.n α) cs' ∧ Rd.rd y.1 w cs' y.2 := by
        intro i
        by_cases hi : i < len
        · obtain ⟨b, off, cs', fq, x, ha, hca, hr⟩ := each i hi
          refine ⟨(fq, x), fun _ => ⟨cs', ?_, hr⟩⟩
          have e : (⟨b0, off0, none⟩ : Addr).add (i * P.cellsOf e) = ⟨b0, off0 + i * P.cellsOf e, none⟩ := by
            unfold Addr.add
            split
            · rename_i e; rw [e]; rfl
            · rfl
          rw [e] at ha
          injection ha with e1 e2
          subst e1 e2
          rwa [hn] at hca
        · exact ⟨([], x0), fun h => absurd h hi⟩
      obtain ⟨f, hf⟩ := Classical.axiomOfChoice each2
      refine ⟨_, (List.range len).map fun i => (f i).2, _, rfl, some ⟨b0, off0, none⟩, cap, by simp, by simpa using hl, (by have this : len ≤ reachLen := Nat.le_trans hl hreach; simpa using this), .inr ⟨b0, off0, (List.range len).map fun i => (f i).1, by simp [h0], rfl, rfl, by simp, fun j hj => hfz _ _ (List.mem_append_left _ ?_), fun i hi hi' => ?_⟩⟩
      · simp only [List.length_map, List.length_range] at hj
        refine List.mem_map.2 ⟨j, List.mem_range.2 ?_, rfl⟩
        rw [hn, hlen]
        exact Nat.lt_of_lt_of_le hj (Nat.mul_le_mul_right _ (by omega))
      · simp only [List.length_map, List.length_range] at hi
        obtain ⟨cs', hca, hr⟩ := hf i hi
        exact ⟨cs', hca, by simpa using hr⟩

/-- Some fields in a row, from an offset on, read as a datum of α. -/
structure SegN (N : Nat) (α : Type) [Rd α] (P : Program) (off : Nat) (fs : List Field) : Prop where
  out : ∀ (H : Type) (enc : TypeId × Value → H) (w : World) (cs : List Value), cs.length = off + Rd.n α →
    (∀ f ∈ fs, ∃ fuel d ps, fuel ≤ N ∧ DataW.trod enc P w 0 (fun _ => true) true fuel f.type ((cs.drop f.offset).take (P.cellsOf f.type)) = some (d, ps) ∧ (∀ n ∈ d.weights P f.type, n ≤ reachBytes) ∧ w.noneFrozen ps) →
    ∃ fp x, Rd.rd (α := α) fp w (cs.drop off) x

theorem segN_one {N : Nat} {α : Type} [Rd α] {P : Program} {off : Nat} {f : Field} (hf : OpensN N α P f.type) (ho : f.offset = off) : SegN N α P off [f] := by
  refine ⟨fun H enc w cs hl hx => ?_⟩
  obtain ⟨fuel, d, ps, hfu, h, hw, hz⟩ := hx f (by simp)
  rw [ho, hf.1, List.take_of_length_le (by simp; omega)] at h
  exact hf.2 enc w fuel _ d ps hfu h hw hz

theorem segN_cons {N : Nat} {α β : Type} [Rd α] [Rd β] {P : Program} {off : Nat} {f : Field} {fs : List Field} (hf : OpensN N α P f.type) (ho : f.offset = off) (hs : SegN N β P (off + Rd.n α) fs) : SegN N (α × β) P off (f :: fs) := by
  refine ⟨fun H enc w cs hl hx => ?_⟩
  obtain ⟨fuel, d, ps, hfu, h, hw, hz⟩ := hx f (by simp)
  rw [ho, hf.1] at h
  obtain ⟨f1, x, h1⟩ := hf.2 enc w fuel _ d ps hfu h hw hz
  have hl' : Rd.n (α × β) = Rd.n α + Rd.n β := rfl
  obtain ⟨f2, y, h2⟩ := hs.out H enc w cs (by omega) (fun g hg => hx g (List.mem_cons_of_mem _ hg))
  refine ⟨f1 ++ f2, (x, y), _, _, f1, f2, ?_, rfl, h1, h2⟩
  rw [← List.drop_drop, List.take_append_drop]

theorem opensN_struct {N : Nat} {α : Type} [Rd α] {P : Program} {t : TypeId} {fs : Array Field} (n0 : Nat) (ht : P.underlying t = some (.struct fs)) (hn : Rd.n α = n0) (hc0 : P.cellsOf t = n0) (hs : SegN N α P 0 fs.toList) : OpensN (N + 1) α P t := by
  have hc : P.cellsOf t = Rd.n α := hc0.trans hn.symm
  refine ⟨hc, fun {H} enc w fuel cs d ps hN h hwt hfz => ?_⟩
  obtain ⟨xs, n, hfn, hd, hl, hlen, hx⟩ := DataW.trod_struct ht h
  simp only [Prod.mk.injEq] at hd
  obtain ⟨hd, hps⟩ := hd
  subst hd hps
  have := hs.out H enc w cs (by omega) (fun f hf => by
    obtain ⟨i, hi, rfl⟩ := List.mem_iff_getElem.1 hf
    have hi2 : i < fs.size := by simpa using hi
    have hi' : i < xs.length := by omega
    have h1 := hx i fs[i] (by simp [hi2])
    rw [List.getElem?_eq_getElem hi'] at h1
    refine ⟨n, (xs[i]).1, (xs[i]).2, by omega, by simpa using h1, fun k hk => hwt k ?_, fun b o hm => hfz b o (List.mem_flatMap.2 ⟨_, List.getElem_mem hi', hm⟩)⟩
    simp only [DataW.weights, ht]
    exact DataW.weights_mem_each (j := i) (t := fs[i].type) (d := (xs[i]).1) (by simp [hi2]) (by simp [List.getElem?_map, List.getElem?_eq_getElem hi']) k (by simpa using hk))
  simpa using this


/-! ### Grammars -/

theorem opensStringS (N : Nat) : OpensN N (List ByteArray) Tryz.prog 97 :=
  (opens_slice Tryz.underlying97 (by kernel_rfl) (opens_string Tryz.underlying9 (by kernel_rfl)) (by kernel_rfl)).toN N
theorem opensAttribute : Opens GAttribute Tryz.prog 201 := by
  refine opens_struct 4 Tryz.underlying201 rfl (by kernel_rfl) ?_
  refine seg_cons ?_ rfl (seg_cons ?_ rfl (seg_cons ?_ rfl (seg_one ?_ rfl)))
  · exact (opens_string Tryz.underlying9 (by kernel_rfl))
  · exact (opens_int Tryz.underlying3 (by kernel_rfl))
  · exact (opens_int Tryz.underlying3 (by kernel_rfl))
  · exact (opens_bool Tryz.underlying4 (by kernel_rfl))
theorem opensSymbol : Opens GSymbol Tryz.prog 134 := by
  refine opens_struct 2 Tryz.underlying134 rfl (by kernel_rfl) ?_
  refine seg_cons ?_ rfl (seg_one ?_ rfl)
  · exact (opens_string Tryz.underlying9 (by kernel_rfl))
  · exact (opens_slice Tryz.underlying132 (by kernel_rfl) opensAttribute (by kernel_rfl))
theorem opensOccurrence : Opens GOccurrence Tryz.prog 203 := by
  refine opens_struct 2 Tryz.underlying203 rfl (by kernel_rfl) ?_
  refine seg_cons ?_ rfl (seg_one ?_ rfl)
  · exact (opens_int Tryz.underlying3 (by kernel_rfl))
  · exact (opens_string Tryz.underlying9 (by kernel_rfl))
theorem opensExprOf {d : Nat} (h : OpensN d (GE d) Tryz.prog 206) : OpensN (d + 1) (GExpr d) Tryz.prog 206 := by
  refine opensN_struct 7 Tryz.underlying206 rfl (by kernel_rfl) ?_
  refine segN_cons ?_ rfl (segN_cons ?_ rfl (segN_cons ?_ rfl (segN_cons ?_ rfl (segN_cons ?_ rfl (segN_cons ?_ rfl (segN_one ?_ rfl))))))
  · exact (opens_int Tryz.underlying3 (by kernel_rfl)).toN _
  · exact (opens_int Tryz.underlying3 (by kernel_rfl)).toN _
  · exact (opens_int Tryz.underlying3 (by kernel_rfl)).toN _
  · exact (opens_int Tryz.underlying3 (by kernel_rfl)).toN _
  · exact (opens_string Tryz.underlying9 (by kernel_rfl)).toN _
  · exact (opens_string Tryz.underlying9 (by kernel_rfl)).toN _
  · exact (opensN_slice Tryz.underlying204 (by kernel_rfl) h (by kernel_rfl)).less
theorem opensGE : (d : Nat) → OpensN d (GE d) Tryz.prog 206
  | 0 => ⟨by show _ = 7; kernel_rfl, fun enc w fuel cs d ps hN h _ _ => by
      obtain rfl : fuel = 0 := by omega
      simp [DataW.trod] at h⟩
  | d + 1 => opensExprOf (opensGE d)
theorem opensExpr (d : Nat) : OpensN d (GExpr d) Tryz.prog 206 := (opensExprOf (opensGE d)).less
theorem opensEquation (d : Nat) : OpensN d (GEquation d) Tryz.prog 208 := by
  refine OpensN.less (opensN_struct 9 Tryz.underlying208 rfl (by kernel_rfl) ?_)
  refine segN_cons ?_ rfl (segN_one ?_ rfl)
  · exact opensOccurrence.toN _
  · exact opensExpr d
theorem opensContribution (d : Nat) : OpensN d (GContribution d) Tryz.prog 211 := by
  refine OpensN.less (opensN_struct 16 Tryz.underlying211 rfl (by kernel_rfl) ?_)
  refine segN_cons ?_ rfl (segN_cons ?_ rfl (segN_cons ?_ rfl (segN_one ?_ rfl)))
  · exact (opens_string Tryz.underlying9 (by kernel_rfl)).toN _
  · exact (opens_string Tryz.underlying9 (by kernel_rfl)).toN _
  · exact opensExpr d
  · exact opensExpr d
theorem opensRule (d : Nat) : OpensN d (GRule d) Tryz.prog 139 := by
  refine OpensN.less (opensN_struct 6 Tryz.underlying139 rfl (by kernel_rfl) ?_)
  refine segN_cons ?_ rfl (segN_cons ?_ rfl (segN_cons ?_ rfl (segN_cons ?_ rfl (segN_cons ?_ rfl (segN_one ?_ rfl)))))
  · exact (opens_string Tryz.underlying9 (by kernel_rfl)).toN _
  · exact (opens_string Tryz.underlying9 (by kernel_rfl)).toN _
  · exact opensStringS _
  · exact (opens_bool Tryz.underlying4 (by kernel_rfl)).toN _
  · exact (opensN_slice Tryz.underlying136 (by kernel_rfl) (opensEquation d) (by kernel_rfl)).less
  · exact (opensN_slice Tryz.underlying137 (by kernel_rfl) (opensContribution d) (by kernel_rfl)).less
theorem opensGrammarN (d : Nat) : OpensN d (GGrammar d) Tryz.prog 25 := by
  refine OpensN.less (opensN_struct 2 Tryz.underlying25 rfl (by kernel_rfl) ?_)
  refine segN_cons ?_ rfl (segN_one ?_ rfl)
  · exact (opens_slice Tryz.underlying22 (by kernel_rfl) opensSymbol (by kernel_rfl)).toN _
  · exact (opensN_slice Tryz.underlying23 (by kernel_rfl) (opensRule d) (by kernel_rfl)).less
/-- A grammar's reading, its depth the fuel. -/
theorem opensGrammar : True ∧ ∀ {H : Type} (enc : TypeId × Value → H) (w : World) (fuel : Nat) (cs : List Value) (d : DataW H) (ps : List MemPlace),
    DataW.trod enc Tryz.prog w 0 (fun _ => true) true fuel 25 cs = some (d, ps) → (∀ n ∈ d.weights Tryz.prog 25, n ≤ reachBytes) → w.noneFrozen ps → ∃ fp x, Rd.rd (α := GGrammar fuel) fp w cs x :=
  ⟨trivial, fun enc w fuel cs d ps h1 h2 h3 => (opensGrammarN fuel).2 enc w fuel cs d ps (Nat.le_refl _) h1 h2 h3⟩
end Go.Proofs.YtbfmeiooeaaibaaGreat

namespace Go.Proofs.YtbfmeiooeaaibaaGreat

theorem opensNode : Opens GNode Tryz.prog 141 := by
  refine opens_struct 6 Tryz.underlying141 rfl (by kernel_rfl) ?_
  refine (seg_cons ?_ rfl (seg_cons ?_ rfl (seg_cons ?_ rfl (seg_cons ?_ rfl (seg_cons ?_ rfl (seg_one ?_ rfl))))))
  · exact (opens_int Tryz.underlying3 (by kernel_rfl))
  · exact (opens_int Tryz.underlying3 (by kernel_rfl))
  · exact (opens_int Tryz.underlying3 (by kernel_rfl))
  · exact (opens_int Tryz.underlying3 (by kernel_rfl))
  · exact (opens_string Tryz.underlying9 (by kernel_rfl))
  · exact (opens_slice Tryz.underlying35 (by kernel_rfl) (opens_int Tryz.underlying3 (by kernel_rfl)) (by kernel_rfl))

theorem opensTree : Opens GTree Tryz.prog 28 := by
  refine opens_struct 1 Tryz.underlying28 rfl (by kernel_rfl) ?_
  refine (seg_one ?_ rfl)
  · exact (opens_slice Tryz.underlying26 (by kernel_rfl) opensNode (by kernel_rfl))

end Go.Proofs.YtbfmeiooeaaibaaGreat

namespace Go.Proofs.YtbfmeiooeaaibaaGreat

theorem opensInstance : Opens GInstance Tryz.prog 30 := by
  refine opens_struct 2 Tryz.underlying30 rfl (by kernel_rfl) ?_
  refine (seg_cons ?_ rfl (seg_one ?_ rfl))
  · exact (opens_int Tryz.underlying3 (by kernel_rfl))
  · exact (opens_string Tryz.underlying9 (by kernel_rfl))

theorem opensReading : Opens GReading Tryz.prog 220 := by
  refine opens_struct 4 Tryz.underlying220 rfl (by kernel_rfl) ?_
  refine (seg_cons ?_ rfl (seg_cons ?_ rfl (seg_one ?_ rfl)))
  · exact opensInstance
  · exact (opens_int Tryz.underlying3 (by kernel_rfl))
  · exact (opens_string Tryz.underlying9 (by kernel_rfl))

theorem opensEntry : Opens GEntry Tryz.prog 170 := by
  refine opens_struct 9 Tryz.underlying170 rfl (by kernel_rfl) ?_
  refine (seg_cons ?_ rfl (seg_cons ?_ rfl (seg_cons ?_ rfl (seg_cons ?_ rfl (seg_cons ?_ rfl (seg_cons ?_ rfl (seg_cons ?_ rfl (seg_one ?_ rfl))))))))
  · exact opensInstance
  · exact (opens_int Tryz.underlying3 (by kernel_rfl))
  · exact (opens_int Tryz.underlying3 (by kernel_rfl))
  · exact (opens_int Tryz.underlying3 (by kernel_rfl))
  · exact (opens_string Tryz.underlying9 (by kernel_rfl))
  · exact (opens_slice Tryz.underlying35 (by kernel_rfl) (opens_int Tryz.underlying3 (by kernel_rfl)) (by kernel_rfl))
  · exact (opens_slice Tryz.underlying35 (by kernel_rfl) (opens_int Tryz.underlying3 (by kernel_rfl)) (by kernel_rfl))
  · exact (opens_slice Tryz.underlying168 (by kernel_rfl) opensReading (by kernel_rfl))

theorem opensMemo : Opens GMemo Tryz.prog 60 := by
  refine opens_struct 2 Tryz.underlying60 rfl (by kernel_rfl) ?_
  refine (seg_cons ?_ rfl (seg_one ?_ rfl))
  · exact (opens_slice Tryz.underlying57 (by kernel_rfl) opensEntry (by kernel_rfl))
  · exact (opens_slice Tryz.underlying58 (by kernel_rfl) opensInstance (by kernel_rfl))

end Go.Proofs.YtbfmeiooeaaibaaGreat

namespace Go.Proofs.YtbfmeiooeaaibaaGreat.fnExactUnjustifiedOf
open Go.ChangeShapes Go.WideShapes Go.ChangeAt Go.RowKit
open Go.ChangeMaps (open_string shut_string)
set_option linter.unusedVariables false

theorem own : ownKnob Tryz.prog.godebug = none := by kernel_rfl
theorem laidOut : laidOutB Tryz.prog = true := by kernel_rfl

set_option maxRecDepth 100000 in
theorem lifted (os : Os) (started : os.Started) (H : Type) (enc : TypeId × Value → H) :
    ReturnsInHanded {} Tryz.checked os 5 .any (Rows.fnExactUnjustifiedOfSpec.pre6 enc Tryz.prog Tryz.f5 Rows.fnExactUnjustifiedOfRow.domain false) (Rows.fnExactUnjustifiedOfSpec.post enc Tryz.prog Tryz.f5 false true false false) := by
  refine returnsInHanded_of_change_sized (C := Tryz.checked) own started (by kernel_rfl) Tryz.func5
    (ChangeSpec.witness6 (enc := enc) (C := Tryz.checked) false ⟨#[], #[.agg #[.slice none 0 0, .slice none 0 0], .agg #[.slice none 0 0], .agg #[.slice none 0 0, .slice none 0 0], .agg #[.slice none 0 0, .slice none 0 0]], []⟩ 8 (by kernel_rfl) (by kernel_rfl) (by kernel_rfl) (by kernel_rfl)) ?_
  intro W base args ds gs before hval0 hW _ hsz0 _
  have hsz : (DataW.weightsEach Tryz.prog (Tryz.f5.params.toList ++ Rows.fnExactUnjustifiedOfSpec.plain.varTypes Tryz.prog) (ds ++ gs)).all (· ≤ reachBytes) = true := hsz0
  clear hsz0
  have hval : ∀ (j : Nat) t v, Tryz.f5.params[j]? = some t → args[j]? = some v → Value.okWide Tryz.prog W .any base t v := hval0
  have hW' := hW
  obtain ⟨p, q, hA0, hV, rfl, hfz, hnd⟩ := hW
  have hA : DataW.TrodAll enc Tryz.prog W 0 (fun _ => true) true Tryz.f5.params.toList args.toList ds p := hA0
  rw [Tryz.params5] at hA hval hsz
  obtain ⟨v0, vs0, d0, ds0, p0, q0, hargs, rfl, rfl, h0, r0⟩ := trodAll_cons hA
  obtain ⟨v1, vs1, d1, ds1, p1, q1, rfl, rfl, rfl, h1, r1⟩ := trodAll_cons r0
  obtain ⟨v2, vs2, d2, ds2, p2, q2, rfl, rfl, rfl, h2, r2⟩ := trodAll_cons r1
  obtain ⟨v3, vs3, d3, ds3, p3, q3, rfl, rfl, rfl, h3, r3⟩ := trodAll_cons r2
  obtain ⟨rfl, rfl, rfl⟩ := trodAll_nil r3
  obtain rfl : args = #[v0, v1, v2, v3] := by cases args; simp_all
  obtain ⟨rfl, rfl⟩ := trodVars_none hV
  have k0 := h0
  have lt0 : ∀ x ∈ p0, x.block < W.heap.size := by obtain ⟨m, hm⟩ := k0; exact DataW.trod_lt m _ _ _ hm
  have wt0 : ∀ n ∈ d0.weights Tryz.prog 25, n ≤ reachBytes := fun n hn => by simpa using List.all_eq_true.1 hsz _ (DataW.weights_mem_each (j := 0) (t := 25) (d := d0) rfl rfl n hn)
  obtain ⟨cs0, rfl, _⟩ := okWide_struct Tryz.underlying25 (hval 0 25 v0 rfl rfl)
  obtain ⟨fuel0, hf0⟩ := h0
  obtain ⟨fp0, x0, s0⟩ := (opensGrammar).2 enc W fuel0 _ d0 p0 hf0 wt0 (fun b o hm => hfz b o (by simp [hm]))
  have k1 := h1
  have lt1 : ∀ x ∈ p1, x.block < W.heap.size := by obtain ⟨m, hm⟩ := k1; exact DataW.trod_lt m _ _ _ hm
  have wt1 : ∀ n ∈ d1.weights Tryz.prog 28, n ≤ reachBytes := fun n hn => by simpa using List.all_eq_true.1 hsz _ (DataW.weights_mem_each (j := 1) (t := 28) (d := d1) rfl rfl n hn)
  obtain ⟨cs1, rfl, _⟩ := okWide_struct Tryz.underlying28 (hval 1 28 v1 rfl rfl)
  obtain ⟨fuel1, hf1⟩ := h1
  obtain ⟨fp1, x1, s1⟩ := (opensTree).2 enc W fuel1 _ d1 p1 hf1 wt1 (fun b o hm => hfz b o (by simp [hm]))
  have k2 := h2
  have lt2 : ∀ x ∈ p2, x.block < W.heap.size := by obtain ⟨m, hm⟩ := k2; exact DataW.trod_lt m _ _ _ hm
  have wt2 : ∀ n ∈ d2.weights Tryz.prog 60, n ≤ reachBytes := fun n hn => by simpa using List.all_eq_true.1 hsz _ (DataW.weights_mem_each (j := 2) (t := 60) (d := d2) rfl rfl n hn)
  obtain ⟨cs2, rfl, _⟩ := okWide_struct Tryz.underlying60 (hval 2 60 v2 rfl rfl)
  obtain ⟨fuel2, hf2⟩ := h2
  obtain ⟨fp2, x2, s2⟩ := (opensMemo).2 enc W fuel2 _ d2 p2 hf2 wt2 (fun b o hm => hfz b o (by simp [hm]))
  have k3 := h3
  have lt3 : ∀ x ∈ p3, x.block < W.heap.size := by obtain ⟨m, hm⟩ := k3; exact DataW.trod_lt m _ _ _ hm
  have wt3 : ∀ n ∈ d3.weights Tryz.prog 60, n ≤ reachBytes := fun n hn => by simpa using List.all_eq_true.1 hsz _ (DataW.weights_mem_each (j := 3) (t := 60) (d := d3) rfl rfl n hn)
  obtain ⟨cs3, rfl, _⟩ := okWide_struct Tryz.underlying60 (hval 3 60 v3 rfl rfl)
  obtain ⟨fuel3, hf3⟩ := h3
  obtain ⟨fp3, x3, s3⟩ := (opensMemo).2 enc W fuel3 _ d3 p3 hf3 wt3 (fun b o hm => hfz b o (by simp [hm]))
  clear hA0 hval0
  refine (Calls.mono (R := fun e w' => e = .returned (.bool true) ∧ Gr W w') ?_ fun e W' ⟨he, hg⟩ => ?_)
  · exact lawUnj_any _ _ _ _ _ _ _ _ _ _ _ _ W s0 s1 s2 s3
  · subst he
    have bel := hg.below
    exact ⟨_, rfl, _, _, _, [], _, [], hW', trodAll_mk1 (shut_bool Tryz.underlying4 _), (trodAll_cons_mk (Below.trod laidOut (by kernel_rfl) (of_decide_eq_true (by kernel_rfl)) k0 bel lt0) (trodAll_cons_mk (Below.trod laidOut (by kernel_rfl) (of_decide_eq_true (by kernel_rfl)) k1 bel lt1) (trodAll_cons_mk (Below.trod laidOut (by kernel_rfl) (of_decide_eq_true (by kernel_rfl)) k2 bel lt2) (trodAll_cons_mk (Below.trod laidOut (by kernel_rfl) (of_decide_eq_true (by kernel_rfl)) k3 bel lt3) trodAll_mk0)))), rfl, bel.frame _, fun h => by cases h⟩

end Go.Proofs.YtbfmeiooeaaibaaGreat.fnExactUnjustifiedOf
