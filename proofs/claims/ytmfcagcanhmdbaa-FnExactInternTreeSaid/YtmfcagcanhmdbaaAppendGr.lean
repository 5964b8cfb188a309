/- 'append' to a row of one's own, in a world that has grown. No condition. -/
import Derived.Test.YtmfcagcanhmdbaaIntsD
import Derived.Test.YtmfcagcanhmdbaaAppendR
namespace Go.Proofs.Ytmfcagcanhmdbaa
open Go.RowKit

section
variable {P : Program}
/-- THE OPERATION, for the walk: one's own row of a function that began in w0. -/
theorem wpList_append_gr {w0 w : World} (hG : Gr w0 w) {ops : Array Oper} {rest : List Oper} {o : Oper} {a : Act} {Q : Exit → Act → World → Prop} (hgd : o.guard = none) (s x : Operand) (t : TypeId)
    (ho : o.op = .call { callee := .builtin .append, args := #[s, x], argTypes := #[t, t] })
    (e : TypeId) (i : TypeInfo) (z : Value) (size bytes : Nat) (ht : P.underlying t = some (.slice e)) (hi : P.info? e = some i) (hz : i.zero = some z)
    (hsize : i.size = size) (hby : i.bytes = bytes) (hzs : z.cells.size = size) (hsz : 0 < size)
    (v : Value) (n : Nat) (xs : List Value) (hs : a.eval s = v) (hown : w.ownsRow w0.heap.size e size v n xs)
    (ad : Addr) (m c : Nat) (news : List Value) (hx : a.eval x = .slice (some ad) m c) (hl : news.length = m * size) (hnews : ∀ j u, news[j]? = some u → w.cell? (ad.add j) = some u) (h1 : ∀ u ∈ news, u.oneCell' = true) (hm : 0 < m)
    (h63 : n + m ≤ maxLen) (hbytes : (n + m) * bytes ≤ 140737488355328)
    (h : ∀ v' w', w'.ownsRow w0.heap.size e size v' (n + m) (xs ++ news) → w.grownBy w' v.ownBlock → Gr w0 w' → wpList P ops Q rest (a.put o.dst v') w') : wpList P ops Q (o :: rest) a w := by
  refine wpList_plain hgd fun K hK => ?_
  obtain ⟨v', w', hr, h2, h3, h4⟩ := run_append_gr (P := P) w0.heap.size t o.type e i z size bytes ht hi hz hsize hby hzs hsz v n xs hown ad m c news hl hnews h1 hm h63 hbytes hG.below.size
  unfold Oper.wp execOp
  simp only [ho, resolve, invoke, builtin, Sem.run_bind, Sem.run_pure, Result.andThen_ok, List.map_toArray, List.map_cons, List.map_nil, hs, hx, hr]
  exact hK _ _ (h v' w' h2 h3 (hG.grown h3 (fun b hb => (hown.lt b hb).1) h4))
end

/-- A row of one's own whose elements are one cell each and lead nowhere reads as its data. -/
theorem ownsFlat {α : Type} [Rd α] (hn1 : Rd.n α = 1) (enc : α → Value) {w : World} {base n : Nat} {v : Value} {xs : List α} {e : TypeId} (h : w.ownsRow base e 1 v n (xs.map enc))
    (hw : ∀ y ∈ xs, Rd.rd [] w [enc y] y) (hlen : xs.length ≤ reachLen) : ∃ fq, SlR fq w v xs ∧ (∀ b ∈ fq, base ≤ b ∧ b < w.heap.size) ∧ fq.Nodup ∧ n = xs.length := by
  have hn : n = xs.length := by have := h.1; simpa using this.symm
  subst hn
  rcases h.2 with ⟨rfl, h0⟩ | ⟨g, cap, cur, rfl, hbg, hg, hnc, hcm, hcs, htake⟩
  · have : xs = [] := List.eq_nil_of_length_eq_zero h0
    subst this
    exact ⟨[], SlR.nil w, by simp, by simp, rfl⟩
  · have hgl : g < w.heap.size := by
      rcases Nat.lt_or_ge g w.heap.size with hlt | hge
      · exact hlt
      · rw [Array.getElem?_eq_none hge] at hg; cases hg
    have hx : ∀ i (h : i < xs.length), ∃ c, cur[i]? = some c ∧ Rd.rd [] w [c] xs[i] := fun i hi => by
      refine ⟨enc xs[i], ?_, hw _ (List.getElem_mem hi)⟩
      have h2 : (cur.toList.take (xs.length * 1))[i]? = (xs.map enc)[i]? := by rw [htake]
      rw [List.getElem?_take_of_lt (by omega), List.getElem?_map, List.getElem?_eq_getElem hi] at h2
      simpa using h2
    obtain ⟨fp, hs, hfp⟩ := SlR.flat (xs := xs) (cap := cap) hg hn1 hx hnc hlen
    refine ⟨fp, hs, ?_, ?_, rfl⟩
    · rcases hfp with rfl | rfl
      · simp
      · intro b hb
        obtain rfl : b = g := by simpa using hb
        exact ⟨hbg, hgl⟩
    · rcases hfp with rfl | rfl <;> simp
end Go.Proofs.Ytmfcagcanhmdbaa
