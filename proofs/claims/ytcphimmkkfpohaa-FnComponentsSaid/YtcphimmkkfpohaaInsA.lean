/- slices.DeleteFunc at numbers; inputs of the program. No condition. -/
import Derived.Test.YtcphimmkkfpohaaOwnRow
import Derived.Test.YtcphimmkkfpohaaCloneI
import Derived.Test.YtcphimmkkfpohaaComp
namespace Go.Proofs.Ytcphimmkkfpohaa
open Go.RowKit

theorem Wr.setCells {fp : List Nat} {b : Nat} (hb : b ∈ fp) (vs : List Value) : ∀ {a c : World} {o : Nat}, Wr fp a c → Wr fp a (c.setCells b o vs) := by
  induction vs with
  | nil => intro a c o h; exact h
  | cons v vs ih => intro a c o h; exact ih (h.setCell hb v)

theorem SlR.int_frozen {fp : List Nat} {w : World} {b off len cap : Nat} {xs : List Int} (h : SlR fp w (.slice (some ⟨b, off, none⟩) len cap) xs) {i : Nat} (hi : i < xs.length) : w.frozen? ⟨b, off + i, none⟩ = false := by
  obtain ⟨a, cap, hv, h1, h2, ⟨rfl, rfl⟩ | ⟨b', off', fps, hne, rfl, rfl, hl, hfr, hx⟩⟩ := h
  · simp at hi
  · injection hv with e1 e2 e3
    injection e1 with e1
    injection e1 with e1 e4 _
    subst e1 e4
    exact hfr i (by simpa [Rd.n] using hi)

theorem SlR.int_fp {fp : List Nat} {w : World} {b off len cap : Nat} {xs : List Int} (h : SlR fp w (.slice (some ⟨b, off, none⟩) len cap) xs) (hi : 0 < xs.length) : fp = [b] := by
  obtain ⟨a, cap, hv, h1, h2, ⟨rfl, rfl⟩ | ⟨b', off', fps, hne, rfl, rfl, hl, hfr, hx⟩⟩ := h
  · simp at hi
  · injection hv with e1 e2 e3
    injection e1 with e1
    injection e1 with e1 e4 _
    subst e1 e4
    have : fps.flatten = [] := by
      rw [List.flatten_eq_nil_iff]
      intro f hf
      obtain ⟨i, hi, rfl⟩ := List.mem_iff_getElem.1 hf
      obtain ⟨_, _, hrd⟩ := hx i (by omega) hi
      exact hrd.1
    rw [this]

theorem SlR.ofInts {w : World} {b off cap : Nat} {xs : List Int} (h : ∀ j (hj : j < xs.length), w.cell? ⟨b, off + j, none⟩ = some (.int .i64 xs[j]) ∧ w.frozen? ⟨b, off + j, none⟩ = false ∧ (Lit.int .i64 xs[j]).wf = true) (hc : xs.length ≤ cap) (hr : xs.length ≤ reachLen) :
    ∃ fq, SlR fq w (.slice (some ⟨b, off, none⟩) xs.length cap) xs ∧ fq.Sublist [b] := by
  by_cases h0 : xs = []
  · subst h0
    exact ⟨[], ⟨_, cap, rfl, hc, hr, .inl ⟨rfl, rfl⟩⟩, by simp⟩
  · refine ⟨[b], ⟨_, cap, rfl, hc, hr, .inr ⟨b, off, List.replicate xs.length [], h0, rfl, by simp, by simp, fun j hj => (h j (by simpa [Rd.n] using hj)).2.1, fun i hi hi' => ?_⟩⟩, by simp⟩
    refine ⟨[.int .i64 xs[i]], fun j v hj => ?_, by simpa using intRd (h i hi).2.2 w⟩
    cases j with
    | zero => simp at hj; subst hj; simpa [Rd.n] using (h i hi).1
    | succ j => simp at hj

/-- A function value whose body is a function of the text answers a test on numbers, whatever is written into the blocks fp. -/
structure TestW (fp : List Nat) (w : World) (fid : Nat) (cap : Array Value) (p : Int → Bool) : Prop where
  fn : ∀ args W, (callFunc fid args).run Try.prog W = .ok (.enter fid args) W
  calls : ∀ y W, Wr fp w W → Calls Try.prog fid (#[.int .i64 y] ++ cap) W fun e w' => e = .returned (.bool (p y)) ∧ Gr W w'

theorem idxOf_spec {α : Type} (p : α → Bool) (xs : List α) : (idxOf p xs = -1 ∧ ∀ j (h : j < xs.length), p xs[j] = false) ∨ ∃ k : Nat, ∃ h : k < xs.length, idxOf p xs = k ∧ p xs[k] = true ∧ ∀ j (h : j < xs.length), j < k → p xs[j] = false := by
  induction xs with
  | nil => exact .inl ⟨rfl, fun j h => by simp at h⟩
  | cons x xs ih =>
    by_cases hx : p x = true
    · exact .inr ⟨0, by simp, by simp [idxOf, hx], by simpa using hx, fun j _ hj => by omega⟩
    · have hx' : p x = false := by simpa using hx
      rcases ih with ⟨h1, h2⟩ | ⟨k, hk, h1, h2, h3⟩
      · refine .inl ⟨by simp [idxOf, hx', h1], fun j h => ?_⟩
        cases j with
        | zero => simpa using hx'
        | succ j => simpa using h2 j (by simpa using h)
      · refine .inr ⟨k + 1, by simpa using hk, ?_, by simpa using h2, fun j h hj => ?_⟩
        · simp [idxOf, hx', h1]; omega
        · cases j with
          | zero => simpa using hx'
          | succ j => simpa using h3 j (by simpa using h) (by omega)

theorem filter_none {α : Type} {p : α → Bool} {xs : List α} (h : ∀ j (h : j < xs.length), p xs[j] = false) : xs.filter (fun y => !p y) = xs := by
  rw [List.filter_eq_self]
  intro a ha
  obtain ⟨j, hj, rfl⟩ := List.mem_iff_getElem.1 ha
  simp [h j hj]

def DelAt (fp : List Nat) (w : World) (ys : List Int) (e : Ending) (w' : World) : Prop := ∃ v fq, e = .returned v ∧ SlR fq w' v ys ∧ fq.Sublist fp ∧ Wr fp w w'

set_option maxRecDepth 10000 in
set_option maxHeartbeats 2000000 in
theorem deleteFuncI_any (fp : List Nat) (u : Value) (xs : List Int) (fid : Nat) (cap : Array Value) (p : Int → Bool) (w : World) (hu : SlR fp w u xs) (hnd : fp.Nodup) (hlen : xs.length ≤ 1048576) (hf : TestW fp w fid cap p) :
    Calls Try.prog 38 #[u, .func (.func fid) #[] cap] w (DelAt fp w (xs.filter fun y => !p y)) := by
  have HU := Lib.hid hu
  obtain ⟨a, ca, rfl, h1, h2, h3⟩ := hu.open
  obtain ⟨hfn, hcalls⟩ := hf
  have hT : TestI w fid cap p xs := ⟨hfn, fun y _ x => hcalls y _ (((Gr.refl w).ext x).toWr fp)⟩
  have HT := Lib.hid hT
  have HC := Lib.hid hcalls
  clear hcalls hT hu
  rcases idxOf_spec p xs with ⟨e1, hall⟩ | ⟨k0, hk0, e1, hk1, hk2⟩
  · have HE := Lib.hid e1
    have HF := Lib.hid (filter_none hall)
    clear e1 hall h3
    go_enter Try.func38, Try.ntmps38
    go_wp2_with fail
    refine (slicesIndexFuncI_any _ _ xs _ _ _ _ HU.out HT.out).mono ?_
    rintro e w' ⟨rfl, x1, rfl⟩
    rw [HE.out]
    go_wp2_with fail
    go_ret
    exact ⟨_, fp, rfl, by rw [HF.out]; exact HU.out.gr (by repeat (first | exact Gr.refl _ | apply Gr.ext | apply Gr.alloc | apply Gr.drew)), List.Sublist.refl _, ((Gr.refl w).ext x1).toWr fp⟩
  · obtain ⟨b, off, rfl, hb⟩ := h3 k0 hk0
    have hfp : fp = [b] := HU.out.int_fp (by omega)
    have HFP := Lib.hid hfp
    have HE := Lib.hid e1
    have hk1' : ((k0 : Int) == -1) = false := beq_eq_false_iff_ne.2 (by omega)
    have HK := Lib.hid (And.intro hk1 hk2)
    clear e1 hk1 hk2 h3 hfp
    go_enter Try.func38, Try.ntmps38
    go_wp2_with fail
    refine (slicesIndexFuncI_any _ _ xs _ _ _ _ HU.out HT.out).mono ?_
    rintro e w' ⟨rfl, x1, rfl⟩
    rw [HE.out]
    go_wp2_with fail
    have HWX := Lib.hid (((Gr.refl w).ext x1).toWr fp)
    go_loopw [5, 6, 7] (fun s5 s6 _ wr => ∃ (i j : Nat) (ys : List Int), i < j ∧ j ≤ xs.length ∧ Hid (ys.length = xs.length) ∧ Hid (ys.take i = (xs.take j).filter fun y => !p y) ∧ Hid (ys.drop j = xs.drop j) ∧ Hid (SlR fp wr (.slice (some ⟨b, off, none⟩) xs.length ca) ys) ∧ Hid (Wr fp w wr) ∧ s5 = .int .i64 i ∧ s6 = .int .i64 j) (fun _ s6 _ _ => xs.length - (intOf s6).toNat)
    case atStart =>
      refine ⟨k0, k0 + 1, xs, by omega, by omega, Lib.hid rfl, Lib.hid ?_, Lib.hid rfl, Lib.hid (HU.out.gr (by repeat (first | exact Gr.refl _ | apply Gr.ext | apply Gr.alloc | apply Gr.drew))), HWX, rfl, by go_num⟩
      have e1 : (xs.take k0).filter (fun y => !p y) = xs.take k0 := filter_none fun j hj => by
        rw [List.getElem_take]
        exact HK.out.2 j (by simp at hj; omega) (by simp at hj; omega)
      rw [List.take_succ_eq_append_getElem hk0, List.filter_append, e1]
      simp [HK.out.1]
    case round =>
      obtain ⟨i, j, ys, hij, hjn, hyl, hyt, hyd, hys, hwr, rfl, rfl⟩ := hrel
      have hil : i < ys.length := by have := hyl.out; omega
      by_cases hlt : j < xs.length
      · have hjl : j < ys.length := by have := hyl.out; omega
        have hyj : ys[j] = xs[j] := by
          have := congrArg (fun l => l[0]?) hyd.out
          simpa [hjl, hlt] using this
        have cj : wr.cell? ⟨b, off + j, none⟩ = some (.int .i64 xs[j]) := by rw [← hyj]; exact (hys.out.int_at hjl).1
        have wfj : (Lit.int .i64 xs[j]).wf = true := by rw [← hyj]; exact (hys.out.int_at hjl).2
        have ci := (hys.out.int_at hil).1
        have fi := hys.out.int_frozen hil
        have hcall := HC.out xs[j] wr hwr.out
        have HJ := Lib.hid hyj
        have HWF := Lib.hid wfj
        have hdrop : Hid (∀ v : Int, (ys.set i v).drop (j + 1) = xs.drop (j + 1)) := Lib.hid fun v => by
          rw [List.drop_set_of_lt (by omega)]
          have := congrArg (List.drop 1) hyd.out
          simpa [Nat.add_comm] using this
        have hdrop2 : Hid (ys.drop (j + 1) = xs.drop (j + 1)) := Lib.hid (by
          have := congrArg (List.drop 1) hyd.out
          simpa [Nat.add_comm] using this)
        have htk : Hid ((xs.take (j + 1)).filter (fun y => !p y) = (ys.take i) ++ if p xs[j] then [] else [xs[j]]) := Lib.hid (by
          rw [List.take_succ_eq_append_getElem hlt, List.filter_append, hyt.out]
          cases hp : p xs[j] <;> simp [hp])
        have zi := blk ci
        clear hyj wfj
        generalize ys[i] = old at ci
        cases hq : p xs[j] with
        | true =>
          rw [hq] at hcall
          have HQ := Lib.hid hq
          clear hq
          go_wp2_with fail
          refine hcall.mono ?_
          rintro e w2 ⟨rfl, x2, rfl⟩
          go_wp2_with fail
          refine ⟨⟨i, j + 1, ys, by omega, by omega, hyl, Lib.hid ?_, hdrop2, Lib.hid (hys.out.gr (by repeat (first | exact Gr.refl _ | apply Gr.ext | apply Gr.alloc | apply Gr.drew))), Lib.hid (hwr.out.gr (by repeat (first | exact Gr.refl _ | apply Gr.ext | apply Gr.alloc | apply Gr.drew))), rfl, by go_num⟩, by simp [intOf]; omega⟩
          rw [htk.out, HQ.out]; simp
        | false =>
          rw [hq] at hcall
          have HQ := Lib.hid hq
          clear hq
          go_wp2_with fail
          refine hcall.mono ?_
          rintro e w2 ⟨rfl, g2⟩
          have hs2 := hys.out.gr g2
          have ci2 := g2.keep ci
          have fi2 := hs2.int_frozen hil
          have zi2 := blk ci2
          have HS2 := Lib.hid hs2
          clear ci fi zi cj hs2 hcall
          go_wp2_with fail
          refine ⟨⟨i + 1, j + 1, ys.set i xs[j], by omega, by omega, Lib.hid (by simpa using hyl.out), Lib.hid ?_, Lib.hid (hdrop.out _), Lib.hid ?_, Lib.hid ?_, by go_num, by go_num⟩, by simp [intOf]; omega⟩
          · rw [htk.out, HQ.out, List.take_succ_eq_append_getElem (by simpa using hil), List.take_set_of_le (Nat.le_refl _)]
            simp
          · obtain ⟨cs, fq, -, hrf, -, hbf, hbq, -, -, hset⟩ := HS2.out.focus hnd hil
            obtain rfl : fq = [] := hrf.1
            have hfoc : Foc b (off + i * Rd.n Int) (Rd.n Int) [] w2 (w2.setCell ⟨b, off + i, none⟩ (.int .i64 xs[j])) := (Foc.refl _ _ _ _ _).set (o := off + i) (by show off + i * 1 ≤ _; omega) (by show _ < off + i * 1 + 1; omega) _
            refine hset _ [.int .i64 xs[j]] xs[j] hfoc (fun m v hm => ?_) (intRd HWF.out _)
            cases m with
            | zero =>
              obtain rfl : Value.int .i64 xs[j] = v := by simpa using hm
              have := cell_setCell_eq (v := .int .i64 xs[j]) ci2
              simpa [Rd.n] using this
            | succ m => simp at hm
          · exact (hwr.out.gr g2).setCell (by rw [HFP.out]; simp) _
      · obtain rfl : j = xs.length := by omega
        have hpos : 0 < xs.length - i := by omega
        have hca : i ≤ ca := by omega
        have hcl : ∀ ty, (Builtin.clear_ #[30] ty #[.slice (some ⟨b, off + i, none⟩) (xs.length - i) (ca - i)]).run Try.prog wr = .ok (.tuple #[]) (wr.setCells b (off + i) (List.replicate (xs.length - i) (.int .i64 0))) := fun ty =>
          Lib.run_clear_slice wr _ 3 ty _ Try.underlying30 (fun w => by first | rfl | kernel_rfl | simp [zeroValue]) rfl rfl b (off + i) _ _ hpos (fun t ht => by rw [Nat.add_assoc, (hys.out.int_at (i := i + t) (by have := hyl.out; omega)).1]; rfl) (fun t ht => by rw [Nat.add_assoc]; exact hys.out.int_frozen (by have := hyl.out; omega))
        go_wp2_with fail
        go_ret
        have hil2 : (ys.take i).length = i := by simp; omega
        have hcells : ∀ q (hq : q < (ys.take i).length), (wr.setCells b (off + i) (List.replicate (xs.length - i) (.int .i64 0))).cell? ⟨b, off + q, none⟩ = some (.int .i64 (ys.take i)[q]) ∧ (wr.setCells b (off + i) (List.replicate (xs.length - i) (.int .i64 0))).frozen? ⟨b, off + q, none⟩ = false ∧ (Lit.int .i64 (ys.take i)[q]).wf = true := by
          intro q hq
          have hqi : q < i := by omega
          have h5 := hys.out.int_at (i := q) (by omega)
          refine ⟨?_, ?_, by rw [List.getElem_take]; exact h5.2⟩
          · rw [World.cell?_setCells_out b _ _ _ _ (fun _ _ => .inl (by show off + q < off + i; omega)), List.getElem_take]
            exact h5.1
          · rw [World.frozen?_setCells]
            exact hys.out.int_frozen (by omega)
        obtain ⟨fq, hs, hfq⟩ := SlR.ofInts (cap := ca) hcells (by omega) (by unfold reachLen; omega)
        rw [hil2] at hs
        refine ⟨_, fq, rfl, ?_, by rw [HFP.out]; exact hfq, Wr.setCells (by rw [HFP.out]; simp) _ hwr.out⟩
        have e9 : ys.take i = xs.filter (fun y => !p y) := by rw [hyt.out, List.take_length]
        rw [← e9]
        exact hs
end Go.Proofs.Ytcphimmkkfpohaa
