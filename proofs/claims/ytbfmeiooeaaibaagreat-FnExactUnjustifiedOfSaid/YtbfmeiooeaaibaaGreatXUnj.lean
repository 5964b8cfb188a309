/- slices.IndexFunc and slices.ContainsFunc at Instance. Made by mk_func.py. slices.Clone and slices.DeleteFunc at instances. UnjustifiedOf of the program. No condition. -/
import Derived.Test.YtbfmeiooeaaibaaGreatFamRead
import Derived.Laws.EntriesVeiled
import Derived.Test.YtbfmeiooeaaibaaGreatCloneI
import Derived.Test.YtbfmeiooeaaibaaGreatXAttr
import Derived.Test.YtbfmeiooeaaibaaGreatXJus
namespace Go.Proofs.YtbfmeiooeaaibaaGreat
open Go.RowKit
variable {d : Nat}

/-- A function value whose body is a function of the text answers a test on elements. -/
structure TestInstance (w : World) (fid : Nat) (cap : Array Value) (p : GInstance → Bool) (xs : List GInstance) : Prop where
  fn : ∀ args W, (callFunc fid args).run Tryz.prog W = .ok (.enter fid args) W
  calls : ∀ y ∈ xs, ∀ (x : Ext) (fp : List Nat) (cs : Array Value), Rd.rd fp (w.ext x) cs.toList y → Calls Tryz.prog fid (#[.agg cs] ++ cap) (w.ext x) fun e w' => e = .returned (.bool (p y)) ∧ Gr (w.ext x) w'

set_option maxHeartbeats 1000000 in
theorem indexFuncInstance_any (fp : List Nat) (u : Value) (xs : List GInstance) (fid : Nat) (cap : Array Value) (p : GInstance → Bool) (w : World) (hu : SlR fp w u xs) (hf : TestInstance w fid cap p xs) :
    Calls Tryz.prog 111 #[u, .func (.func fid) #[] cap] w fun e w' => e = .returned (.int .i64 (idxOf p xs)) ∧ Gr w w' := by
  obtain ⟨a, ca, rfl, h1, h2, h3⟩ := hu.open
  obtain ⟨hfn, hcalls⟩ := hf
  have HC := Lib.hid hcalls
  clear hcalls
  go_enter Tryz.func111, Tryz.ntmps111
  go_wp2
  go_loopw [8, 5] (fun s8 s5 wr => ∃ k : Nat, k ≤ xs.length ∧ (∀ j (h : j < xs.length), j < k → p xs[j] = false) ∧ Gr w wr ∧ s8 = .int .i64 k) (fun s8 s5 _ => xs.length - (intOf s8).toNat)
  case atStart => exact ⟨0, by omega, by omega, Gr.refl w, rfl⟩
  case round =>
    obtain ⟨k, hk, ht, ⟨x, rfl⟩, rfl⟩ := hrel
    have hT := Lib.hid ht
    clear ht
    by_cases hlt : k < xs.length
    · obtain ⟨b, off, rfl, hb⟩ := h3 k hlt
      obtain ⟨csq, feq, hcq, hrq, -⟩ := hu.at hlt
      have hrdq := hrq
      generalize xs[k] = yq at hrq
      obtain ⟨q0, q1⟩ := yq
      obtain ⟨hcsq, -, -, -⟩ := rdInstance_inv (cs := csq.toArray) q0 q1 (by simpa using hrq)
      obtain rfl : csq = [.int .i64 q0, .string q1] := by have := congrArg Array.toList hcsq; simpa using this
      have z0 : w.cell? ⟨b, off + k * 2, none⟩ = some (.int .i64 q0) := by simpa [Rd.n] using hcq 0 _ rfl
      have z1 : w.cell? ⟨b, off + k * 2 + 1, none⟩ = some (.string q1) := hcq 1 _ rfl
      clear h3 hcsq hcq hrq
      go_wp2_with fail
      refine (HC.out _ (List.getElem_mem hlt) _ _ _ (Rd.gr hrdq (by repeat (first | exact Gr.refl _ | apply Gr.ext | apply Gr.alloc | apply Gr.drew)))).mono ?_
      rintro e w2 ⟨rfl, x2, rfl⟩
      go_wp2
      · have hx : p xs[k] = true := by assumption
        go_ret
        exact ⟨ret_int (idxOf_at hlt hx hT.out).symm, (by repeat (first | exact Gr.refl _ | apply Gr.ext | apply Gr.alloc | apply Gr.drew))⟩
      · have hx : p xs[k] = false := by assumption
        refine ⟨⟨k + 1, by omega, fun j hj hjk => ?_, (by repeat (first | exact Gr.refl _ | apply Gr.ext | apply Gr.alloc | apply Gr.drew)), by go_num⟩, by simp [intOf]; omega⟩
        by_cases hjk' : j < k
        · exact hT.out j hj hjk'
        · obtain rfl : j = k := by omega
          exact hx
    · go_wp2
      go_ret
      exact ⟨ret_int (idxOf_none fun j hj => hT.out j hj (by omega)).symm, (by repeat (first | exact Gr.refl _ | apply Gr.ext | apply Gr.alloc | apply Gr.drew))⟩

end Go.Proofs.YtbfmeiooeaaibaaGreat

namespace Go.Proofs.YtbfmeiooeaaibaaGreat
open Go.RowKit
set_option linter.unusedVariables false

theorem Wr.setCells {fp : List Nat} {b : Nat} (hb : b ∈ fp) (vs : List Value) : ∀ {a c : World} {o : Nat}, Wr fp a c → Wr fp a (c.setCells b o vs) := by
  induction vs with
  | nil => intro a c o h; exact h
  | cons v vs ih => intro a c o h; exact ih (h.setCell hb v)
theorem idxOf_spec {α : Type} (p : α → Bool) (xs : List α) : (idxOf p xs = -1 ∧ ∀ j (h : j < xs.length), p xs[j] = false) ∨ ∃ k : Nat, ∃ h : k < xs.length, idxOf p xs = k ∧ p xs[k] = true ∧ ∀ j (h : j < xs.length), j < k → p xs[j] = false := by
  induction xs with
  | nil => exact .inl ⟨rfl, fun j h => by simp at h⟩
  | cons x xs ih =>
    by_cases hx : p x = true
    · exact .inr ⟨0, by simp, by simp [idxOf, hx], by simpa using hx, fun j _ hj => by omega⟩
    · have hx' : p x = false := by simpa using hx
      rcases ih with ⟨h1, h2⟩ | ⟨k, hk, h1, h2, h3⟩
      · refine .inl ⟨by simp [idxOf, hx', h1], fun j h => ?_⟩
        cases j with
        | zero => simpa using hx'
        | succ j => simpa using h2 j (by simpa using h)
      · refine .inr ⟨k + 1, by simpa using hk, ?_, by simpa using h2, fun j h hj => ?_⟩
        · simp [idxOf, hx', h1]; omega
        · cases j with
          | zero => simpa using hx'
          | succ j => simpa using h3 j (by simpa using h) (by omega)
theorem filter_none {α : Type} {p : α → Bool} {xs : List α} (h : ∀ j (h : j < xs.length), p xs[j] = false) : xs.filter (fun y => !p y) = xs := by
  rw [List.filter_eq_self]
  intro a ha
  obtain ⟨j, hj, rfl⟩ := List.mem_iff_getElem.1 ha
  simp [h j hj]

/-- The cells of an instance in a row. -/
theorem SlR.inst_at {fp : List Nat} {w : World} {b off len cap : Nat} {xs : List GInstance} (h : SlR fp w (.slice (some ⟨b, off, none⟩) len cap) xs) {i : Nat} (hi : i < xs.length) :
    w.cell? ⟨b, off + i * 2, none⟩ = some (.int .i64 xs[i].1) ∧ w.cell? ⟨b, off + i * 2 + 1, none⟩ = some (.string xs[i].2) ∧ (Lit.int .i64 xs[i].1).wf = true ∧ xs[i].2.size ≤ maxLen := by
  obtain ⟨cs, fq, hc, hr, -⟩ := h.at hi
  obtain ⟨y, hy⟩ : ∃ y, y = xs[i] := ⟨_, rfl⟩
  rw [← hy] at hr ⊢
  obtain ⟨q0, q1⟩ := y
  obtain ⟨hcs, -, h0, h1⟩ := rdInstance_inv (cs := cs.toArray) q0 q1 (by simpa using hr)
  obtain rfl : cs = [.int .i64 q0, .string q1] := by have := congrArg Array.toList hcs; simpa using this
  exact ⟨by simpa [Rd.n] using hc 0 _ rfl, hc 1 _ rfl, h0, h1⟩
theorem SlR.inst_frozen {fp : List Nat} {w : World} {b off len cap : Nat} {xs : List GInstance} (h : SlR fp w (.slice (some ⟨b, off, none⟩) len cap) xs) {i : Nat} (hi : i < xs.length * 2) : w.frozen? ⟨b, off + i, none⟩ = false := by
  obtain ⟨a, cap, hv, h1, h2, ⟨rfl, rfl⟩ | ⟨b', off', fps, hne, rfl, rfl, hl, hfr, hx⟩⟩ := h
  · simp at hi
  · injection hv with e1 e2 e3
    injection e1 with e1
    injection e1 with e1 e4 _
    subst e1 e4
    exact hfr i hi
theorem SlR.inst_fp {fp : List Nat} {w : World} {b off len cap : Nat} {xs : List GInstance} (h : SlR fp w (.slice (some ⟨b, off, none⟩) len cap) xs) (hi : 0 < xs.length) : fp = [b] := by
  obtain ⟨a, cap, hv, h1, h2, ⟨rfl, rfl⟩ | ⟨b', off', fps, hne, rfl, rfl, hl, hfr, hx⟩⟩ := h
  · simp at hi
  · injection hv with e1 e2 e3
    injection e1 with e1
    injection e1 with e1 e4 _
    subst e1 e4
    have : fps.flatten = [] := by
      rw [List.flatten_eq_nil_iff]
      intro f hf
      obtain ⟨i, hi, rfl⟩ := List.mem_iff_getElem.1 hf
      obtain ⟨_, _, hrd⟩ := hx i (by omega) hi
      exact flatProd flatInt flatStr _ _ _ _ hrd
    rw [this]
theorem SlR.ofInsts {w : World} {b off cap : Nat} {xs : List GInstance} (h : ∀ j (hj : j < xs.length), w.cell? ⟨b, off + j * 2, none⟩ = some (.int .i64 xs[j].1) ∧ w.cell? ⟨b, off + j * 2 + 1, none⟩ = some (.string xs[j].2) ∧ (Lit.int .i64 xs[j].1).wf = true ∧ xs[j].2.size ≤ maxLen)
    (hf : ∀ j, j < xs.length * 2 → w.frozen? ⟨b, off + j, none⟩ = false) (hc : xs.length ≤ cap) (hr : xs.length ≤ reachLen) :
    ∃ fq, SlR fq w (.slice (some ⟨b, off, none⟩) xs.length cap) xs ∧ fq.Sublist [b] := by
  by_cases h0 : xs = []
  · subst h0
    exact ⟨[], ⟨_, cap, rfl, hc, hr, .inl ⟨rfl, rfl⟩⟩, by simp⟩
  · refine ⟨[b], ⟨_, cap, rfl, hc, hr, .inr ⟨b, off, List.replicate xs.length [], h0, rfl, by simp, by simp, fun j hj => hf j hj, fun i hi hi' => ?_⟩⟩, by simp⟩
    refine ⟨[.int .i64 xs[i].1, .string xs[i].2], fun j v hj => ?_, by simpa using rdInstance_mk (w := w) xs[i].1 xs[i].2 (h i hi).2.2.1 (h i hi).2.2.2⟩
    match j, hj with
    | 0, hj => obtain rfl := Option.some.inj hj; simpa [Rd.n] using (h i hi).1
    | 1, hj => obtain rfl := Option.some.inj hj; exact (h i hi).2.1

section
variable {P : Program}
/-- clear at a row of elements of several cells. -/
theorem run_clear_cells (w : World) (t e ty : TypeId) (z : Value) (ht : P.underlying t = some (.slice e)) (hv : ∀ w, (zeroValue e).run P w = .ok z w) (b o n c : Nat) (hn : 0 < n) (L : List Value) (hL : (Builtin.zeroCells z.cells n).toList = L) (h1 : ∀ v ∈ L, v.oneCell' = true)
    (hc : ∀ j, j < L.length → (w.cell? ⟨b, o + j, none⟩).isSome = true) (hf : ∀ j, j < L.length → w.frozen? ⟨b, o + j, none⟩ = false) :
    (Builtin.clear_ #[t] ty #[.slice (some ⟨b, o, none⟩) n c]).run P w = .ok (.tuple #[]) (w.setCells b o L) := by
  have hst := run_storeCells_cells (P := P) b o L 0 w (by simpa using hc) (by simpa using hf) h1
  simp only [Nat.add_zero] at hst
  obtain ⟨m, rfl⟩ : ∃ m, n = m + 1 := ⟨n - 1, by omega⟩
  simp [Builtin.clear_, run_underlying ht, hv, hL, hst]
end

/-- A function value whose body is a function of the text answers a test on instances, whatever is written into the blocks fp. -/
structure TestN (fp : List Nat) (w : World) (fid : Nat) (cap : Array Value) (p : GInstance → Bool) : Prop where
  fn : ∀ args W, (callFunc fid args).run Tryz.prog W = .ok (.enter fid args) W
  calls : ∀ (y : GInstance) W (fp' : List Nat) (cs : Array Value), Wr fp w W → Rd.rd fp' W cs.toList y → Calls Tryz.prog fid (#[.agg cs] ++ cap) W fun e w' => e = .returned (.bool (p y)) ∧ Gr W w'

def DelAt (fp : List Nat) (w : World) (ys : List GInstance) (e : Ending) (w' : World) : Prop := ∃ v fq, e = .returned v ∧ SlR fq w' v ys ∧ fq.Sublist fp ∧ Wr fp w w'

set_option maxRecDepth 10000 in
set_option maxHeartbeats 1000000 in
theorem cloneInstance_any (fp : List Nat) (u : Value) (xs : List GInstance) (w : World) (hu : SlR fp w u xs) (hlen : xs.length ≤ 1048576) :
    Calls Tryz.prog 75 #[u] w (MadeS w xs) := by
  obtain ⟨i0, hi, hz0, hz1, hz2⟩ := info_parts Tryz.infoInstC
  have HZ := Lib.hid (And.intro hi (And.intro hz0 (And.intro hz1 hz2)))
  clear hi hz0 hz1 hz2
  have HU := Lib.hid hu
  obtain ⟨a, c, rfl, h1, h2, h3⟩ := hu.open
  have kn := fun (W : World) (a : Option Addr) (n c : Nat) => Lib.run_eql_slice_nil (P := Tryz.prog) W 64 34 a n c 0 0 Tryz.underlying64
  clear hu
  cases a with
  | none =>
    have h0 : xs = [] := by
      cases xs with
      | nil => rfl
      | cons y ys => obtain ⟨b, off, hb, _⟩ := h3 0 (by simp); cases hb
    subst h0
    clear h3
    go_enter Tryz.func75, Tryz.ntmps75
    go_wp2
    go_ret
    exact ⟨_, [], rfl, SlR.nil _, Fresh.nil _, (by repeat (first | exact Gr.refl _ | apply Gr.ext | apply Gr.alloc | apply Gr.drew))⟩
  | some ad =>
    clear h3
    go_enter Tryz.func75, Tryz.ntmps75
    go_wp2_with (first | (at_builtin; refine wpList_clone (α := GInstance) (flatProd flatInt flatStr) rfl _ _ 64 rfl 34 i0 (.agg #[.int .i64 0, .string ByteArray.empty]) 24 Tryz.underlying64 HZ.out.1 HZ.out.2.1 HZ.out.2.2.1 HZ.out.2.2.2 rfl (by rfl) (by simp) (by rfl) HU.out hlen (by omega) ?_; intro b2 c2 fq y hs hf; replace hs := Lib.hid hs))
    go_ret
    exact ⟨_, fq, rfl, hs.out, hf, (by repeat (first | exact Gr.refl _ | apply Gr.ext | apply Gr.alloc | apply Gr.drew))⟩

set_option maxRecDepth 10000 in
set_option maxHeartbeats 4000000 in
theorem deleteFuncN_any (fp : List Nat) (u : Value) (xs : List GInstance) (fid : Nat) (cap : Array Value) (p : GInstance → Bool) (w : World) (hu : SlR fp w u xs) (hnd : fp.Nodup) (hlen : xs.length ≤ 1048576) (hf : TestN fp w fid cap p) :
    Calls Tryz.prog 74 #[u, .func (.func fid) #[] cap] w (DelAt fp w (xs.filter fun y => !p y)) := by
  have HU := Lib.hid hu
  obtain ⟨a, ca, rfl, h1, h2, h3⟩ := hu.open
  obtain ⟨hfn, hcalls⟩ := hf
  have hT : TestInstance w fid cap p xs := ⟨hfn, fun y _ x fp' cs hr => hcalls y _ fp' cs (((Gr.refl w).ext x).toWr fp) hr⟩
  have HT := Lib.hid hT
  have HC := Lib.hid hcalls
  clear hcalls hT hu
  rcases idxOf_spec p xs with ⟨e1, hall⟩ | ⟨k0, hk0, e1, hk1, hk2⟩
  · have HE := Lib.hid e1
    have HF := Lib.hid (filter_none hall)
    clear e1 hall h3
    go_enter Tryz.func74, Tryz.ntmps74
    go_wp2_with fail
    refine (indexFuncInstance_any _ _ xs _ _ _ _ HU.out HT.out).mono ?_
    rintro e w' ⟨rfl, x1, rfl⟩
    rw [HE.out]
    go_wp2_with fail
    go_ret
    exact ⟨_, fp, rfl, by rw [HF.out]; exact HU.out.gr (by repeat (first | exact Gr.refl _ | apply Gr.ext | apply Gr.alloc | apply Gr.drew)), List.Sublist.refl _, ((Gr.refl w).ext x1).toWr fp⟩
  · obtain ⟨b, off, rfl, hb⟩ := h3 k0 hk0
    have hfp : fp = [b] := HU.out.inst_fp (by omega)
    have HFP := Lib.hid hfp
    have HE := Lib.hid e1
    have hk1' : ((k0 : Int) == -1) = false := beq_eq_false_iff_ne.2 (by omega)
    have HK := Lib.hid (And.intro hk1 hk2)
    clear e1 hk1 hk2 h3 hfp
    go_enter Tryz.func74, Tryz.ntmps74
    go_wp2_with fail
    refine (indexFuncInstance_any _ _ xs _ _ _ _ HU.out HT.out).mono ?_
    rintro e w' ⟨rfl, x1, rfl⟩
    rw [HE.out]
    go_wp2_with fail
    have HWX := Lib.hid (((Gr.refl w).ext x1).toWr fp)
    go_loopw [5, 6, 7] (fun s5 s6 _ wr => ∃ (i j : Nat) (ys : List GInstance), i < j ∧ j ≤ xs.length ∧ Hid (ys.length = xs.length) ∧ Hid (ys.take i = (xs.take j).filter fun y => !p y) ∧ Hid (ys.drop j = xs.drop j) ∧ Hid (SlR fp wr (.slice (some ⟨b, off, none⟩) xs.length ca) ys) ∧ Hid (Wr fp w wr) ∧ s5 = .int .i64 i ∧ s6 = .int .i64 j) (fun _ s6 _ _ => xs.length - (intOf s6).toNat)
    case atStart =>
      refine ⟨k0, k0 + 1, xs, by omega, by omega, Lib.hid rfl, Lib.hid ?_, Lib.hid rfl, Lib.hid (HU.out.gr (by repeat (first | exact Gr.refl _ | apply Gr.ext | apply Gr.alloc | apply Gr.drew))), HWX, rfl, by go_num⟩
      have e1 : (xs.take k0).filter (fun y => !p y) = xs.take k0 := filter_none fun j hj => by
        rw [List.getElem_take]
        exact HK.out.2 j (by simp at hj; omega) (by simp at hj; omega)
      rw [List.take_succ_eq_append_getElem hk0, List.filter_append, e1]
      simp [HK.out.1]
    case round =>
      obtain ⟨i, j, ys, hij, hjn, hyl, hyt, hyd, hys, hwr, rfl, rfl⟩ := hrel
      rename World => wr
      have hil : i < ys.length := by have := hyl.out; omega
      by_cases hlt : j < xs.length
      · have hjl : j < ys.length := by have := hyl.out; omega
        have hyj : ys[j] = xs[j] := by
          have := congrArg (fun l => l[0]?) hyd.out
          simpa [hjl, hlt] using this
        obtain ⟨Y, hY⟩ : ∃ Y, Y = xs[j] := ⟨_, rfl⟩
        have aj := hys.out.inst_at hjl
        rw [hyj, ← hY] at aj
        have HY := Lib.hid hY
        obtain ⟨q0, q1⟩ := Y
        obtain ⟨cj0, cj1, hw0, hw1⟩ := aj
        simp only at cj0 cj1 hw0 hw1
        obtain ⟨ci0, ci1, -, -⟩ := hys.out.inst_at hil
        have fi0 := hys.out.inst_frozen (i := i * 2) (by omega)
        have fi1 := hys.out.inst_frozen (i := i * 2 + 1) (by omega)
        rw [← Nat.add_assoc] at fi1
        have hrd : ∀ W, Rd.rd (α := GInstance) ([] ++ []) W [.int .i64 q0, .string q1] (q0, q1) := fun W => rdInstance_mk q0 q1 hw0 hw1
        have hcall := HC.out (q0, q1) (wr.alloc (.cells #[.int .i64 q0, .string q1] 34)) _ #[.int .i64 q0, .string q1] (hwr.out.gr (by repeat (first | exact Gr.refl _ | apply Gr.ext | apply Gr.alloc | apply Gr.drew))) (hrd _)
        have HW := Lib.hid (And.intro hw0 hw1)
        have hdrop : Hid (∀ v : GInstance, (ys.set i v).drop (j + 1) = xs.drop (j + 1)) := Lib.hid fun v => by
          rw [List.drop_set_of_lt (by omega)]
          have := congrArg (List.drop 1) hyd.out
          simpa [Nat.add_comm] using this
        have hdrop2 : Hid (ys.drop (j + 1) = xs.drop (j + 1)) := Lib.hid (by
          have := congrArg (List.drop 1) hyd.out
          simpa [Nat.add_comm] using this)
        have htk : Hid ((xs.take (j + 1)).filter (fun y => !p y) = (ys.take i) ++ if p (q0, q1) then [] else [(q0, q1)]) := Lib.hid (by
          rw [List.take_succ_eq_append_getElem hlt, List.filter_append, hyt.out, ← HY.out]
          cases hp : p (q0, q1) <;> simp [hp])
        have zi := blk ci0
        clear hyj hw0 hw1 hrd hY
        obtain ⟨o0, ho0⟩ : ∃ o, o = ys[i].1 := ⟨_, rfl⟩
        obtain ⟨o1, ho1⟩ : ∃ o, o = ys[i].2 := ⟨_, rfl⟩
        rw [← ho0] at ci0
        rw [← ho1] at ci1
        clear ho0 ho1
        cases hq : p (q0, q1) with
        | true =>
          rw [hq] at hcall
          have HQ := Lib.hid hq
          clear hq
          go_wp2_with fail
          refine hcall.mono ?_
          rintro e w2 ⟨rfl, x2, rfl⟩
          go_wp2_with fail
          refine ⟨⟨i, j + 1, ys, by omega, by omega, hyl, Lib.hid ?_, hdrop2, Lib.hid (hys.out.gr (by repeat (first | exact Gr.refl _ | apply Gr.ext | apply Gr.alloc | apply Gr.drew))), Lib.hid (hwr.out.gr (by repeat (first | exact Gr.refl _ | apply Gr.ext | apply Gr.alloc | apply Gr.drew))), rfl, by go_num⟩, by simp [intOf]; omega⟩
          rw [htk.out, HQ.out]; simp
        | false =>
          rw [hq] at hcall
          have HQ := Lib.hid hq
          clear hq
          go_wp2_with fail
          refine hcall.mono ?_
          rintro e w2 ⟨rfl, g2⟩
          have g2w : Gr wr w2 := ((by repeat (first | exact Gr.refl _ | apply Gr.ext | apply Gr.alloc | apply Gr.drew)) : Gr wr (wr.alloc (.cells #[.int .i64 q0, .string q1] 34))).trans g2
          have cb0 : w2.cell? ⟨wr.heap.size, 0, none⟩ = some (.int .i64 q0) := g2.keep (box_cell rfl rfl)
          have cb1 : w2.cell? ⟨wr.heap.size, 1, none⟩ = some (.string q1) := g2.keep (box_cell rfl rfl)
          have hs2 := hys.out.gr g2w
          have ci20 := g2w.keep ci0
          have ci21 := g2w.keep ci1
          have fi20 := hs2.inst_frozen (i := i * 2) (by omega)
          have fi21 := hs2.inst_frozen (i := i * 2 + 1) (by omega)
          rw [← Nat.add_assoc] at fi21
          have zi2 := blk ci20
          have zb := blk cb0
          have HS2 := Lib.hid hs2
          clear ci0 ci1 fi0 fi1 zi cj0 cj1 hs2 hcall
          have hwr2 := hwr.out.gr g2w
          have HWR2 := Lib.hid hwr2
          clear hwr2 g2 g2w
          go_wp2_with fail
          refine ⟨⟨i + 1, j + 1, ys.set i (q0, q1), by omega, by omega, Lib.hid (by simpa using hyl.out), Lib.hid ?_, Lib.hid (hdrop.out _), Lib.hid ?_, Lib.hid ?_, by go_num, by go_num⟩, by simp [intOf]; omega⟩
          · rw [htk.out, HQ.out, List.take_succ_eq_append_getElem (by simpa using hil), List.take_set_of_le (Nat.le_refl _)]
            simp
          · obtain ⟨cs, fq, -, hrf, -, hbf, hbq, -, -, hset⟩ := HS2.out.focus hnd hil
            obtain rfl : fq = [] := flatProd flatInt flatStr _ _ _ _ hrf
            have hfoc : Foc b (off + i * Rd.n GInstance) (Rd.n GInstance) [] w2 ((w2.setCell ⟨b, off + i * 2, none⟩ (.int .i64 q0)).setCell ⟨b, off + i * 2 + 1, none⟩ (.string q1)) := ((Foc.refl _ _ _ _ _).set (o := off + i * 2) (by show off + i * 2 ≤ _; omega) (by show _ < off + i * 2 + 2; omega) _).set (o := off + i * 2 + 1) (by show off + i * 2 ≤ _; omega) (by show _ < off + i * 2 + 2; omega) _
            refine hset _ [.int .i64 q0, .string q1] (q0, q1) hfoc (fun m v hm => ?_) (by simpa using rdInstance_mk q0 q1 HW.out.1 HW.out.2)
            match m, hm with
            | 0, hm =>
              obtain rfl := Option.some.inj hm
              have h8 := cell_setCell_eq (v := .int .i64 q0) ci20
              show ((w2.setCell ⟨b, off + i * 2, none⟩ (.int .i64 q0)).setCell ⟨b, off + i * 2 + 1, none⟩ (.string q1)).cell? ⟨b, off + i * 2, none⟩ = _
              rw [cell_setCell_ne (b := b) (o := off + i * 2 + 1) (o' := off + i * 2) (by omega)]
              exact h8
            | 1, hm =>
              obtain rfl := Option.some.inj hm
              have h9 : (w2.setCell ⟨b, off + i * 2, none⟩ (.int .i64 q0)).cell? ⟨b, off + i * 2 + 1, none⟩ = some (.string o1) := by rw [cell_setCell_ne (b := b) (o := off + i * 2) (o' := off + i * 2 + 1) (by omega)]; exact ci21
              exact cell_setCell_eq (v := .string q1) h9
          · exact ((HWR2.out).setCell (by rw [HFP.out]; simp) _).setCell (by rw [HFP.out]; simp) _
      · obtain rfl : j = xs.length := by omega
        have hpos : 0 < xs.length - i := by omega
        have hca : i ≤ ca := by omega
        obtain ⟨L, hL⟩ : ∃ L, (Builtin.zeroCells (Value.agg #[.int .i64 0, .string ByteArray.empty]).cells (xs.length - i)).toList = L := ⟨_, rfl⟩
        have hLl : L.length = (xs.length - i) * 2 := by rw [← hL]; simp [Builtin.zeroCells, Value.cells]
        have hL1 : ∀ v ∈ L, v.oneCell' = true := by
          intro v hv
          rw [← hL] at hv
          obtain ⟨m, hm, rfl⟩ := List.mem_iff_getElem.1 hv
          simp only [Builtin.zeroCells, Value.cells, Array.getElem_toList, Array.getElem_map, Array.getElem_range]
          have h2 : m % 2 = 0 ∨ m % 2 = 1 := by omega
          rcases h2 with h2 | h2 <;> · show (#[Value.int .i64 0, Value.string ByteArray.empty][m % 2]!).oneCell' = true; rw [h2]; rfl
        have hyl2 := hyl.out
        have hcl : ∀ ty, (Builtin.clear_ #[64] ty #[.slice (some ⟨b, off + i * 2, none⟩) (xs.length - i) (ca - i)]).run Tryz.prog wr = .ok (.tuple #[]) (wr.setCells b (off + i * 2) L) := fun ty =>
          run_clear_cells wr _ 34 ty (.agg #[.int .i64 0, .string ByteArray.empty]) Tryz.underlying64 (fun w => by first | rfl | kernel_rfl | simp [zeroValue]) b (off + i * 2) _ _ hpos L hL hL1
            (fun t ht => by
              have h5 := hys.out.inst_at (i := i + t / 2) (by omega)
              have h2 : t % 2 = 0 ∨ t % 2 = 1 := by omega
              rcases h2 with h2 | h2
              · rw [show off + i * 2 + t = off + (i + t / 2) * 2 by omega, h5.1]; rfl
              · rw [show off + i * 2 + t = off + (i + t / 2) * 2 + 1 by omega, h5.2.1]; rfl)
            (fun t ht => by rw [Nat.add_assoc]; exact hys.out.inst_frozen (by omega))
        have HLL := Lib.hid hLl
        clear hL hL1 hLl
        go_wp2_with fail
        go_ret
        have hil2 : (ys.take i).length = i := by simp; omega
        have hcells : ∀ q (hq : q < (ys.take i).length), (wr.setCells b (off + i * 2) L).cell? ⟨b, off + q * 2, none⟩ = some (.int .i64 (ys.take i)[q].1) ∧ (wr.setCells b (off + i * 2) L).cell? ⟨b, off + q * 2 + 1, none⟩ = some (.string (ys.take i)[q].2) ∧ (Lit.int .i64 (ys.take i)[q].1).wf = true ∧ (ys.take i)[q].2.size ≤ maxLen := by
          intro q hq
          have hqi : q < i := by omega
          have h5 := hys.out.inst_at (i := q) (by omega)
          rw [List.getElem_take]
          refine ⟨?_, ?_, h5.2.2.1, h5.2.2.2⟩
          · rw [World.cell?_setCells_out b _ _ _ _ (fun _ _ => .inl (by show off + q * 2 < off + i * 2; omega))]
            exact h5.1
          · rw [World.cell?_setCells_out b _ _ _ _ (fun _ _ => .inl (by show off + q * 2 + 1 < off + i * 2; omega))]
            exact h5.2.1
        obtain ⟨fq, hs, hfq⟩ := SlR.ofInsts (cap := ca) hcells (fun j hj => by rw [World.frozen?_setCells]; exact hys.out.inst_frozen (by omega)) (by omega) (by unfold reachLen; omega)
        rw [hil2] at hs
        refine ⟨_, fq, rfl, ?_, by rw [HFP.out]; exact hfq, Wr.setCells (by rw [HFP.out]; simp) _ hwr.out⟩
        have e9 : ys.take i = xs.filter (fun y => !p y) := by rw [hyt.out, List.take_length]
        rw [← e9]
        exact hs
end Go.Proofs.YtbfmeiooeaaibaaGreat

namespace Go.Proofs.YtbfmeiooeaaibaaGreat
open Go.RowKit
variable {d : Nat}
set_option linter.unusedVariables false

/-- The evaluations that are not justified. -/
def unjOf (g : GGrammar d) (t : List GNode) (old now : GMemo) : List GInstance := now.2.filter fun x => !justB g t old now x

set_option maxRecDepth 100000 in
set_option maxHeartbeats 8000000 in
theorem unjTest_any {fp : List Nat} {cs : Array Value} (y : GInstance) {fg : List Nat} {cg : Array Value} (g : GGrammar d) {ft : List Nat} {ct : Array Value} (t : GTree) {fo : List Nat} {co : Array Value} (o : GMemo) {fm : List Nat} {cm : Array Value} (m : GMemo) (bg bt bo bm : Nat) (w : World) (hx : Rd.rd fp w cs.toList y)
    (hg : Rd.rd fg w cg.toList g) (ht : Rd.rd ft w ct.toList t) (ho : Rd.rd fo w co.toList o) (hm : Rd.rd fm w cm.toList m) (hl : wtGrammar g ≤ 1048576) (hl2 : wtTree t ≤ 1048576) (kg : ∀ j v, cg.toList[j]? = some v → w.cell? ⟨bg, j, none⟩ = some v) (kt : ∀ j v, ct.toList[j]? = some v → w.cell? ⟨bt, j, none⟩ = some v) (ko : ∀ j v, co.toList[j]? = some v → w.cell? ⟨bo, j, none⟩ = some v) (km : ∀ j v, cm.toList[j]? = some v → w.cell? ⟨bm, j, none⟩ = some v) :
    Calls Tryz.prog 76 #[.agg cs, .pointer (some ⟨bg, 0, none⟩), .pointer (some ⟨bt, 0, none⟩), .pointer (some ⟨bo, 0, none⟩), .pointer (some ⟨bm, 0, none⟩)] w fun e w' => e = .returned (.bool (justB g t o m y)) ∧ Gr w w' := by
  have HX := Lib.hid hx
  obtain ⟨q0, q1⟩ := y
  obtain ⟨rfl, -, hq0, hq1⟩ := rdInstance_inv q0 q1 hx
  have HG := Lib.hid hg
  have HT := Lib.hid ht
  have HO := Lib.hid ho
  have HM := Lib.hid hm
  obtain ⟨ag0, lg0, cg0, ag1, lg1, cg1, rfl⟩ := rdGrammar_shape hg
  obtain ⟨at0, lt0, ct0, rfl⟩ := rdTree_shape ht
  obtain ⟨ao0, lo0, co0, ao1, lo1, co1, rfl⟩ := rdMemo_shape ho
  obtain ⟨am0, lm0, cm0, am1, lm1, cm1, rfl⟩ := rdMemo_shape hm
  have c0 := kg 0 _ rfl
  have c1 := kg 1 _ rfl
  have c2 := kt 0 _ rfl
  have c3 := ko 0 _ rfl
  have c4 := ko 1 _ rfl
  have c5 := km 0 _ rfl
  have c6 := km 1 _ rfl
  have z0 := blk c0
  have z2 := blk c2
  have z3 := blk c3
  have z5 := blk c5
  have HL := Lib.hid hl
  have HL2 := Lib.hid hl2
  clear kg kt ko km hg ht ho hm hx hq0 hq1 hl hl2
  go_enter Tryz.func76, Tryz.ntmps76
  go_wp2_with fail
  refine (implJust_any g t o m (q0, q1) _ (Rd.gr HG.out (by repeat (first | exact Gr.refl _ | apply Gr.ext | apply Gr.alloc | apply Gr.drew))) (Rd.gr HT.out (by repeat (first | exact Gr.refl _ | apply Gr.ext | apply Gr.alloc | apply Gr.drew))) (Rd.gr HO.out (by repeat (first | exact Gr.refl _ | apply Gr.ext | apply Gr.alloc | apply Gr.drew))) (Rd.gr HM.out (by repeat (first | exact Gr.refl _ | apply Gr.ext | apply Gr.alloc | apply Gr.drew))) (Rd.gr HX.out (by repeat (first | exact Gr.refl _ | apply Gr.ext | apply Gr.alloc | apply Gr.drew))) HL.out HL2.out).mono ?_
  rintro e w' ⟨rfl, x1, rfl⟩
  go_wp2_with fail
  go_ret
  exact ⟨rfl, (by repeat (first | exact Gr.refl _ | apply Gr.ext | apply Gr.alloc | apply Gr.drew))⟩

set_option maxRecDepth 100000 in
set_option maxHeartbeats 8000000 in
theorem implUnj_any {fg : List Nat} {cg : Array Value} (g : (GGrammar d)) {ft : List Nat} {ct : Array Value} (t : GTree) {fp : List Nat} {cp : Array Value} (p : GMemo) {fm : List Nat} {cm : Array Value} (m : GMemo) (w : World) (hg : Rd.rd fg w cg.toList g) (ht : Rd.rd ft w ct.toList t) (hp : Rd.rd fp w cp.toList p) (hm : Rd.rd fm w cm.toList m) (hl : wtGrammar g ≤ 1048576) (hl2 : wtTree t ≤ 1048576) (hl4 : wtMemo m ≤ 1048576) :
    Calls Tryz.prog 27 #[.agg cg, .agg ct, .agg cp, .agg cm] w (MadeS w (unjOf g t p m)) := by
  have HWT := Lib.hid hl
  have HWT2 := Lib.hid hl2
  have hml : m.2.length ≤ 1048576 := by
    have h1 : wtEntryS m.1 + wtInstanceS m.2 ≤ 1048576 := hl4
    have h2 := wtL_len wtInstance m.2
    have h3 : wtInstanceS m.2 = wtL wtInstance m.2 := rfl
    omega
  clear hl hl2 hl4
  have HG := Lib.hid hg
  obtain ⟨g0, g1⟩ := g
  obtain ⟨vg0, fg0, vg1, fg1, rfl, hfpg, hg0, hg1⟩ := rdGrammar_inv g0 g1 hg
  have FPg := Lib.hid hfpg
  clear hfpg
  obtain ⟨ag0, kg0, rfl, og01, og02, og03⟩ := hg0.open
  obtain ⟨ag1, kg1, rfl, og11, og12, og13⟩ := hg1.open
  clear hg
  have HT := Lib.hid ht
  obtain ⟨t0, rfl⟩ : ∃ y, y = t := ⟨t, rfl⟩
  obtain ⟨vt0, ft0, rfl, hfpt, ht0⟩ := rdTree_inv t0 ht
  have FPt := Lib.hid hfpt
  clear hfpt
  obtain ⟨at0, kt0, rfl, ot01, ot02, ot03⟩ := ht0.open
  clear ht
  have HP := Lib.hid hp
  obtain ⟨p0, p1⟩ := p
  obtain ⟨vp0, fp0, vp1, fp1, rfl, hfpp, hp0, hp1⟩ := rdMemo_inv p0 p1 hp
  have FPp := Lib.hid hfpp
  clear hfpp
  obtain ⟨ap0, kp0, rfl, op01, op02, op03⟩ := hp0.open
  obtain ⟨ap1, kp1, rfl, op11, op12, op13⟩ := hp1.open
  clear hp
  have HM := Lib.hid hm
  obtain ⟨m0, m1⟩ := m
  obtain ⟨vm0, fm0, vm1, fm1, rfl, hfpm, hm0, hm1⟩ := rdMemo_inv m0 m1 hm
  have FPm := Lib.hid hfpm
  clear hfpm
  obtain ⟨am0, km0, rfl, om01, om02, om03⟩ := hm0.open
  obtain ⟨am1, km1, rfl, om11, om12, om13⟩ := hm1.open
  clear hm
  have hml' : m1.length ≤ 1048576 := hml
  go_enter Tryz.func27, Tryz.ntmps27
  go_wp2_with fail
  generalize hB : ((((w.alloc (.cells #[.slice ag0 g0.length kg0, .slice ag1 g1.length kg1] 43)).alloc (.cells #[.slice at0 t0.length kt0] 47)).alloc (.cells #[.slice ap0 p0.length kp0, .slice ap1 p1.length kp1] 66)).alloc (.cells #[.slice am0 m0.length km0, .slice am1 m1.length km1] 66)) = B
  have gB : Gr w B := by rw [← hB]; exact (by repeat (first | exact Gr.refl _ | apply Gr.ext | apply Gr.alloc | apply Gr.drew))
  have bB0 : ∀ w' : World, Gr B w' → w'.cell? ⟨w.heap.size, 0, none⟩ = some (.slice ag0 g0.length kg0) := fun w' hg => hg.keep (by rw [← hB]; repeat (first | ((with_reducible refine box_cell ?_ ?_) <;> first | omega | (simp; done) | (simp; omega) | rfl) | (with_reducible refine Gr.keep (Gr.alloc (Gr.refl _) _) ?_) | (with_reducible refine Gr.keep (Gr.ext (Gr.refl _) _) ?_) | (with_reducible refine Gr.keep (Gr.drew (Gr.refl _)) ?_)))
  have bB1 : ∀ w' : World, Gr B w' → w'.cell? ⟨w.heap.size, 1, none⟩ = some (.slice ag1 g1.length kg1) := fun w' hg => hg.keep (by rw [← hB]; repeat (first | ((with_reducible refine box_cell ?_ ?_) <;> first | omega | (simp; done) | (simp; omega) | rfl) | (with_reducible refine Gr.keep (Gr.alloc (Gr.refl _) _) ?_) | (with_reducible refine Gr.keep (Gr.ext (Gr.refl _) _) ?_) | (with_reducible refine Gr.keep (Gr.drew (Gr.refl _)) ?_)))
  have bB2 : ∀ w' : World, Gr B w' → w'.cell? ⟨w.heap.size + 1, 0, none⟩ = some (.slice at0 t0.length kt0) := fun w' hg => hg.keep (by rw [← hB]; repeat (first | ((with_reducible refine box_cell ?_ ?_) <;> first | omega | (simp; done) | (simp; omega) | rfl) | (with_reducible refine Gr.keep (Gr.alloc (Gr.refl _) _) ?_) | (with_reducible refine Gr.keep (Gr.ext (Gr.refl _) _) ?_) | (with_reducible refine Gr.keep (Gr.drew (Gr.refl _)) ?_)))
  have bB3 : ∀ w' : World, Gr B w' → w'.cell? ⟨w.heap.size + 1 + 1, 0, none⟩ = some (.slice ap0 p0.length kp0) := fun w' hg => hg.keep (by rw [← hB]; repeat (first | ((with_reducible refine box_cell ?_ ?_) <;> first | omega | (simp; done) | (simp; omega) | rfl) | (with_reducible refine Gr.keep (Gr.alloc (Gr.refl _) _) ?_) | (with_reducible refine Gr.keep (Gr.ext (Gr.refl _) _) ?_) | (with_reducible refine Gr.keep (Gr.drew (Gr.refl _)) ?_)))
  have bB4 : ∀ w' : World, Gr B w' → w'.cell? ⟨w.heap.size + 1 + 1, 1, none⟩ = some (.slice ap1 p1.length kp1) := fun w' hg => hg.keep (by rw [← hB]; repeat (first | ((with_reducible refine box_cell ?_ ?_) <;> first | omega | (simp; done) | (simp; omega) | rfl) | (with_reducible refine Gr.keep (Gr.alloc (Gr.refl _) _) ?_) | (with_reducible refine Gr.keep (Gr.ext (Gr.refl _) _) ?_) | (with_reducible refine Gr.keep (Gr.drew (Gr.refl _)) ?_)))
  have bB5 : ∀ w' : World, Gr B w' → w'.cell? ⟨w.heap.size + 1 + 1 + 1, 0, none⟩ = some (.slice am0 m0.length km0) := fun w' hg => hg.keep (by rw [← hB]; repeat (first | ((with_reducible refine box_cell ?_ ?_) <;> first | omega | (simp; done) | (simp; omega) | rfl) | (with_reducible refine Gr.keep (Gr.alloc (Gr.refl _) _) ?_) | (with_reducible refine Gr.keep (Gr.ext (Gr.refl _) _) ?_) | (with_reducible refine Gr.keep (Gr.drew (Gr.refl _)) ?_)))
  have bB6 : ∀ w' : World, Gr B w' → w'.cell? ⟨w.heap.size + 1 + 1 + 1, 1, none⟩ = some (.slice am1 m1.length km1) := fun w' hg => hg.keep (by rw [← hB]; repeat (first | ((with_reducible refine box_cell ?_ ?_) <;> first | omega | (simp; done) | (simp; omega) | rfl) | (with_reducible refine Gr.keep (Gr.alloc (Gr.refl _) _) ?_) | (with_reducible refine Gr.keep (Gr.ext (Gr.refl _) _) ?_) | (with_reducible refine Gr.keep (Gr.drew (Gr.refl _)) ?_)))
  have sB : B.heap.size = w.heap.size + 4 := by rw [← hB]; first | (simp; done) | (simp; omega)
  have EB := Lib.hid hB
  clear hB
  have HSB := Lib.hid sB
  clear sB
  refine (cloneInstance_any _ _ m1 _ (hm1.gr gB) hml').mono ?_
  rintro e W1 ⟨v, f1, rfl, s1, hf1, g1'⟩
  obtain ⟨av, kv, rfl, -, -, -⟩ := s1.open
  have hgw := gB.trans g1'
  have hn : ∀ (b : Nat), b < B.heap.size → b ∉ f1 := fun b hb hm => by have := hf1.2 b hm; omega
  have hbs := gB.size
  have hnw : ∀ c, c < w.heap.size → c ∉ f1 := fun c hc => hn c (by omega)
  have HTN : TestN f1 W1 76 #[.pointer (some ⟨w.heap.size, 0, none⟩), .pointer (some ⟨w.heap.size + 1, 0, none⟩), .pointer (some ⟨w.heap.size + 1 + 1, 0, none⟩), .pointer (some ⟨w.heap.size + 1 + 1 + 1, 0, none⟩)] (justB (g0, g1) t0 (p0, p1) (m0, m1)) :=
    ⟨Tryz.call76, fun y W fp' cs hW hy => by
      have hk : ∀ {b o : Nat} {v : Value}, B.cell? ⟨b, o, none⟩ = some v → W.cell? ⟨b, o, none⟩ = some v := fun hc => hW.keepC (g1'.keep hc) (hn _ (blk hc))
      exact unjTest_any y (g0, g1) t0 (p0, p1) (m0, m1) w.heap.size (w.heap.size + 1) (w.heap.size + 1 + 1) (w.heap.size + 1 + 1 + 1) W hy
        (Rd.wr (Rd.gr HG.out hgw) hW (fun b h1 h2 => hnw b (Rd.lt HG.out b h1) h2)) (Rd.wr (Rd.gr HT.out hgw) hW (fun b h1 h2 => hnw b (Rd.lt HT.out b h1) h2)) (Rd.wr (Rd.gr HP.out hgw) hW (fun b h1 h2 => hnw b (Rd.lt HP.out b h1) h2)) (Rd.wr (Rd.gr HM.out hgw) hW (fun b h1 h2 => hnw b (Rd.lt HM.out b h1) h2)) HWT.out HWT2.out
        (fun j v hj => match j, hj with
          | 0, hj => by obtain rfl := Option.some.inj hj; exact hk (bB0 _ (Gr.refl _))
          | 1, hj => by obtain rfl := Option.some.inj hj; exact hk (bB1 _ (Gr.refl _)))
        (fun j v hj => match j, hj with
          | 0, hj => by obtain rfl := Option.some.inj hj; exact hk (bB2 _ (Gr.refl _)))
        (fun j v hj => match j, hj with
          | 0, hj => by obtain rfl := Option.some.inj hj; exact hk (bB3 _ (Gr.refl _))
          | 1, hj => by obtain rfl := Option.some.inj hj; exact hk (bB4 _ (Gr.refl _)))
        (fun j v hj => match j, hj with
          | 0, hj => by obtain rfl := Option.some.inj hj; exact hk (bB5 _ (Gr.refl _))
          | 1, hj => by obtain rfl := Option.some.inj hj; exact hk (bB6 _ (Gr.refl _)))⟩
  have HTT := Lib.hid HTN
  have HS1 := Lib.hid s1
  have HF1 := Lib.hid hf1
  have HGW := Lib.hid hgw
  clear HTN s1 hf1 g1' hgw hn hnw
  go_wp2_with fail
  refine (deleteFuncN_any _ _ m1 _ _ _ _ HS1.out HF1.out.1 hml' HTT.out).mono ?_
  rintro e W2 ⟨v2, f2, rfl, s2, hsub, w2⟩
  have HS2 := Lib.hid s2
  have HSUB := Lib.hid hsub
  have HW2 := Lib.hid w2
  clear s2 hsub w2
  go_wp2_with fail
  go_ret
  exact ⟨v2, f2, rfl, HS2.out, (HF1.out.of_le hbs).sub HSUB.out, Gr.wr HGW.out HW2.out (fun b hb => Nat.le_trans hbs (HF1.out.2 b hb))⟩
end Go.Proofs.YtbfmeiooeaaibaaGreat
