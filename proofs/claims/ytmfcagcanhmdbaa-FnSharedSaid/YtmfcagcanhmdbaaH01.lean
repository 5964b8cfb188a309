/- The step from a row's own reading of an argument to the reading that the walks use; products for structs. Contracts of the functions on slices of numbers: equality, search. Contracts of the functions on slices of numbers, continued: search with a test, sizes, copies; slices of slices of numbers. No condition. -/
import Derived.Test.YtmfcagcanhmdbaaH00
import Derived.ProofKit
import Derived.SizedLaws
import Derived.ChangeArms
import Derived.Deep.Slices
import Derived.Test.YtmfcagcanhmdbaaProg
namespace Go.Proofs.Ytmfcagcanhmdbaa
open Go.RowKit

instance {α β : Type} [Rd α] [Rd β] : Rd (α × β) where
 n := Rd.n α + Rd.n β
 pos := by have := Rd.pos (α := α); omega
 rd fp w cs x := ∃ c1 c2 f1 f2, cs = c1 ++ c2 ∧ fp = f1 ++ f2 ∧ Rd.rd f1 w c1 x.1 ∧ Rd.rd f2 w c2 x.2
 len h := by obtain ⟨c1, c2, f1, f2, rfl, rfl, h1, h2⟩ := h; simp [Rd.len h1, Rd.len h2]
 lt h := by
  obtain ⟨c1, c2, f1, f2, rfl, rfl, h1, h2⟩ := h
  intro b hb
  rcases List.mem_append.1 hb with hb | hb
  ·exact Rd.lt h1 b hb
  ·exact Rd.lt h2 b hb
 mono hw h := by
  obtain ⟨c1, c2, f1, f2, rfl, rfl, h1, h2⟩ := h
  exact ⟨c1, c2, f1, f2, rfl, rfl, Rd.mono (hw.sub fun b hb => List.mem_append_left _ hb) h1, Rd.mono (hw.sub fun b hb => List.mem_append_right _ hb) h2⟩
 one h u hu := by
  obtain ⟨c1, c2, f1, f2, rfl, rfl, h1, h2⟩ := h
  rcases List.mem_append.1 hu with hu | hu
  ·exact Rd.one h1 u hu
  ·exact Rd.one h2 u hu

def Opens (α : Type) [Rd α] (P : Program) (t : TypeId) : Prop :=
 P.cellsOf t = Rd.n α ∧ ∀ {H : Type} (enc : TypeId × Value → H) (w : World) (fuel : Nat) (cs : List Value) (d : DataW H) (ps : List MemPlace),
  DataW.trod enc P w 0 (fun _ => true) true fuel t cs = some (d, ps) → (∀ n ∈ d.weights P t, n ≤ reachBytes) → w.noneFrozen ps → ∃ fp x, Rd.rd (α := α) fp w cs x

theorem weightsAll_mem {H : Type} {P : Program} {e : TypeId} : ∀ {l : List (DataW H)} {d : DataW H}, d ∈ l → ∀ n ∈ d.weights P e, n ∈ DataW.weightsAll P e l
 | a :: l, d, hd, n, hn => by
  simp only [DataW.weightsAll, List.mem_append]
  rcases List.mem_cons.1 hd with rfl | hd
  ·exact .inl hn
  ·exact .inr (weightsAll_mem hd n hn)
 | [], _, hd, _, _ => by simp at hd

theorem cells_at {w : World} {base n : Nat} {a : Addr} {cs : List Value} (h : w.cells? base a n = some cs) (hn : 0 < n) : ∃ b off, a = ⟨b, off, none⟩ ∧ CellsAt w b off cs ∧ cs.length = n := by
 obtain ⟨_, hl, hx⟩ := World.cells?_some h
 have h0 := hx 0 hn
 obtain ⟨b, off, sp⟩ := a
 have e0 : (⟨b, off, sp⟩ : Addr).add 0 = ⟨b, off, sp⟩ := by simp [Addr.add]
 rw [e0] at h0
 have hs : sp = none := by
  cases sp with
  | none => rfl
  | some s =>
   have : w.cell? ⟨b, off, some s⟩ = none := by
    unfold World.cell?
    split <;> simp
   rw [this] at h0
   have := List.getElem?_eq_none_iff.1 h0.symm
   omega
 subst hs
 refine ⟨b, off, rfl, fun j v hj => ?_, hl⟩
 have hjl : j < n := by rw [← hl]; exact (List.getElem?_eq_some_iff.1 hj).1
 have := hx j hjl
 rw [hj] at this
 have e : (⟨b, off, none⟩ : Addr).add j = ⟨b, off + j, none⟩ := by
  unfold Addr.add
  split
  ·rename_i e; subst e; rfl
  ·rfl
 rwa [e] at this

theorem opens_slice {α : Type} [Rd α] {P : Program} {t e : TypeId} (ht : P.underlying t = some (.slice e)) (hc : P.cellsOf t = 1) (he : Opens α P e) (hb0 : decide (1 ≤ P.bytesOf e) = true) : Opens (List α) P t := by
 have hb := of_decide_eq_true hb0
 obtain ⟨hn, he⟩ := he
 refine ⟨hc, fun {H} enc w fuel cs d ps h hwt hfz => ?_⟩
 rcases DataW.trod_slice ht h with ⟨rfl, hd⟩ | ⟨a, len, cap, elems, rest, n, _, rfl, hd, _, hl, hm, hlen, hel, hsp, _⟩
 ·exact ⟨[], [], _, rfl, SlR.nil w⟩
 ·have hrl := (hsp rfl).1
  simp only [Prod.mk.injEq] at hd
  obtain ⟨hd, hps⟩ := hd
  subst hd hps
  have hreach : cap ≤ reachLen := by
   have := hwt ((elems.length + rest.length) * P.bytesOf e) (by simp [DataW.weights, ht])
   have e1 : elems.length + rest.length = cap := by omega
   rw [e1] at this
   have h2 : cap * 1 ≤ cap * P.bytesOf e := Nat.mul_le_mul_left _ hb
   have h3 : reachBytes = reachLen := by decide
   omega
  have each : ∀ i, i < len → ∃ b off cs' fq x, a.add (i * P.cellsOf e) = ⟨b, off, none⟩ ∧ CellsAt w b off cs' ∧ Rd.rd (α := α) fq w cs' x := by
   intro i hi
   have hx := hel i hi
   have hi' : i < elems.length := by omega
   rw [List.getElem?_eq_getElem hi'] at hx
   obtain ⟨cs', h1, h2⟩ := Option.bind_eq_some_iff.1 hx
   obtain ⟨b, off, ha, hca, _⟩ := cells_at h1 (by rw [hn]; exact Rd.pos)
   obtain ⟨fq, x, hr⟩ := he enc w n cs' (elems[i]).1 (elems[i]).2 h2 (fun k hk => hwt k (by
    simp only [DataW.weights, ht, List.mem_cons, List.mem_append]
    exact .inr (.inl (weightsAll_mem (List.mem_map_of_mem (List.getElem_mem hi')) k hk))))
    (fun b o hm => hfz b o (List.mem_append_right _ (List.mem_flatMap.2 ⟨_, List.mem_append_left _ (List.getElem_mem hi'), hm⟩)))
   exact ⟨b, off, cs', fq, x, ha, hca, hr⟩
  by_cases h0 : len = 0
  ·subst h0
   exact ⟨[], [], _, rfl, some a, cap, rfl, by simp, by simp, .inl ⟨rfl, rfl⟩⟩
  ·obtain ⟨b0, off0, _, _, x0, ha0, _, _⟩ := each 0 (by omega)
   have ea : a = ⟨b0, off0, none⟩ := by simpa [Addr.add] using ha0
   subst ea
   have each2 : ∀ i, ∃ y : List Nat × α, i < len → ∃ cs', CellsAt w b0 (off0 + i * Rd.n α) cs' ∧ Rd.rd y.1 w cs' y.2 := by
    intro i
    by_cases hi : i < len
    ·obtain ⟨b, off, cs', fq, x, ha, hca, hr⟩ := each i hi
     refine ⟨(fq, x), fun _ => ⟨cs', ?_, hr⟩⟩
     have e : (⟨b0, off0, none⟩ : Addr).add (i * P.cellsOf e) = ⟨b0, off0 + i * P.cellsOf e, none⟩ := by
      unfold Addr.add
      split
      ·rename_i e; rw [e]; rfl
      ·rfl
     rw [e] at ha
     injection ha with e1 e2
     subst e1 e2
     rwa [hn] at hca
    ·exact ⟨([], x0), fun h => absurd h hi⟩
   obtain ⟨f, hf⟩ := Classical.axiomOfChoice each2
   refine ⟨_, (List.range len).map fun i => (f i).2, _, rfl, some ⟨b0, off0, none⟩, cap, by simp, by simpa using hl, (by have this : len ≤ reachLen := Nat.le_trans hl hreach; simpa using this), .inr ⟨b0, off0, (List.range len).map fun i => (f i).1, by simp [h0], rfl, rfl, by simp, fun j hj => hfz _ _ (List.mem_append_left _ ?_), fun i hi hi' => ?_⟩⟩
   ·simp only [List.length_map, List.length_range] at hj
    refine List.mem_map.2 ⟨j, List.mem_range.2 ?_, rfl⟩
    rw [hn, hlen]
    exact Nat.lt_of_lt_of_le hj (Nat.mul_le_mul_right _ (by omega))
   ·simp only [List.length_map, List.length_range] at hi
    obtain ⟨cs', hca, hr⟩ := hf i hi
    exact ⟨cs', hca, by simpa using hr⟩

structure Seg (α : Type) [Rd α] (P : Program) (off : Nat) (fs : List Field) : Prop where
 out : ∀ (H : Type) (enc : TypeId × Value → H) (w : World) (cs : List Value), cs.length = off + Rd.n α →
  (∀ f ∈ fs, ∃ fuel d ps, DataW.trod enc P w 0 (fun _ => true) true fuel f.type ((cs.drop f.offset).take (P.cellsOf f.type)) = some (d, ps) ∧ (∀ n ∈ d.weights P f.type, n ≤ reachBytes) ∧ w.noneFrozen ps) →
  ∃ fp x, Rd.rd (α := α) fp w (cs.drop off) x

end Go.Proofs.Ytmfcagcanhmdbaa

namespace Go.Proofs.Ytmfcagcanhmdbaa
open Go.RowKit

theorem l1In_any (x lo hi : Int) (w : World) :
  Calls Try.prog 31 #[.int .i64 x, .int .i64 lo, .int .i64 hi] w fun e w' => e = .returned (.bool (decide (lo ≤ x) && decide (x ≤ hi))) ∧ w = w' := by
 go_enter Try.func31, Try.ntmps31
 go_wp2
 all_goals (go_ret; refine ⟨?_, rfl⟩; simp [*])
 omega
theorem within_any (x lo hi : Int) (w : World) :
  Calls Try.prog 55 #[.int .i64 x, .int .i64 lo, .int .i64 hi] w fun e w' => e = .returned (.bool (decide (lo ≤ x) && decide (x ≤ hi))) ∧ w = w' := by
 go_enter Try.func55, Try.ntmps55
 go_wp2
 all_goals (go_ret; refine ⟨?_, rfl⟩; simp [*])
 omega

theorem l1In_yes (x lo hi : Int) (w : World) (h : lo ≤ x) (h' : x ≤ hi) :
  Calls Try.prog 31 #[.int .i64 x, .int .i64 lo, .int .i64 hi] w fun e w' => e = .returned (.bool true) ∧ Gr w w' :=
 (l1In_any x lo hi w).mono fun e w' ⟨he, hw⟩ => ⟨by rw [he, decide_eq_true h, decide_eq_true h']; rfl, hw ▸ Gr.refl w⟩
theorem l1In_no (x lo hi : Int) (w : World) (h : x < lo ∨ hi < x) :
  Calls Try.prog 31 #[.int .i64 x, .int .i64 lo, .int .i64 hi] w fun e w' => e = .returned (.bool false) ∧ Gr w w' :=
 (l1In_any x lo hi w).mono fun e w' ⟨he, hw⟩ => ⟨by rw [he, Bool.and_eq_false_iff.2 (h.imp (fun h => decide_eq_false (by omega)) (fun h => decide_eq_false (by omega)))], hw ▸ Gr.refl w⟩

theorem within_yes (x lo hi : Int) (w : World) (h : lo ≤ x) (h' : x ≤ hi) :
  Calls Try.prog 55 #[.int .i64 x, .int .i64 lo, .int .i64 hi] w fun e w' => e = .returned (.bool true) ∧ Gr w w' :=
 (within_any x lo hi w).mono fun e w' ⟨he, hw⟩ => ⟨by rw [he, decide_eq_true h, decide_eq_true h']; rfl, hw ▸ Gr.refl w⟩
theorem within_no (x lo hi : Int) (w : World) (h : x < lo ∨ hi < x) :
  Calls Try.prog 55 #[.int .i64 x, .int .i64 lo, .int .i64 hi] w fun e w' => e = .returned (.bool false) ∧ Gr w w' :=
 (within_any x lo hi w).mono fun e w' ⟨he, hw⟩ => ⟨by rw [he, Bool.and_eq_false_iff.2 (h.imp (fun h => decide_eq_false (by omega)) (fun h => decide_eq_false (by omega)))], hw ▸ Gr.refl w⟩

set_option maxHeartbeats 400000 in
theorem l1Ints_any (fp fq : List Nat) (u v : Value) (xs ys : List Int) (w : World) (hu : SlR fp w u xs) (hv : SlR fq w v ys) :
  Calls Try.prog 82 #[u, v] w fun e w' => e = .returned (.bool (decide (xs = ys))) ∧ Gr w w' := by
 obtain ⟨a, ca, rfl, h1, h2, h3⟩ := hu.open
 obtain ⟨c, cc, rfl, g1, g2, g3⟩ := hv.open
 by_cases hl : xs.length = ys.length
 ·have hl' := Lib.hid hl
  have hne : ((xs.length : Int) != (ys.length : Int)) = false := by simp [hl]
  clear hl
  go_enter Try.func82, Try.ntmps82
  go_wp2
  go_loopw [5] (fun s5 wr => ∃ k : Nat, k ≤ xs.length ∧ xs.take k = ys.take k ∧ Gr w wr ∧ s5 = .int .i64 k) (fun s5 _ => xs.length - (intOf s5).toNat)
  case atStart => exact ⟨0, by omega, rfl, Gr.refl w, rfl⟩
  case round =>
   obtain ⟨k, hk, ht, ⟨x, rfl⟩, rfl⟩ := hrel
   by_cases hlt : k < xs.length
   ·have hlt2 : k < ys.length := by have := hl'.out; omega
    obtain ⟨b, off, rfl, hb⟩ := h3 k hlt
    obtain ⟨b', off', rfl, hb'⟩ := g3 k hlt2
    have x1 := (hu.int_at hlt).1
    have x2 := (hv.int_at hlt2).1
    have z1 := blk x1
    have z2 := blk x2
    have hT := Lib.hid ht
    clear h3 g3 ht
    go_wp2_with fail
    refine wp_region_grown (by kernel_rfl) (by kernel_rfl) ?_
    repeat (go_big_quiet_step (fail))
    refine wpQuiet_nil ?_
    intro _ hw'
    obtain ⟨nx, hw''⟩ := hw'
    subst hw''
    go_wp2
    ·rename_i hx
     go_ret
     have hx2 : xs[k] ≠ ys[k] := by simpa using hx
     have E : xs ≠ ys := fun e => hx2 (by subst e; rfl)
     exact ⟨ret_bool (decide_eq_false E).symm, ((Gr.refl w).ext _).ext _⟩
    ·rename_i hx
     have hx2 : xs[k] = ys[k] := by simpa using hx
     refine ⟨⟨k + 1, by omega, ?_, ((Gr.refl w).ext _).ext _, by go_num⟩, by simp [intOf]; omega⟩
     rw [List.take_succ_eq_append_getElem hlt, List.take_succ_eq_append_getElem hlt2, hT.out, hx2]
   ·have hk2 : k = xs.length := by omega
    subst hk2
    have e : xs = ys := by
     have h := ht
     have h' := hl'.out
     rw [List.take_length, h', List.take_length] at h
     exact h
    have E := Lib.hid e
    clear e ht
    go_wp2
    go_ret
    exact ⟨ret_bool (decide_eq_true E.out).symm, (Gr.refl w).ext _⟩
 ·have hne : ((xs.length : Int) != (ys.length : Int)) = true := by simp; omega
  have e : xs ≠ ys := fun e => hl (by rw [e])
  have E := Lib.hid e
  clear e hl
  go_enter Try.func82, Try.ntmps82
  go_wp2
  go_ret
  exact ⟨ret_bool (decide_eq_false E.out).symm, Gr.refl w⟩

set_option maxHeartbeats 400000 in
theorem slicesEqualI_any (fp fq : List Nat) (u v : Value) (xs ys : List Int) (w : World) (hu : SlR fp w u xs) (hv : SlR fq w v ys) :
  Calls Try.prog 99 #[u, v] w fun e w' => e = .returned (.bool (decide (xs = ys))) ∧ Gr w w' := by
 obtain ⟨a, ca, rfl, h1, h2, h3⟩ := hu.open
 obtain ⟨c, cc, rfl, g1, g2, g3⟩ := hv.open
 by_cases hl : xs.length = ys.length
 ·have hl' := Lib.hid hl
  have hne : ((xs.length : Int) != (ys.length : Int)) = false := by simp [hl]
  clear hl
  go_enter Try.func99, Try.ntmps99
  go_wp2
  go_loopw [13, 5] (fun s13 s5 wr => ∃ k : Nat, k ≤ xs.length ∧ xs.take k = ys.take k ∧ Gr w wr ∧ s13 = .int .i64 k) (fun s13 s5 _ => xs.length - (intOf s13).toNat)
  case atStart => exact ⟨0, by omega, rfl, Gr.refl w, rfl⟩
  case round =>
   obtain ⟨k, hk, ht, ⟨x, rfl⟩, rfl⟩ := hrel
   by_cases hlt : k < xs.length
   ·have hlt2 : k < ys.length := by have := hl'.out; omega
    obtain ⟨b, off, rfl, hb⟩ := h3 k hlt
    obtain ⟨b', off', rfl, hb'⟩ := g3 k hlt2
    have x1 := (hu.int_at hlt).1
    have x2 := (hv.int_at hlt2).1
    have z1 := blk x1
    have z2 := blk x2
    have hT := Lib.hid ht
    clear h3 g3 ht
    go_wp2_with fail
    refine wp_region_grown (by kernel_rfl) (by kernel_rfl) ?_
    repeat (go_big_quiet_step (fail))
    refine wpQuiet_nil ?_
    intro _ hw'
    obtain ⟨nx, hw''⟩ := hw'
    subst hw''
    go_wp2
    ·rename_i hx
     go_ret
     have hx2 : xs[k] ≠ ys[k] := by simpa using hx
     have E : xs ≠ ys := fun e => hx2 (by subst e; rfl)
     exact ⟨ret_bool (decide_eq_false E).symm, ((Gr.refl w).ext _).ext _⟩
    ·rename_i hx
     have hx2 : xs[k] = ys[k] := by simpa using hx
     refine ⟨⟨k + 1, by omega, ?_, ((Gr.refl w).ext _).ext _, by go_num⟩, by simp [intOf]; omega⟩
     rw [List.take_succ_eq_append_getElem hlt, List.take_succ_eq_append_getElem hlt2, hT.out, hx2]
   ·have hk2 : k = xs.length := by omega
    subst hk2
    have e : xs = ys := by
     have h := ht
     have h' := hl'.out
     rw [List.take_length, h', List.take_length] at h
     exact h
    have E := Lib.hid e
    clear e ht
    go_wp2
    go_ret
    exact ⟨ret_bool (decide_eq_true E.out).symm, (Gr.refl w).ext _⟩
 ·have hne : ((xs.length : Int) != (ys.length : Int)) = true := by simp; omega
  have e : xs ≠ ys := fun e => hl (by rw [e])
  have E := Lib.hid e
  clear e hl
  go_enter Try.func99, Try.ntmps99
  go_wp2
  go_ret
  exact ⟨ret_bool (decide_eq_false E.out).symm, Gr.refl w⟩

end Go.Proofs.Ytmfcagcanhmdbaa

namespace Go.Proofs.Ytmfcagcanhmdbaa
open Go.RowKit

set_option maxHeartbeats 400000 in
theorem l1HasInt_any (fp : List Nat) (u : Value) (xs : List Int) (y : Int) (w : World) (hu : SlR fp w u xs) :
  Calls Try.prog 64 #[u, .int .i64 y] w fun e w' => e = .returned (.bool (xs.any (fun z => y == z))) ∧ Gr w w' := by
 obtain ⟨a, ca, rfl, h1, h2, h3⟩ := hu.open
 go_enter Try.func64, Try.ntmps64
 go_wp2
 go_loopw [5] (fun s5 wr => ∃ k : Nat, k ≤ xs.length ∧ (∀ j (h : j < xs.length), j < k → (xs[j] == y) = false) ∧ Gr w wr ∧ s5 = .int .i64 k) (fun s5 _ => xs.length - (intOf s5).toNat)
 case atStart => exact ⟨0, by omega, by omega, Gr.refl w, rfl⟩
 case round =>
  obtain ⟨k, hk, ht, ⟨x, rfl⟩, rfl⟩ := hrel
  have hT := Lib.hid ht
  clear ht
  by_cases hlt : k < xs.length
  ·obtain ⟨b, off, rfl, hb⟩ := h3 k hlt
   have x1 := (hu.int_at hlt).1
   have z1 := blk x1
   clear h3
   go_wp2
   ·rename_i hx
    go_ret
    exact ⟨ret_bool (any_eq_at hlt hx).symm, (Gr.refl w).ext _⟩
   ·rename_i hx
    refine ⟨⟨k + 1, by omega, fun j hj hjk => ?_, (Gr.refl w).ext _, by go_num⟩, by simp [intOf]; omega⟩
    by_cases hjk' : j < k
    ·exact hT.out j hj hjk'
    ·obtain rfl : j = k := by omega
     exact hx
  ·go_wp2
   go_ret
   exact ⟨ret_bool (any_eq_none fun j hj => hT.out j hj (by omega)).symm, (Gr.refl w).ext _⟩

structure TestI (w : World) (fid : Nat) (cap : Array Value) (p : Int → Bool) (xs : List Int) : Prop where
 fn : ∀ args W, (callFunc fid args).run Try.prog W = .ok (.enter fid args) W
 calls : ∀ y ∈ xs, ∀ x : Ext, Calls Try.prog fid (#[.int .i64 y] ++ cap) (w.ext x) fun e w' => e = .returned (.bool (p y)) ∧ Gr (w.ext x) w'

set_option maxHeartbeats 400000 in
theorem slicesIndexFuncI_any (fp : List Nat) (u : Value) (xs : List Int) (fid : Nat) (cap : Array Value) (p : Int → Bool) (w : World) (hu : SlR fp w u xs) (hf : TestI w fid cap p xs) :
  Calls Try.prog 86 #[u, .func (.func fid) #[] cap] w fun e w' => e = .returned (.int .i64 (idxOf p xs)) ∧ Gr w w' := by
 obtain ⟨a, ca, rfl, h1, h2, h3⟩ := hu.open
 obtain ⟨hfn, hcalls⟩ := hf
 have HC := Lib.hid hcalls
 clear hcalls
 go_enter Try.func86, Try.ntmps86
 go_wp2
 go_loopw [8, 5] (fun s8 s5 wr => ∃ k : Nat, k ≤ xs.length ∧ (∀ j (h : j < xs.length), j < k → p xs[j] = false) ∧ Gr w wr ∧ s8 = .int .i64 k) (fun s8 s5 _ => xs.length - (intOf s8).toNat)
 case atStart => exact ⟨0, by omega, by omega, Gr.refl w, rfl⟩
 case round =>
  obtain ⟨k, hk, ht, ⟨x, rfl⟩, rfl⟩ := hrel
  have hT := Lib.hid ht
  clear ht
  by_cases hlt : k < xs.length
  ·obtain ⟨b, off, rfl, hb⟩ := h3 k hlt
   have x1 := (hu.int_at hlt).1
   have z1 := blk x1
   clear h3
   go_wp2_with fail
   refine (HC.out _ (List.getElem_mem hlt) _).mono ?_
   rintro e w2 ⟨rfl, x2, rfl⟩
   go_wp2
   ·rename_i hx
    go_ret
    exact ⟨ret_int (idxOf_at hlt hx hT.out).symm, ((Gr.refl w).ext _).ext _⟩
   ·rename_i hx
    refine ⟨⟨k + 1, by omega, fun j hj hjk => ?_, ((Gr.refl w).ext _).ext _, by go_num⟩, by simp [intOf]; omega⟩
    by_cases hjk' : j < k
    ·exact hT.out j hj hjk'
    ·obtain rfl : j = k := by omega
     exact hx
  ·go_wp2
   go_ret
   exact ⟨ret_int (idxOf_none fun j hj => hT.out j hj (by omega)).symm, (Gr.refl w).ext _⟩

theorem slicesContainsFuncI_any (fp : List Nat) (u : Value) (xs : List Int) (fid : Nat) (cap : Array Value) (p : Int → Bool) (w : World) (hu : SlR fp w u xs) (hf : TestI w fid cap p xs) :
  Calls Try.prog 61 #[u, .func (.func fid) #[] cap] w fun e w' => e = .returned (.bool (xs.any p)) ∧ Gr w w' := by
 go_enter Try.func61, Try.ntmps61
 go_wp2_with (go_at_call 86; refine (slicesIndexFuncI_any fp _ _ _ _ _ _ hu hf).mono ?_; rintro e w1 ⟨rfl, g1⟩)
 go_ret
 refine ⟨ret_bool ?_, by assumption⟩
 rw [Bool.eq_iff_iff, decide_eq_true_iff]
 exact idxOf_nonneg
end Go.Proofs.Ytmfcagcanhmdbaa
