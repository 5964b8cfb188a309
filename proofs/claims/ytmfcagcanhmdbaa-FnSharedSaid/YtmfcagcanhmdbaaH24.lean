/- Symbols and rules by their names: the reference hands back copies. Made by mk_look.py. The cursor of a draw: bytes, and what it hands out. A world with its first blocks alone: the growth that an append wants where older blocks are written. A new cursor; a table drawn. Names and expressions looked at by the reference: some answer comes. Numbers in their range: the reference's. Expressions looked at by the reference: some answer comes. No condition. -/
import Derived.Test.YtmfcagcanhmdbaaH22
import Derived.Test.YtmfcagcanhmdbaaH23
import Derived.Test.YtmfcagcanhmdbaaH08
import Derived.Test.YtmfcagcanhmdbaaH05
import Derived.Deep.LoopGhost
import Derived.Test.YtmfcagcanhmdbaaH01
namespace Go.Proofs.Ytmfcagcanhmdbaa
open Go.RowKit
variable {d : Nat}

end Go.Proofs.Ytmfcagcanhmdbaa

namespace Go.Proofs.Ytmfcagcanhmdbaa
open Go.RowKit

def U8 : Type := Int
def U8.val (x : U8) : Int := x

instance : Rd U8 where
 n := 1
 pos := by omega
 rd fp _ cs x := fp = [] ∧ cs = [.int .u8 x.val] ∧ (Lit.int .u8 x.val).wf = true
 len h := by simp [h.2.1]
 lt h := by simp [h.1]
 mono _ h := h
 one h u hu := by rw [h.2.1] at hu; simp at hu; subst hu; rfl

theorem opens_u8 {P : Program} {t : TypeId} (ht : P.underlying t = some (.int .u8)) (hc : P.cellsOf t = 1) : Opens U8 P t :=
 ⟨hc, fun enc w fuel cs d ps h _ _ => by
  obtain ⟨n, rfl, _, hw⟩ := DataW.trod_int ht h
  exact ⟨[], n, rfl, rfl, hw⟩⟩

theorem u8_bd {x : Int} (h : (Lit.int .u8 x).wf = true) : 0 ≤ x ∧ x ≤ 255 := by
 simp only [Lit.wf, Bool.and_eq_true, decide_eq_true_eq] at h
 have e1 : IntKind.u8.min = 0 := by decide
 have e2 : IntKind.u8.max = 255 := by decide
 omega

theorem SlR.u8_at {fp : List Nat} {w : World} {b off len cap : Nat} {xs : List U8} (h : SlR fp w (.slice (some ⟨b, off, none⟩) len cap) xs) {i : Nat} (hi : i < xs.length) :
  w.cell? ⟨b, off + i, none⟩ = some (.int .u8 xs[i].val) ∧ 0 ≤ xs[i].val ∧ xs[i].val ≤ 255 := by
 obtain ⟨cs, fq, hc, ⟨rfl, rfl, hw⟩, _⟩ := h.at hi
 exact ⟨by simpa [Rd.n] using hc 0 _ rfl, u8_bd hw⟩

theorem i64_and255 (n : Int) : bits .and .i64 n 255 = n % 256 := by
 have h255 : (BitVec.ofInt 64 255).toNat = 2 ^ 8 - 1 := by decide
 have key : (BitVec.ofInt 64 n &&& BitVec.ofInt 64 255).toNat = (n % ((2 ^ 64 : Nat) : Int)).toNat % 2 ^ 8 := by
  rw [BitVec.toNat_and, BitVec.toNat_ofInt, h255, Nat.and_two_pow_sub_one_eq_mod]
 show IntKind.i64.wrap ((BitVec.ofInt 64 n &&& BitVec.ofInt 64 255).toNat : Nat) = n % 256
 rw [key, IntKind.wrap_i64]
 omega
theorem and255_bd (n : Int) : 0 ≤ bits .and .i64 n 255 ∧ bits .and .i64 n 255 ≤ 255 := by rw [i64_and255]; omega
theorem wrap64_bd (n : Int) : -9223372036854775808 ≤ wrap64 n ∧ wrap64 n ≤ 9223372036854775807 := by unfold wrap64; omega

def CurR (w : World) (b : Nat) : Prop :=
 ∃ (a : Option Addr) (c : Nat) (code : List U8) (i : Nat) (h : Int) (f : List Nat), VRow w b 110 [.slice a code.length c, .int .i64 (i : Int), .int .i64 h] ∧ SlR f w (.slice a code.length c) code ∧ (∀ x ∈ f, x < b) ∧ i ≤ code.length ∧ -9223372036854775808 ≤ h ∧ h ≤ 9223372036854775807

theorem CurR.lt {w : World} {b : Nat} (h : CurR w b) : b < w.heap.size := by
 obtain ⟨_, _, _, _, _, _, hV, _⟩ := h
 exact hV.lt
theorem CurR.gr {w w' : World} {b : Nat} (h : CurR w b) (hg : Gr w w') : CurR w' b := by
 obtain ⟨a, c, code, i, h1, f, hV, hs, h2, h3, h4⟩ := h
 exact ⟨a, c, code, i, h1, f, hV.gr hg, hs.gr hg, h2, h3, h4⟩
theorem CurR.wr {w w' : World} {b : Nat} {fq : List Nat} (h : CurR w b) (hw : Wr fq w w') (hb : ∀ x ∈ fq, b < x) : CurR w' b := by
 obtain ⟨a, c, code, i, h1, f, hV, hs, h2, h3, h4⟩ := h
 exact ⟨a, c, code, i, h1, f, hV.wr hw (fun hm => by have := hb b hm; omega), hs.wr hw (fun x hx hm => by have := hb x hm; have := h2 x hx; omega), h2, h3, h4⟩

def ByteAt (w : World) (b : Nat) (n : Int) (e : Ending) (w' : World) : Prop := ∃ x : Int, e = .returned (.int .i64 x) ∧ 0 ≤ x ∧ x < n ∧ CurR w' b ∧ Wr [b] w w'

set_option maxRecDepth 10000 in
set_option maxHeartbeats 4000000 in
theorem l1Byte_any (b : Nat) (w : World) (h : CurR w b) : Calls Try.prog 80 #[.pointer (some ⟨b, 0, none⟩)] w (ByteAt w b 256) := by
 obtain ⟨a, c, code, i, h, f, hV, hs, hbf, hi1, hh0, hh1⟩ := h
 have c0 := hV.cell (k := 0) (by simp)
 have c1 := hV.cell (k := 1) (by simp)
 have c2 := hV.cell (k := 2) (by simp)
 simp only [List.getElem_cons_zero, List.getElem_cons_succ] at c0 c1 c2
 have f1 := hV.frozen 1
 have f2 := hV.frozen 2
 have z := hV.lt
 have HV := Lib.hid hV
 have HS := Lib.hid hs
 obtain ⟨_, _, _, k1, k2, k3⟩ := hs.open
 have hne : b ∉ f := fun hm => by have := hbf b hm; omega
 have HBF := Lib.hid hbf
 clear hbf
 clear hV hs
 go_enter Try.func80, Try.ntmps80
 go_wp2_with fail
 obtain ⟨h1, hh1⟩ : ∃ h1, h1 = wrap64 (wrap64 (h * 6364136223846793005) + 1442695040888963407) := ⟨_, rfl⟩
 have hb1 := wrap64_bd (wrap64 (h * 6364136223846793005) + 1442695040888963407)
 rw [← hh1] at hb1 ⊢
 have HB1 := Lib.hid hb1
 clear hh1 hb1
 generalize hW1 : w.setCell ⟨b, 2, none⟩ (.int .i64 h1) = W1
 have hV1 : VRow W1 b 110 [.slice a code.length c, .int .i64 (i : Int), .int .i64 h1] := by rw [← hW1]; exact HV.out.set 2 _
 have hw1 : Wr [b] w W1 := by rw [← hW1]; exact Wr.setCell (b := b) (Wr.refl [b] w) (by simp) _
 have d0 := hV1.cell (k := 0) (by simp)
 have d1 := hV1.cell (k := 1) (by simp)
 have d2 := hV1.cell (k := 2) (by simp)
 simp only [List.getElem_cons_zero, List.getElem_cons_succ] at d0 d1 d2
 have g1 := hV1.frozen 1
 have z1 := hV1.lt
 have hs1 := HS.out.wr hw1 (fun x hx hm => hne (by simp at hm; exact hm ▸ hx))
 have HV1 := Lib.hid hV1
 have HW1 := Lib.hid hw1
 have HS1 := Lib.hid hs1
 clear hV1 hw1 hs1 c0 c1 c2 f1 f2 z hW1
 refine wp_region_grown (by kernel_rfl) (by kernel_rfl) ?_
 repeat (go_big_quiet_step (fail))
 refine wpQuiet_nil ?_
 intro _ hw'
 obtain ⟨nx, hw''⟩ := hw'
 subst hw''
 go_wp2_with fail
 obtain ⟨x, hx⟩ : ∃ x, x = bits .and .i64 (bits .xor .i64 (h1 / 8589934592) (h1 / 35184372088832)) 255 := ⟨_, rfl⟩
 have hxb := and255_bd (bits .xor .i64 (h1 / 8589934592) (h1 / 35184372088832))
 rw [← hx] at hxb ⊢
 obtain ⟨hx0, hx1⟩ := hxb
 clear hx
 generalize hW2 : W1.ext nx = W2
 have g12 : Gr W1 W2 := by rw [← hW2]; exact gd
 have hV2 : VRow W2 b 110 [.slice a code.length c, .int .i64 (i : Int), .int .i64 h1] := HV1.out.gr g12
 have e0 := hV2.cell (k := 0) (by simp)
 have e1 := hV2.cell (k := 1) (by simp)
 simp only [List.getElem_cons_zero, List.getElem_cons_succ] at e0 e1
 have z2 := hV2.lt
 have e2f := hV2.frozen 1
 have HV2 := Lib.hid hV2
 have HG12 := Lib.hid g12
 clear hW2 hV2 d0 d1 d2 g1 z1 g12
 by_cases hil : i < code.length
 ·have hilz : (i : Int) < (code.length : Int) := by omega
  obtain ⟨bc, oc, rfl, hbc⟩ := k3 i hil
  have hu8 := (HS1.out.gr HG12.out).u8_at hil
  obtain ⟨hc8, hc80, hc81⟩ := hu8
  generalize code[i].val = y at hc8 hc80 hc81
  have z8 := blk hc8
  clear k3
  refine wp_region_grown (by kernel_rfl) (by kernel_rfl) ?_
  repeat (go_big_quiet_step (fail))
  refine wpQuiet_nil ?_
  intro _ hw'
  obtain ⟨nx2, hw''⟩ := hw'
  subst hw''
  go_wp2_with fail
  refine wp_region_grown (by kernel_rfl) (by kernel_rfl) ?_
  repeat (go_big_quiet_step (fail))
  refine wpQuiet_nil ?_
  intro _ hw'
  obtain ⟨nx3, hw''⟩ := hw'
  subst hw''
  go_wp2_with fail
  go_ret
  have hb8 := and255_bd (x + y)
  have hset : VRow (W2.setCell ⟨b, 1, none⟩ (.int .i64 ((i : Int) + 1))) b 110 [.slice (some ⟨bc, oc, none⟩) code.length c, .int .i64 ((i + 1 : Nat) : Int), .int .i64 h1] := by
   have h := HV2.out.set 1 (.int .i64 ((i : Int) + 1))
   simpa using h
  have hwr : Wr [b] W1 ((W2.setCell ⟨b, 1, none⟩ (.int .i64 ((i : Int) + 1)))) := Wr.setCell (b := b) (HG12.out.toWr [b]) (by simp) _
  have hG : Gr (W2.setCell ⟨b, 1, none⟩ (.int .i64 ((i : Int) + 1))) (((W2.setCell ⟨b, 1, none⟩ (.int .i64 ((i : Int) + 1))).ext nx2).ext nx3) := gd
  exact ⟨_, rfl, hb8.1, by omega, ⟨_, _, code, i + 1, h1, f, hset.gr hG, (HS1.out.wr hwr (fun y hy hm => hne (by simp at hm; exact hm ▸ hy))).gr hG, HBF.out, by omega, HB1.out.1, HB1.out.2⟩, (HW1.out.trans hwr).gr hG⟩
 ·have hie : i = code.length := by omega
  subst hie
  refine wp_region_grown (by kernel_rfl) (by kernel_rfl) ?_
  repeat (go_big_quiet_step (fail))
  refine wpQuiet_nil ?_
  intro _ hw'
  obtain ⟨nx2, hw''⟩ := hw'
  subst hw''
  go_wp2_with fail
  go_ret
  have hG : Gr W1 (W2.ext nx2) := HG12.out.ext nx2
  exact ⟨x, rfl, hx0, by omega, ⟨_, _, code, code.length, h1, f, HV1.out.gr hG, HS1.out.gr hG, HBF.out, Nat.le_refl _, HB1.out.1, HB1.out.2⟩, HW1.out.gr hG⟩

set_option maxRecDepth 10000 in
set_option maxHeartbeats 4000000 in
theorem l1Below_any (b : Nat) (n : Int) (w : World) (h : CurR w b) (hn : 1 ≤ n) (hn2 : n ≤ 4294967296) : Calls Try.prog 52 #[.pointer (some ⟨b, 0, none⟩), .int .i64 n] w (ByteAt w b n) := by
 have HC := Lib.hid h
 clear h
 by_cases h2 : n ≤ 256
 ·go_enter Try.func52, Try.ntmps52
  go_wp2_with fail
  refine (l1Byte_any b _ HC.out).mono ?_
  rintro e w1 ⟨x, rfl, hx0, hx1, hc1, hw1⟩
  have HC1 := Lib.hid hc1
  have HW1 := Lib.hid hw1
  have hm0 := Int.emod_nonneg x (show n ≠ 0 by omega)
  have hm1 := Int.emod_lt_of_pos x (show 0 < n by omega)
  clear hc1 hw1
  go_wp2_with fail
  go_ret
  exact ⟨x % n, rfl, hm0, hm1, HC1.out, HW1.out⟩
 ·go_enter Try.func52, Try.ntmps52
  go_wp2_with fail
  refine (l1Byte_any b _ HC.out).mono ?_
  rintro e w1 ⟨x, rfl, hx0, hx1, hc1, hw1⟩
  have HC1 := Lib.hid hc1
  have HW1 := Lib.hid hw1
  clear hc1 hw1
  go_wp2_with fail
  refine (l1Byte_any b _ HC1.out).mono ?_
  rintro e w2 ⟨y, rfl, hy0, hy1, hc2, hw2⟩
  have HC2 := Lib.hid hc2
  have HW2 := Lib.hid hw2
  clear hc2 hw2
  go_wp2_with fail
  refine (l1Byte_any b _ HC2.out).mono ?_
  rintro e w3 ⟨z, rfl, hz0, hz1, hc3, hw3⟩
  have HC3 := Lib.hid hc3
  have HW3 := Lib.hid hw3
  clear hc3 hw3
  go_wp2_with fail
  refine (l1Byte_any b _ HC3.out).mono ?_
  rintro e w4 ⟨v, rfl, hv0, hv1, hc4, hw4⟩
  have HC4 := Lib.hid hc4
  have HW4 := Lib.hid hw4
  have hm0 := Int.emod_nonneg (x * 16777216 + y * 65536 + z * 256 + v) (show n ≠ 0 by omega)
  have hm1 := Int.emod_lt_of_pos (x * 16777216 + y * 65536 + z * 256 + v) (show 0 < n by omega)
  clear hc4 hw4
  go_wp2_with fail
  go_ret
  exact ⟨_, rfl, hm0, hm1, HC4.out, ((HW1.out.trans HW2.out).trans HW3.out).trans HW4.out⟩

def OnceAt (w : World) (b : Nat) (e : Ending) (w' : World) : Prop := ∃ x : Bool, e = .returned (.bool x) ∧ CurR w' b ∧ Wr [b] w w'

set_option maxRecDepth 10000 in
theorem l1Once_any (b : Nat) (n : Int) (w : World) (h : CurR w b) (hn : 1 ≤ n) (hn2 : n ≤ 4294967296) : Calls Try.prog 48 #[.pointer (some ⟨b, 0, none⟩), .int .i64 n] w (OnceAt w b) := by
 have HC := Lib.hid h
 clear h
 go_enter Try.func48, Try.ntmps48
 go_wp2_with fail
 refine (l1Below_any b n _ HC.out hn hn2).mono ?_
 rintro e w1 ⟨x, rfl, hx0, hx1, hc1, hw1⟩
 have HC1 := Lib.hid hc1
 have HW1 := Lib.hid hw1
 clear hc1 hw1
 go_wp2_with fail
 go_ret
 exact ⟨_, rfl, HC1.out, HW1.out⟩

def PickAt (w : World) (b : Nat) (xs : List Int) (e : Ending) (w' : World) : Prop := ∃ x, x ∈ xs ∧ e = .returned (.int .i64 x) ∧ CurR w' b ∧ Wr [b] w w'

set_option maxRecDepth 10000 in
set_option maxHeartbeats 1000000 in
theorem l1PickInt_any (b : Nat) (fp : List Nat) (u : Value) (xs : List Int) (w : World) (h : CurR w b) (hu : SlR fp w u xs) (hb : b ∉ fp) (hn : 1 ≤ xs.length) (hn2 : xs.length ≤ 1048576) : Calls Try.prog 53 #[.pointer (some ⟨b, 0, none⟩), u] w (PickAt w b xs) := by
 have HC := Lib.hid h
 have HU := Lib.hid hu
 obtain ⟨a, c, rfl, k1, k2, k3⟩ := hu.open
 clear h hu
 go_enter Try.func53, Try.ntmps53
 go_wp2_with fail
 refine (l1Below_any b (xs.length : Int) _ HC.out (by omega) (by omega)).mono ?_
 rintro e w1 ⟨x, rfl, hx0, hx1, hc1, hw1⟩
 obtain ⟨n, rfl⟩ : ∃ n : Nat, x = n := ⟨x.toNat, by omega⟩
 have hnl : n < xs.length := by omega
 obtain ⟨bq, oq, rfl, hbq⟩ := k3 n hnl
 have c1 := ((HU.out.wr hw1 (fun y hy hm => hb (by simp at hm; exact hm ▸ hy))).int_at hnl).1
 have z1 := blk c1
 have HC1 := Lib.hid hc1
 have HW1 := Lib.hid hw1
 obtain ⟨y, hy⟩ : ∃ y, y = xs[n] := ⟨_, rfl⟩
 rw [← hy] at c1
 have HY : Hid (y ∈ xs) := Lib.hid (by rw [hy]; exact List.getElem_mem hnl)
 clear hc1 hw1 k3 hy
 go_wp2_with fail
 go_ret
 exact ⟨y, HY.out, rfl, HC1.out, HW1.out⟩
end Go.Proofs.Ytmfcagcanhmdbaa

namespace Go.Proofs.Ytmfcagcanhmdbaa
open Go.RowKit

theorem Wr.new {fp fq : List Nat} {a c d : World} (h : Wr fp a c) (k : Wr fq c d) (hn : ∀ x ∈ fq, a.heap.size ≤ x) : Wr fp a d :=
 ⟨k.os.trans h.os, k.tape.trans h.tape, k.output.trans h.output, Nat.le_trans h.size k.size, Nat.le_trans h.drawn k.drawn,
  fun x hx hm => (k.block x (Nat.lt_of_lt_of_le hx h.size) (fun e => by have := hn x e; omega)).trans (h.block x hx hm)⟩

def _root_.Go.World.first (w : World) (n : Nat) : World := { w with heap := w.heap.extract 0 n }
theorem size_first {w : World} {n : Nat} (h : n ≤ w.heap.size) : (w.first n).heap.size = n := by
 simp [World.first]; omega
theorem gr_first {w : World} {n : Nat} (h : n ≤ w.heap.size) : Gr (w.first n) w := by
 refine Gr.of_below ⟨rfl, rfl, rfl, by rw [size_first h]; exact h, fun b hb => ?_⟩ (Nat.le_refl _)
 rw [size_first h] at hb
 simp [World.first, Array.getElem?_extract]
 intro hn
 omega

theorem Wr.more2 {fp fq : List Nat} {a c d : World} (h : Wr fp a c) (k : Wr fq c d) (hn : ∀ x ∈ fq, x ∈ fp ∨ a.heap.size ≤ x) : Wr fp a d :=
 ⟨k.os.trans h.os, k.tape.trans h.tape, k.output.trans h.output, Nat.le_trans h.size k.size, Nat.le_trans h.drawn k.drawn,
  fun x hx hm => (k.block x (Nat.lt_of_lt_of_le hx h.size) (fun e => (hn x e).elim (fun h => hm h) (fun h => by omega))).trans (h.block x hx hm)⟩

theorem SlR.blk_in {α : Type} [Rd α] {fp : List Nat} {w : World} {b off len cap : Nat} {xs : List α} (h : SlR fp w (.slice (some ⟨b, off, none⟩) len cap) xs) (hn : xs ≠ []) : b ∈ fp := by
 obtain ⟨a, c, hv, _, _, ⟨h0, _⟩ | ⟨b', off', fps, _, rfl, rfl, _⟩⟩ := h
 ·exact absurd h0 hn
 ·injection hv with e1 _ _
  injection e1 with e1
  injection e1 with e1 _ _
  subst e1
  simp

theorem Wr.ofNone {E w w' : World} {fp : List Nat} (hz : E.heap.size = 0) (h : Gr E w) (k : Wr fp w w') : Gr E w' := h.wr k (fun b _ => by omega)
end Go.Proofs.Ytmfcagcanhmdbaa

namespace Go.Proofs.Ytmfcagcanhmdbaa
open Go.RowKit

theorem and_bd (n m : Int) : -9223372036854775808 ≤ bits .and .i64 n m ∧ bits .and .i64 n m ≤ 9223372036854775807 := by
 show -9223372036854775808 ≤ IntKind.i64.wrap _ ∧ IntKind.i64.wrap _ ≤ 9223372036854775807
 rw [IntKind.wrap_i64]
 omega

def In64 (h : Int) : Prop := -9223372036854775808 ≤ h ∧ h ≤ 9223372036854775807

def CurNew (w : World) (e : Ending) (w' : World) : Prop := ∃ b, e = .returned (.pointer (some ⟨b, 0, none⟩)) ∧ CurR w' b ∧ w.heap.size ≤ b ∧ Gr w w'

set_option maxRecDepth 10000 in
set_option maxHeartbeats 4000000 in
theorem l1New_any (fp : List Nat) (u : Value) (code : List U8) (w : World) (hu : SlR fp w u code) (hlen : code.length ≤ 1048576) : Calls Try.prog 46 #[u] w (CurNew w) := by
 have HU := Lib.hid hu
 obtain ⟨a, c, rfl, k1, k2, k3⟩ := hu.open
 clear hu
 go_enter Try.func46, Try.ntmps46
 go_wp2_with fail
 go_loopg [3, 4] code.length (fun gg s3 s4 wr => ∃ (k : Nat) (h : Int), wr = w ∧ s3 = .int .i64 h ∧ Hid (In64 h) ∧ s4 = .int .i64 k ∧ k ≤ code.length ∧ code.length - k ≤ gg)
 case atStart => exact ⟨0, 26583 + code.length, rfl, by first | rfl | go_num, Lib.hid (by unfold In64; omega), rfl, by omega, by omega⟩
 case round =>
  obtain ⟨k, h, rfl, rfl, HH, rfl, hk, hgg⟩ := hrel
  rename World => w
  by_cases hlt : k < code.length
  ·by_cases h4 : (k : Int) < 4000
   ·have h4d : decide ((k : Int) < 4000) = true := decide_eq_true h4
    clear h4
    obtain ⟨bc, oc, rfl, hbc⟩ := k3 k hlt
    obtain ⟨hc8, hc80, hc81⟩ := HU.out.u8_at hlt
    generalize code[k].val = y at hc8 hc80 hc81
    have z8 := blk hc8
    clear k3
    go_wp2_with fail
    go_roundg (code.length - (k + 1))
    case measure => omega
    case rel => exact ⟨k + 1, _, rfl, rfl, Lib.hid (and_bd _ _), by go_num, by omega, by omega⟩
   ·have h4d : decide ((k : Int) < 4000) = false := decide_eq_false h4
    clear k3 h4
    go_wp2_with fail
    go_ret
    exact ⟨w.heap.size, rfl, ⟨a, c, code, 0, h, fp, heap_alloc_new w _, HU.out.gr gd, fun x hx => HU.out.lt x hx, by omega, HH.out.1, HH.out.2⟩, Nat.le_refl _, gd⟩
  ·clear k3
   go_wp2_with fail
   go_ret
   exact ⟨w.heap.size, rfl, ⟨a, c, code, 0, h, fp, heap_alloc_new w _, HU.out.gr gd, fun x hx => HU.out.lt x hx, by omega, HH.out.1, HH.out.2⟩, Nat.le_refl _, gd⟩

end Go.Proofs.Ytmfcagcanhmdbaa

namespace Go.Proofs.Ytmfcagcanhmdbaa
open Go.RowKit
set_option linter.unusedVariables false
set_option linter.unusedSimpArgs false
variable {d : Nat}

def SomeB (w : World) (e : Ending) (w' : World) : Prop := ∃ r : Bool, e = .returned (.bool r) ∧ Gr w w'
def SomeI (lo hi : Int) (w : World) (e : Ending) (w' : World) : Prop := ∃ r : Int, e = .returned (.int .i64 r) ∧ lo ≤ r ∧ r ≤ hi ∧ Gr w w'

set_option maxHeartbeats 1000000 in
theorem l1Has_some {fp : List Nat} {u : Value} (xs : List ByteArray) (s : ByteArray) (w : World) (hu : SlR fp w u xs) :
  Calls Try.prog 132 #[u, .string s] w (SomeB w) := by
 have HU := Lib.hid hu
 obtain ⟨a, c, rfl, k1, k2, k3⟩ := hu.open
 clear hu
 go_enter Try.func132, Try.ntmps132
 go_wp2_with fail
 go_loopw [5] (fun s5 wr => ∃ k : Nat, k ≤ xs.length ∧ wr = w ∧ s5 = .int .i64 k) (fun s5 _ => xs.length - (intOf s5).toNat)
 case atStart => exact ⟨0, by omega, rfl, rfl⟩
 case round =>
  obtain ⟨k, hk, rfl, rfl⟩ := hrel
  by_cases hlt : k < xs.length
  ·obtain ⟨b, off, rfl, hb⟩ := k3 k hlt
   have c1 := (HU.out.str_at hlt).1
   have z1 := blk c1
   have k0 : (0 : Int) ≤ (k : Int) := by omega
   have k1' : (k : Int) < (xs.length : Int) := by omega
   have iw : IntKind.i64.wrap ((k : Int) + 1) = (k : Int) + 1 := IntWalk.i64_in _ (by omega)
   go_wp2_with fail
   go_ways
   ·go_ret
    exact ⟨true, rfl, Gr.refl _⟩
   ·exact ⟨⟨k + 1, by omega, trivial, by go_num⟩, by simp [intOf]; omega⟩
  ·go_wp2_with fail
   go_ret
   exact ⟨false, rfl, Gr.refl _⟩

theorem OwnR.litN {α : Type} [Rd α] {w0 w : World} (e : TypeId) (h : w0.heap.size ≤ w.heap.size) {g : Nat} (hg : g = w.heap.size) {cs : Array Value} {css : List (List Value)} {fps : List (List Nat)} {xs : List α} (hE : Els w css fps xs) (hcs : cs.toList = css.flatten) (hl : xs.length ≤ maxLen) : OwnR w0 e (w.alloc (.cells cs e)) (.slice (some ⟨g, 0, none⟩) xs.length xs.length) fps xs := by
 subst hg
 have hg1 : Gr w (w.alloc (.cells cs e)) := gd
 refine ⟨⟨css, ?_, hE.mono (hg1.sameOn hE.lt)⟩, fun b hb hm => ?_⟩
 ·have h1 := World.ownsRow_lit (base := w0.heap.size) (e := e) (size := Rd.n α) w cs xs.length h hl (by rw [← Array.length_toList, hcs, flat_len hE.n, hE.cl])
  rw [← hcs]
  exact h1
 ·injection hb with hb
  subst hb
  exact Nat.lt_irrefl _ (hE.lt _ hm)
theorem Els.flat1 {α : Type} [Rd α] (enc : α → Value) {w : World} {xs : List α} (h : ∀ x ∈ xs, Rd.rd (α := α) [] w [enc x] x) : Els w (xs.map fun x => [enc x]) (xs.map fun _ => []) xs :=
 ⟨by simp, by simp, fun i h0 h1 h2 => by simpa using h _ (List.getElem_mem h0)⟩
theorem lit_flat {α : Type} (enc : α → Value) (xs : List α) : (xs.map fun x => [enc x]).flatten = xs.map enc := by
 induction xs with
 | nil => rfl
 | cons x xs ih => simp [ih]
theorem SlR.lit1 {α : Type} [Rd α] (enc : α → Value) (e : TypeId) {w : World} {g n : Nat} (hg : g = w.heap.size) {cs : Array Value} (xs : List α) (hn : n = xs.length) (hcs : cs.toList = xs.map enc) (h : ∀ x ∈ xs, Rd.rd (α := α) [] w [enc x] x) (hl : xs.length ≤ 1048576) : ∃ fp, SlR fp (w.alloc (.cells cs e)) (.slice (some ⟨g, 0, none⟩) n n) xs ∧ ∀ b ∈ fp, w.heap.size ≤ b := by
 subst hn
 have h1 := OwnR.litN (w0 := w) e (Nat.le_refl _) hg (Els.flat1 enc h) (hcs.trans (lit_flat enc xs).symm) (by unfold maxLen; omega)
 obtain ⟨fp, h2, h3⟩ := h1.slR (by unfold reachLen; omega)
 refine ⟨fp, h2, fun b hb => ?_⟩
 rcases h3 with ⟨-, rfl⟩ | ⟨c, hc, rfl⟩
 ·simp at hb
 ·rw [show ((xs.map fun _ => ([] : List Nat))).flatten = [] by simp] at hb
  obtain rfl := List.mem_singleton.1 hb
  exact (h1.base _ hc).1
theorem SlR.litS (e : TypeId) {w : World} {g n : Nat} (hg : g = w.heap.size) {cs : Array Value} (xs : List ByteArray) (hn : n = xs.length) (hcs : cs.toList = xs.map Value.string) (h : ∀ x ∈ xs, x.size ≤ 64) (hl : xs.length ≤ 1048576) : ∃ fp, SlR fp (w.alloc (.cells cs e)) (.slice (some ⟨g, 0, none⟩) n n) xs ∧ ∀ b ∈ fp, w.heap.size ≤ b :=
 SlR.lit1 Value.string e hg xs hn hcs (fun x hx => ⟨rfl, rfl, by have := h x hx; unfold maxLen; omega⟩) hl
theorem SlR.litI (e : TypeId) {w : World} {g n : Nat} (hg : g = w.heap.size) {cs : Array Value} (xs : List Int) (hn : n = xs.length) (hcs : cs.toList = xs.map (Value.int .i64)) (h : ∀ x ∈ xs, (Lit.int .i64 x).wf = true) (hl : xs.length ≤ 1048576) : ∃ fp, SlR fp (w.alloc (.cells cs e)) (.slice (some ⟨g, 0, none⟩) n n) xs ∧ ∀ b ∈ fp, w.heap.size ≤ b :=
 SlR.lit1 (Value.int .i64) e hg xs hn hcs (fun x hx => ⟨rfl, rfl, h x hx⟩) hl

def SomeStrs (w : World) (e : Ending) (w' : World) : Prop := ∃ v fq, ∃ xs : List ByteArray, e = .returned v ∧ SlR fq w' v xs ∧ Gr w w'
set_option maxRecDepth 100000 in
set_option maxHeartbeats 4000000 in
theorem l2Reserved_some (w : World) : Calls Try.prog 133 #[] w (SomeStrs w) := by
 go_enter Try.func133, Try.ntmps133
 go_wp2_with fail
 go_ret
 obtain ⟨fp, h1, -⟩ := SlR.litS 9 (w := w) rfl [⟨#[105, 102]⟩, ⟨#[116, 104, 101, 110]⟩, ⟨#[101, 108, 115, 101]⟩, ⟨#[116, 114, 117, 101]⟩, ⟨#[102, 97, 108, 115, 101]⟩, ⟨#[108, 105, 116]⟩, ⟨#[110, 111, 110, 101]⟩, ⟨#[115, 101, 108, 102]⟩, ⟨#[111, 102]⟩, ⟨#[109, 97, 120]⟩, ⟨#[109, 105, 110]⟩, ⟨#[119, 105, 116, 104]⟩, ⟨#[104, 97, 115]⟩] rfl rfl (by decide) (by decide)
 exact ⟨_, fp, _, rfl, h1, gd⟩

set_option maxRecDepth 10000 in
set_option maxHeartbeats 1000000 in
theorem isReserved_some (s : ByteArray) (w : World) : Calls Try.prog 129 #[.string s] w (SomeB w) := by
 go_enter Try.func129, Try.ntmps129
 go_wp2_with fail
 refine (l2Reserved_some _).mono ?_
 rintro e w' ⟨v, fq, xs, rfl, hs, g1⟩
 have HS := Lib.hid hs
 have HG := Lib.hid g1
 clear hs g1
 go_wp2_with fail
 refine (l1Has_some xs s _ HS.out).mono ?_
 rintro e w' ⟨r, rfl, g2⟩
 have HG2 := Lib.hid g2
 clear g2
 go_wp2_with fail
 go_ret
 exact ⟨r, rfl, HG.out.trans HG2.out⟩

set_option maxHeartbeats 4000000 in
theorem l2Shape_some (s : ByteArray) (hs : s.size ≤ 1048576) (w : World) : Calls Try.prog 128 #[.string s] w (SomeB w) := by
 go_enter Try.func128, Try.ntmps128
 go_wp2_with fail
 go_loopw [3] (fun s3 wr => ∃ k : Nat, k ≤ s.size ∧ wr = w ∧ s3 = .int .i64 k) (fun s3 _ => s.size - (intOf s3).toNat)
 case atStart => exact ⟨0, by omega, rfl, rfl⟩
 case round =>
  obtain ⟨k, hk, rfl, rfl⟩ := hrel
  by_cases hlt : k < s.size
  ·have k0 : (0 : Int) ≤ (k : Int) := by omega
   have k1 : (k : Int) < (s.size : Int) := by omega
   have iw : IntKind.i64.wrap ((k : Int) + 1) = (k : Int) + 1 := IntWalk.i64_in _ (by omega)
   by_cases hz : k = 0
   ·subst hz
    go_wp2_with fail
    all_goals first
     | (go_ret; exact ⟨_, rfl, Gr.refl _⟩)
     | exact ⟨⟨1, by omega, trivial, rfl⟩, by simp [intOf]; omega⟩
   ·have hz0 : ((k : Int) == 0) = false := by simp; omega
    go_wp2_with fail
    all_goals first
     | (go_ret; exact ⟨_, rfl, Gr.refl _⟩)
     | exact ⟨⟨k + 1, by omega, trivial, by go_num⟩, by simp [intOf]; omega⟩
  ·go_wp2_with fail
   go_ret
   exact ⟨_, rfl, Gr.refl _⟩
end Go.Proofs.Ytmfcagcanhmdbaa

namespace Go.Proofs.Ytmfcagcanhmdbaa
open Go.RowKit
set_option linter.unusedVariables false

theorem l1Max_any (a b : Int) (w : World) : Calls Try.prog 50 #[.int .i64 a, .int .i64 b] w fun e w' => e = .returned (.int .i64 (max a b)) ∧ w = w' := by
 by_cases h : b < a
 ·skip
  go_enter Try.func50, Try.ntmps50
  go_wp2_with fail
  go_ret
  exact ⟨ret_int (by omega), rfl⟩
 ·skip
  go_enter Try.func50, Try.ntmps50
  go_wp2_with fail
  go_ret
  exact ⟨ret_int (by omega), rfl⟩
theorem l1Min_any (a b : Int) (w : World) : Calls Try.prog 51 #[.int .i64 a, .int .i64 b] w fun e w' => e = .returned (.int .i64 (min a b)) ∧ w = w' := by
 by_cases h : a < b
 ·skip
  go_enter Try.func51, Try.ntmps51
  go_wp2_with fail
  go_ret
  exact ⟨ret_int (by omega), rfl⟩
 ·skip
  go_enter Try.func51, Try.ntmps51
  go_wp2_with fail
  go_ret
  exact ⟨ret_int (by omega), rfl⟩

def sat (n : Int) : Int := max (-1000000) (min 1000000 n)
theorem specSat_any (n : Int) (w : World) : Calls Try.prog 130 #[.int .i64 n] w fun e w' => e = .returned (.int .i64 (sat n)) ∧ w = w' := by
 go_enter Try.func130, Try.ntmps130
 go_wp2_with fail
 refine (l1Min_any _ _ _).mono ?_
 rintro e w' ⟨rfl, rfl⟩
 go_wp2_with fail
 refine (l1Max_any _ _ _).mono ?_
 rintro e w' ⟨rfl, rfl⟩
 go_wp2_with fail
 go_ret
 exact ⟨ret_int rfl, rfl⟩

end Go.Proofs.Ytmfcagcanhmdbaa

namespace Go.Proofs.Ytmfcagcanhmdbaa
open Go.RowKit
set_option linter.unusedVariables false
set_option linter.unusedSimpArgs false
variable {d : Nat}

set_option maxRecDepth 10000 in
set_option maxHeartbeats 4000000 in
theorem l4Left_of (hE : ∀ (fp : List Nat) (cs : Array Value) (x : GE d) (n : Int) (w : World) (hx : Rd.rd fp w cs.toList x) (h0 : 0 ≤ n) (h1 : n ≤ 1048576), Calls Try.prog 112 #[.agg cs, .int .i64 n] w (SomeI (-1) n w))
  (fp : List Nat) (cs : Array Value) (x : GExpr d) (n : Int) (w : World) (hx : Rd.rd fp w cs.toList x) (h0 : 0 ≤ n) (h1 : n ≤ 1048576) : Calls Try.prog 112 #[.agg cs, .int .i64 n] w (SomeI (-1) n w) := by
 obtain ⟨q0, q1, q2, q3, q4, q5, q6⟩ := x
 obtain ⟨vq6, fq6, rfl, -, hq0, hq1, hq2, hq3, hq4, hq5, hq6⟩ := rdExpr_inv q0 q1 q2 q3 q4 q5 q6 hx
 obtain ⟨aq6, kq6, rfl, oq61, oq62, oq63⟩ := hq6.open
 have HX := Lib.hid hx
 have HQ6 := Lib.hid hq6
 clear hx
 have iw0 : IntKind.i64.wrap (n - 1) = n - 1 := IntWalk.i64_in _ (by omega)
 go_enter Try.func112, Try.ntmps112
 go_wp2_with fail
 generalize hB : w.alloc (.cells #[.int .i64 q0, .int .i64 q1, .int .i64 q2, .int .i64 q3, .string q4, .string q5, .slice aq6 q6.length kq6] 157) = B
 have gB : Gr w B := by rw [← hB]; exact gd
 have b0 : B.cell? ⟨w.heap.size, 0, none⟩ = some (.int .i64 q0) := by rw [← hB]; exact box_cell rfl rfl
 have b1 : B.cell? ⟨w.heap.size, 1, none⟩ = some (.int .i64 q1) := by rw [← hB]; exact box_cell rfl rfl
 have b2 : B.cell? ⟨w.heap.size, 2, none⟩ = some (.int .i64 q2) := by rw [← hB]; exact box_cell rfl rfl
 have b3 : B.cell? ⟨w.heap.size, 3, none⟩ = some (.int .i64 q3) := by rw [← hB]; exact box_cell rfl rfl
 have b4 : B.cell? ⟨w.heap.size, 4, none⟩ = some (.string q4) := by rw [← hB]; exact box_cell rfl rfl
 have b5 : B.cell? ⟨w.heap.size, 5, none⟩ = some (.string q5) := by rw [← hB]; exact box_cell rfl rfl
 have b6 : B.cell? ⟨w.heap.size, 6, none⟩ = some (.slice aq6 q6.length kq6) := by rw [← hB]; exact box_cell rfl rfl
 have HGB := Lib.hid gB
 have HB := Lib.hid (And.intro b0 (And.intro b1 (And.intro b2 (And.intro b3 (And.intro b4 (And.intro b5 b6))))))
 clear hB gB b0 b1 b2 b3 b4 b5 b6
 go_loopw [5, 1] (fun s5 s1 wr => ∃ (k : Nat) (m : Int), k ≤ q6.length ∧ -1 ≤ m ∧ m ≤ n ∧ Hid (Gr B wr) ∧ s5 = .int .i64 k ∧ s1 = .int .i64 m) (fun s5 _ _ => q6.length - (intOf s5).toNat)
 case atStart => exact ⟨0, n - 1, by omega, by omega, by omega, Lib.hid (Gr.refl _), rfl, rfl⟩
 case round =>
  obtain ⟨k, m, hk, hm0, hm1, HG, rfl, rfl⟩ := hrel
  rename World => W1
  have y0 := HG.out.keep HB.out.1
  have y1 := HG.out.keep HB.out.2.1
  have y2 := HG.out.keep HB.out.2.2.1
  have y3 := HG.out.keep HB.out.2.2.2.1
  have y4 := HG.out.keep HB.out.2.2.2.2.1
  have y5 := HG.out.keep HB.out.2.2.2.2.2.1
  have y6 := HG.out.keep HB.out.2.2.2.2.2.2
  have zy := blk y0
  have HGW := Lib.hid (HGB.out.trans HG.out)
  by_cases hlt : k < q6.length
  ·by_cases hm : 0 ≤ m
   ·skip
    obtain ⟨d1, rfl⟩ : ∃ e, d = e + 1 := by
     cases d with
     | zero => exact PEmpty.elim (q6[k])
     | succ e => exact ⟨e, rfl⟩
    obtain ⟨b, off, rfl, hb⟩ := oq63 k hlt
    obtain ⟨csp, fep, hcp, hrp, -⟩ := HQ6.out.at hlt
    obtain ⟨yp, hyp⟩ : ∃ y, y = q6[k] := ⟨_, rfl⟩
    rw [← hyp] at hrp
    have HYp := Lib.hid hyp
    have HRp := Lib.hid hrp
    obtain ⟨p0, p1, p2, p3, p4, p5, p6⟩ := yp
    obtain ⟨vp6, fp6, hcsp, -, hp0, hp1, hp2, hp3, hp4, hp5, hp6⟩ := rdExpr_inv (cs := csp.toArray) p0 p1 p2 p3 p4 p5 p6 (show Rd.rd (α := GExpr d1) fep w csp.toArray.toList _ from hrp)
    obtain rfl : csp = [.int .i64 p0, .int .i64 p1, .int .i64 p2, .int .i64 p3, .string p4, .string p5, vp6] := by have := congrArg Array.toList hcsp; simpa using this
    obtain ⟨ap6, kp6, rfl, -, -, -⟩ := hp6.open
    have z0 := HGW.out.keep (show w.cell? ⟨b, off + k * 7, none⟩ = some (.int .i64 p0) from hcp 0 _ rfl)
    have z1 := HGW.out.keep (show w.cell? ⟨b, off + k * 7 + 1, none⟩ = some (.int .i64 p1) from hcp 1 _ rfl)
    have z2 := HGW.out.keep (show w.cell? ⟨b, off + k * 7 + 2, none⟩ = some (.int .i64 p2) from hcp 2 _ rfl)
    have z3 := HGW.out.keep (show w.cell? ⟨b, off + k * 7 + 3, none⟩ = some (.int .i64 p3) from hcp 3 _ rfl)
    have z4 := HGW.out.keep (show w.cell? ⟨b, off + k * 7 + 4, none⟩ = some (.string p4) from hcp 4 _ rfl)
    have z5 := HGW.out.keep (show w.cell? ⟨b, off + k * 7 + 5, none⟩ = some (.string p5) from hcp 5 _ rfl)
    have z6 := HGW.out.keep (show w.cell? ⟨b, off + k * 7 + 6, none⟩ = some (.slice ap6 p6.length kp6) from hcp 6 _ rfl)
    have zb := blk z0
    have k0 : (0 : Int) ≤ (k : Int) := by omega
    have k1 : (k : Int) < (q6.length : Int) := by omega
    have iw : IntKind.i64.wrap ((k : Int) + 1) = (k : Int) + 1 := IntWalk.i64_in _ (by omega)
    clear hcsp hcp hrp hyp oq63 hp0 hp1 hp2 hp3 hp4 hp5 hp6
    go_wp2_with fail
    refine (hE _ _ q6[k] m _ (Rd.gr (by rw [← HYp.out]; exact HRp.out) HGW.out) hm (by omega)).mono ?_
    rintro e w' ⟨r, rfl, hr0, hr1, g2⟩
    have HG2 := Lib.hid g2
    clear g2
    go_wp2_with fail
    exact ⟨⟨k + 1, r, by omega, by omega, by omega, Lib.hid (HG.out.trans HG2.out), by go_num, rfl⟩, by simp [intOf]; omega⟩
   ·go_wp2_with fail
    go_ret
    exact ⟨m, rfl, hm0, hm1, HGW.out⟩
  ·go_wp2_with fail
   all_goals
    go_ret
    exact ⟨m, rfl, hm0, hm1, HGW.out⟩
theorem l4Left_all : (d : Nat) → ∀ (fp : List Nat) (cs : Array Value) (x : GE d) (n : Int) (w : World) (hx : Rd.rd fp w cs.toList x) (h0 : 0 ≤ n) (h1 : n ≤ 1048576), Calls Try.prog 112 #[.agg cs, .int .i64 n] w (SomeI (-1) n w)
 | 0 => by intro fp cs x; exact PEmpty.elim x
 | d + 1 => l4Left_of (l4Left_all d)

set_option maxRecDepth 10000 in
set_option maxHeartbeats 4000000 in
theorem depth_of (hd : d ≤ 100000) (hE : ∀ (fp : List Nat) (cs : Array Value) (x : GE d) (w : World) (hx : Rd.rd fp w cs.toList x), Calls Try.prog 113 #[.agg cs] w (SomeI 1 d w))
  (fp : List Nat) (cs : Array Value) (x : GExpr d) (w : World) (hx : Rd.rd fp w cs.toList x) : Calls Try.prog 113 #[.agg cs] w (SomeI 1 ((d + 1 : Nat) : Int) w) := by
 obtain ⟨q0, q1, q2, q3, q4, q5, q6⟩ := x
 obtain ⟨vq6, fq6, rfl, -, hq0, hq1, hq2, hq3, hq4, hq5, hq6⟩ := rdExpr_inv q0 q1 q2 q3 q4 q5 q6 hx
 obtain ⟨aq6, kq6, rfl, oq61, oq62, oq63⟩ := hq6.open
 have HX := Lib.hid hx
 have HQ6 := Lib.hid hq6
 clear hx
 go_enter Try.func113, Try.ntmps113
 go_wp2_with fail
 generalize hB : w.alloc (.cells #[.int .i64 q0, .int .i64 q1, .int .i64 q2, .int .i64 q3, .string q4, .string q5, .slice aq6 q6.length kq6] 157) = B
 have gB : Gr w B := by rw [← hB]; exact gd
 have b0 : B.cell? ⟨w.heap.size, 0, none⟩ = some (.int .i64 q0) := by rw [← hB]; exact box_cell rfl rfl
 have b1 : B.cell? ⟨w.heap.size, 1, none⟩ = some (.int .i64 q1) := by rw [← hB]; exact box_cell rfl rfl
 have b2 : B.cell? ⟨w.heap.size, 2, none⟩ = some (.int .i64 q2) := by rw [← hB]; exact box_cell rfl rfl
 have b3 : B.cell? ⟨w.heap.size, 3, none⟩ = some (.int .i64 q3) := by rw [← hB]; exact box_cell rfl rfl
 have b4 : B.cell? ⟨w.heap.size, 4, none⟩ = some (.string q4) := by rw [← hB]; exact box_cell rfl rfl
 have b5 : B.cell? ⟨w.heap.size, 5, none⟩ = some (.string q5) := by rw [← hB]; exact box_cell rfl rfl
 have b6 : B.cell? ⟨w.heap.size, 6, none⟩ = some (.slice aq6 q6.length kq6) := by rw [← hB]; exact box_cell rfl rfl
 have HGB := Lib.hid gB
 have HB := Lib.hid (And.intro b0 (And.intro b1 (And.intro b2 (And.intro b3 (And.intro b4 (And.intro b5 b6))))))
 clear hB gB b0 b1 b2 b3 b4 b5 b6
 go_loopw [4, 3] (fun s4 s3 wr => ∃ (k : Nat) (m : Int), k ≤ q6.length ∧ 0 ≤ m ∧ m ≤ d ∧ Hid (Gr B wr) ∧ s4 = .int .i64 k ∧ s3 = .int .i64 m) (fun s4 _ _ => q6.length - (intOf s4).toNat)
 case atStart => exact ⟨0, 0, by omega, by omega, by omega, Lib.hid (Gr.refl _), rfl, rfl⟩
 case round =>
  obtain ⟨k, m, hk, hm0, hm1, HG, rfl, rfl⟩ := hrel
  rename World => W1
  have y0 := HG.out.keep HB.out.1
  have y1 := HG.out.keep HB.out.2.1
  have y2 := HG.out.keep HB.out.2.2.1
  have y3 := HG.out.keep HB.out.2.2.2.1
  have y4 := HG.out.keep HB.out.2.2.2.2.1
  have y5 := HG.out.keep HB.out.2.2.2.2.2.1
  have y6 := HG.out.keep HB.out.2.2.2.2.2.2
  have zy := blk y0
  have HGW := Lib.hid (HGB.out.trans HG.out)
  by_cases hlt : k < q6.length
  ·skip
   obtain ⟨d1, rfl⟩ : ∃ e, d = e + 1 := by
    cases d with
    | zero => exact PEmpty.elim (q6[k])
    | succ e => exact ⟨e, rfl⟩
   obtain ⟨b, off, rfl, hb⟩ := oq63 k hlt
   obtain ⟨csp, fep, hcp, hrp, -⟩ := HQ6.out.at hlt
   obtain ⟨yp, hyp⟩ : ∃ y, y = q6[k] := ⟨_, rfl⟩
   rw [← hyp] at hrp
   have HYp := Lib.hid hyp
   have HRp := Lib.hid hrp
   obtain ⟨p0, p1, p2, p3, p4, p5, p6⟩ := yp
   obtain ⟨vp6, fp6, hcsp, -, hp0, hp1, hp2, hp3, hp4, hp5, hp6⟩ := rdExpr_inv (cs := csp.toArray) p0 p1 p2 p3 p4 p5 p6 (show Rd.rd (α := GExpr d1) fep w csp.toArray.toList _ from hrp)
   obtain rfl : csp = [.int .i64 p0, .int .i64 p1, .int .i64 p2, .int .i64 p3, .string p4, .string p5, vp6] := by have := congrArg Array.toList hcsp; simpa using this
   obtain ⟨ap6, kp6, rfl, -, -, -⟩ := hp6.open
   have z0 := HGW.out.keep (show w.cell? ⟨b, off + k * 7, none⟩ = some (.int .i64 p0) from hcp 0 _ rfl)
   have z1 := HGW.out.keep (show w.cell? ⟨b, off + k * 7 + 1, none⟩ = some (.int .i64 p1) from hcp 1 _ rfl)
   have z2 := HGW.out.keep (show w.cell? ⟨b, off + k * 7 + 2, none⟩ = some (.int .i64 p2) from hcp 2 _ rfl)
   have z3 := HGW.out.keep (show w.cell? ⟨b, off + k * 7 + 3, none⟩ = some (.int .i64 p3) from hcp 3 _ rfl)
   have z4 := HGW.out.keep (show w.cell? ⟨b, off + k * 7 + 4, none⟩ = some (.string p4) from hcp 4 _ rfl)
   have z5 := HGW.out.keep (show w.cell? ⟨b, off + k * 7 + 5, none⟩ = some (.string p5) from hcp 5 _ rfl)
   have z6 := HGW.out.keep (show w.cell? ⟨b, off + k * 7 + 6, none⟩ = some (.slice ap6 p6.length kp6) from hcp 6 _ rfl)
   have zb := blk z0
   have k0 : (0 : Int) ≤ (k : Int) := by omega
   have k1 : (k : Int) < (q6.length : Int) := by omega
   have iw : IntKind.i64.wrap ((k : Int) + 1) = (k : Int) + 1 := IntWalk.i64_in _ (by omega)
   clear hcsp hcp hrp hyp oq63 hp0 hp1 hp2 hp3 hp4 hp5 hp6
   go_wp2_with fail
   refine (hE _ _ q6[k] _ (Rd.gr (by rw [← HYp.out]; exact HRp.out) HGW.out)).mono ?_
   rintro e w' ⟨r, rfl, hr0, hr1, g2⟩
   have HG2 := Lib.hid g2
   clear g2
   go_wp2_with fail
   refine (l1Max_any _ _ _).mono ?_
   rintro e w' ⟨rfl, rfl⟩
   go_wp2_with fail
   refine ⟨⟨k + 1, max m r, by omega, by omega, by omega, Lib.hid (HG.out.trans HG2.out), by go_num, ?_⟩, by simp [intOf]; omega⟩
   rfl
  ·have iw0 : IntKind.i64.wrap (m + 1) = m + 1 := IntWalk.i64_in _ (by omega)
   go_wp2_with fail
   go_ret
   exact ⟨m + 1, rfl, by omega, by omega, HGW.out⟩
theorem depth_all : (d : Nat) → (hd : d ≤ 100000) → ∀ (fp : List Nat) (cs : Array Value) (x : GE d) (w : World) (hx : Rd.rd fp w cs.toList x), Calls Try.prog 113 #[.agg cs] w (SomeI 1 d w)
 | 0, _ => by intro fp cs x; exact PEmpty.elim x
 | d + 1, hd => depth_of (by omega) (depth_all d (by omega))

def SomeN (w : World) (e : Ending) (w' : World) : Prop := ∃ r : Int, e = .returned (.int .i64 r) ∧ w = w'
theorem l3Truth_some (b : Bool) (w : World) : Calls Try.prog 131 #[.bool b] w (SomeN w) := by
 cases b <;>
 ·skip
  go_enter Try.func131, Try.ntmps131
  go_wp2_with fail
  go_ret
  exact ⟨_, rfl, rfl⟩
set_option maxHeartbeats 4000000 in
theorem coerce_some (n t : Int) (w : World) : Calls Try.prog 127 #[.int .i64 n, .int .i64 t] w (SomeN w) := by
 go_enter Try.func127, Try.ntmps127
 go_wp2_with (first | (go_at_call 130; refine (specSat_any _ _).mono ?_; rintro e w' ⟨rfl, rfl⟩) | (go_at_call 131; refine (l3Truth_some _ _).mono ?_; rintro e w' ⟨r, rfl, rfl⟩) | (go_at_call 31; refine (l1In_any _ _ _ _).mono ?_; rintro e w' ⟨rfl, rfl⟩))
 go_ways
 all_goals
  go_ret
  exact ⟨_, rfl, rfl⟩

set_option maxRecDepth 10000 in
set_option maxHeartbeats 4000000 in
theorem isOfType_some (n t : Int) (w : World) : Calls Try.prog 124 #[.int .i64 n, .int .i64 t] w (SomeB w) := by
 by_cases ht : 1 ≤ t ∧ t ≤ 4
 ·skip
  go_enter Try.func124, Try.ntmps124
  go_wp2_with fail
  refine (l1In_yes _ _ _ _ ht.1 ht.2).mono ?_
  rintro e w' ⟨rfl, x1, rfl⟩
  go_wp2_with fail
  refine (coerce_some n t _).mono ?_
  rintro e w' ⟨r, rfl, rfl⟩
  go_wp2_with fail
  go_ret
  exact ⟨_, rfl, gd⟩
 ·have hor : t < 1 ∨ 4 < t := by omega
  have HT := Lib.hid hor
  clear hor ht
  go_enter Try.func124, Try.ntmps124
  go_wp2_with fail
  refine (l1In_no _ _ _ _ HT.out).mono ?_
  rintro e w' ⟨rfl, x1, rfl⟩
  go_wp2_with fail
  go_ret
  exact ⟨_, rfl, gd⟩

set_option maxRecDepth 10000 in
set_option maxHeartbeats 4000000 in
theorem isValidName_some (s : ByteArray) (hs : s.size ≤ 1048576) (w : World) : Calls Try.prog 125 #[.string s] w (SomeB w) := by
 go_enter Try.func125, Try.ntmps125
 go_wp2_with fail
 refine (l2Shape_some s hs _).mono ?_
 rintro e w' ⟨r, rfl, g2⟩
 have HG2 := Lib.hid g2
 clear g2
 cases r with
 | false =>
  go_wp2_with fail
  go_ret
  exact ⟨_, rfl, HG2.out⟩
 | true =>
  by_cases h8 : s.size ≤ 8
  ·have h8' : (s.size : Int) ≤ 8 := by omega
   go_wp2_with fail
   refine (isReserved_some s _).mono ?_
   rintro e w' ⟨r, rfl, g3⟩
   have HG3 := Lib.hid g3
   clear g3
   go_wp2_with fail
   go_ret
   exact ⟨_, rfl, HG2.out.trans HG3.out⟩
  ·have h8' : ¬ (s.size : Int) ≤ 8 := by omega
   go_wp2_with fail
   go_ret
   exact ⟨_, rfl, HG2.out⟩
end Go.Proofs.Ytmfcagcanhmdbaa
