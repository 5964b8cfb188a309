/- The cursor of a draw: bytes, and what it hands out. No condition. -/
import Derived.Test.YtcphimmkkfpohaaOwnBox
namespace Go.Proofs.Ytcphimmkkfpohaa
open Go.RowKit

/-- A byte. -/
def U8 : Type := Int
def U8.val (x : U8) : Int := x

instance : Rd U8 where
  n := 1
  pos := by omega
  rd fp _ cs x := fp = [] ∧ cs = [.int .u8 x.val] ∧ (Lit.int .u8 x.val).wf = true
  len h := by simp [h.2.1]
  lt h := by simp [h.1]
  mono _ h := h
  one h u hu := by rw [h.2.1] at hu; simp at hu; subst hu; rfl

theorem opens_u8 {P : Program} {t : TypeId} (ht : P.underlying t = some (.int .u8)) (hc : P.cellsOf t = 1) : Opens U8 P t :=
  ⟨hc, fun enc w fuel cs d ps h _ _ => by
    obtain ⟨n, rfl, _, hw⟩ := DataW.trod_int ht h
    exact ⟨[], n, rfl, rfl, hw⟩⟩

theorem u8_bd {x : Int} (h : (Lit.int .u8 x).wf = true) : 0 ≤ x ∧ x ≤ 255 := by
  simp only [Lit.wf, Bool.and_eq_true, decide_eq_true_eq] at h
  have e1 : IntKind.u8.min = 0 := by decide
  have e2 : IntKind.u8.max = 255 := by decide
  omega

theorem SlR.u8_at {fp : List Nat} {w : World} {b off len cap : Nat} {xs : List U8} (h : SlR fp w (.slice (some ⟨b, off, none⟩) len cap) xs) {i : Nat} (hi : i < xs.length) :
    w.cell? ⟨b, off + i, none⟩ = some (.int .u8 xs[i].val) ∧ 0 ≤ xs[i].val ∧ xs[i].val ≤ 255 := by
  obtain ⟨cs, fq, hc, ⟨rfl, rfl, hw⟩, _⟩ := h.at hi
  exact ⟨by simpa [Rd.n] using hc 0 _ rfl, u8_bd hw⟩

theorem i64_and255 (n : Int) : bits .and .i64 n 255 = n % 256 := by
  have h255 : (BitVec.ofInt 64 255).toNat = 2 ^ 8 - 1 := by decide
  have key : (BitVec.ofInt 64 n &&& BitVec.ofInt 64 255).toNat = (n % ((2 ^ 64 : Nat) : Int)).toNat % 2 ^ 8 := by
    rw [BitVec.toNat_and, BitVec.toNat_ofInt, h255, Nat.and_two_pow_sub_one_eq_mod]
  show IntKind.i64.wrap ((BitVec.ofInt 64 n &&& BitVec.ofInt 64 255).toNat : Nat) = n % 256
  rw [key, IntKind.wrap_i64]
  omega
theorem and255_bd (n : Int) : 0 ≤ bits .and .i64 n 255 ∧ bits .and .i64 n 255 ≤ 255 := by rw [i64_and255]; omega
theorem wrap64_bd (n : Int) : -9223372036854775808 ≤ wrap64 n ∧ wrap64 n ≤ 9223372036854775807 := by unfold wrap64; omega

/-- A cursor at block b. -/
def CurR (w : World) (b : Nat) : Prop :=
  ∃ (a : Option Addr) (c : Nat) (code : List U8) (i : Nat) (h : Int) (f : List Nat), VRow w b 53 [.slice a code.length c, .int .i64 (i : Int), .int .i64 h] ∧ SlR f w (.slice a code.length c) code ∧ (∀ x ∈ f, x < b) ∧ i ≤ code.length ∧ -9223372036854775808 ≤ h ∧ h ≤ 9223372036854775807

theorem CurR.lt {w : World} {b : Nat} (h : CurR w b) : b < w.heap.size := by
  obtain ⟨_, _, _, _, _, _, hV, _⟩ := h
  exact hV.lt
theorem CurR.gr {w w' : World} {b : Nat} (h : CurR w b) (hg : Gr w w') : CurR w' b := by
  obtain ⟨a, c, code, i, h1, f, hV, hs, h2, h3, h4⟩ := h
  exact ⟨a, c, code, i, h1, f, hV.gr hg, hs.gr hg, h2, h3, h4⟩
theorem CurR.wr {w w' : World} {b : Nat} {fq : List Nat} (h : CurR w b) (hw : Wr fq w w') (hb : ∀ x ∈ fq, b < x) : CurR w' b := by
  obtain ⟨a, c, code, i, h1, f, hV, hs, h2, h3, h4⟩ := h
  exact ⟨a, c, code, i, h1, f, hV.wr hw (fun hm => by have := hb b hm; omega), hs.wr hw (fun x hx hm => by have := hb x hm; have := h2 x hx; omega), h2, h3, h4⟩

def ByteAt (w : World) (b : Nat) (n : Int) (e : Ending) (w' : World) : Prop := ∃ x : Int, e = .returned (.int .i64 x) ∧ 0 ≤ x ∧ x < n ∧ CurR w' b ∧ Wr [b] w w'

set_option maxRecDepth 10000 in
set_option maxHeartbeats 4000000 in
theorem l1Byte_any (b : Nat) (w : World) (h : CurR w b) : Calls Try.prog 46 #[.pointer (some ⟨b, 0, none⟩)] w (ByteAt w b 256) := by
  obtain ⟨a, c, code, i, h, f, hV, hs, hbf, hi1, hh0, hh1⟩ := h
  have c0 := hV.cell (k := 0) (by simp)
  have c1 := hV.cell (k := 1) (by simp)
  have c2 := hV.cell (k := 2) (by simp)
  simp only [List.getElem_cons_zero, List.getElem_cons_succ] at c0 c1 c2
  have f1 := hV.frozen 1
  have f2 := hV.frozen 2
  have z := hV.lt
  have HV := Lib.hid hV
  have HS := Lib.hid hs
  obtain ⟨_, _, _, k1, k2, k3⟩ := hs.open
  have hne : b ∉ f := fun hm => by have := hbf b hm; omega
  have HBF := Lib.hid hbf
  clear hbf
  clear hV hs
  go_enter Try.func46, Try.ntmps46
  go_wp2_with fail
  obtain ⟨h1, hh1⟩ : ∃ h1, h1 = wrap64 (wrap64 (h * 6364136223846793005) + 1442695040888963407) := ⟨_, rfl⟩
  have hb1 := wrap64_bd (wrap64 (h * 6364136223846793005) + 1442695040888963407)
  rw [← hh1] at hb1 ⊢
  have HB1 := Lib.hid hb1
  clear hh1 hb1
  generalize hW1 : w.setCell ⟨b, 2, none⟩ (.int .i64 h1) = W1
  have hV1 : VRow W1 b 53 [.slice a code.length c, .int .i64 (i : Int), .int .i64 h1] := by rw [← hW1]; exact HV.out.set 2 _
  have hw1 : Wr [b] w W1 := by rw [← hW1]; exact Wr.setCell (b := b) (Wr.refl [b] w) (by simp) _
  have d0 := hV1.cell (k := 0) (by simp)
  have d1 := hV1.cell (k := 1) (by simp)
  have d2 := hV1.cell (k := 2) (by simp)
  simp only [List.getElem_cons_zero, List.getElem_cons_succ] at d0 d1 d2
  have g1 := hV1.frozen 1
  have z1 := hV1.lt
  have hs1 := HS.out.wr hw1 (fun x hx hm => hne (by simp at hm; exact hm ▸ hx))
  have HV1 := Lib.hid hV1
  have HW1 := Lib.hid hw1
  have HS1 := Lib.hid hs1
  clear hV1 hw1 hs1 c0 c1 c2 f1 f2 z hW1
  refine wp_region_grown (by kernel_rfl) (by kernel_rfl) ?_
  repeat (go_big_quiet_step (fail))
  refine wpQuiet_nil ?_
  intro _ hw'
  obtain ⟨nx, hw''⟩ := hw'
  subst hw''
  go_wp2_with fail
  obtain ⟨x, hx⟩ : ∃ x, x = bits .and .i64 (bits .xor .i64 (h1 / 8589934592) (h1 / 35184372088832)) 255 := ⟨_, rfl⟩
  have hxb := and255_bd (bits .xor .i64 (h1 / 8589934592) (h1 / 35184372088832))
  rw [← hx] at hxb ⊢
  obtain ⟨hx0, hx1⟩ := hxb
  clear hx
  generalize hW2 : W1.ext nx = W2
  have g12 : Gr W1 W2 := by rw [← hW2]; exact (by repeat (first | exact Gr.refl _ | apply Gr.ext | apply Gr.alloc | apply Gr.drew))
  have hV2 : VRow W2 b 53 [.slice a code.length c, .int .i64 (i : Int), .int .i64 h1] := HV1.out.gr g12
  have e0 := hV2.cell (k := 0) (by simp)
  have e1 := hV2.cell (k := 1) (by simp)
  simp only [List.getElem_cons_zero, List.getElem_cons_succ] at e0 e1
  have z2 := hV2.lt
  have e2f := hV2.frozen 1
  have HV2 := Lib.hid hV2
  have HG12 := Lib.hid g12
  clear hW2 hV2 d0 d1 d2 g1 z1 g12
  by_cases hil : i < code.length
  · have hilz : (i : Int) < (code.length : Int) := by omega
    obtain ⟨bc, oc, rfl, hbc⟩ := k3 i hil
    have hu8 := (HS1.out.gr HG12.out).u8_at hil
    obtain ⟨hc8, hc80, hc81⟩ := hu8
    generalize code[i].val = y at hc8 hc80 hc81
    have z8 := blk hc8
    clear k3
    refine wp_region_grown (by kernel_rfl) (by kernel_rfl) ?_
    repeat (go_big_quiet_step (fail))
    refine wpQuiet_nil ?_
    intro _ hw'
    obtain ⟨nx2, hw''⟩ := hw'
    subst hw''
    go_wp2_with fail
    refine wp_region_grown (by kernel_rfl) (by kernel_rfl) ?_
    repeat (go_big_quiet_step (fail))
    refine wpQuiet_nil ?_
    intro _ hw'
    obtain ⟨nx3, hw''⟩ := hw'
    subst hw''
    go_wp2_with fail
    go_ret
    have hb8 := and255_bd (x + y)
    have hset : VRow (W2.setCell ⟨b, 1, none⟩ (.int .i64 ((i : Int) + 1))) b 53 [.slice (some ⟨bc, oc, none⟩) code.length c, .int .i64 ((i + 1 : Nat) : Int), .int .i64 h1] := by
      have h := HV2.out.set 1 (.int .i64 ((i : Int) + 1))
      simpa using h
    have hwr : Wr [b] W1 ((W2.setCell ⟨b, 1, none⟩ (.int .i64 ((i : Int) + 1)))) := Wr.setCell (b := b) (HG12.out.toWr [b]) (by simp) _
    have hG : Gr (W2.setCell ⟨b, 1, none⟩ (.int .i64 ((i : Int) + 1))) (((W2.setCell ⟨b, 1, none⟩ (.int .i64 ((i : Int) + 1))).ext nx2).ext nx3) := (by repeat (first | exact Gr.refl _ | apply Gr.ext | apply Gr.alloc | apply Gr.drew))
    exact ⟨_, rfl, hb8.1, by omega, ⟨_, _, code, i + 1, h1, f, hset.gr hG, (HS1.out.wr hwr (fun y hy hm => hne (by simp at hm; exact hm ▸ hy))).gr hG, HBF.out, by omega, HB1.out.1, HB1.out.2⟩, (HW1.out.trans hwr).gr hG⟩
  · have hie : i = code.length := by omega
    subst hie
    refine wp_region_grown (by kernel_rfl) (by kernel_rfl) ?_
    repeat (go_big_quiet_step (fail))
    refine wpQuiet_nil ?_
    intro _ hw'
    obtain ⟨nx2, hw''⟩ := hw'
    subst hw''
    go_wp2_with fail
    go_ret
    have hG : Gr W1 (W2.ext nx2) := HG12.out.ext nx2
    exact ⟨x, rfl, hx0, by omega, ⟨_, _, code, code.length, h1, f, HV1.out.gr hG, HS1.out.gr hG, HBF.out, Nat.le_refl _, HB1.out.1, HB1.out.2⟩, HW1.out.gr hG⟩

set_option maxRecDepth 10000 in
set_option maxHeartbeats 4000000 in
theorem l1Below_any (b : Nat) (n : Int) (w : World) (h : CurR w b) (hn : 1 ≤ n) (hn2 : n ≤ 4294967296) : Calls Try.prog 42 #[.pointer (some ⟨b, 0, none⟩), .int .i64 n] w (ByteAt w b n) := by
  have HC := Lib.hid h
  clear h
  by_cases h2 : n ≤ 256
  · go_enter Try.func42, Try.ntmps42
    go_wp2_with fail
    refine (l1Byte_any b _ HC.out).mono ?_
    rintro e w1 ⟨x, rfl, hx0, hx1, hc1, hw1⟩
    have HC1 := Lib.hid hc1
    have HW1 := Lib.hid hw1
    have hm0 := Int.emod_nonneg x (show n ≠ 0 by omega)
    have hm1 := Int.emod_lt_of_pos x (show 0 < n by omega)
    clear hc1 hw1
    go_wp2_with fail
    go_ret
    exact ⟨x % n, rfl, hm0, hm1, HC1.out, HW1.out⟩
  · go_enter Try.func42, Try.ntmps42
    go_wp2_with fail
    refine (l1Byte_any b _ HC.out).mono ?_
    rintro e w1 ⟨x, rfl, hx0, hx1, hc1, hw1⟩
    have HC1 := Lib.hid hc1
    have HW1 := Lib.hid hw1
    clear hc1 hw1
    go_wp2_with fail
    refine (l1Byte_any b _ HC1.out).mono ?_
    rintro e w2 ⟨y, rfl, hy0, hy1, hc2, hw2⟩
    have HC2 := Lib.hid hc2
    have HW2 := Lib.hid hw2
    clear hc2 hw2
    go_wp2_with fail
    refine (l1Byte_any b _ HC2.out).mono ?_
    rintro e w3 ⟨z, rfl, hz0, hz1, hc3, hw3⟩
    have HC3 := Lib.hid hc3
    have HW3 := Lib.hid hw3
    clear hc3 hw3
    go_wp2_with fail
    refine (l1Byte_any b _ HC3.out).mono ?_
    rintro e w4 ⟨v, rfl, hv0, hv1, hc4, hw4⟩
    have HC4 := Lib.hid hc4
    have HW4 := Lib.hid hw4
    have hm0 := Int.emod_nonneg (x * 16777216 + y * 65536 + z * 256 + v) (show n ≠ 0 by omega)
    have hm1 := Int.emod_lt_of_pos (x * 16777216 + y * 65536 + z * 256 + v) (show 0 < n by omega)
    clear hc4 hw4
    go_wp2_with fail
    go_ret
    exact ⟨_, rfl, hm0, hm1, HC4.out, ((HW1.out.trans HW2.out).trans HW3.out).trans HW4.out⟩

/-- .. and 0 where n is not above 0. -/
theorem l1Below_nil (b : Nat) (n : Int) (w : World) (h : CurR w b) (hn : n ≤ 0) : Calls Try.prog 42 #[.pointer (some ⟨b, 0, none⟩), .int .i64 n] w (ByteAt w b 1) := by
  have HC := Lib.hid h
  clear h
  go_enter Try.func42, Try.ntmps42
  go_wp2_with fail
  go_ret
  exact ⟨0, rfl, by omega, by omega, HC.out, Wr.refl _ _⟩

def OnceAt (w : World) (b : Nat) (e : Ending) (w' : World) : Prop := ∃ x : Bool, e = .returned (.bool x) ∧ CurR w' b ∧ Wr [b] w w'

set_option maxRecDepth 10000 in
theorem l1Once_any (b : Nat) (n : Int) (w : World) (h : CurR w b) (hn : 1 ≤ n) (hn2 : n ≤ 4294967296) : Calls Try.prog 43 #[.pointer (some ⟨b, 0, none⟩), .int .i64 n] w (OnceAt w b) := by
  have HC := Lib.hid h
  clear h
  go_enter Try.func43, Try.ntmps43
  go_wp2_with fail
  refine (l1Below_any b n _ HC.out hn hn2).mono ?_
  rintro e w1 ⟨x, rfl, hx0, hx1, hc1, hw1⟩
  have HC1 := Lib.hid hc1
  have HW1 := Lib.hid hw1
  clear hc1 hw1
  go_wp2_with fail
  go_ret
  exact ⟨_, rfl, HC1.out, HW1.out⟩

def PickAt (w : World) (b : Nat) (xs : List Int) (e : Ending) (w' : World) : Prop := ∃ x, x ∈ xs ∧ e = .returned (.int .i64 x) ∧ CurR w' b ∧ Wr [b] w w'

set_option maxRecDepth 10000 in
set_option maxHeartbeats 1000000 in
theorem l1PickInt_any (b : Nat) (fp : List Nat) (u : Value) (xs : List Int) (w : World) (h : CurR w b) (hu : SlR fp w u xs) (hb : b ∉ fp) (hn : 1 ≤ xs.length) (hn2 : xs.length ≤ 1048576) : Calls Try.prog 44 #[.pointer (some ⟨b, 0, none⟩), u] w (PickAt w b xs) := by
  have HC := Lib.hid h
  have HU := Lib.hid hu
  obtain ⟨a, c, rfl, k1, k2, k3⟩ := hu.open
  clear h hu
  go_enter Try.func44, Try.ntmps44
  go_wp2_with fail
  refine (l1Below_any b (xs.length : Int) _ HC.out (by omega) (by omega)).mono ?_
  rintro e w1 ⟨x, rfl, hx0, hx1, hc1, hw1⟩
  obtain ⟨n, rfl⟩ : ∃ n : Nat, x = n := ⟨x.toNat, by omega⟩
  have hnl : n < xs.length := by omega
  obtain ⟨bq, oq, rfl, hbq⟩ := k3 n hnl
  have c1 := ((HU.out.wr hw1 (fun y hy hm => hb (by simp at hm; exact hm ▸ hy))).int_at hnl).1
  have z1 := blk c1
  have HC1 := Lib.hid hc1
  have HW1 := Lib.hid hw1
  obtain ⟨y, hy⟩ : ∃ y, y = xs[n] := ⟨_, rfl⟩
  rw [← hy] at c1
  have HY : Hid (y ∈ xs) := Lib.hid (by rw [hy]; exact List.getElem_mem hnl)
  clear hc1 hw1 k3 hy
  go_wp2_with fail
  go_ret
  exact ⟨y, HY.out, rfl, HC1.out, HW1.out⟩
end Go.Proofs.Ytcphimmkkfpohaa
