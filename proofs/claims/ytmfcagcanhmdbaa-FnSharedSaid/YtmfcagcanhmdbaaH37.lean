/- A tree drawn. No condition. -/
import Derived.Test.YtmfcagcanhmdbaaH35
import Derived.Test.YtmfcagcanhmdbaaH34
import Derived.Test.YtmfcagcanhmdbaaH11
import Derived.Test.YtmfcagcanhmdbaaH36
namespace Go.Proofs.Ytmfcagcanhmdbaa
open Go.RowKit
set_option linter.unusedVariables false
set_option linter.unusedSimpArgs false
variable {d : Nat}

def TreeAt (b K : Nat) (w : World) (e : Ending) (w' : World) : Prop :=
 ∃ (v : Value) (F : List Nat) (ns : List GNode), e = .returned (.agg #[v]) ∧ OwnT w w' v F ns ∧ TreeFine ns ∧ 1 ≤ ns.length ∧ ns.length ≤ K ∧ CurR w' b ∧ Wr [b] w w'
def KidsIn (b : Nat) (B : World) (M : Nat) (id : Int) (k : Nat) (v13 v14 : Value) (wr : World) : Prop :=
 ∃ (fps : List (List Nat)) (ts : List GTree), OwnR (α := GTree) B 38 wr v14 fps ts ∧ (∀ c ∈ fps.flatten, B.heap.size ≤ c) ∧ ts.length = k ∧ (∀ t ∈ ts, TreeFine t ∧ t.length ≤ M) ∧ v13 = .int .i64 (id + 1 + ((ts.map List.length).sum : Nat)) ∧ CurR wr b ∧ Wr [b] B wr
theorem sum_le {ts : List GTree} {M : Nat} (h : ∀ t ∈ ts, TreeFine t ∧ t.length ≤ M) : (ts.map List.length).sum ≤ ts.length * M := by
 induction ts with
 | nil => simp
 | cons t ts ih =>
  have h1 := (h t (by simp)).2
  have h2 := ih (fun u hu => h u (by simp [hu]))
  simp only [List.map_cons, List.sum_cons, List.length_cons, Nat.succ_mul]
  omega
theorem hh_bd (g : GGrammar d) (n : ByteArray) : 0 ≤ hh g n ∧ hh g n ≤ (g.1.length : Int) := by
 unfold hh
 have h := (hts_ok g g.1.length (Nat.le_refl _)).2
 rw [List.getD_eq_getElem?_getD]
 cases hx : (hts g g.1.length)[(atS g.1 n).toNat]? with
 | none => simp
 | some y => exact h y (List.mem_of_getElem? hx)

def TreeV (M : Nat) (W : World) (q : Bool) (v g : Value) (wx : World) : Prop :=
 ∃ (a : Option Addr) (c : Nat) (F : List Nat) (ns : List GNode), v = .agg #[.slice a ns.length c] ∧ OwnT W wx (.slice a ns.length c) F ns ∧ TreeFine ns ∧ ns.length ≤ M ∧ (q = true → ∀ gn o, g = .pointer (some ⟨gn, o, none⟩) → gn ∉ F)
def BoxT (W : World) (g : Value) (wx : World) : Prop := ∃ (gn : Nat), g = .pointer (some ⟨gn, 0, none⟩) ∧ W.heap.size ≤ gn ∧ VRow wx gn 38 [.slice none 0 0]
def BoxT2 (M : Nat) (W : World) (g : Value) (wx : World) : Prop :=
 ∃ (gn : Nat) (a : Option Addr) (c : Nat) (F : List Nat) (ns : List GNode), g = .pointer (some ⟨gn, 0, none⟩) ∧ VRow wx gn 38 [.slice a ns.length c] ∧ OwnT W wx (.slice a ns.length c) F ns ∧ TreeFine ns ∧ ns.length ≤ M ∧ W.heap.size ≤ gn ∧ gn ∉ F
def ST (b M : Nat) (W : World) (p q z : Bool) (v g : Value) (wx : World) : Prop :=
 CurR wx b ∧ Wr [b] W wx ∧ (z = false → q = true → BoxT W g wx) ∧ (z = false → p = true → TreeV M W q v g wx) ∧ (z = true → BoxT2 M W g wx)
def STX (b M : Nat) (W : World) (D : Nat → Bool) (a : Act) (wx : World) : Prop := ST b M W (D 15) (D 16) (D 17) (a.tmps[57]?.getD undef) (a.tmps[16]?.getD undef) wx
def VTX (b gr bx ox kx n k : Nat) (cg : Array Value) (nk : ByteArray) (room L nx : Int) (_ : Bool) (d : Nat) (v : Value) (_ : World) : Prop :=
 match d with
 | 42 => v = .pointer (some ⟨b, 0, none⟩)
 | 43 => v = .agg cg
 | 44 | 50 => v = .pointer (some ⟨gr, 2, none⟩)
 | 45 | 51 => v = .slice (some ⟨bx, ox, none⟩) n kx
 | 46 => v = .int .i64 (k : Int)
 | 47 => v = .pointer (some ⟨bx, ox + k, none⟩)
 | 48 => v = .string nk
 | 49 => v = .int .i64 room
 | 52 => v = .int .i64 (n : Int)
 | 53 => v = .int .i64 L
 | 54 => v = .int .i64 (room.tdiv L)
 | 55 => v = .int .i64 (room.tdiv L - 1)
 | 56 => v = .int .i64 nx
 | _ => True
theorem ST.wr {b M : Nat} {W wx wy : World} {p q z : Bool} {v g : Value} (h : ST b M W p q z v g wx) (hb : b < W.heap.size) (hc : CurR wy b) (hw : Wr [b] wx wy) (hz : z = false) : ST b M W p q z v g wy := by
 obtain ⟨h1, h2, h3, h4, h5⟩ := h
 refine ⟨hc, h2.trans hw, fun hz hq => ?_, fun hz hp => ?_, fun e => ?_⟩
 ·obtain ⟨gn, e1, e2, e3⟩ := h3 hz hq
  exact ⟨gn, e1, e2, e3.wr hw (by simp; omega)⟩
 ·obtain ⟨a, c, F, ns, e1, e2, e3⟩ := h4 hz hp
  exact ⟨a, c, F, ns, e1, e2.wr hw (fun x hx hm => by have := e2.ge x hx; have := List.mem_singleton.1 hm; omega), e3⟩
 ·rw [hz] at e; cases e
set_option maxRecDepth 100000 in
set_option maxHeartbeats 16000000 in
theorem l13Grow_any (b : Nat) : ∀ (n : Nat) (fg : List Nat) (cg : Array Value) (g : GGrammar d) (sym : ByteArray) (room id : Int) (w : World) (h : CurR w b) (hg : Rd.rd fg w cg.toList g) (hbg : b ∉ fg) (hok : GramOK g) (hn : (room < 5 → (hh g sym).toNat < n) ∧ (5 ≤ room → room.toNat + 4 ≤ n)) (hr : (n : Int) - 1000 ≤ room ∧ room ≤ 500 ∧ n ≤ 900) (hid : 0 ≤ id ∧ id + KK room (hh g sym).toNat ≤ 1000000),
  Calls Try.prog 97 #[.pointer (some ⟨b, 0, none⟩), .agg cg, .string sym, .int .i64 room, .int .i64 id] w (TreeAt b (KK room (hh g sym).toNat) w) := by
 intro n
 induction n with
 | zero =>
  intro fg cg g sym room id w h hg hbg hok hn hr hid
  exfalso
  by_cases h5 : room < 5
  ·have := hn.1 h5; omega
  ·have := hn.2 (by omega); omega
 | succ n ih =>
  intro fg cg g sym room id w h hg hbg hok hn hr hid
  obtain ⟨iT, hi, hz0, hz1, hz2⟩ := info_parts Try.infoTreeC
  have HZ := Lib.hid (And.intro hi (And.intro hz0 (And.intro hz1 hz2)))
  clear hi hz0 hz1 hz2
  obtain ⟨E, hE0, hEg⟩ : ∃ E : World, E.heap.size = 0 ∧ Gr E w := ⟨w.first 0, size_first (by omega), gr_first (by omega)⟩
  have HIH := Lib.hid ih
  have HC := Lib.hid h
  have HOK := Lib.hid hok
  have HN := Lib.hid hn
  have HB3 := Lib.hid (fun (s : ByteArray) => (show 0 ≤ hh g s ∧ hh g s ≤ 3 from ⟨(hh_bd g s).1, by have h1 := (hh_bd g s).2; have h2 := hok.2.1; omega⟩))
  have hbl := h.lt
  clear ih h hok hn
  have HG := Lib.hid hg
  obtain ⟨g0, g1⟩ := g
  obtain ⟨vg0, fg0, vg1, fg1, rfl, hfpg, hg0, hg1⟩ := rdGrammar_inv g0 g1 hg
  have FPg := Lib.hid hfpg
  clear hfpg
  obtain ⟨ag0, kg0, rfl, og01, og02, og03⟩ := hg0.open
  obtain ⟨ag1, kg1, rfl, og11, og12, og13⟩ := hg1.open
  clear hg
  go_enter Try.func97, Try.ntmps97
  go_wp2_with fail
  generalize hW0 : ((w.alloc (.cells #[.slice ag0 g0.length kg0, .slice ag1 g1.length kg1] 114)).alloc (.cells #[.slice none 0 0] 38)) = W0
  have g0W : Gr w W0 := by rw [← hW0]; exact gd
  have VG0 := Lib.hid (show VRow W0 w.heap.size 114 [.slice ag0 g0.length kg0, .slice ag1 g1.length kg1] by rw [← hW0]; exact (VRow.new (A := w) rfl).gr gd)
  have VT0 := Lib.hid (show VRow W0 (w.heap.size + 1) 38 [.slice none 0 0] by rw [← hW0]; exact VRow.new (by simp))
  have s0 : W0.heap.size = w.heap.size + 2 := by rw [← hW0]; simp
  clear hW0
  have HG0 := Lib.hid g0W
  refine (l13Rule_any b (g0, g1) sym room _ (HC.out.gr g0W) (Rd.gr HG.out g0W) hbg HOK.out).mono ?_
  rintro e W1 ⟨cs, fq, x, rfl, hrx, hfx, hlow, hfq, hc1, hw1⟩
  obtain ⟨x0, x1, x2, x3, x4, x5⟩ := x
  obtain ⟨vx2, fx2, vx4, fx4, vx5, fx5, rfl, hfp, hx0, hx1, hsx2, hsx4, hsx5⟩ := rdRule_inv x0 x1 x2 x3 x4 x5 hrx
  obtain ⟨ax2, kx2, rfl, -, -, -⟩ := hsx2.open
  obtain ⟨ax4, kx4, rfl, -, -, -⟩ := hsx4.open
  obtain ⟨ax5, kx5, rfl, -, -, -⟩ := hsx5.open
  have hx68 : x0.size ≤ 68 := hfx.1
  have hxl : x2.length ≤ 3 := hfx.2.1
  have hs1 := hw1.size
  have HX2 := Lib.hid hsx2
  have HLW := Lib.hid hlow
  have HC1 := Lib.hid hc1
  have HFX := Lib.hid (show ∀ c ∈ fx2, w.heap.size + 2 ≤ c from fun c hc => by have := hfq c (by rw [hfp]; simp [hc]); omega)
  have HFN := Lib.hid hfx.2.2
  have VG1 := Lib.hid (VG0.out.wr hw1 (by simp; omega))
  have VT1 := Lib.hid (VT0.out.wr hw1 (by simp; omega))
  have HW1 := Lib.hid ((HG0.out.toWr [b]).trans hw1)
  have HWA := Lib.hid hw1
  have HX1 := Lib.hid (show ∀ c ∈ fx2, c < W1.heap.size from fun c hc => hsx2.lt c hc)
  clear hsx2 hsx4 hsx5 hrx hfx hlow hfq hc1 hw1 hfp
  go_upto_region 3 with fail
  have VR3 := (show VRow ((W1.alloc (.cells #[.string x0, .string x1, .slice ax2 x2.length kx2, .bool x3, .slice ax4 x4.length kx4, .slice ax5 x5.length kx5] 138)).alloc (.cells #[.int .i64 id, .int .i64 0, .int .i64 0, .int .i64 0, .string x0, .slice none 0 0] 86)) W1.heap.size 138 [.string x0, .string x1, .slice ax2 x2.length kx2, .bool x3, .slice ax4 x4.length kx4, .slice ax5 x5.length kx5] from (VRow.new (A := W1) rfl).gr gd)
  have VN3 := (show VRow ((W1.alloc (.cells #[.string x0, .string x1, .slice ax2 x2.length kx2, .bool x3, .slice ax4 x4.length kx4, .slice ax5 x5.length kx5] 138)).alloc (.cells #[.int .i64 id, .int .i64 0, .int .i64 0, .int .i64 0, .string x0, .slice none 0 0] 86)) (W1.heap.size + 1) 86 [.int .i64 id, .int .i64 0, .int .i64 0, .int .i64 0, .string x0, .slice none 0 0] from VRow.new (by simp))
  have g13 := (show Gr W1 ((W1.alloc (.cells #[.string x0, .string x1, .slice ax2 x2.length kx2, .bool x3, .slice ax4 x4.length kx4, .slice ax5 x5.length kx5] 138)).alloc (.cells #[.int .i64 id, .int .i64 0, .int .i64 0, .int .i64 0, .string x0, .slice none 0 0] 86)) from gd)
  have s13 := (show ((W1.alloc (.cells #[.string x0, .string x1, .slice ax2 x2.length kx2, .bool x3, .slice ax4 x4.length kx4, .slice ax5 x5.length kx5] 138)).alloc (.cells #[.int .i64 id, .int .i64 0, .int .i64 0, .int .i64 0, .string x0, .slice none 0 0] 86)).heap.size = W1.heap.size + 2 by simp)
  generalize ((W1.alloc (.cells #[.string x0, .string x1, .slice ax2 x2.length kx2, .bool x3, .slice ax4 x4.length kx4, .slice ax5 x5.length kx5] 138)).alloc (.cells #[.int .i64 id, .int .i64 0, .int .i64 0, .int .i64 0, .string x0, .slice none 0 0] 86)) = W3 at VR3 VN3 g13 s13 ⊢
  have VR3 := Lib.hid VR3
  have VN3 := Lib.hid VN3
  have VG3 := Lib.hid (VG1.out.gr g13)
  have VT3 := Lib.hid (VT1.out.gr g13)
  have HC3 := Lib.hid (HC1.out.gr g13)
  have HWB := Lib.hid (HWA.out.gr g13)
  have HW3 := Lib.hid (HW1.out.gr g13)
  have HX3 := Lib.hid (HX2.out.gr g13)
  clear g13 VG1 VT1 HC1 HX2
  have r3 := VR3.out.cell (k := 3) (by simp)
  have zr3 := blk r3
  cases x3 with
  | true =>
   have n3 := VN3.out.cell (k := 3) (by simp)
   have fn3 := VN3.out.frozen 3
   have zn3 := blk n3
   go_wp2_with fail
   refine (l1Below_any b 9 _ HC3.out (by omega) (by omega)).mono ?_
   rintro e W4 ⟨xl, rfl, hxl0, hxl1, hc4, hw4⟩
   have iwl : IntKind.i64.wrap (xl - 2) = xl - 2 := IntWalk.i64_in _ (by omega)
   have hs34 := hw4.size
   have VN4 := Lib.hid (VN3.out.wr hw4 (by simp; omega))
   have n4 := VN4.out.cell (k := 3) (by simp)
   have fn4 := VN4.out.frozen 3
   have zn4 := blk n4
   have VR4 := Lib.hid (VR3.out.wr hw4 (by simp; omega))
   have VG4 := Lib.hid (VG3.out.wr hw4 (by simp; omega))
   have VT4 := Lib.hid (VT3.out.wr hw4 (by simp; omega))
   have HX4 := Lib.hid (HX3.out.wr hw4 (fun c hc hm => by have h1 := HFX.out c hc; have h2 := List.mem_singleton.1 hm; omega))
   have HW4 := Lib.hid (HW3.out.trans hw4)
   have HWC := Lib.hid (HWB.out.trans hw4)
   have HC4 := Lib.hid hc4
   clear hw4 hc4 n3 fn3 zn3
   go_upto_region 5 with fail
   generalize hU : W4.setCell ⟨W1.heap.size + 1, 3, none⟩ (.int .i64 (xl - 2)) = U
   have wU : Wr [W1.heap.size + 1] W4 U := by rw [← hU]; exact Wr.setCell (Wr.refl [W1.heap.size + 1] W4) (List.mem_singleton.2 rfl) _
   have vU := Lib.hid (show VRow U (W1.heap.size + 1) 86 [.int .i64 id, .int .i64 0, .int .i64 0, .int .i64 (xl - 2), .string x0, .slice none 0 0] by rw [← hU]; exact VN4.out.set 3 _)
   clear hU n4 fn4 zn4 VN4 VN3 VR3 VG3 VT3
   have hzU := wU.size
   have VRZ := Lib.hid (VR4.out.wr wU (by simp))
   have VGZ := Lib.hid (VG4.out.wr wU (by simp; omega))
   have VTZ := Lib.hid (VT4.out.wr wU (by simp; omega))
   have HXZ := Lib.hid (HX4.out.wr wU (fun c hc hm => by have h1 := HX3.out.lt c hc; have h2 := List.mem_singleton.1 hm; have h3 := HX1.out c hc; omega))
   have VCZ := Lib.hid (HC4.out.wr wU (fun x hx => by rw [List.mem_singleton.1 hx]; omega))
   have HWW := Lib.hid (HWC.out.more2 wU (fun x hx => .inr (by rw [List.mem_singleton.1 hx]; omega)))
   have HWZ := Lib.hid (HW4.out.more2 wU (fun x hx => .inr (by rw [List.mem_singleton.1 hx]; omega)))
   clear wU r3 zr3
   have VNZ := vU
   have hlw : (Lit.int .i64 (xl - 2)).wf = true := wf_of (by omega) (by omega)
   have hMK : 1 + x2.length * KC room x2.length (hh (g0, g1) sym).toNat ≤ KK room (hh (g0, g1) sym).toNat := kids_le hxl (fun h5 hp => by
    have h1 := HLW.out h5 (x2[0]'hp) (List.getElem_mem hp)
    have h2 := (HB3.out (x2[0]'hp)).1
    omega)
   obtain ⟨M, hM⟩ : ∃ M, M = KC room x2.length (hh (g0, g1) sym).toNat := ⟨_, rfl⟩
   have HM := Lib.hid hM
   rw [← hM] at hMK
   clear hM
   go_upto_region 7 with fail
   have hO0 : OwnR (α := GTree) U 38 (U.alloc (.cells #[] 38)) (.slice (some ⟨U.heap.size, 0, none⟩) 0 0) [] [] := OwnR.lit0 (α := GTree) (w0 := U) (w := U) 38 (Nat.le_refl _) (by omega)
   have hcZ := VCZ.out.gr (Gr.alloc (Gr.refl U) (.cells #[] 38))
   have hwZ := (Gr.alloc (Gr.refl U) (.cells #[] 38)).toWr [b]
   generalize U.alloc (.cells #[] 38) = WY at hO0 hcZ hwZ ⊢
   have HO0 := Lib.hid hO0
   have HCY := Lib.hid hcZ
   have HWY := Lib.hid hwZ
   clear hO0 hcZ hwZ
   go_wp2_with fail
   go_loopw [15, 13, 14] (fun s15 s13 s14 wr => ∃ k : Nat, k ≤ x2.length ∧ KidsIn b U M id k s13 s14 wr ∧ s15 = .int .i64 k) (fun s15 _ _ _ => x2.length - (intOf s15).toNat)
   case atStart => exact ⟨0, by omega, ⟨[], [], HO0.out, by simp, rfl, by simp, by simp, HCY.out, HWY.out⟩, rfl⟩
   case round =>
    obtain ⟨k, hk, ⟨fps, ts, hown, hff, htl, htf, rfl, hc6, hw6⟩, rfl⟩ := hrel
    rename World => W6
    obtain ⟨ra, rc, hform⟩ := hown.form
    rw [htl] at hform
    subst hform
    have hs6 := hw6.size
    have HO6 := Lib.hid hown
    have HFF := Lib.hid hff
    have HTF := Lib.hid htf
    have HC6 := Lib.hid hc6
    have HW6 := Lib.hid hw6
    have VR6 := Lib.hid (VRZ.out.wr hw6 (by simp; omega))
    have VG6 := Lib.hid (VGZ.out.wr hw6 (by simp; omega))
    have hbZ : b < U.heap.size := VCZ.out.lt
    have HX6 := Lib.hid (HXZ.out.wr hw6 (fun c hc hm => by have h1 := HFX.out c hc; have h2 := List.mem_singleton.1 hm; omega))
    have HRG6 := Lib.hid (Rd.wr (Rd.gr HG.out HG0.out) (show Wr [b] W0 W6 from HWW.out.trans hw6) (fun c hc hm => hbg (List.mem_singleton.1 hm ▸ hc)))
    clear hown hff htf hc6 hw6
    have r2 := VR6.out.cell (k := 2) (by simp)
    have zr2 := blk r2
    by_cases hlk : k < x2.length
    ·have k0 : (0 : Int) ≤ (k : Int) := by omega
     have k1 : (k : Int) < (x2.length : Int) := by omega
     have iwk : IntKind.i64.wrap ((k : Int) + 1) = (k : Int) + 1 := IntWalk.i64_in _ (by omega)
     obtain ⟨a', c', he, o1, o2, o3⟩ := (HX6.out).open
     injection he with e1 e2 e3
     clear e2
     subst e1 e3
     obtain ⟨bx, ox, rfl, hbx⟩ := o3 k hlk
     have cx := (HX6.out.str_at hlk).1
     have hbxf : bx ≠ b := by
      obtain ⟨_, _, he, _, _, h5⟩ := HX6.out
      rcases h5 with ⟨h6, -⟩ | ⟨b9, off9, fps9, -, h7, h8, -⟩
      ·rw [h6] at hlk; simp at hlk
      ·injection he with he1 _ _
       have h9 := he1.trans h7
       have h10 : bx = b9 := congrArg Addr.block (Option.some.inj h9)
       have := HFX.out b9 (by rw [h8]; simp)
       omega
     have HBX := Lib.hid (show bx ∉ [b] by simpa using hbxf)
     obtain ⟨nk, hnk⟩ : ∃ nk, nk = x2[k] := ⟨_, rfl⟩
     have hnm : nk ∈ x2 := by rw [hnk]; exact List.getElem_mem hlk
     rw [← hnk] at cx
     clear hnk hbx hbxf o1 o2 o3
     obtain ⟨L, hL⟩ : ∃ L, max (1 : Int) (x2.length : Int) = L := ⟨_, rfl⟩
     have hL1 : 1 ≤ L := by omega
     have hkl : KK (room.tdiv L - 1) (hh (g0, g1) nk).toNat ≤ M := by
      rw [HM.out, ← hL]
      refine kid_le (fun h5 => ?_) (by have := (HB3.out nk).2; omega)
      have h1 := HLW.out h5 nk hnm
      have h2 := (HB3.out nk).1
      omega
     have hqb : (0 ≤ room → 0 ≤ room.tdiv L ∧ room.tdiv L ≤ room) ∧ (room < 0 → room ≤ room.tdiv L ∧ room.tdiv L ≤ 0) := by
      refine ⟨fun h => ⟨Int.tdiv_nonneg h (by omega), Int.tdiv_le_self L h⟩, fun h => ?_⟩
      have e : room.tdiv L = -((-room).tdiv L) := by rw [Int.neg_tdiv]; omega
      have h1 := Int.tdiv_nonneg (a := -room) (b := L) (by omega) (by omega)
      have h2 := Int.tdiv_le_self L (show 0 ≤ -room by omega)
      omega
     have HIR := Lib.hid (show (n : Int) - 1000 ≤ room.tdiv L - 1 ∧ room.tdiv L - 1 ≤ 500 ∧ n ≤ 900 by
      rcases Int.lt_or_le room 0 with h | h
      ·have := hqb.2 h; omega
      ·have := hqb.1 h; omega)
     have HIN := Lib.hid (show (room.tdiv L - 1 < 5 → (hh (g0, g1) nk).toNat < n) ∧ (5 ≤ room.tdiv L - 1 → (room.tdiv L - 1).toNat + 4 ≤ n) by
      have h3 := HB3.out nk
      by_cases h5 : room < 5
      ·have h1 := HLW.out h5 nk hnm
       have h2 := HN.out.1 h5
       refine ⟨fun _ => by omega, fun h6 => ?_⟩
       rcases Int.lt_or_le room 0 with h | h
       ·have := hqb.2 h; omega
       ·have := hqb.1 h; omega
      ·have h2 := HN.out.2 (by omega)
       have h4 := hqb.1 (by omega)
       exact ⟨fun _ => by omega, fun h6 => by omega⟩)
     have hsum := sum_le HTF.out
     have hkM : (k + 1) * M ≤ x2.length * M := Nat.mul_le_mul_right _ hlk
     have hsum2 : (ts.map List.length).sum ≤ k * M := by rw [htl] at hsum; exact hsum
     have hkM2 : (k + 1) * M = k * M + M := Nat.succ_mul k M
     have HII := Lib.hid (show 0 ≤ id + 1 + ((ts.map List.length).sum : Nat) ∧ id + 1 + ((ts.map List.length).sum : Nat) + KK (room.tdiv L - 1) (hh (g0, g1) nk).toNat ≤ 1000000 by
      have h1 := hid.2
      omega)
     have HKL := Lib.hid hkl
     have HKK := Lib.hid (show M ≤ KK room (hh (g0, g1) sym).toNat by omega)
     have HL := Lib.hid hL
     have iwq : IntKind.i64.wrap (room.tdiv L) = room.tdiv L := IntWalk.i64_in _ (by have := HIR.out; omega)
     have iwq1 : IntKind.i64.wrap (room.tdiv L - 1) = room.tdiv L - 1 := IntWalk.i64_in _ (by have := HIR.out; omega)
     have hLne : (L == 0) = false := by simp; omega
     have hLne2 : ¬ L = 0 := by omega
     have y0 := VG6.out.cell (k := 0) (by simp)
     have y1 := VG6.out.cell (k := 1) (by simp)
     have zy0 := blk y0
     have hbl6 : b < W6.heap.size := HC6.out.lt
     clear hL hkl hqb hsum hkM hsum2 hkM2
     go_upto_region 10 with fail
     refine wp_region_K (STX b M W6) (VTX b W1.heap.size bx ox kx2 x2.length k #[.slice ag0 g0.length kg0, .slice ag1 g1.length kg1] nk room L (id + 1 + ((ts.map List.length).sum : Nat))) 17 [42, 43, 44, 45, 46, 47, 48, 49, 50, 51, 52, 53, 54, 55, 56, 57, 16] (by kernel_rfl) (by kernel_rfl) (by kernel_rfl) ⟨HC6.out.gr (Gr.drew (Gr.refl _)), (Gr.drew (Gr.refl W6)).toWr [b], (fun _ h => by cases h), (fun _ h => by cases h), (fun h => by cases h)⟩ ?_ ?_
     ·refine ⟨?_, ?_, ?_, ?_, ?_, ?_, ?_, ?_, ?_, ?_, ?_, ?_, ?_, ?_, ?_, ?_, ?_, ?_, trivial⟩
      all_goals intro D f a w' hDz hsz' hDi hdone hf hS hfr hV K hK
      all_goals have HSZ := Lib.hid hsz'
      all_goals clear hsz'
      ·have e0 : a.tmps[0]?.getD undef = .pointer (some ⟨b, 0, none⟩) := hfr 0 (by kernel_rfl)
       go_simp
       refine hK.out _ _ (by simpa [STX, Act.put, Array.getElem?_setIfInBounds] using hS) (fun d h => h) (fun d hd => ?_)
       obtain rfl := Option.some.inj hd
       exact rfl
      ·have e6 : a.tmps[6]?.getD undef = .pointer (some ⟨w.heap.size, 0, none⟩) := hfr 6 (by kernel_rfl)
       have y0 := hS.2.1.keepC y0 (by simp; omega)
       have y1 := hS.2.1.keepC y1 (by simp; omega)
       have zy0 := blk y0
       go_simp
       refine hK.out _ _ (by simpa [STX, Act.put, Array.getElem?_setIfInBounds] using hS) (fun d h => h) (fun d hd => ?_)
       obtain rfl := Option.some.inj hd
       exact rfl
      ·have e11 : a.tmps[11]?.getD undef = .pointer (some ⟨W1.heap.size, 0, none⟩) := hfr 11 (by kernel_rfl)
       go_simp
       refine hK.out _ _ (by simpa [STX, Act.put, Array.getElem?_setIfInBounds] using hS) (fun d h => h) (fun d hd => ?_)
       obtain rfl := Option.some.inj hd
       exact rfl
      ·have e44 : a.tmps[44]?.getD undef = .pointer (some ⟨W1.heap.size, 2, none⟩) := hV 44 (by kernel_rfl)
       have r2 := hS.2.1.keepC r2 (by simp; omega)
       have zr2 := blk r2
       go_simp
       refine hK.out _ _ (by simpa [STX, Act.put, Array.getElem?_setIfInBounds] using hS) (fun d h => h) (fun d hd => ?_)
       obtain rfl := Option.some.inj hd
       exact rfl
      ·have e15 : a.tmps[15]?.getD undef = .int .i64 (k : Int) := hfr 15 (by kernel_rfl)
       go_simp
       refine hK.out _ _ (by simpa [STX, Act.put, Array.getElem?_setIfInBounds] using hS) (fun d h => h) (fun d hd => ?_)
       obtain rfl := Option.some.inj hd
       exact rfl
      ·have e45 : a.tmps[45]?.getD undef = .slice (some ⟨bx, ox, none⟩) x2.length kx2 := hV 45 (by kernel_rfl)
       have e46 : a.tmps[46]?.getD undef = .int .i64 (k : Int) := hV 46 (by kernel_rfl)
       go_simp
       refine hK.out _ _ (by simpa [STX, Act.put, Array.getElem?_setIfInBounds] using hS) (fun d h => h) (fun d hd => ?_)
       obtain rfl := Option.some.inj hd
       exact rfl
      ·have e47 : a.tmps[47]?.getD undef = .pointer (some ⟨bx, ox + k, none⟩) := hV 47 (by kernel_rfl)
       have cx := hS.2.1.keepC cx HBX.out
       have zx := blk cx
       go_simp
       refine hK.out _ _ (by simpa [STX, Act.put, Array.getElem?_setIfInBounds] using hS) (fun d h => h) (fun d hd => ?_)
       obtain rfl := Option.some.inj hd
       exact rfl
      ·have e3 : a.tmps[3]?.getD undef = .int .i64 room := hfr 3 (by kernel_rfl)
       go_simp
       refine hK.out _ _ (by simpa [STX, Act.put, Array.getElem?_setIfInBounds] using hS) (fun d h => h) (fun d hd => ?_)
       obtain rfl := Option.some.inj hd
       exact rfl
      ·have e11 : a.tmps[11]?.getD undef = .pointer (some ⟨W1.heap.size, 0, none⟩) := hfr 11 (by kernel_rfl)
       go_simp
       refine hK.out _ _ (by simpa [STX, Act.put, Array.getElem?_setIfInBounds] using hS) (fun d h => h) (fun d hd => ?_)
       obtain rfl := Option.some.inj hd
       exact rfl
      ·have e50 : a.tmps[50]?.getD undef = .pointer (some ⟨W1.heap.size, 2, none⟩) := hV 50 (by kernel_rfl)
       have r2 := hS.2.1.keepC r2 (by simp; omega)
       have zr2 := blk r2
       go_simp
       refine hK.out _ _ (by simpa [STX, Act.put, Array.getElem?_setIfInBounds] using hS) (fun d h => h) (fun d hd => ?_)
       obtain rfl := Option.some.inj hd
       exact rfl
      ·have e51 : a.tmps[51]?.getD undef = .slice (some ⟨bx, ox, none⟩) x2.length kx2 := hV 51 (by kernel_rfl)
       go_simp
       refine hK.out _ _ (by simpa [STX, Act.put, Array.getElem?_setIfInBounds] using hS) (fun d h => h) (fun d hd => ?_)
       obtain rfl := Option.some.inj hd
       exact rfl
      ·have e52 : a.tmps[52]?.getD undef = .int .i64 (x2.length : Int) := hV 52 (by kernel_rfl)
       have hCL := Lib.hid (l1Max_any 1 (x2.length : Int) w')
       go_simp
       refine hCL.out.mono ?_
       rintro e u ⟨rfl, rfl⟩
       refine hK.out _ _ (by simpa [STX, Act.put, Array.getElem?_setIfInBounds] using hS) (fun d h => h) (fun d hd => ?_)
       obtain rfl := Option.some.inj hd
       exact (by show Value.int .i64 _ = _; rw [HL.out])
      ·have e49 : a.tmps[49]?.getD undef = .int .i64 room := hV 49 (by kernel_rfl)
       have e53 : a.tmps[53]?.getD undef = .int .i64 L := hV 53 (by kernel_rfl)
       go_simp
       refine hK.out _ _ (by simpa [STX, Act.put, Array.getElem?_setIfInBounds] using hS) (fun d h => h) (fun d hd => ?_)
       obtain rfl := Option.some.inj hd
       exact rfl
      ·have e54 : a.tmps[54]?.getD undef = .int .i64 (room.tdiv L) := hV 54 (by kernel_rfl)
       go_simp
       refine hK.out _ _ (by simpa [STX, Act.put, Array.getElem?_setIfInBounds] using hS) (fun d h => h) (fun d hd => ?_)
       obtain rfl := Option.some.inj hd
       exact rfl
      ·have e13 : a.tmps[13]?.getD undef = .int .i64 (id + 1 + ((ts.map List.length).sum : Nat)) := hfr 13 (by kernel_rfl)
       go_simp
       refine hK.out _ _ (by simpa [STX, Act.put, Array.getElem?_setIfInBounds] using hS) (fun d h => h) (fun d hd => ?_)
       obtain rfl := Option.some.inj hd
       exact rfl
      ·have e42 : a.tmps[42]?.getD undef = .pointer (some ⟨b, 0, none⟩) := hV 42 (by kernel_rfl)
       have e43 : a.tmps[43]?.getD undef = .agg #[.slice ag0 g0.length kg0, .slice ag1 g1.length kg1] := hV 43 (by kernel_rfl)
       have e48 : a.tmps[48]?.getD undef = .string nk := hV 48 (by kernel_rfl)
       have e55 : a.tmps[55]?.getD undef = .int .i64 (room.tdiv L - 1) := hV 55 (by kernel_rfl)
       have e56 : a.tmps[56]?.getD undef = .int .i64 (id + 1 + ((ts.map List.length).sum : Nat)) := hV 56 (by kernel_rfl)
       obtain rfl := hf (.inr (by kernel_rfl))
       have hCL := Lib.hid (HIH.out fg _ (g0, g1) nk (room.tdiv L - 1) (id + 1 + ((ts.map List.length).sum : Nat)) w' hS.1 (Rd.wr HRG6.out hS.2.1 (fun c hc hm => hbg (List.mem_singleton.1 hm ▸ hc))) hbg HOK.out HIN.out HIR.out HII.out)
       go_simp
       refine hCL.out.mono ?_
       rintro e u ⟨vv, F, ns, rfl, hoT, hfT, -, hlT, hcT, hwT⟩
       obtain ⟨av, cv, rfl⟩ := hoT.form
       have hs9 := hS.2.1.size
       obtain ⟨h91, h92, h93, h94, h95⟩ := ST.wr hS hbl6 hcT hwT hDz
       refine hK.out _ _ ⟨h91, h92, ?_, fun _ _ => ⟨av, cv, F, ns, ?_, hoT.lower hs9, hfT, Nat.le_trans hlT HKL.out, ?_⟩, ?_⟩ (fun d h => h) (fun d hd => ?_)
       ·simpa [Act.put, Array.getElem?_setIfInBounds] using h93
       ·rw [← eval_tmp]; exact eval_put_self (by rw [HSZ.out]; exact of_decide_eq_true rfl)
       ·intro hq gn o hg hm
        obtain ⟨g2, k1, k2, k3⟩ := hS.2.2.1 hDz (by simpa using hq)
        have k4 : a.tmps[16]?.getD undef = .pointer (some ⟨gn, o, none⟩) := by simpa [Act.put, Array.getElem?_setIfInBounds] using hg
        rw [k1] at k4
        cases k4
        have := k3.lt
        have := hoT.ge _ hm
        omega
       ·simpa [Act.put, Array.getElem?_setIfInBounds] using h95
       ·obtain rfl := Option.some.inj hd
        exact trivial
      ·obtain rfl := hf (.inr (by kernel_rfl))
       go_simp
       have hga := (Gr.alloc (Gr.refl w') (.cells #[.slice none 0 0] 38))
       refine hK.out _ _ ⟨hS.1.gr hga, hS.2.1.gr hga, fun _ _ => ⟨_, ?_, hS.2.1.size, VRow.new rfl⟩, fun _ hp => ?_, fun hz => ?_⟩ (fun d h => h) (fun d hd => ?_)
       ·rw [← eval_tmp]; exact eval_put_self (by rw [HSZ.out]; exact of_decide_eq_true rfl)
       ·obtain ⟨av, cv, F, ns, e1, e2, e3, e4, e5⟩ := hS.2.2.2.1 hDz (by simpa using hp)
        refine ⟨av, cv, F, ns, by simpa [Act.put, Array.getElem?_setIfInBounds] using e1, e2.gr hga, e3, e4, fun _ gn o hg => ?_⟩
        rw [← eval_tmp, eval_put_self (by rw [HSZ.out]; exact of_decide_eq_true rfl)] at hg
        cases hg
        intro hm
        have := e2.lt _ hm
        omega
       ·exfalso
        have : D 17 = true := by simpa using hz
        rw [hDz] at this; cases this
       ·obtain rfl := Option.some.inj hd
        exact trivial
      ·obtain rfl := hf (.inl rfl)
       obtain ⟨av, cv, F, ns, e57, e2, e3, e4, e5⟩ := hS.2.2.2.1 hDz (hdone 15 (by kernel_rfl))
       obtain ⟨gn, m1, m2, m3⟩ := hS.2.2.1 hDz (hdone 16 (by kernel_rfl))
       have hne := e5 (hdone 16 (by kernel_rfl)) gn 0 m1
       have c0 := m3.cell (k := 0) (by simp)
       have f0 := m3.frozen 0
       have zg := blk c0
       have HGV := Lib.hid m3
       have HE2 := Lib.hid e2
       have JC := Lib.hid hS.1
       have JW := Lib.hid hS.2.1
       clear hS m3 e2 e5
       go_simp
       have wU := Wr.put1 w' gn (.slice av ns.length cv)
       refine hK.out undef _ ⟨JC.out.wr wU (fun x hx => by rw [List.mem_singleton.1 hx]; omega), JW.out.more2 wU (fun x hx => .inr (by rw [List.mem_singleton.1 hx]; omega)), (fun h => by cases h), (fun h => by cases h), fun _ => ⟨gn, av, cv, F, ns, m1, VRow.put1 HGV.out _, HE2.out.wr wU (fun x hx hm => hne (List.mem_singleton.1 hm ▸ hx)), e3, e4, m2, hne⟩⟩ (fun d h => h) (fun d hd => by cases hd)
     ·intro D t W7 hall hlay hS7 hV
      obtain ⟨gn, av, cv, F, ns, m1, m2, m3, m4, m5, m6, m7⟩ := hS7.2.2.2.2 (hall 17 (of_decide_eq_true rfl))
      rw [hlay 16 (by kernel_rfl)] at m1
      simp only [layI, List.foldl_cons, List.foldl_nil, Act.put, List.setIfInBounds_toArray, List.set_cons_zero, List.set_cons_succ, m1]
      have hw67 := hS7.2.1
      have hz67 := hw67.size
      have HC7 := Lib.hid hS7.1
      have HW67 := Lib.hid hw67
      have HT7 := Lib.hid m3
      have HTN := Lib.hid (And.intro m4 m5)
      have hML : ns.length ≤ 1000000 := by have := hid.2; have := HKK.out; omega
      obtain ⟨fq, hsl, hfr, -⟩ := m3.read (by unfold reachLen; omega) (fun x hx => by have := (m4.1 x hx).2.2.2.1; unfold reachLen; omega)
      have HSL := Lib.hid hsl
      have HFQ := Lib.hid (show ∀ c ∈ fq, W6.heap.size ≤ c from fun c hc => hfr.2 c hc)
      have c0 := m2.cell (k := 0) (by simp)
      have zc0 := blk c0
      have HO7 := Lib.hid (HO6.out.wr hw67 (fun c hc hm => by have h1 := HFF.out c hc; have h2 := List.mem_singleton.1 hm; omega) (fun c hc hm => by have h1 := (HO6.out.base c hc).1; have h2 := List.mem_singleton.1 hm; omega))
      have HEW := Lib.hid (show Gr E W7 from hEg.wr ((HWZ.out.trans HW6.out).trans hw67) (fun c _ => by omega))
      have HAP := Lib.hid (show ∀ c, (Value.slice ra k rc).ownBlock = some c → c ∉ [fq].flatten from fun c hc hm => by
       have h1 := (HO6.out.base c hc).2
       have h2 := HFQ.out c (by simpa using hm)
       omega)
      have HOB := Lib.hid (show ∀ c ∈ (Value.slice ra k rc).ownBlock.toList, U.heap.size ≤ c from fun c hc => (HO6.out.base c (by simpa using hc)).1)
      have HW7 := Lib.hid (HW6.out.trans hw67)
      have iwx : IntKind.i64.wrap (id + 1 + ((ts.map List.length).sum : Nat) + (ns.length : Int)) = id + 1 + ((ts.map List.length).sum : Nat) + (ns.length : Int) := IntWalk.i64_in _ (by have := HII.out; omega)
      clear m2 m3 m4 m7 hsl hfr hw67 hS7 hV hlay hall y0 y1 zy0 r2 zr2 cx
      go_wp2_with (first | (at_builtin; refine wpList_append_RB (α := GTree) (wg := E) (w0 := U) (HEW.out.trans gd) (by omega) (by simp; omega) rfl _ _ 118 rfl 38 iT (.agg #[.slice none 0 0]) 24 Try.underlying118 HZ.out.1 HZ.out.2.1 HZ.out.2.2.1 HZ.out.2.2.2 rfl _ fps ts (by rfl) (HO7.out.gr gd) _ [fq] [ns] (by rfl) (SrcR.one (by simp) ⟨_, rfl, HSL.out.gr gd⟩) HAP.out (by unfold maxLen; simp; omega) (by simp; omega) ?_; intro v8 w8 h1 h2 h3 h4; obtain ⟨va8, vc8, hv8⟩ := h1.form; rw [show (ts ++ [ns]).length = k + 1 from by simp [htl]] at hv8; subst hv8; have K1 := Lib.hid h1; have K2 := Lib.hid ((Gr.toWr (show Gr W7 _ from gd) _).trans h2); clear h1 h2 h3 h4))
      refine ⟨⟨k + 1, by omega, ⟨fps ++ [fq], ts ++ [ns], K1.out, fun c hc => ?_, by simp [htl], fun u hu => ?_, ?_, HC7.out.wr K2.out (fun x hx => by have := HOB.out x hx; omega), HW7.out.more2 K2.out (fun x hx => .inr (HOB.out x hx))⟩, by go_num⟩, by simp [intOf]; omega⟩
      ·rw [List.flatten_append] at hc
       rcases List.mem_append.1 hc with h | h
       ·exact HFF.out c h
       ·have := HFQ.out c (by simpa using h); omega
      ·rcases List.mem_append.1 hu with h | h
       ·exact HTF.out u h
       ·rw [List.mem_singleton.1 h]; exact HTN.out
      ·rw [List.map_append, List.sum_append]
       simp only [List.map_cons, List.map_nil, List.sum_cons, List.sum_nil, Nat.add_zero]
       push_cast
       rw [Int.add_assoc]
    ·have k1 : ¬ (k : Int) < (x2.length : Int) := by omega
     have VN6 := Lib.hid (VNZ.out.wr HW6.out (by simp; omega))
     have VT6 := Lib.hid (VTZ.out.wr HW6.out (by simp; omega))
     have n0 := VN6.out.cell (k := 0) (by simp)
     have n1 := VN6.out.cell (k := 1) (by simp)
     have n2 := VN6.out.cell (k := 2) (by simp)
     have n3 := VN6.out.cell (k := 3) (by simp)
     have n4 := VN6.out.cell (k := 4) (by simp)
     have n5 := VN6.out.cell (k := 5) (by simp)
     have zn0 := blk n0
     obtain ⟨fk, hsk, hfk⟩ := HO6.out.slR (by unfold reachLen; omega)
     have HSK := Lib.hid hsk
     have hsum := sum_le HTF.out
     have hkM : k * M ≤ x2.length * M := Nat.mul_le_mul_right _ hk
     have hsum2 : (ts.map List.length).sum ≤ k * M := by rw [htl] at hsum; exact hsum
     have hsb : 1 + (ts.map List.length).sum ≤ KK room (hh (g0, g1) sym).toNat := by omega
     obtain ⟨jf, jl⟩ := joN_fine (r := (id, 0, 0, (xl - 2), x0, [])) (fun t ht => (HTF.out t ht).1) (by omega) hx68
     have HJF := Lib.hid (And.intro jf jl)
     have HSM := Lib.hid (TreeFine.small (fun t ht => (HTF.out t ht).1) (by omega) (by have := hid.2; omega))
     have HRN := Lib.hid (rdNode_mk (w := W6) id 0 0 (xl - 2) x0 [] (wf_small (by omega) (by have := hid.2; omega)) (by decide) (by decide) hlw (by unfold maxLen; omega) (SlR.nil W6))
     have HSB := Lib.hid hsb
     clear hsk hsum hkM hsum2 hsb jf jl
     go_wp2_with fail
     refine (l13Join_any (id, 0, 0, (xl - 2), x0, []) ts W6 HRN.out HSK.out HSM.out).mono ?_
     rintro e W8 ⟨v, F, rfl, hoT, hg8⟩
     have hz68 := hg8.size
     obtain ⟨av, cv, rfl⟩ := hoT.form
     have VT8 := Lib.hid (VT6.out.gr hg8)
     have t0 := VT8.out.cell (k := 0) (by simp)
     have ft0 := VT8.out.frozen 0
     have zt0 := blk t0
     have HO8 := Lib.hid hoT
     have HC8 := Lib.hid (HC6.out.gr hg8)
     have HW8 := Lib.hid ((HWZ.out.trans HW6.out).gr hg8)
     clear hoT hg8
     obtain ⟨NS, hNS⟩ : ∃ NS, NS = joN (id, 0, 0, (xl - 2), x0, []) ts := ⟨_, rfl⟩
     rw [← hNS] at HO8 HJF
     rw [← hNS]
     clear hNS
     have hw86 : w.heap.size + 2 ≤ W6.heap.size := by omega
     go_wp2_with fail
     have wU := Wr.put1 W8 (w.heap.size + 1) (.slice av NS.length cv)
     have vU := VRow.put1 VT8.out (.slice av NS.length cv)
     generalize W8.setCell ⟨w.heap.size + 1, 0, none⟩ (.slice av NS.length cv) = U8 at wU vU ⊢
     have r0 := vU.cell (k := 0) (by simp)
     exact bodyPost_ret (v := .agg #[.slice av NS.length cv]) (by simp [results, Try.results97, go_sem, r0]) rfl ⟨_, F, NS, rfl, (HO8.out.lower (by omega)).wr wU (fun x hx hm => by have := HO8.out.ge x hx; have := List.mem_singleton.1 hm; omega), HJF.out.1, by rw [HJF.out.2]; omega, by rw [HJF.out.2]; exact HSB.out, HC8.out.wr wU (fun x hx => by rw [List.mem_singleton.1 hx]; omega), HW8.out.more2 wU (fun x hx => .inr (by rw [List.mem_singleton.1 hx]; omega))⟩
  | false =>
   have HWZ := HW3
   have HWW := HWB
   have VCZ := HC3
   have VRZ := VR3
   have VGZ := VG3
   have VTZ := VT3
   have HXZ := HX3
   have VNZ := VN3
   have hMK : 1 + x2.length * KC room x2.length (hh (g0, g1) sym).toNat ≤ KK room (hh (g0, g1) sym).toNat := kids_le hxl (fun h5 hp => by
    have h1 := HLW.out h5 (x2[0]'hp) (List.getElem_mem hp)
    have h2 := (HB3.out (x2[0]'hp)).1
    omega)
   obtain ⟨M, hM⟩ : ∃ M, M = KC room x2.length (hh (g0, g1) sym).toNat := ⟨_, rfl⟩
   have HM := Lib.hid hM
   rw [← hM] at hMK
   clear hM
   go_upto_region 7 with fail
   have hO0 : OwnR (α := GTree) W3 38 (W3.alloc (.cells #[] 38)) (.slice (some ⟨(W1.heap.size + 2), 0, none⟩) 0 0) [] [] := OwnR.lit0 (α := GTree) (w0 := W3) (w := W3) 38 (Nat.le_refl _) (by omega)
   have hcZ := VCZ.out.gr (Gr.alloc (Gr.refl W3) (.cells #[] 38))
   have hwZ := (Gr.alloc (Gr.refl W3) (.cells #[] 38)).toWr [b]
   generalize W3.alloc (.cells #[] 38) = WY at hO0 hcZ hwZ ⊢
   have HO0 := Lib.hid hO0
   have HCY := Lib.hid hcZ
   have HWY := Lib.hid hwZ
   clear hO0 hcZ hwZ
   go_wp2_with fail
   go_loopw [15, 13, 14] (fun s15 s13 s14 wr => ∃ k : Nat, k ≤ x2.length ∧ KidsIn b W3 M id k s13 s14 wr ∧ s15 = .int .i64 k) (fun s15 _ _ _ => x2.length - (intOf s15).toNat)
   case atStart => exact ⟨0, by omega, ⟨[], [], HO0.out, by simp, rfl, by simp, by simp, HCY.out, HWY.out⟩, rfl⟩
   case round =>
    obtain ⟨k, hk, ⟨fps, ts, hown, hff, htl, htf, rfl, hc6, hw6⟩, rfl⟩ := hrel
    rename World => W6
    obtain ⟨ra, rc, hform⟩ := hown.form
    rw [htl] at hform
    subst hform
    have hs6 := hw6.size
    have HO6 := Lib.hid hown
    have HFF := Lib.hid hff
    have HTF := Lib.hid htf
    have HC6 := Lib.hid hc6
    have HW6 := Lib.hid hw6
    have VR6 := Lib.hid (VRZ.out.wr hw6 (by simp; omega))
    have VG6 := Lib.hid (VGZ.out.wr hw6 (by simp; omega))
    have hbZ : b < W3.heap.size := VCZ.out.lt
    have HX6 := Lib.hid (HXZ.out.wr hw6 (fun c hc hm => by have h1 := HFX.out c hc; have h2 := List.mem_singleton.1 hm; omega))
    have HRG6 := Lib.hid (Rd.wr (Rd.gr HG.out HG0.out) (show Wr [b] W0 W6 from HWW.out.trans hw6) (fun c hc hm => hbg (List.mem_singleton.1 hm ▸ hc)))
    clear hown hff htf hc6 hw6
    have r2 := VR6.out.cell (k := 2) (by simp)
    have zr2 := blk r2
    by_cases hlk : k < x2.length
    ·have k0 : (0 : Int) ≤ (k : Int) := by omega
     have k1 : (k : Int) < (x2.length : Int) := by omega
     have iwk : IntKind.i64.wrap ((k : Int) + 1) = (k : Int) + 1 := IntWalk.i64_in _ (by omega)
     obtain ⟨a', c', he, o1, o2, o3⟩ := (HX6.out).open
     injection he with e1 e2 e3
     clear e2
     subst e1 e3
     obtain ⟨bx, ox, rfl, hbx⟩ := o3 k hlk
     have cx := (HX6.out.str_at hlk).1
     have hbxf : bx ≠ b := by
      obtain ⟨_, _, he, _, _, h5⟩ := HX6.out
      rcases h5 with ⟨h6, -⟩ | ⟨b9, off9, fps9, -, h7, h8, -⟩
      ·rw [h6] at hlk; simp at hlk
      ·injection he with he1 _ _
       have h9 := he1.trans h7
       have h10 : bx = b9 := congrArg Addr.block (Option.some.inj h9)
       have := HFX.out b9 (by rw [h8]; simp)
       omega
     have HBX := Lib.hid (show bx ∉ [b] by simpa using hbxf)
     obtain ⟨nk, hnk⟩ : ∃ nk, nk = x2[k] := ⟨_, rfl⟩
     have hnm : nk ∈ x2 := by rw [hnk]; exact List.getElem_mem hlk
     rw [← hnk] at cx
     clear hnk hbx hbxf o1 o2 o3
     obtain ⟨L, hL⟩ : ∃ L, max (1 : Int) (x2.length : Int) = L := ⟨_, rfl⟩
     have hL1 : 1 ≤ L := by omega
     have hkl : KK (room.tdiv L - 1) (hh (g0, g1) nk).toNat ≤ M := by
      rw [HM.out, ← hL]
      refine kid_le (fun h5 => ?_) (by have := (HB3.out nk).2; omega)
      have h1 := HLW.out h5 nk hnm
      have h2 := (HB3.out nk).1
      omega
     have hqb : (0 ≤ room → 0 ≤ room.tdiv L ∧ room.tdiv L ≤ room) ∧ (room < 0 → room ≤ room.tdiv L ∧ room.tdiv L ≤ 0) := by
      refine ⟨fun h => ⟨Int.tdiv_nonneg h (by omega), Int.tdiv_le_self L h⟩, fun h => ?_⟩
      have e : room.tdiv L = -((-room).tdiv L) := by rw [Int.neg_tdiv]; omega
      have h1 := Int.tdiv_nonneg (a := -room) (b := L) (by omega) (by omega)
      have h2 := Int.tdiv_le_self L (show 0 ≤ -room by omega)
      omega
     have HIR := Lib.hid (show (n : Int) - 1000 ≤ room.tdiv L - 1 ∧ room.tdiv L - 1 ≤ 500 ∧ n ≤ 900 by
      rcases Int.lt_or_le room 0 with h | h
      ·have := hqb.2 h; omega
      ·have := hqb.1 h; omega)
     have HIN := Lib.hid (show (room.tdiv L - 1 < 5 → (hh (g0, g1) nk).toNat < n) ∧ (5 ≤ room.tdiv L - 1 → (room.tdiv L - 1).toNat + 4 ≤ n) by
      have h3 := HB3.out nk
      by_cases h5 : room < 5
      ·have h1 := HLW.out h5 nk hnm
       have h2 := HN.out.1 h5
       refine ⟨fun _ => by omega, fun h6 => ?_⟩
       rcases Int.lt_or_le room 0 with h | h
       ·have := hqb.2 h; omega
       ·have := hqb.1 h; omega
      ·have h2 := HN.out.2 (by omega)
       have h4 := hqb.1 (by omega)
       exact ⟨fun _ => by omega, fun h6 => by omega⟩)
     have hsum := sum_le HTF.out
     have hkM : (k + 1) * M ≤ x2.length * M := Nat.mul_le_mul_right _ hlk
     have hsum2 : (ts.map List.length).sum ≤ k * M := by rw [htl] at hsum; exact hsum
     have hkM2 : (k + 1) * M = k * M + M := Nat.succ_mul k M
     have HII := Lib.hid (show 0 ≤ id + 1 + ((ts.map List.length).sum : Nat) ∧ id + 1 + ((ts.map List.length).sum : Nat) + KK (room.tdiv L - 1) (hh (g0, g1) nk).toNat ≤ 1000000 by
      have h1 := hid.2
      omega)
     have HKL := Lib.hid hkl
     have HKK := Lib.hid (show M ≤ KK room (hh (g0, g1) sym).toNat by omega)
     have HL := Lib.hid hL
     have iwq : IntKind.i64.wrap (room.tdiv L) = room.tdiv L := IntWalk.i64_in _ (by have := HIR.out; omega)
     have iwq1 : IntKind.i64.wrap (room.tdiv L - 1) = room.tdiv L - 1 := IntWalk.i64_in _ (by have := HIR.out; omega)
     have hLne : (L == 0) = false := by simp; omega
     have hLne2 : ¬ L = 0 := by omega
     have y0 := VG6.out.cell (k := 0) (by simp)
     have y1 := VG6.out.cell (k := 1) (by simp)
     have zy0 := blk y0
     have hbl6 : b < W6.heap.size := HC6.out.lt
     clear hL hkl hqb hsum hkM hsum2 hkM2
     go_upto_region 10 with fail
     refine wp_region_K (STX b M W6) (VTX b W1.heap.size bx ox kx2 x2.length k #[.slice ag0 g0.length kg0, .slice ag1 g1.length kg1] nk room L (id + 1 + ((ts.map List.length).sum : Nat))) 17 [42, 43, 44, 45, 46, 47, 48, 49, 50, 51, 52, 53, 54, 55, 56, 57, 16] (by kernel_rfl) (by kernel_rfl) (by kernel_rfl) ⟨HC6.out.gr (Gr.drew (Gr.refl _)), (Gr.drew (Gr.refl W6)).toWr [b], (fun _ h => by cases h), (fun _ h => by cases h), (fun h => by cases h)⟩ ?_ ?_
     ·refine ⟨?_, ?_, ?_, ?_, ?_, ?_, ?_, ?_, ?_, ?_, ?_, ?_, ?_, ?_, ?_, ?_, ?_, ?_, trivial⟩
      all_goals intro D f a w' hDz hsz' hDi hdone hf hS hfr hV K hK
      all_goals have HSZ := Lib.hid hsz'
      all_goals clear hsz'
      ·have e0 : a.tmps[0]?.getD undef = .pointer (some ⟨b, 0, none⟩) := hfr 0 (by kernel_rfl)
       go_simp
       refine hK.out _ _ (by simpa [STX, Act.put, Array.getElem?_setIfInBounds] using hS) (fun d h => h) (fun d hd => ?_)
       obtain rfl := Option.some.inj hd
       exact rfl
      ·have e6 : a.tmps[6]?.getD undef = .pointer (some ⟨w.heap.size, 0, none⟩) := hfr 6 (by kernel_rfl)
       have y0 := hS.2.1.keepC y0 (by simp; omega)
       have y1 := hS.2.1.keepC y1 (by simp; omega)
       have zy0 := blk y0
       go_simp
       refine hK.out _ _ (by simpa [STX, Act.put, Array.getElem?_setIfInBounds] using hS) (fun d h => h) (fun d hd => ?_)
       obtain rfl := Option.some.inj hd
       exact rfl
      ·have e11 : a.tmps[11]?.getD undef = .pointer (some ⟨W1.heap.size, 0, none⟩) := hfr 11 (by kernel_rfl)
       go_simp
       refine hK.out _ _ (by simpa [STX, Act.put, Array.getElem?_setIfInBounds] using hS) (fun d h => h) (fun d hd => ?_)
       obtain rfl := Option.some.inj hd
       exact rfl
      ·have e44 : a.tmps[44]?.getD undef = .pointer (some ⟨W1.heap.size, 2, none⟩) := hV 44 (by kernel_rfl)
       have r2 := hS.2.1.keepC r2 (by simp; omega)
       have zr2 := blk r2
       go_simp
       refine hK.out _ _ (by simpa [STX, Act.put, Array.getElem?_setIfInBounds] using hS) (fun d h => h) (fun d hd => ?_)
       obtain rfl := Option.some.inj hd
       exact rfl
      ·have e15 : a.tmps[15]?.getD undef = .int .i64 (k : Int) := hfr 15 (by kernel_rfl)
       go_simp
       refine hK.out _ _ (by simpa [STX, Act.put, Array.getElem?_setIfInBounds] using hS) (fun d h => h) (fun d hd => ?_)
       obtain rfl := Option.some.inj hd
       exact rfl
      ·have e45 : a.tmps[45]?.getD undef = .slice (some ⟨bx, ox, none⟩) x2.length kx2 := hV 45 (by kernel_rfl)
       have e46 : a.tmps[46]?.getD undef = .int .i64 (k : Int) := hV 46 (by kernel_rfl)
       go_simp
       refine hK.out _ _ (by simpa [STX, Act.put, Array.getElem?_setIfInBounds] using hS) (fun d h => h) (fun d hd => ?_)
       obtain rfl := Option.some.inj hd
       exact rfl
      ·have e47 : a.tmps[47]?.getD undef = .pointer (some ⟨bx, ox + k, none⟩) := hV 47 (by kernel_rfl)
       have cx := hS.2.1.keepC cx HBX.out
       have zx := blk cx
       go_simp
       refine hK.out _ _ (by simpa [STX, Act.put, Array.getElem?_setIfInBounds] using hS) (fun d h => h) (fun d hd => ?_)
       obtain rfl := Option.some.inj hd
       exact rfl
      ·have e3 : a.tmps[3]?.getD undef = .int .i64 room := hfr 3 (by kernel_rfl)
       go_simp
       refine hK.out _ _ (by simpa [STX, Act.put, Array.getElem?_setIfInBounds] using hS) (fun d h => h) (fun d hd => ?_)
       obtain rfl := Option.some.inj hd
       exact rfl
      ·have e11 : a.tmps[11]?.getD undef = .pointer (some ⟨W1.heap.size, 0, none⟩) := hfr 11 (by kernel_rfl)
       go_simp
       refine hK.out _ _ (by simpa [STX, Act.put, Array.getElem?_setIfInBounds] using hS) (fun d h => h) (fun d hd => ?_)
       obtain rfl := Option.some.inj hd
       exact rfl
      ·have e50 : a.tmps[50]?.getD undef = .pointer (some ⟨W1.heap.size, 2, none⟩) := hV 50 (by kernel_rfl)
       have r2 := hS.2.1.keepC r2 (by simp; omega)
       have zr2 := blk r2
       go_simp
       refine hK.out _ _ (by simpa [STX, Act.put, Array.getElem?_setIfInBounds] using hS) (fun d h => h) (fun d hd => ?_)
       obtain rfl := Option.some.inj hd
       exact rfl
      ·have e51 : a.tmps[51]?.getD undef = .slice (some ⟨bx, ox, none⟩) x2.length kx2 := hV 51 (by kernel_rfl)
       go_simp
       refine hK.out _ _ (by simpa [STX, Act.put, Array.getElem?_setIfInBounds] using hS) (fun d h => h) (fun d hd => ?_)
       obtain rfl := Option.some.inj hd
       exact rfl
      ·have e52 : a.tmps[52]?.getD undef = .int .i64 (x2.length : Int) := hV 52 (by kernel_rfl)
       have hCL := Lib.hid (l1Max_any 1 (x2.length : Int) w')
       go_simp
       refine hCL.out.mono ?_
       rintro e u ⟨rfl, rfl⟩
       refine hK.out _ _ (by simpa [STX, Act.put, Array.getElem?_setIfInBounds] using hS) (fun d h => h) (fun d hd => ?_)
       obtain rfl := Option.some.inj hd
       exact (by show Value.int .i64 _ = _; rw [HL.out])
      ·have e49 : a.tmps[49]?.getD undef = .int .i64 room := hV 49 (by kernel_rfl)
       have e53 : a.tmps[53]?.getD undef = .int .i64 L := hV 53 (by kernel_rfl)
       go_simp
       refine hK.out _ _ (by simpa [STX, Act.put, Array.getElem?_setIfInBounds] using hS) (fun d h => h) (fun d hd => ?_)
       obtain rfl := Option.some.inj hd
       exact rfl
      ·have e54 : a.tmps[54]?.getD undef = .int .i64 (room.tdiv L) := hV 54 (by kernel_rfl)
       go_simp
       refine hK.out _ _ (by simpa [STX, Act.put, Array.getElem?_setIfInBounds] using hS) (fun d h => h) (fun d hd => ?_)
       obtain rfl := Option.some.inj hd
       exact rfl
      ·have e13 : a.tmps[13]?.getD undef = .int .i64 (id + 1 + ((ts.map List.length).sum : Nat)) := hfr 13 (by kernel_rfl)
       go_simp
       refine hK.out _ _ (by simpa [STX, Act.put, Array.getElem?_setIfInBounds] using hS) (fun d h => h) (fun d hd => ?_)
       obtain rfl := Option.some.inj hd
       exact rfl
      ·have e42 : a.tmps[42]?.getD undef = .pointer (some ⟨b, 0, none⟩) := hV 42 (by kernel_rfl)
       have e43 : a.tmps[43]?.getD undef = .agg #[.slice ag0 g0.length kg0, .slice ag1 g1.length kg1] := hV 43 (by kernel_rfl)
       have e48 : a.tmps[48]?.getD undef = .string nk := hV 48 (by kernel_rfl)
       have e55 : a.tmps[55]?.getD undef = .int .i64 (room.tdiv L - 1) := hV 55 (by kernel_rfl)
       have e56 : a.tmps[56]?.getD undef = .int .i64 (id + 1 + ((ts.map List.length).sum : Nat)) := hV 56 (by kernel_rfl)
       obtain rfl := hf (.inr (by kernel_rfl))
       have hCL := Lib.hid (HIH.out fg _ (g0, g1) nk (room.tdiv L - 1) (id + 1 + ((ts.map List.length).sum : Nat)) w' hS.1 (Rd.wr HRG6.out hS.2.1 (fun c hc hm => hbg (List.mem_singleton.1 hm ▸ hc))) hbg HOK.out HIN.out HIR.out HII.out)
       go_simp
       refine hCL.out.mono ?_
       rintro e u ⟨vv, F, ns, rfl, hoT, hfT, -, hlT, hcT, hwT⟩
       obtain ⟨av, cv, rfl⟩ := hoT.form
       have hs9 := hS.2.1.size
       obtain ⟨h91, h92, h93, h94, h95⟩ := ST.wr hS hbl6 hcT hwT hDz
       refine hK.out _ _ ⟨h91, h92, ?_, fun _ _ => ⟨av, cv, F, ns, ?_, hoT.lower hs9, hfT, Nat.le_trans hlT HKL.out, ?_⟩, ?_⟩ (fun d h => h) (fun d hd => ?_)
       ·simpa [Act.put, Array.getElem?_setIfInBounds] using h93
       ·rw [← eval_tmp]; exact eval_put_self (by rw [HSZ.out]; exact of_decide_eq_true rfl)
       ·intro hq gn o hg hm
        obtain ⟨g2, k1, k2, k3⟩ := hS.2.2.1 hDz (by simpa using hq)
        have k4 : a.tmps[16]?.getD undef = .pointer (some ⟨gn, o, none⟩) := by simpa [Act.put, Array.getElem?_setIfInBounds] using hg
        rw [k1] at k4
        cases k4
        have := k3.lt
        have := hoT.ge _ hm
        omega
       ·simpa [Act.put, Array.getElem?_setIfInBounds] using h95
       ·obtain rfl := Option.some.inj hd
        exact trivial
      ·obtain rfl := hf (.inr (by kernel_rfl))
       go_simp
       have hga := (Gr.alloc (Gr.refl w') (.cells #[.slice none 0 0] 38))
       refine hK.out _ _ ⟨hS.1.gr hga, hS.2.1.gr hga, fun _ _ => ⟨_, ?_, hS.2.1.size, VRow.new rfl⟩, fun _ hp => ?_, fun hz => ?_⟩ (fun d h => h) (fun d hd => ?_)
       ·rw [← eval_tmp]; exact eval_put_self (by rw [HSZ.out]; exact of_decide_eq_true rfl)
       ·obtain ⟨av, cv, F, ns, e1, e2, e3, e4, e5⟩ := hS.2.2.2.1 hDz (by simpa using hp)
        refine ⟨av, cv, F, ns, by simpa [Act.put, Array.getElem?_setIfInBounds] using e1, e2.gr hga, e3, e4, fun _ gn o hg => ?_⟩
        rw [← eval_tmp, eval_put_self (by rw [HSZ.out]; exact of_decide_eq_true rfl)] at hg
        cases hg
        intro hm
        have := e2.lt _ hm
        omega
       ·exfalso
        have : D 17 = true := by simpa using hz
        rw [hDz] at this; cases this
       ·obtain rfl := Option.some.inj hd
        exact trivial
      ·obtain rfl := hf (.inl rfl)
       obtain ⟨av, cv, F, ns, e57, e2, e3, e4, e5⟩ := hS.2.2.2.1 hDz (hdone 15 (by kernel_rfl))
       obtain ⟨gn, m1, m2, m3⟩ := hS.2.2.1 hDz (hdone 16 (by kernel_rfl))
       have hne := e5 (hdone 16 (by kernel_rfl)) gn 0 m1
       have c0 := m3.cell (k := 0) (by simp)
       have f0 := m3.frozen 0
       have zg := blk c0
       have HGV := Lib.hid m3
       have HE2 := Lib.hid e2
       have JC := Lib.hid hS.1
       have JW := Lib.hid hS.2.1
       clear hS m3 e2 e5
       go_simp
       have wU := Wr.put1 w' gn (.slice av ns.length cv)
       refine hK.out undef _ ⟨JC.out.wr wU (fun x hx => by rw [List.mem_singleton.1 hx]; omega), JW.out.more2 wU (fun x hx => .inr (by rw [List.mem_singleton.1 hx]; omega)), (fun h => by cases h), (fun h => by cases h), fun _ => ⟨gn, av, cv, F, ns, m1, VRow.put1 HGV.out _, HE2.out.wr wU (fun x hx hm => hne (List.mem_singleton.1 hm ▸ hx)), e3, e4, m2, hne⟩⟩ (fun d h => h) (fun d hd => by cases hd)
     ·intro D t W7 hall hlay hS7 hV
      obtain ⟨gn, av, cv, F, ns, m1, m2, m3, m4, m5, m6, m7⟩ := hS7.2.2.2.2 (hall 17 (of_decide_eq_true rfl))
      rw [hlay 16 (by kernel_rfl)] at m1
      simp only [layI, List.foldl_cons, List.foldl_nil, Act.put, List.setIfInBounds_toArray, List.set_cons_zero, List.set_cons_succ, m1]
      have hw67 := hS7.2.1
      have hz67 := hw67.size
      have HC7 := Lib.hid hS7.1
      have HW67 := Lib.hid hw67
      have HT7 := Lib.hid m3
      have HTN := Lib.hid (And.intro m4 m5)
      have hML : ns.length ≤ 1000000 := by have := hid.2; have := HKK.out; omega
      obtain ⟨fq, hsl, hfr, -⟩ := m3.read (by unfold reachLen; omega) (fun x hx => by have := (m4.1 x hx).2.2.2.1; unfold reachLen; omega)
      have HSL := Lib.hid hsl
      have HFQ := Lib.hid (show ∀ c ∈ fq, W6.heap.size ≤ c from fun c hc => hfr.2 c hc)
      have c0 := m2.cell (k := 0) (by simp)
      have zc0 := blk c0
      have HO7 := Lib.hid (HO6.out.wr hw67 (fun c hc hm => by have h1 := HFF.out c hc; have h2 := List.mem_singleton.1 hm; omega) (fun c hc hm => by have h1 := (HO6.out.base c hc).1; have h2 := List.mem_singleton.1 hm; omega))
      have HEW := Lib.hid (show Gr E W7 from hEg.wr ((HWZ.out.trans HW6.out).trans hw67) (fun c _ => by omega))
      have HAP := Lib.hid (show ∀ c, (Value.slice ra k rc).ownBlock = some c → c ∉ [fq].flatten from fun c hc hm => by
       have h1 := (HO6.out.base c hc).2
       have h2 := HFQ.out c (by simpa using hm)
       omega)
      have HOB := Lib.hid (show ∀ c ∈ (Value.slice ra k rc).ownBlock.toList, W3.heap.size ≤ c from fun c hc => (HO6.out.base c (by simpa using hc)).1)
      have HW7 := Lib.hid (HW6.out.trans hw67)
      have iwx : IntKind.i64.wrap (id + 1 + ((ts.map List.length).sum : Nat) + (ns.length : Int)) = id + 1 + ((ts.map List.length).sum : Nat) + (ns.length : Int) := IntWalk.i64_in _ (by have := HII.out; omega)
      clear m2 m3 m4 m7 hsl hfr hw67 hS7 hV hlay hall y0 y1 zy0 r2 zr2 cx
      go_wp2_with (first | (at_builtin; refine wpList_append_RB (α := GTree) (wg := E) (w0 := W3) (HEW.out.trans gd) (by omega) (by simp; omega) rfl _ _ 118 rfl 38 iT (.agg #[.slice none 0 0]) 24 Try.underlying118 HZ.out.1 HZ.out.2.1 HZ.out.2.2.1 HZ.out.2.2.2 rfl _ fps ts (by rfl) (HO7.out.gr gd) _ [fq] [ns] (by rfl) (SrcR.one (by simp) ⟨_, rfl, HSL.out.gr gd⟩) HAP.out (by unfold maxLen; simp; omega) (by simp; omega) ?_; intro v8 w8 h1 h2 h3 h4; obtain ⟨va8, vc8, hv8⟩ := h1.form; rw [show (ts ++ [ns]).length = k + 1 from by simp [htl]] at hv8; subst hv8; have K1 := Lib.hid h1; have K2 := Lib.hid ((Gr.toWr (show Gr W7 _ from gd) _).trans h2); clear h1 h2 h3 h4))
      refine ⟨⟨k + 1, by omega, ⟨fps ++ [fq], ts ++ [ns], K1.out, fun c hc => ?_, by simp [htl], fun u hu => ?_, ?_, HC7.out.wr K2.out (fun x hx => by have := HOB.out x hx; omega), HW7.out.more2 K2.out (fun x hx => .inr (HOB.out x hx))⟩, by go_num⟩, by simp [intOf]; omega⟩
      ·rw [List.flatten_append] at hc
       rcases List.mem_append.1 hc with h | h
       ·exact HFF.out c h
       ·have := HFQ.out c (by simpa using h); omega
      ·rcases List.mem_append.1 hu with h | h
       ·exact HTF.out u h
       ·rw [List.mem_singleton.1 h]; exact HTN.out
      ·rw [List.map_append, List.sum_append]
       simp only [List.map_cons, List.map_nil, List.sum_cons, List.sum_nil, Nat.add_zero]
       push_cast
       rw [Int.add_assoc]
    ·have k1 : ¬ (k : Int) < (x2.length : Int) := by omega
     have VN6 := Lib.hid (VNZ.out.wr HW6.out (by simp; omega))
     have VT6 := Lib.hid (VTZ.out.wr HW6.out (by simp; omega))
     have n0 := VN6.out.cell (k := 0) (by simp)
     have n1 := VN6.out.cell (k := 1) (by simp)
     have n2 := VN6.out.cell (k := 2) (by simp)
     have n3 := VN6.out.cell (k := 3) (by simp)
     have n4 := VN6.out.cell (k := 4) (by simp)
     have n5 := VN6.out.cell (k := 5) (by simp)
     have zn0 := blk n0
     obtain ⟨fk, hsk, hfk⟩ := HO6.out.slR (by unfold reachLen; omega)
     have HSK := Lib.hid hsk
     have hsum := sum_le HTF.out
     have hkM : k * M ≤ x2.length * M := Nat.mul_le_mul_right _ hk
     have hsum2 : (ts.map List.length).sum ≤ k * M := by rw [htl] at hsum; exact hsum
     have hsb : 1 + (ts.map List.length).sum ≤ KK room (hh (g0, g1) sym).toNat := by omega
     obtain ⟨jf, jl⟩ := joN_fine (r := (id, 0, 0, 0, x0, [])) (fun t ht => (HTF.out t ht).1) (by omega) hx68
     have HJF := Lib.hid (And.intro jf jl)
     have HSM := Lib.hid (TreeFine.small (fun t ht => (HTF.out t ht).1) (by omega) (by have := hid.2; omega))
     have HRN := Lib.hid (rdNode_mk (w := W6) id 0 0 0 x0 [] (wf_small (by omega) (by have := hid.2; omega)) (by decide) (by decide) (by decide) (by unfold maxLen; omega) (SlR.nil W6))
     have HSB := Lib.hid hsb
     clear hsk hsum hkM hsum2 hsb jf jl
     go_wp2_with fail
     refine (l13Join_any (id, 0, 0, 0, x0, []) ts W6 HRN.out HSK.out HSM.out).mono ?_
     rintro e W8 ⟨v, F, rfl, hoT, hg8⟩
     have hz68 := hg8.size
     obtain ⟨av, cv, rfl⟩ := hoT.form
     have VT8 := Lib.hid (VT6.out.gr hg8)
     have t0 := VT8.out.cell (k := 0) (by simp)
     have ft0 := VT8.out.frozen 0
     have zt0 := blk t0
     have HO8 := Lib.hid hoT
     have HC8 := Lib.hid (HC6.out.gr hg8)
     have HW8 := Lib.hid ((HWZ.out.trans HW6.out).gr hg8)
     clear hoT hg8
     obtain ⟨NS, hNS⟩ : ∃ NS, NS = joN (id, 0, 0, 0, x0, []) ts := ⟨_, rfl⟩
     rw [← hNS] at HO8 HJF
     rw [← hNS]
     clear hNS
     have hw86 : w.heap.size + 2 ≤ W6.heap.size := by omega
     go_wp2_with fail
     have wU := Wr.put1 W8 (w.heap.size + 1) (.slice av NS.length cv)
     have vU := VRow.put1 VT8.out (.slice av NS.length cv)
     generalize W8.setCell ⟨w.heap.size + 1, 0, none⟩ (.slice av NS.length cv) = U8 at wU vU ⊢
     have r0 := vU.cell (k := 0) (by simp)
     exact bodyPost_ret (v := .agg #[.slice av NS.length cv]) (by simp [results, Try.results97, go_sem, r0]) rfl ⟨_, F, NS, rfl, (HO8.out.lower (by omega)).wr wU (fun x hx hm => by have := HO8.out.ge x hx; have := List.mem_singleton.1 hm; omega), HJF.out.1, by rw [HJF.out.2]; omega, by rw [HJF.out.2]; exact HSB.out, HC8.out.wr wU (fun x hx => by rw [List.mem_singleton.1 hx]; omega), HW8.out.more2 wU (fun x hx => .inr (by rw [List.mem_singleton.1 hx]; omega))⟩
end Go.Proofs.Ytmfcagcanhmdbaa
