/- A symbol drawn, of plain types. A region that draws its order, by what is known of each operation's value; what is known of all may name the act and the operations done. No condition. -/
import Derived.Test.YtmfcagcanhmdbaaH25
import Derived.Test.YtmfcagcanhmdbaaH29
import Derived.Deep.DeepCutAuto
import Derived.Test.YtmfcagcanhmdbaaH24
import Derived.Test.YtmfcagcanhmdbaaH09
namespace Go.Proofs.Ytmfcagcanhmdbaa
open Go.RowKit
set_option linter.unusedVariables false
set_option linter.unusedSimpArgs false

def AttOK (a : GAttribute) : Prop := a.1.size ≤ 64 ∧ 0 ≤ a.2.1 ∧ a.2.1 ≤ 4
def SymAt (b : Nat) (name : ByteArray) (w : World) (e : Ending) (w' : World) : Prop :=
 ∃ (v : Value) (fq : List Nat) (s : List GAttribute), e = .returned (.agg #[.string name, v]) ∧ SlR fq w' v s ∧ s.length ≤ 4 ∧ (∀ a ∈ s, AttOK a) ∧ (∀ c ∈ fq, w.heap.size ≤ c) ∧ CurR w' b ∧ Wr [b] w w'

def AttIn (b : Nat) (w : World) (gr gs : Nat) (name : ByteArray) (k : Nat) (wr : World) : Prop :=
 ∃ (v : Value) (fps : List (List Nat)) (xs : List GAttribute), OwnR (α := GAttribute) w 145 wr v fps xs ∧ fps.flatten = [] ∧ xs.length = k ∧ (∀ a ∈ xs, AttOK a) ∧ VRow wr gr 133 [.string ⟨#[]⟩, .slice none 0 0] ∧ VRow wr gs 133 [.string name, v] ∧ (∀ c ∈ v.ownBlock.toList, c ≠ gr ∧ c ≠ gs) ∧ CurR wr b ∧ Wr [b] w wr

def AttV (b k : Nat) (W : World) (f : Bool) (d : Nat) (v : Value) (wx : World) : Prop :=
 match d with
 | 23 => f = false → ∃ g, v = .slice (some ⟨g, 0, none⟩) 4 4 ∧ W.heap.size ≤ g ∧ VRow wx g 9 [.string ⟨#[97]⟩, .string ⟨#[98]⟩, .string ⟨#[99]⟩, .string ⟨#[100]⟩]
 | 24 => v = .int .i64 (k : Int)
 | 25 => f = false → ∃ g, v = .pointer (some ⟨g, k, none⟩) ∧ W.heap.size ≤ g ∧ VRow wx g 9 [.string ⟨#[97]⟩, .string ⟨#[98]⟩, .string ⟨#[99]⟩, .string ⟨#[100]⟩]
 | 26 => ∃ q, v = .string q ∧ q.size ≤ 64
 | 27 => v = .pointer (some ⟨b, 0, none⟩)
 | 28 => f = false → ∃ g, v = .slice (some ⟨g, 0, none⟩) 6 6 ∧ W.heap.size ≤ g ∧ VRow wx g 3 ([1, 1, 2, 2, 3, 4].map (Value.int .i64))
 | 29 => ∃ q, v = .int .i64 q ∧ 0 ≤ q ∧ q ≤ 4
 | 30 => v = .pointer (some ⟨b, 0, none⟩)
 | 31 => f = false → ∃ g, v = .slice (some ⟨g, 0, none⟩) 6 6 ∧ W.heap.size ≤ g ∧ VRow wx g 3 ([1, 2, 2, 1, 2, 3].map (Value.int .i64))
 | 32 => ∃ q, v = .int .i64 q ∧ 0 ≤ q ∧ q ≤ 3
 | 33 => ∃ q0 q1 q2, v = .agg #[.string q0, .int .i64 q1, .int .i64 q2, .bool false] ∧ q0.size ≤ 64 ∧ 0 ≤ q1 ∧ q1 ≤ 4 ∧ 0 ≤ q2 ∧ q2 ≤ 3
 | 12 => ∃ g, v = .pointer (some ⟨g, 0, none⟩) ∧ W.heap.size ≤ g ∧ ∃ q0 q1 q2, VRow wx g 145 [.string q0, .int .i64 q1, .int .i64 q2, .bool false] ∧ q0.size ≤ 64 ∧ 0 ≤ q1 ∧ q1 ≤ 4 ∧ 0 ≤ q2 ∧ q2 ≤ 3
 | _ => True
def AttS (b : Nat) (W : World) (_ : Bool) (wx : World) : Prop := CurR wx b ∧ Wr [b] W wx
theorem AttV.keep {b k : Nat} {W wx wy : World} {f : Bool} {d : Nat} {v : Value} (h : AttV b k W f d v wx) (hw : Wr [b] wx wy) (hb : b < W.heap.size) : AttV b k W f d v wy := by
 have mv : ∀ {g : Nat} {t : TypeId} {vs : List Value}, W.heap.size ≤ g → VRow wx g t vs → VRow wy g t vs := fun hg hv => hv.wr hw (by simp; omega)
 unfold AttV at h ⊢
 split at h
 ·exact fun hf => by obtain ⟨g, e, h1, h2⟩ := h hf; exact ⟨g, e, h1, mv h1 h2⟩
 ·exact h
 ·exact fun hf => by obtain ⟨g, e, h1, h2⟩ := h hf; exact ⟨g, e, h1, mv h1 h2⟩
 ·exact h
 ·exact h
 ·exact fun hf => by obtain ⟨g, e, h1, h2⟩ := h hf; exact ⟨g, e, h1, mv h1 h2⟩
 ·exact h
 ·exact h
 ·exact fun hf => by obtain ⟨g, e, h1, h2⟩ := h hf; exact ⟨g, e, h1, mv h1 h2⟩
 ·exact h
 ·exact h
 ·obtain ⟨g, e, h1, q0, q1, q2, h2, h3⟩ := h; exact ⟨g, e, h1, q0, q1, q2, mv h1 h2, h3⟩
 ·trivial

set_option maxRecDepth 100000 in
set_option maxHeartbeats 8000000 in
theorem l8Draw_any (b : Nat) (name : ByteArray) (first : Bool) (w : World) (h : CurR w b) :
  Calls Try.prog 93 #[.pointer (some ⟨b, 0, none⟩), .string name, .bool first, .bool true] w (SymAt b name w) := by
 obtain ⟨i0, hi, hz0, hz1, hz2⟩ := info_parts Try.infoAttrC
 have HZ := Lib.hid (And.intro hi (And.intro hz0 (And.intro hz1 hz2)))
 clear hi hz0 hz1 hz2
 obtain ⟨E, hE0, hEg⟩ : ∃ E : World, E.heap.size = 0 ∧ Gr E w := ⟨w.first 0, size_first (by omega), gr_first (by omega)⟩
 have HC0 := Lib.hid h
 have hbl := h.lt
 clear h
 go_enter Try.func93, Try.ntmps93
 go_wp2_with fail
 refine (l1Below_any b 4 _ (HC0.out.gr gd) (by omega) (by omega)).mono ?_
 rintro e W5 ⟨x5, rfl, hx0, hx1, hc5, hw5⟩
 have hs5 := hw5.size
 simp at hs5
 have vr5 : VRow W5 w.heap.size 133 [.string ⟨#[]⟩, .slice none 0 0] := (((VRow.new (A := w) rfl).gr gd).wr hw5 (by simp; omega))
 have vs5 : VRow W5 (w.heap.size + 1) 133 [.string name, .slice none 0 0] := ((VRow.new (A := w.alloc (.cells #[.string ⟨#[]⟩, .slice none 0 0] 133)) (by simp)).wr hw5 (by simp; omega))
 have HW5 := Lib.hid (((Gr.alloc (Gr.refl w) _).alloc _).toWr [b] |>.trans hw5)
 have HVR5 := Lib.hid vr5
 have HVS5 := Lib.hid vs5
 have HC5 := Lib.hid hc5
 clear hw5 vr5 vs5 hc5
 obtain ⟨n, rfl⟩ : ∃ n : Nat, x5 = n := ⟨x5.toNat, by omega⟩
 have iwn : IntKind.i64.wrap (1 + (n : Int)) = 1 + (n : Int) := IntWalk.i64_in _ (by omega)
 go_wp2_with fail
 go_loopw [11] (fun s11 wr => ∃ k : Nat, k ≤ n + 1 ∧ AttIn b w w.heap.size (w.heap.size + 1) name k wr ∧ s11 = .int .i64 k) (fun s11 _ => n + 1 - (intOf s11).toNat)
 case atStart => exact ⟨0, by omega, ⟨_, [], [], OwnR.nil _ _ _, rfl, rfl, by simp, HVR5.out, HVS5.out, by simp [Value.ownBlock], HC5.out, HW5.out⟩, rfl⟩
 case round =>
  obtain ⟨k, hk, ⟨v, fps, xs, hown, hf, hxl, hxn, hvr, hvs, hvb, hc, hw⟩, rfl⟩ := hrel
  rename World => W1
  obtain ⟨va, vc, hform⟩ := hown.form
  rw [hxl] at hform
  subst hform
  have HO := Lib.hid hown
  have HF := Lib.hid hf
  have HXN := Lib.hid hxn
  have HVR := Lib.hid hvr
  have HVS := Lib.hid hvs
  have HVB := Lib.hid hvb
  have HC := Lib.hid hc
  have HW := Lib.hid hw
  have hs1 := hw.size
  have hbl1 := hc.lt
  have hgs1 := hvs.lt
  clear hown hf hxn hvr hvs hvb hc hw
  by_cases hlt : k < n + 1
  ·have k0 : (0 : Int) ≤ (k : Int) := by omega
   have k1 : (k : Int) < 1 + (n : Int) := by omega
   have k4 : (k : Int) < 4 := by omega
   have iwk : IntKind.i64.wrap ((k : Int) + 1) = (k : Int) + 1 := IntWalk.i64_in _ (by omega)
   go_upto_region 6 with fail
   refine wp_region_I (AttS b W1) (AttV b k W1) 12 [23, 24, 25, 26, 27, 28, 29, 30, 31, 32, 33, 12] (by kernel_rfl) (by kernel_rfl) (by kernel_rfl) ⟨HC.out.gr (Gr.drew (Gr.refl _)), (Gr.drew (Gr.refl W1)).toWr [b]⟩ ?_ ?_
   ·refine ⟨?_, ?_, ?_, ?_, ?_, ?_, ?_, ?_, ?_, ?_, ?_, ?_, ?_, trivial⟩
    all_goals intro f a w' hf hS hfr hV K hK
    ·obtain rfl := hf (.inr (by kernel_rfl))
     go_simp
     refine hK.out _ _ ⟨hS.1.gr (Gr.alloc (Gr.refl w') _), hS.2.gr (Gr.alloc (Gr.refl w') _)⟩ (fun d h => h.keep ((Gr.alloc (Gr.refl w') _).toWr [b]) hbl1) (fun d hd => ?_)
     obtain rfl := Option.some.inj hd
     exact fun _ => ⟨_, rfl, hS.2.size, VRow.new rfl⟩
    ·obtain rfl := hf (.inr (by kernel_rfl))
     have e11 : a.tmps[11]?.getD undef = .int .i64 (k : Int) := hfr 11 (by kernel_rfl)
     go_simp
     refine hK.out _ _ hS (fun d h => h.keep (Wr.refl [b] w') hbl1) (fun d hd => ?_)
     obtain rfl := Option.some.inj hd
     exact rfl
    ·obtain rfl := hf (.inr (by kernel_rfl))
     obtain ⟨g, hg, hgw, hgv⟩ := hV 23 (by kernel_rfl) rfl
     have h24 : a.tmps[24]?.getD undef = .int .i64 (k : Int) := hV 24 (by kernel_rfl)
     go_simp
     refine hK.out _ _ hS (fun d h => h.keep (Wr.refl [b] w') hbl1) (fun d hd => ?_)
     obtain rfl := Option.some.inj hd
     exact fun _ => ⟨g, rfl, hgw, hgv⟩
    ·obtain rfl := hf (.inr (by kernel_rfl))
     obtain ⟨g, hg, hgw, hgv⟩ := hV 25 (by kernel_rfl) rfl
     obtain ⟨q, hq, hcell⟩ : ∃ q : ByteArray, q.size ≤ 64 ∧ w'.cell? ⟨g, k, none⟩ = some (.string q) := by
      rcases (show k = 0 ∨ k = 1 ∨ k = 2 ∨ k = 3 by omega) with rfl | rfl | rfl | rfl
      ·exact ⟨_, by decide, hgv.cell (k := 0) (by simp)⟩
      ·exact ⟨_, by decide, hgv.cell (k := 1) (by simp)⟩
      ·exact ⟨_, by decide, hgv.cell (k := 2) (by simp)⟩
      ·exact ⟨_, by decide, hgv.cell (k := 3) (by simp)⟩
     go_simp
     refine hK.out _ _ hS (fun d h => h.keep (Wr.refl [b] w') hbl1) (fun d hd => ?_)
     obtain rfl := Option.some.inj hd
     exact ⟨q, rfl, hq⟩
    ·obtain rfl := hf (.inr (by kernel_rfl))
     have e0 : a.tmps[0]?.getD undef = .pointer (some ⟨b, 0, none⟩) := hfr 0 (by kernel_rfl)
     go_simp
     refine hK.out _ _ hS (fun d h => h.keep (Wr.refl [b] w') hbl1) (fun d hd => ?_)
     obtain rfl := Option.some.inj hd
     exact rfl
    ·obtain rfl := hf (.inr (by kernel_rfl))
     go_simp
     refine hK.out _ _ ⟨hS.1.gr (Gr.alloc (Gr.refl w') _), hS.2.gr (Gr.alloc (Gr.refl w') _)⟩ (fun d h => h.keep ((Gr.alloc (Gr.refl w') _).toWr [b]) hbl1) (fun d hd => ?_)
     obtain rfl := Option.some.inj hd
     exact fun _ => ⟨_, rfl, hS.2.size, VRow.new rfl⟩
    ·obtain rfl := hf (.inr (by kernel_rfl))
     have h27 : a.tmps[27]?.getD undef = .pointer (some ⟨b, 0, none⟩) := hV 27 (by kernel_rfl)
     obtain ⟨g, hg, hgw, hgv⟩ := hV 28 (by kernel_rfl) rfl
     obtain ⟨fq, hsl, hfq⟩ := DRow.slR (rest := []) (w := w') (b := g) (xs := [1, 1, 2, 2, 3, 4]) (by unfold DRow; rw [List.append_nil]; exact hgv) (by decide) (by decide) (cap := 6) (by decide)
     have hbq : b ∉ fq := fun hm => by have := hfq b hm; omega
     have hCL := Lib.hid (l1PickInt_any b fq _ [1, 1, 2, 2, 3, 4] w' hS.1 hsl hbq (by decide) (by decide))
     clear hsl
     go_simp
     refine hCL.out.mono ?_
     rintro e u ⟨q, hq, rfl, hc, hwu⟩
     refine hK.out _ u ⟨hc, hS.2.trans hwu⟩ (fun d h => h.keep hwu hbl1) (fun d hd => ?_)
     obtain rfl := Option.some.inj hd
     exact ⟨q, rfl, by simp at hq; omega⟩
    ·obtain rfl := hf (.inr (by kernel_rfl))
     have e0 : a.tmps[0]?.getD undef = .pointer (some ⟨b, 0, none⟩) := hfr 0 (by kernel_rfl)
     go_simp
     refine hK.out _ _ hS (fun d h => h.keep (Wr.refl [b] w') hbl1) (fun d hd => ?_)
     obtain rfl := Option.some.inj hd
     exact rfl
    ·obtain rfl := hf (.inr (by kernel_rfl))
     go_simp
     refine hK.out _ _ ⟨hS.1.gr (Gr.alloc (Gr.refl w') _), hS.2.gr (Gr.alloc (Gr.refl w') _)⟩ (fun d h => h.keep ((Gr.alloc (Gr.refl w') _).toWr [b]) hbl1) (fun d hd => ?_)
     obtain rfl := Option.some.inj hd
     exact fun _ => ⟨_, rfl, hS.2.size, VRow.new rfl⟩
    ·obtain rfl := hf (.inr (by kernel_rfl))
     have h30 : a.tmps[30]?.getD undef = .pointer (some ⟨b, 0, none⟩) := hV 30 (by kernel_rfl)
     obtain ⟨g, hg, hgw, hgv⟩ := hV 31 (by kernel_rfl) rfl
     obtain ⟨fq, hsl, hfq⟩ := DRow.slR (rest := []) (w := w') (b := g) (xs := [1, 2, 2, 1, 2, 3]) (by unfold DRow; rw [List.append_nil]; exact hgv) (by decide) (by decide) (cap := 6) (by decide)
     have hbq : b ∉ fq := fun hm => by have := hfq b hm; omega
     have hCL := Lib.hid (l1PickInt_any b fq _ [1, 2, 2, 1, 2, 3] w' hS.1 hsl hbq (by decide) (by decide))
     clear hsl
     go_simp
     refine hCL.out.mono ?_
     rintro e u ⟨q, hq, rfl, hc, hwu⟩
     refine hK.out _ u ⟨hc, hS.2.trans hwu⟩ (fun d h => h.keep hwu hbl1) (fun d hd => ?_)
     obtain rfl := Option.some.inj hd
     exact ⟨q, rfl, by simp at hq; omega⟩
    ·obtain rfl := hf (.inr (by kernel_rfl))
     obtain ⟨q0, h26, hq0⟩ := hV 26 (by kernel_rfl)
     obtain ⟨q1, h29, hq1, hq1'⟩ := hV 29 (by kernel_rfl)
     obtain ⟨q2, h32, hq2, hq2'⟩ := hV 32 (by kernel_rfl)
     go_simp
     refine hK.out _ _ hS (fun d h => h.keep (Wr.refl [b] w') hbl1) (fun d hd => ?_)
     obtain rfl := Option.some.inj hd
     exact ⟨q0, q1, q2, rfl, hq0, hq1, hq1', hq2, hq2'⟩
    ·obtain rfl := hf (.inr (by kernel_rfl))
     go_simp
     refine hK.out _ _ ⟨hS.1.gr (Gr.alloc (Gr.refl w') _), hS.2.gr (Gr.alloc (Gr.refl w') _)⟩ (fun d h => h.keep ((Gr.alloc (Gr.refl w') _).toWr [b]) hbl1) (fun d hd => ?_)
     obtain rfl := Option.some.inj hd
     exact ⟨_, rfl, hS.2.size, _, _, _, VRow.new rfl, by decide, by decide, by decide, by decide, by decide⟩
    ·obtain rfl := hf (.inl rfl)
     obtain ⟨g, h12, hgw, z0, z1, z2, hgv, -, -, -, -, -⟩ := hV 12 (by kernel_rfl)
     obtain ⟨q0, q1, q2, h33, hqs⟩ := hV 33 (by kernel_rfl)
     have c0 := hgv.cell (k := 0) (by simp)
     have c1 := hgv.cell (k := 1) (by simp)
     have c2 := hgv.cell (k := 2) (by simp)
     have c3 := hgv.cell (k := 3) (by simp)
     have f0 := hgv.frozen 0
     have f1 := hgv.frozen 1
     have f2 := hgv.frozen 2
     have f3 := hgv.frozen 3
     have zg := blk c0
     have HGV := Lib.hid hgv
     have HS := Lib.hid hS
     clear hgv hS
     go_simp
     generalize hU : (((w'.setCell ⟨g, 0, none⟩ (.string q0)).setCell ⟨g, 1, none⟩ (.int .i64 q1)).setCell ⟨g, 2, none⟩ (.int .i64 q2)).setCell ⟨g, 3, none⟩ (.bool false) = U
     have vU : VRow U g 145 [.string q0, .int .i64 q1, .int .i64 q2, .bool false] := by rw [← hU]; exact VRow.put4 HGV.out _ _ _ _
     have wU : Wr [g] w' U := by rw [← hU]; exact Wr.put4 _ _ _ _ _ _
     clear hU
     refine hK.out undef U ⟨HS.out.1.wr wU (fun x hx => by rw [List.mem_singleton.1 hx]; omega), HS.out.2.more2 wU (fun x hx => .inr (by rw [List.mem_singleton.1 hx]; omega))⟩ (fun d h => ?_) (fun d hd => by cases hd)
     unfold AttV at h ⊢
     split at h
     ·exact fun hf => by cases hf
     ·exact h
     ·exact fun hf => by cases hf
     ·exact h
     ·exact h
     ·exact fun hf => by cases hf
     ·exact h
     ·exact h
     ·exact fun hf => by cases hf
     ·exact h
     ·exact h
     ·exact ⟨g, h12, hgw, q0, q1, q2, vU, hqs⟩
     ·trivial
   ·intro t w2 hS hV
    obtain ⟨g, hg, hgw, q0, q1, q2, hgv, hq0, hq1, hq1', hq2, hq2'⟩ := hV 12 (by kernel_rfl)
    simp only [layI, List.foldl_cons, List.foldl_nil, Act.put, List.setIfInBounds_toArray, List.set_cons_zero, List.set_cons_succ, hg]
    obtain ⟨hc2, hw2⟩ := hS
    have HGV := Lib.hid hgv
    have HQ0 := Lib.hid hq0
    have HC2 := Lib.hid hc2
    have HW2 := Lib.hid hw2
    clear hgv hq0 hc2 hw2 hV hg
    go_wp2_with fail
    have e0 := HGV.out.cell (k := 0) (by simp)
    have e1 := HGV.out.cell (k := 1) (by simp)
    have f1 := HGV.out.frozen 1
    have zg := blk e0
    obtain ⟨fq, hsl, hfq⟩ := DRow.slR (rest := []) (w := w2.alloc (.cells #[.int .i64 1, .int .i64 1, .int .i64 2, .int .i64 3] 3)) (b := w2.heap.size) (xs := [1, 1, 2, 3]) (by unfold DRow; rw [List.append_nil]; exact VRow.new rfl) (by decide) (by decide) (cap := 4) (by decide)
    have hs2 := HW2.out.size
    refine (l1PickInt_any b fq _ [1, 1, 2, 3] _ (HC2.out.gr (Gr.alloc (Gr.refl _) _)) hsl (fun hm => by have := hfq b hm; omega) (by decide) (by decide)).mono ?_
    rintro e W3 ⟨q, hq, rfl, hc3, hw3⟩
    have hgl2 := HGV.out.lt
    have hw23 := ((Gr.alloc (Gr.refl w2) _).toWr [b]).trans hw3
    have HG3 := Lib.hid (HGV.out.wr hw23 (by simp; omega))
    have HW3 := Lib.hid (HW2.out.trans hw23)
    have HC3 := Lib.hid hc3
    have hq5 : 0 ≤ q ∧ q ≤ 4 := by simp at hq; omega
    have hs3 := hw23.size
    clear hsl hfq hw3 hc3 hw23 e0 e1 f1 zg hq
    have e0 := HG3.out.cell (k := 0) (by simp)
    have e1 := HG3.out.cell (k := 1) (by simp)
    have e2 := HG3.out.cell (k := 2) (by simp)
    have e3 := HG3.out.cell (k := 3) (by simp)
    have f1 := HG3.out.frozen 1
    have f2 := HG3.out.frozen 2
    have zg := blk e0
    have HO3 := Lib.hid (HO.out.wr HW3.out (by rw [HF.out]; simp) (fun c hc hm => by have h1 := (HO.out.base c hc).1; have h2 := List.mem_singleton.1 hm; omega))
    have hvs3 := HVS.out.wr HW3.out (by simp; omega)
    have v0 := hvs3.cell (k := 0) (by simp)
    have v1 := hvs3.cell (k := 1) (by simp)
    have fv := hvs3.frozen 1
    have zv := blk v0
    clear v0 v1 fv zv hvs3 HO3
    have hvs3 := HVS.out
    have v0 := hvs3.cell (k := 0) (by simp)
    have v1 := hvs3.cell (k := 1) (by simp)
    have fv := hvs3.frozen 1
    have zv := blk v0
    cases first with
    | true =>
     by_cases h3 : q2 = 3
     ·subst h3
      go_upto_region 13 with fail
      generalize hW4 : ((W3.setCell ⟨g, 1, none⟩ (.int .i64 q)).setCell ⟨g, 2, none⟩ (.int .i64 2)) = W4
      have vg4 : VRow W4 g 145 [.string q0, .int .i64 q, .int .i64 2, .bool false] := by rw [← hW4]; exact ((VRow.set (VRow.set HG3.out 1 _) 2 _))
      have w4 : Wr [g] W3 W4 := by rw [← hW4]; exact (Wr.setCell (Wr.setCell (Wr.refl [g] W3) (List.mem_singleton.2 rfl) _) (List.mem_singleton.2 rfl) _)
      clear hW4 e0 e1 e2 e3 f1 f2 zg v0 v1 fv zv hvs3
      have e0 := vg4.cell (k := 0) (by simp)
      have e1 := vg4.cell (k := 1) (by simp)
      have e2 := vg4.cell (k := 2) (by simp)
      have e3 := vg4.cell (k := 3) (by simp)
      have zg := blk e0
      have ww4 := HW3.out.more2 w4 (fun x hx => .inr (by rw [List.mem_singleton.1 hx]; omega))
      have HO4 := Lib.hid (HO.out.wr ww4 (by rw [HF.out]; simp) (fun c hc hm => by have h1 := (HO.out.base c hc).1; have h2 := List.mem_singleton.1 hm; omega))
      have vs4 := HVS.out.wr ww4 (by simp; omega)
      have v0 := vs4.cell (k := 0) (by simp)
      have v1 := vs4.cell (k := 1) (by simp)
      have fv := vs4.frozen 1
      have zv := blk v0
      have HVS4 := Lib.hid vs4
      have HVR4 := Lib.hid (HVR.out.wr ww4 (by simp; omega))
      have HC4 := Lib.hid (HC3.out.wr w4 (fun x hx => by rw [List.mem_singleton.1 hx]; omega))
      have HW4 := Lib.hid (HW.out.trans ww4)
      have hs4 := ww4.size
      have hvn0 : w.heap.size ∉ (Value.slice va k vc).ownBlock.toList := fun hm => (HVB.out _ hm).1 rfl
      have hvn1 : w.heap.size + 1 ∉ (Value.slice va k vc).ownBlock.toList := fun hm => (HVB.out _ hm).2 rfl
      have hvnb : b ∉ (Value.slice va k vc).ownBlock.toList := fun hm => by have h1 := (HO.out.base b (by simpa using hm)).1; omega
      have HVN := Lib.hid (And.intro hvn0 (And.intro hvn1 hvnb))
      have HVW := Lib.hid (show ∀ c ∈ (Value.slice va k vc).ownBlock.toList, w.heap.size ≤ c from fun c hc => (HO.out.base c (by simpa using hc)).1)
      clear vg4 ww4 w4 vs4 hvn0 hvn1 hvnb
      go_wp2_with (first | (at_builtin; refine wpList_append_RB (α := GAttribute) (wg := E) (w0 := w) (Wr.ofNone hE0 (hEg.wr HW4.out (fun c _ => by omega)) ((Gr.alloc (Gr.refl W4) _).toWr [])) (by omega) (by simp; omega) rfl _ _ 131 rfl 145 i0 (.agg #[.string ByteArray.empty, .int .i64 0, .int .i64 0, .bool false]) 40 Try.underlying131 HZ.out.1 HZ.out.2.1 HZ.out.2.2.1 HZ.out.2.2.2 rfl _ fps xs (by rfl) (HO4.out.gr (Gr.alloc (Gr.refl _) _)) _ [[]] [(q0, q, 2, false)] (by rfl) (SrcR.one (by simp) (rdAttribute_mk q0 q 2 false (by have := HQ0.out; unfold maxLen; omega) (wf_small (by omega) (by omega)) (wf_small (by omega) (by omega)))) (fun b _ => by simp) (by unfold maxLen; simp; omega) (by simp; omega) ?_; intro v3 w3 h1 h2 h3 h4; obtain ⟨va3, vc3, hv3⟩ := h1.form; rw [show (xs ++ [((q0, q, 2, false) : GAttribute)]).length = k + 1 from by simp [hxl]] at hv3; subst hv3; have K1 := Lib.hid h1; have K2 := Lib.hid (((Gr.alloc (Gr.refl W4) _).toWr _).trans h2); have K3 := Lib.hid h3; clear h1 h2 h3 h4; have v31 := K2.out.keepC v1 HVN.out.2.1; have zv31 := blk v31; have fv31 := K2.out.frozenC fv zv HVN.out.2.1))
      have hgs4 := HVS4.out.lt
      have hvo : ∀ c ∈ (Value.slice va3 (k + 1) vc3).ownBlock.toList, w.heap.size ≤ c ∧ c ≠ w.heap.size ∧ c ≠ w.heap.size + 1 := fun c hc => by
       rcases K3.out with h | h
       ·rw [h] at hc; exact ⟨HVW.out c hc, HVB.out c hc⟩
       ·rw [h] at hc; simp at hc; omega
      have wst : Wr [w.heap.size + 1] w3 (w3.setCell ⟨w.heap.size + 1, 1, none⟩ (.slice va3 (k + 1) vc3)) := Wr.setCell (Wr.refl [w.heap.size + 1] w3) (List.mem_singleton.2 rfl) _
      refine ⟨⟨k + 1, by omega, ⟨_, fps ++ [[]], xs ++ [(q0, q, 2, false)], K1.out.wr wst (by rw [List.flatten_append, HF.out]; simp) (fun c hc hm => (hvo c (by simpa using hc)).2.2 (List.mem_singleton.1 hm)), by rw [List.flatten_append, HF.out]; simp, by simp [hxl], fun a ha => ?_, (HVR4.out.wr K2.out HVN.out.1).ne (by omega), (HVS4.out.wr K2.out HVN.out.2.1).set 1 _, fun c hc => (hvo c hc).2, (HC4.out.wr K2.out (fun x hx => by have := HVW.out x hx; omega)).wr wst (fun x hx => by rw [List.mem_singleton.1 hx]; omega), (HW4.out.more2 K2.out (fun x hx => .inr (HVW.out x hx))).more2 wst (fun x hx => .inr (by rw [List.mem_singleton.1 hx]; omega))⟩, by push_cast; rfl⟩, ?_⟩
      ·rcases List.mem_append.1 ha with h | h
       ·exact HXN.out a h
       ·rw [List.mem_singleton.1 h]; exact ⟨HQ0.out, hq5⟩
      ·simp only [intOf]; omega
     ·by_cases hq1 : q2 = 1
      ·subst hq1
       go_upto_region 13 with fail
       generalize hW4 : ((W3.setCell ⟨g, 1, none⟩ (.int .i64 q)).setCell ⟨g, 2, none⟩ (.int .i64 2)) = W4
       have vg4 : VRow W4 g 145 [.string q0, .int .i64 q, .int .i64 2, .bool false] := by rw [← hW4]; exact ((VRow.set (VRow.set HG3.out 1 _) 2 _))
       have w4 : Wr [g] W3 W4 := by rw [← hW4]; exact (Wr.setCell (Wr.setCell (Wr.refl [g] W3) (List.mem_singleton.2 rfl) _) (List.mem_singleton.2 rfl) _)
       clear hW4 e0 e1 e2 e3 f1 f2 zg v0 v1 fv zv hvs3
       have e0 := vg4.cell (k := 0) (by simp)
       have e1 := vg4.cell (k := 1) (by simp)
       have e2 := vg4.cell (k := 2) (by simp)
       have e3 := vg4.cell (k := 3) (by simp)
       have zg := blk e0
       have ww4 := HW3.out.more2 w4 (fun x hx => .inr (by rw [List.mem_singleton.1 hx]; omega))
       have HO4 := Lib.hid (HO.out.wr ww4 (by rw [HF.out]; simp) (fun c hc hm => by have h1 := (HO.out.base c hc).1; have h2 := List.mem_singleton.1 hm; omega))
       have vs4 := HVS.out.wr ww4 (by simp; omega)
       have v0 := vs4.cell (k := 0) (by simp)
       have v1 := vs4.cell (k := 1) (by simp)
       have fv := vs4.frozen 1
       have zv := blk v0
       have HVS4 := Lib.hid vs4
       have HVR4 := Lib.hid (HVR.out.wr ww4 (by simp; omega))
       have HC4 := Lib.hid (HC3.out.wr w4 (fun x hx => by rw [List.mem_singleton.1 hx]; omega))
       have HW4 := Lib.hid (HW.out.trans ww4)
       have hs4 := ww4.size
       have hvn0 : w.heap.size ∉ (Value.slice va k vc).ownBlock.toList := fun hm => (HVB.out _ hm).1 rfl
       have hvn1 : w.heap.size + 1 ∉ (Value.slice va k vc).ownBlock.toList := fun hm => (HVB.out _ hm).2 rfl
       have hvnb : b ∉ (Value.slice va k vc).ownBlock.toList := fun hm => by have h1 := (HO.out.base b (by simpa using hm)).1; omega
       have HVN := Lib.hid (And.intro hvn0 (And.intro hvn1 hvnb))
       have HVW := Lib.hid (show ∀ c ∈ (Value.slice va k vc).ownBlock.toList, w.heap.size ≤ c from fun c hc => (HO.out.base c (by simpa using hc)).1)
       clear vg4 ww4 w4 vs4 hvn0 hvn1 hvnb
       go_wp2_with (first | (at_builtin; refine wpList_append_RB (α := GAttribute) (wg := E) (w0 := w) (Wr.ofNone hE0 (hEg.wr HW4.out (fun c _ => by omega)) ((Gr.alloc (Gr.refl W4) _).toWr [])) (by omega) (by simp; omega) rfl _ _ 131 rfl 145 i0 (.agg #[.string ByteArray.empty, .int .i64 0, .int .i64 0, .bool false]) 40 Try.underlying131 HZ.out.1 HZ.out.2.1 HZ.out.2.2.1 HZ.out.2.2.2 rfl _ fps xs (by rfl) (HO4.out.gr (Gr.alloc (Gr.refl _) _)) _ [[]] [(q0, q, 2, false)] (by rfl) (SrcR.one (by simp) (rdAttribute_mk q0 q 2 false (by have := HQ0.out; unfold maxLen; omega) (wf_small (by omega) (by omega)) (wf_small (by omega) (by omega)))) (fun b _ => by simp) (by unfold maxLen; simp; omega) (by simp; omega) ?_; intro v3 w3 h1 h2 h3 h4; obtain ⟨va3, vc3, hv3⟩ := h1.form; rw [show (xs ++ [((q0, q, 2, false) : GAttribute)]).length = k + 1 from by simp [hxl]] at hv3; subst hv3; have K1 := Lib.hid h1; have K2 := Lib.hid (((Gr.alloc (Gr.refl W4) _).toWr _).trans h2); have K3 := Lib.hid h3; clear h1 h2 h3 h4; have v31 := K2.out.keepC v1 HVN.out.2.1; have zv31 := blk v31; have fv31 := K2.out.frozenC fv zv HVN.out.2.1))
       have hgs4 := HVS4.out.lt
       have hvo : ∀ c ∈ (Value.slice va3 (k + 1) vc3).ownBlock.toList, w.heap.size ≤ c ∧ c ≠ w.heap.size ∧ c ≠ w.heap.size + 1 := fun c hc => by
        rcases K3.out with h | h
        ·rw [h] at hc; exact ⟨HVW.out c hc, HVB.out c hc⟩
        ·rw [h] at hc; simp at hc; omega
       have wst : Wr [w.heap.size + 1] w3 (w3.setCell ⟨w.heap.size + 1, 1, none⟩ (.slice va3 (k + 1) vc3)) := Wr.setCell (Wr.refl [w.heap.size + 1] w3) (List.mem_singleton.2 rfl) _
       refine ⟨⟨k + 1, by omega, ⟨_, fps ++ [[]], xs ++ [(q0, q, 2, false)], K1.out.wr wst (by rw [List.flatten_append, HF.out]; simp) (fun c hc hm => (hvo c (by simpa using hc)).2.2 (List.mem_singleton.1 hm)), by rw [List.flatten_append, HF.out]; simp, by simp [hxl], fun a ha => ?_, (HVR4.out.wr K2.out HVN.out.1).ne (by omega), (HVS4.out.wr K2.out HVN.out.2.1).set 1 _, fun c hc => (hvo c hc).2, (HC4.out.wr K2.out (fun x hx => by have := HVW.out x hx; omega)).wr wst (fun x hx => by rw [List.mem_singleton.1 hx]; omega), (HW4.out.more2 K2.out (fun x hx => .inr (HVW.out x hx))).more2 wst (fun x hx => .inr (by rw [List.mem_singleton.1 hx]; omega))⟩, by push_cast; rfl⟩, ?_⟩
       ·rcases List.mem_append.1 ha with h | h
        ·exact HXN.out a h
        ·rw [List.mem_singleton.1 h]; exact ⟨HQ0.out, hq5⟩
       ·simp only [intOf]; omega
      ·have hb1 : (q2 == 1) = false := by simp [hq1]
       have hb3 : (q2 == 3) = false := by simp [h3]
       go_upto_region 13 with fail
       generalize hW4 : (W3.setCell ⟨g, 1, none⟩ (.int .i64 q)) = W4
       have vg4 : VRow W4 g 145 [.string q0, .int .i64 q, .int .i64 q2, .bool false] := by rw [← hW4]; exact ((VRow.set HG3.out 1 _))
       have w4 : Wr [g] W3 W4 := by rw [← hW4]; exact (Wr.setCell (Wr.refl [g] W3) (List.mem_singleton.2 rfl) _)
       clear hW4 e0 e1 e2 e3 f1 f2 zg v0 v1 fv zv hvs3
       have e0 := vg4.cell (k := 0) (by simp)
       have e1 := vg4.cell (k := 1) (by simp)
       have e2 := vg4.cell (k := 2) (by simp)
       have e3 := vg4.cell (k := 3) (by simp)
       have zg := blk e0
       have ww4 := HW3.out.more2 w4 (fun x hx => .inr (by rw [List.mem_singleton.1 hx]; omega))
       have HO4 := Lib.hid (HO.out.wr ww4 (by rw [HF.out]; simp) (fun c hc hm => by have h1 := (HO.out.base c hc).1; have h2 := List.mem_singleton.1 hm; omega))
       have vs4 := HVS.out.wr ww4 (by simp; omega)
       have v0 := vs4.cell (k := 0) (by simp)
       have v1 := vs4.cell (k := 1) (by simp)
       have fv := vs4.frozen 1
       have zv := blk v0
       have HVS4 := Lib.hid vs4
       have HVR4 := Lib.hid (HVR.out.wr ww4 (by simp; omega))
       have HC4 := Lib.hid (HC3.out.wr w4 (fun x hx => by rw [List.mem_singleton.1 hx]; omega))
       have HW4 := Lib.hid (HW.out.trans ww4)
       have hs4 := ww4.size
       have hvn0 : w.heap.size ∉ (Value.slice va k vc).ownBlock.toList := fun hm => (HVB.out _ hm).1 rfl
       have hvn1 : w.heap.size + 1 ∉ (Value.slice va k vc).ownBlock.toList := fun hm => (HVB.out _ hm).2 rfl
       have hvnb : b ∉ (Value.slice va k vc).ownBlock.toList := fun hm => by have h1 := (HO.out.base b (by simpa using hm)).1; omega
       have HVN := Lib.hid (And.intro hvn0 (And.intro hvn1 hvnb))
       have HVW := Lib.hid (show ∀ c ∈ (Value.slice va k vc).ownBlock.toList, w.heap.size ≤ c from fun c hc => (HO.out.base c (by simpa using hc)).1)
       clear vg4 ww4 w4 vs4 hvn0 hvn1 hvnb
       go_wp2_with (first | (at_builtin; refine wpList_append_RB (α := GAttribute) (wg := E) (w0 := w) (Wr.ofNone hE0 (hEg.wr HW4.out (fun c _ => by omega)) ((Gr.alloc (Gr.refl W4) _).toWr [])) (by omega) (by simp; omega) rfl _ _ 131 rfl 145 i0 (.agg #[.string ByteArray.empty, .int .i64 0, .int .i64 0, .bool false]) 40 Try.underlying131 HZ.out.1 HZ.out.2.1 HZ.out.2.2.1 HZ.out.2.2.2 rfl _ fps xs (by rfl) (HO4.out.gr (Gr.alloc (Gr.refl _) _)) _ [[]] [(q0, q, q2, false)] (by rfl) (SrcR.one (by simp) (rdAttribute_mk q0 q q2 false (by have := HQ0.out; unfold maxLen; omega) (wf_small (by omega) (by omega)) (wf_small (by omega) (by omega)))) (fun b _ => by simp) (by unfold maxLen; simp; omega) (by simp; omega) ?_; intro v3 w3 h1 h2 h3 h4; obtain ⟨va3, vc3, hv3⟩ := h1.form; rw [show (xs ++ [((q0, q, q2, false) : GAttribute)]).length = k + 1 from by simp [hxl]] at hv3; subst hv3; have K1 := Lib.hid h1; have K2 := Lib.hid (((Gr.alloc (Gr.refl W4) _).toWr _).trans h2); have K3 := Lib.hid h3; clear h1 h2 h3 h4; have v31 := K2.out.keepC v1 HVN.out.2.1; have zv31 := blk v31; have fv31 := K2.out.frozenC fv zv HVN.out.2.1))
       have hgs4 := HVS4.out.lt
       have hvo : ∀ c ∈ (Value.slice va3 (k + 1) vc3).ownBlock.toList, w.heap.size ≤ c ∧ c ≠ w.heap.size ∧ c ≠ w.heap.size + 1 := fun c hc => by
        rcases K3.out with h | h
        ·rw [h] at hc; exact ⟨HVW.out c hc, HVB.out c hc⟩
        ·rw [h] at hc; simp at hc; omega
       have wst : Wr [w.heap.size + 1] w3 (w3.setCell ⟨w.heap.size + 1, 1, none⟩ (.slice va3 (k + 1) vc3)) := Wr.setCell (Wr.refl [w.heap.size + 1] w3) (List.mem_singleton.2 rfl) _
       refine ⟨⟨k + 1, by omega, ⟨_, fps ++ [[]], xs ++ [(q0, q, q2, false)], K1.out.wr wst (by rw [List.flatten_append, HF.out]; simp) (fun c hc hm => (hvo c (by simpa using hc)).2.2 (List.mem_singleton.1 hm)), by rw [List.flatten_append, HF.out]; simp, by simp [hxl], fun a ha => ?_, (HVR4.out.wr K2.out HVN.out.1).ne (by omega), (HVS4.out.wr K2.out HVN.out.2.1).set 1 _, fun c hc => (hvo c hc).2, (HC4.out.wr K2.out (fun x hx => by have := HVW.out x hx; omega)).wr wst (fun x hx => by rw [List.mem_singleton.1 hx]; omega), (HW4.out.more2 K2.out (fun x hx => .inr (HVW.out x hx))).more2 wst (fun x hx => .inr (by rw [List.mem_singleton.1 hx]; omega))⟩, by push_cast; rfl⟩, ?_⟩
       ·rcases List.mem_append.1 ha with h | h
        ·exact HXN.out a h
        ·rw [List.mem_singleton.1 h]; exact ⟨HQ0.out, hq5⟩
       ·simp only [intOf]; omega
    | false =>
     by_cases h3 : q2 = 3
     ·subst h3
      go_upto_region 13 with fail
      generalize hW4 : ((W3.setCell ⟨g, 1, none⟩ (.int .i64 q)).setCell ⟨g, 2, none⟩ (.int .i64 2)) = W4
      have vg4 : VRow W4 g 145 [.string q0, .int .i64 q, .int .i64 2, .bool false] := by rw [← hW4]; exact ((VRow.set (VRow.set HG3.out 1 _) 2 _))
      have w4 : Wr [g] W3 W4 := by rw [← hW4]; exact (Wr.setCell (Wr.setCell (Wr.refl [g] W3) (List.mem_singleton.2 rfl) _) (List.mem_singleton.2 rfl) _)
      clear hW4 e0 e1 e2 e3 f1 f2 zg v0 v1 fv zv hvs3
      have e0 := vg4.cell (k := 0) (by simp)
      have e1 := vg4.cell (k := 1) (by simp)
      have e2 := vg4.cell (k := 2) (by simp)
      have e3 := vg4.cell (k := 3) (by simp)
      have zg := blk e0
      have ww4 := HW3.out.more2 w4 (fun x hx => .inr (by rw [List.mem_singleton.1 hx]; omega))
      have HO4 := Lib.hid (HO.out.wr ww4 (by rw [HF.out]; simp) (fun c hc hm => by have h1 := (HO.out.base c hc).1; have h2 := List.mem_singleton.1 hm; omega))
      have vs4 := HVS.out.wr ww4 (by simp; omega)
      have v0 := vs4.cell (k := 0) (by simp)
      have v1 := vs4.cell (k := 1) (by simp)
      have fv := vs4.frozen 1
      have zv := blk v0
      have HVS4 := Lib.hid vs4
      have HVR4 := Lib.hid (HVR.out.wr ww4 (by simp; omega))
      have HC4 := Lib.hid (HC3.out.wr w4 (fun x hx => by rw [List.mem_singleton.1 hx]; omega))
      have HW4 := Lib.hid (HW.out.trans ww4)
      have hs4 := ww4.size
      have hvn0 : w.heap.size ∉ (Value.slice va k vc).ownBlock.toList := fun hm => (HVB.out _ hm).1 rfl
      have hvn1 : w.heap.size + 1 ∉ (Value.slice va k vc).ownBlock.toList := fun hm => (HVB.out _ hm).2 rfl
      have hvnb : b ∉ (Value.slice va k vc).ownBlock.toList := fun hm => by have h1 := (HO.out.base b (by simpa using hm)).1; omega
      have HVN := Lib.hid (And.intro hvn0 (And.intro hvn1 hvnb))
      have HVW := Lib.hid (show ∀ c ∈ (Value.slice va k vc).ownBlock.toList, w.heap.size ≤ c from fun c hc => (HO.out.base c (by simpa using hc)).1)
      clear vg4 ww4 w4 vs4 hvn0 hvn1 hvnb
      go_wp2_with (first | (at_builtin; refine wpList_append_RB (α := GAttribute) (wg := E) (w0 := w) (Wr.ofNone hE0 (hEg.wr HW4.out (fun c _ => by omega)) ((Gr.alloc (Gr.refl W4) _).toWr [])) (by omega) (by simp; omega) rfl _ _ 131 rfl 145 i0 (.agg #[.string ByteArray.empty, .int .i64 0, .int .i64 0, .bool false]) 40 Try.underlying131 HZ.out.1 HZ.out.2.1 HZ.out.2.2.1 HZ.out.2.2.2 rfl _ fps xs (by rfl) (HO4.out.gr (Gr.alloc (Gr.refl _) _)) _ [[]] [(q0, q, 2, false)] (by rfl) (SrcR.one (by simp) (rdAttribute_mk q0 q 2 false (by have := HQ0.out; unfold maxLen; omega) (wf_small (by omega) (by omega)) (wf_small (by omega) (by omega)))) (fun b _ => by simp) (by unfold maxLen; simp; omega) (by simp; omega) ?_; intro v3 w3 h1 h2 h3 h4; obtain ⟨va3, vc3, hv3⟩ := h1.form; rw [show (xs ++ [((q0, q, 2, false) : GAttribute)]).length = k + 1 from by simp [hxl]] at hv3; subst hv3; have K1 := Lib.hid h1; have K2 := Lib.hid (((Gr.alloc (Gr.refl W4) _).toWr _).trans h2); have K3 := Lib.hid h3; clear h1 h2 h3 h4; have v31 := K2.out.keepC v1 HVN.out.2.1; have zv31 := blk v31; have fv31 := K2.out.frozenC fv zv HVN.out.2.1))
      have hgs4 := HVS4.out.lt
      have hvo : ∀ c ∈ (Value.slice va3 (k + 1) vc3).ownBlock.toList, w.heap.size ≤ c ∧ c ≠ w.heap.size ∧ c ≠ w.heap.size + 1 := fun c hc => by
       rcases K3.out with h | h
       ·rw [h] at hc; exact ⟨HVW.out c hc, HVB.out c hc⟩
       ·rw [h] at hc; simp at hc; omega
      have wst : Wr [w.heap.size + 1] w3 (w3.setCell ⟨w.heap.size + 1, 1, none⟩ (.slice va3 (k + 1) vc3)) := Wr.setCell (Wr.refl [w.heap.size + 1] w3) (List.mem_singleton.2 rfl) _
      refine ⟨⟨k + 1, by omega, ⟨_, fps ++ [[]], xs ++ [(q0, q, 2, false)], K1.out.wr wst (by rw [List.flatten_append, HF.out]; simp) (fun c hc hm => (hvo c (by simpa using hc)).2.2 (List.mem_singleton.1 hm)), by rw [List.flatten_append, HF.out]; simp, by simp [hxl], fun a ha => ?_, (HVR4.out.wr K2.out HVN.out.1).ne (by omega), (HVS4.out.wr K2.out HVN.out.2.1).set 1 _, fun c hc => (hvo c hc).2, (HC4.out.wr K2.out (fun x hx => by have := HVW.out x hx; omega)).wr wst (fun x hx => by rw [List.mem_singleton.1 hx]; omega), (HW4.out.more2 K2.out (fun x hx => .inr (HVW.out x hx))).more2 wst (fun x hx => .inr (by rw [List.mem_singleton.1 hx]; omega))⟩, by push_cast; rfl⟩, ?_⟩
      ·rcases List.mem_append.1 ha with h | h
       ·exact HXN.out a h
       ·rw [List.mem_singleton.1 h]; exact ⟨HQ0.out, hq5⟩
      ·simp only [intOf]; omega
     ·
      go_upto_region 13 with fail
      generalize hW4 : (W3.setCell ⟨g, 1, none⟩ (.int .i64 q)) = W4
      have vg4 : VRow W4 g 145 [.string q0, .int .i64 q, .int .i64 q2, .bool false] := by rw [← hW4]; exact ((VRow.set HG3.out 1 _))
      have w4 : Wr [g] W3 W4 := by rw [← hW4]; exact (Wr.setCell (Wr.refl [g] W3) (List.mem_singleton.2 rfl) _)
      clear hW4 e0 e1 e2 e3 f1 f2 zg v0 v1 fv zv hvs3
      have e0 := vg4.cell (k := 0) (by simp)
      have e1 := vg4.cell (k := 1) (by simp)
      have e2 := vg4.cell (k := 2) (by simp)
      have e3 := vg4.cell (k := 3) (by simp)
      have zg := blk e0
      have ww4 := HW3.out.more2 w4 (fun x hx => .inr (by rw [List.mem_singleton.1 hx]; omega))
      have HO4 := Lib.hid (HO.out.wr ww4 (by rw [HF.out]; simp) (fun c hc hm => by have h1 := (HO.out.base c hc).1; have h2 := List.mem_singleton.1 hm; omega))
      have vs4 := HVS.out.wr ww4 (by simp; omega)
      have v0 := vs4.cell (k := 0) (by simp)
      have v1 := vs4.cell (k := 1) (by simp)
      have fv := vs4.frozen 1
      have zv := blk v0
      have HVS4 := Lib.hid vs4
      have HVR4 := Lib.hid (HVR.out.wr ww4 (by simp; omega))
      have HC4 := Lib.hid (HC3.out.wr w4 (fun x hx => by rw [List.mem_singleton.1 hx]; omega))
      have HW4 := Lib.hid (HW.out.trans ww4)
      have hs4 := ww4.size
      have hvn0 : w.heap.size ∉ (Value.slice va k vc).ownBlock.toList := fun hm => (HVB.out _ hm).1 rfl
      have hvn1 : w.heap.size + 1 ∉ (Value.slice va k vc).ownBlock.toList := fun hm => (HVB.out _ hm).2 rfl
      have hvnb : b ∉ (Value.slice va k vc).ownBlock.toList := fun hm => by have h1 := (HO.out.base b (by simpa using hm)).1; omega
      have HVN := Lib.hid (And.intro hvn0 (And.intro hvn1 hvnb))
      have HVW := Lib.hid (show ∀ c ∈ (Value.slice va k vc).ownBlock.toList, w.heap.size ≤ c from fun c hc => (HO.out.base c (by simpa using hc)).1)
      clear vg4 ww4 w4 vs4 hvn0 hvn1 hvnb
      go_wp2_with (first | (at_builtin; refine wpList_append_RB (α := GAttribute) (wg := E) (w0 := w) (Wr.ofNone hE0 (hEg.wr HW4.out (fun c _ => by omega)) ((Gr.alloc (Gr.refl W4) _).toWr [])) (by omega) (by simp; omega) rfl _ _ 131 rfl 145 i0 (.agg #[.string ByteArray.empty, .int .i64 0, .int .i64 0, .bool false]) 40 Try.underlying131 HZ.out.1 HZ.out.2.1 HZ.out.2.2.1 HZ.out.2.2.2 rfl _ fps xs (by rfl) (HO4.out.gr (Gr.alloc (Gr.refl _) _)) _ [[]] [(q0, q, q2, false)] (by rfl) (SrcR.one (by simp) (rdAttribute_mk q0 q q2 false (by have := HQ0.out; unfold maxLen; omega) (wf_small (by omega) (by omega)) (wf_small (by omega) (by omega)))) (fun b _ => by simp) (by unfold maxLen; simp; omega) (by simp; omega) ?_; intro v3 w3 h1 h2 h3 h4; obtain ⟨va3, vc3, hv3⟩ := h1.form; rw [show (xs ++ [((q0, q, q2, false) : GAttribute)]).length = k + 1 from by simp [hxl]] at hv3; subst hv3; have K1 := Lib.hid h1; have K2 := Lib.hid (((Gr.alloc (Gr.refl W4) _).toWr _).trans h2); have K3 := Lib.hid h3; clear h1 h2 h3 h4; have v31 := K2.out.keepC v1 HVN.out.2.1; have zv31 := blk v31; have fv31 := K2.out.frozenC fv zv HVN.out.2.1))
      have hgs4 := HVS4.out.lt
      have hvo : ∀ c ∈ (Value.slice va3 (k + 1) vc3).ownBlock.toList, w.heap.size ≤ c ∧ c ≠ w.heap.size ∧ c ≠ w.heap.size + 1 := fun c hc => by
       rcases K3.out with h | h
       ·rw [h] at hc; exact ⟨HVW.out c hc, HVB.out c hc⟩
       ·rw [h] at hc; simp at hc; omega
      have wst : Wr [w.heap.size + 1] w3 (w3.setCell ⟨w.heap.size + 1, 1, none⟩ (.slice va3 (k + 1) vc3)) := Wr.setCell (Wr.refl [w.heap.size + 1] w3) (List.mem_singleton.2 rfl) _
      refine ⟨⟨k + 1, by omega, ⟨_, fps ++ [[]], xs ++ [(q0, q, q2, false)], K1.out.wr wst (by rw [List.flatten_append, HF.out]; simp) (fun c hc hm => (hvo c (by simpa using hc)).2.2 (List.mem_singleton.1 hm)), by rw [List.flatten_append, HF.out]; simp, by simp [hxl], fun a ha => ?_, (HVR4.out.wr K2.out HVN.out.1).ne (by omega), (HVS4.out.wr K2.out HVN.out.2.1).set 1 _, fun c hc => (hvo c hc).2, (HC4.out.wr K2.out (fun x hx => by have := HVW.out x hx; omega)).wr wst (fun x hx => by rw [List.mem_singleton.1 hx]; omega), (HW4.out.more2 K2.out (fun x hx => .inr (HVW.out x hx))).more2 wst (fun x hx => .inr (by rw [List.mem_singleton.1 hx]; omega))⟩, by push_cast; rfl⟩, ?_⟩
      ·rcases List.mem_append.1 ha with h | h
       ·exact HXN.out a h
       ·rw [List.mem_singleton.1 h]; exact ⟨HQ0.out, hq5⟩
      ·simp only [intOf]; omega
  ·have k1 : ¬ (k : Int) < 1 + (n : Int) := by omega
   have r0 := HVR.out.cell (k := 0) (by simp)
   have r1 := HVR.out.cell (k := 1) (by simp)
   have rf0 := HVR.out.frozen 0
   have rf1 := HVR.out.frozen 1
   have zr := blk r0
   have v0 := HVS.out.cell (k := 0) (by simp)
   have v1 := HVS.out.cell (k := 1) (by simp)
   have fv := HVS.out.frozen 1
   have zv := blk v0
   go_wp2_with fail
   generalize hWF : ((W1.setCell ⟨w.heap.size, 0, none⟩ (.string name)).setCell ⟨w.heap.size, 1, none⟩ (.slice va k vc)) = WF
   have wF : Wr [w.heap.size] W1 WF := by rw [← hWF]; exact Wr.setCell (Wr.setCell (Wr.refl [w.heap.size] W1) (List.mem_singleton.2 rfl) _) (List.mem_singleton.2 rfl) _
   have vF : VRow WF w.heap.size 133 [.string name, .slice va k vc] := by rw [← hWF]; exact VRow.set (VRow.set HVR.out 0 _) 1 _
   clear hWF
   have oF := HO.out.wr wF (by rw [HF.out]; simp) (fun c hc hm => (HVB.out c (by simpa using hc)).1 (List.mem_singleton.1 hm))
   obtain ⟨fq, hsl, hfq⟩ := oF.slR (by unfold reachLen; omega)
   have u0 := vF.cell (k := 0) (by simp)
   have u1 := vF.cell (k := 1) (by simp)
   have u0' : WF.cell? ⟨w.heap.size, 0, none⟩ = some (.string name) := u0
   have u1' : WF.cell? ⟨w.heap.size, 1, none⟩ = some (.slice va k vc) := u1
   refine bodyPost_ret (v := .agg #[.string name, .slice va k vc]) (by simp [results, Try.results93, go_sem, u0', u1']) rfl ⟨_, fq, xs, rfl, hsl, by omega, HXN.out, fun c hc => ?_, HC.out.wr wF (fun x hx => by rw [List.mem_singleton.1 hx]; omega), HW.out.more2 wF (fun x hx => .inr (Nat.le_of_eq (List.mem_singleton.1 hx).symm))⟩
   rcases hfq with ⟨-, rfl⟩ | ⟨b2, h2, rfl⟩
   ·cases hc
   ·rw [HF.out] at hc
    rw [List.mem_singleton.1 hc]
    exact (HO.out.base b2 h2).1
end Go.Proofs.Ytmfcagcanhmdbaa

namespace Go.Proofs.Ytmfcagcanhmdbaa
open Go.RowKit

section
variable {P : Program} {ops : Array Oper} {Q : Exit → Act → World → Prop}

def onsI (o : Oper) : List Nat := o.after.toList.filterMap fun e => if Region.binds .any e then some e.on else none
def StepJ (P : Program) (ops : Array Oper) (Q : Exit → Act → World → Prop) (S : (Nat → Bool) → Act → World → Prop) (V : Bool → Nat → Value → World → Prop) (z : Nat) (a0 : Act) (i : Nat) (o : Oper) : Prop :=
 ∀ (D : Nat → Bool) (f : Bool) (a : Act) (w : World), D z = f → a.tmps.size = a0.tmps.size → D i = false → (∀ j, (onsI o).contains j = true → D j = true) → (i = z ∨ waits .any ops z i = true → f = false) → S D a w → (∀ k, (dstsI ops).contains k = false → a.tmps[k]?.getD undef = a0.tmps[k]?.getD undef) →
  (∀ d, (predsI ops o).contains d = true → V f d (a.tmps[d]?.getD undef) w) →
  ∀ K : Act → World → Prop, Shut (∀ v u, S (fun j => decide (j = i) || D j) (a.put o.dst v) u → (∀ d, V f d (a.tmps[d]?.getD undef) w → V (f || decide (i = z)) d (a.tmps[d]?.getD undef) u) → (∀ d, o.dst = some d → V (f || decide (i = z)) d v u) → K (a.put o.dst v) u) → Oper.wp P o a w K Q

structure InvJ (P : Program) (ops : Array Oper) (S : (Nat → Bool) → Act → World → Prop) (V : Bool → Nat → Value → World → Prop) (z : Nat) (a0 : Act) (l : Array Bool) (a : Act) (w : World) : Prop where
 size : l.size = ops.size
 fr : FrI a0 (dstsI ops) a
 s : S (fun j => l.getD j false) a w
 v : ∀ j o d, ops[j]? = some o → l.getD j false = true → o.dst = some d → V (l.getD z false) d (a.eval (.tmp d)) w
 z : l.getD z false = true → ∀ o, ops[z]? = some o → ∀ e ∈ o.after, Region.binds .any e = true → l.getD e.on false = true

theorem invJ_any {S : (Nat → Bool) → Act → World → Prop} {V : Bool → Nat → Value → World → Prop} {z : Nat} {a0 : Act} (hok : okI z a0.tmps.size ops = true) (step : AllI (StepJ P ops Q S V z a0) 0 ops.toList)
  (hend : ∀ (D : Nat → Bool) (t : Nat → Value) (w : World), (∀ k, k < ops.size → D k = true) → (∀ d, (dstsI ops).contains d = true → (layI (dstsI ops) t a0).tmps[d]?.getD undef = t d) → S D (layI (dstsI ops) t a0) w → (∀ d, (dstsI ops).contains d = true → V true d (t d) w) → Q .normal (layI (dstsI ops) t a0) w) :
  ∀ (n : Nat) (l : Array Bool) (a : Act) (w : World), InvJ P ops S V z a0 l a w → l.toList.count false ≤ n → wpAny P .any ops Q n l a w := by
 have hzs : z < ops.size := by unfold okI at hok; simp only [Bool.and_eq_true, decide_eq_true_eq] at hok; exact hok.2
 have fin : ∀ (l : Array Bool) (a : Act) (w : World), InvJ P ops S V z a0 l a w → Region.ready .any ops l = [] → Q .normal a w := by
  intro l a w hI hr
  have all : ∀ k, k < ops.size → l.getD k false = true := by
   intro k
   induction k using Nat.strongRecOn with
   | ind k ih =>
    intro hk
    rcases hlk : l.getD k false with _ | _
    ·have ho : ops[k]? = some ops[k] := Array.getElem?_eq_getElem hk
     have hm : k ∈ Region.ready .any ops l := mem_ready.2 ⟨by
      have hks : k < l.size := by rw [hI.size]; exact hk
      simpa [Array.getD, hks] using hlk, _, ho, fun e he _ => ih e.on ((okI_at hok ho).2.1 e he) (by have := (okI_at hok ho).2.1 e he; omega)⟩
     rw [hr] at hm; cases hm
    ·rfl
  have hz := all z hzs
  have hlay := hI.fr.lay
  have hs := hI.s
  rw [hlay] at hs ⊢
  refine hend _ _ w all (fun d hd => ?_) hs fun d hd => ?_
  ·have hd : d ∈ dstsI ops := by simpa using hd
   obtain ⟨o, ho, hod⟩ := List.mem_filterMap.1 hd
   obtain ⟨j, hj⟩ := List.mem_iff_getElem?.1 ho
   rw [Array.getElem?_toList] at hj
   rw [← eval_tmp, (layI_get _ (dstsI ops) a0).2.2 d ((okI_at hok hj).2.2 d hod), if_pos hd]
  have hd : d ∈ dstsI ops := by simpa using hd
  obtain ⟨o, ho, hod⟩ := List.mem_filterMap.1 hd
  obtain ⟨j, hj⟩ := List.mem_iff_getElem?.1 ho
  rw [Array.getElem?_toList] at hj
  have := hI.v j o d hj (all j (Array.getElem?_eq_some_iff.1 hj).1) hod
  rwa [hz] at this
 intro n
 induction n with
 | zero =>
  intro l a w hI hc
  have hr : Region.ready .any ops l = [] := by
   rw [List.eq_nil_iff_forall_not_mem]
   intro i hi
   obtain ⟨h0, o, ho, -⟩ := mem_ready.1 hi
   have hil : i < l.size := by rw [hI.size]; exact (Array.getElem?_eq_some_iff.1 ho).1
   have : false ∈ l.toList := by
    simp [Array.getD, hil] at h0
    rw [← h0]
    exact Array.getElem_mem_toList hil
   have := List.count_pos_iff.2 this
   omega
  exact ⟨hr, fin l a w hI hr⟩
 | succ n ih =>
  intro l a w hI hc
  refine ⟨fin l a w hI, fun i hi => ?_⟩
  obtain ⟨h0, o, ho, hall⟩ := mem_ready.1 hi
  have his : i < ops.size := (Array.getElem?_eq_some_iff.1 ho).1
  have hil : i < l.size := by rw [hI.size]; exact his
  have hli : l.getD i false = false := by simpa [Array.getD, hil] using h0
  refine wpOp_step ho fun K' hK => ?_
  rw [if_pos (by simp [Region.wanted, (okI_at hok ho).1])]
  have step' : StepJ P ops Q S V z a0 i o := by have := step.at (i := i) (o := o) (by rw [Array.getElem?_toList]; exact ho); rwa [Nat.zero_add] at this
  refine step' (fun j => l.getD j false) (l.getD z false) a w rfl hI.fr.2.1 hli (fun j hj => ?_) (fun hor => ?_) hI.s (fun k hk => by rw [← eval_tmp, ← eval_tmp]; exact hI.fr.2.2 k (by simpa using hk)) (fun d hd => ?_) K' (fun v u hS hst hV => hK _ _ (ih _ _ _ ⟨?_, ?_, ?_, ?_, ?_⟩ ?_))
  ·have hj : j ∈ onsI o := by simpa using hj
   obtain ⟨e, he, hed⟩ := List.mem_filterMap.1 hj
   have he : e ∈ o.after := by simpa using he
   split at hed
   ·rename_i hb
    cases hed
    exact hall e he hb
   ·cases hed
  ·rcases hz : l.getD z false with _ | _
   ·rfl
   ·exfalso
    rcases hor with e | hw
    ·rw [← e, hli] at hz; cases hz
    ·obtain ⟨q, hq⟩ : ∃ q, ops[z]? = some q := ⟨_, Array.getElem?_eq_getElem hzs⟩
     unfold waits at hw
     rw [hq] at hw
     simp only [Option.map_some, Option.getD_some] at hw
     obtain ⟨x, hx, h2⟩ := Array.any_eq_true'.1 hw
     simp only [Bool.and_eq_true, beq_iff_eq] at h2
     have := hI.z hz q hq x hx h2.1
     rw [h2.2, hli] at this
     cases this
  ·rw [← eval_tmp]
   have hd : d ∈ predsI ops o := by simpa using hd
   obtain ⟨e, he, hed⟩ := List.mem_filterMap.1 hd
   have he : e ∈ o.after := by simpa using he
   split at hed
   ·rename_i hb
    cases hp : ops[e.on]? with
    | none => rw [hp] at hed; cases hed
    | some p =>
     rw [hp] at hed
     exact hI.v e.on p d hp (hall e he hb) hed
   ·cases hed
  ·simp [hI.size]
  ·refine ⟨?_, ?_, fun k hk => ?_⟩
   ·cases o.dst <;> exact hI.fr.1
   ·cases o.dst
    ·exact hI.fr.2.1
    ·exact (show (Array.setIfInBounds _ _ _).size = _ by simp).trans hI.fr.2.1
   ·cases hd : o.dst with
    | none => exact hI.fr.2.2 k hk
    | some d => rw [eval_put_ne (fun e => hk (by rw [e]; exact mem_dstsI ho hd))]; exact hI.fr.2.2 k hk
  ·have e : (fun j => (l.setIfInBounds i true).getD j false) = fun j => decide (j = i) || l.getD j false := by
    funext j
    rw [getD_setTrue hil]
    by_cases e : j = i
    ·simp [e]
    ·simp [e]
   rw [e]
   exact hS
  ·intro j p d hj hdj hd
   have hfz : (l.setIfInBounds i true).getD z false = (l.getD z false || decide (i = z)) := by
    rw [getD_setTrue hil]
    by_cases e : i = z
    ·subst e; simp
    ·rw [if_neg (Ne.symm e)]; simp [e]
   rw [hfz]
   rw [getD_setTrue hil] at hdj
   by_cases e : j = i
   ·subst e
    rw [ho] at hj
    cases hj
    rw [hd, eval_put_self (by rw [hI.fr.2.1]; exact (okI_at hok ho).2.2 d hd)]
    exact hV d hd
   ·rw [if_neg e] at hdj
    have hvj := hst d (by rw [← eval_tmp]; exact hI.v j p d hj hdj hd)
    rw [← eval_tmp] at hvj
    cases hod : o.dst with
    | none => exact hvj
    | some d' =>
     rw [eval_put_ne (fun h => e (okI_inj hok hj ho hd (by rw [hod, h])))]
     exact hvj
  ·intro hz q hq e he hb
   rw [getD_setTrue hil]
   split
   ·rfl
   ·rename_i hne
    rw [getD_setTrue hil] at hz
    by_cases hzi : z = i
    ·subst hzi
     rw [ho] at hq
     cases hq
     exact hall e he hb
    ·rw [if_neg hzi] at hz
     exact hI.z hz q hq e he hb
  ·have hgl : l.toList[i]'(by simpa using hil) = false := by simpa [Array.getD, hil] using h0
   rw [Array.toList_setIfInBounds, List.count_set (by simpa using hil)]
   have hpos : 0 < l.toList.count false := List.count_pos_iff.2 (by rw [← hgl]; exact List.getElem_mem _)
   rw [hgl]
   have e1 : (if (true == false) = true then 1 else 0) = 0 := rfl
   simp only [beq_self_eq_true, if_true, e1]
   omega

theorem wp_region_J {id : Nat} {a0 : Act} {w0 : World} (S : (Nat → Bool) → Act → World → Prop) (V : Bool → Nat → Value → World → Prop) (z : Nat) (ds : List Nat) (hds : dstsI ops = ds) (hm : P.follows .mixedOrders = true) (hok : okI z a0.tmps.size ops = true) (hS : S (fun _ => false) a0 w0.drew)
  (step : AllI (StepJ P ops Q S V z a0) 0 ops.toList)
  (hend : ∀ (D : Nat → Bool) (t : Nat → Value) (w : World), (∀ k, k < ops.size → D k = true) → (∀ d, ds.contains d = true → (layI ds t a0).tmps[d]?.getD undef = t d) → S D (layI ds t a0) w → (∀ d, ds.contains d = true → V true d (t d) w) → Q .normal (layI ds t a0) w) : (Code.region id ops true).wp P Q a0 w0 := by
 subst hds
 refine wp_region_any hm (invJ_any hok step hend _ _ _ _ ⟨by simp, ⟨rfl, rfl, fun _ _ => rfl⟩, ?_, fun j o d hj h => ?_, fun h => ?_⟩ ?_)
 ·have : (fun j => (Array.replicate ops.size false).getD j false) = fun _ => false := by funext j; simp [Array.getD]
  rw [this]; exact hS
 ·simp [Array.getD] at h
 ·simp [Array.getD] at h
 ·simp
end
end Go.Proofs.Ytmfcagcanhmdbaa
