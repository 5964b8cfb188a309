/- A tree of a grammar drawn. No condition. -/
import Derived.Test.YtmfcagcanhmdbaaH37
namespace Go.Proofs.Ytmfcagcanhmdbaa
open Go.RowKit
set_option linter.unusedVariables false
set_option linter.unusedSimpArgs false
variable {d : Nat}

theorem KK_le {room : Int} {h : Nat} (hr : room ≤ 17) (h3 : h ≤ 3) : KK room h ≤ 680 := by
 unfold KK
 split
 ·have := NH3 h3; omega
 ·omega
def SDX (b M : Nat) (W : World) (D : Nat → Bool) (a : Act) (wx : World) : Prop := ST b M W (D 11) (D 12) (D 13) (a.tmps[18]?.getD undef) (a.tmps[5]?.getD undef) wx
def VDX (b : Nat) (cg : Array Value) (_ : Bool) (d : Nat) (v : Value) (_ : World) : Prop :=
 match d with
 | 7 | 11 | 14 => v = .pointer (some ⟨b, 0, none⟩)
 | 8 | 9 => v = .agg cg
 | 10 => ∃ s, v = .string s
 | 12 => ∃ x, v = .int .i64 x ∧ 0 ≤ x ∧ x ≤ 11
 | 13 => ∃ x, v = .int .i64 x ∧ 6 ≤ x ∧ x ≤ 17
 | 15 => ∃ x, v = .int .i64 x ∧ 0 ≤ x ∧ x ≤ 2
 | 16 => ∃ x, v = .int .i64 x ∧ 0 ≤ x ∧ x ≤ 20
 | 17 => ∃ x, v = .int .i64 x ∧ 0 ≤ x ∧ x ≤ 21
 | _ => True

def TreeD (b : Nat) (w : World) (e : Ending) (w' : World) : Prop :=
 ∃ (v : Value) (F : List Nat) (ns : List GNode), e = .returned (.agg #[v]) ∧ OwnT w w' v F ns ∧ TreeFine ns ∧ ns.length ≤ 40 ∧ CurR w' b ∧ Wr [b] w w'
theorem TreeFine.setId {ns : List GNode} (h : TreeFine ns) {i : Nat} (hi : i < ns.length) (y : Int) : TreeFine (ns.set i (y, ns[i].2)) := by
 refine ⟨fun x hx => ?_, .ids h.2 ?_⟩
 ·rw [List.length_set]
  rcases List.mem_or_eq_of_mem_set hx with h1 | h1
  ·exact h.1 x h1
  ·rw [h1]; exact h.1 ns[i] (List.getElem_mem hi)
 ·rw [List.map_set, show noId (y, ns[i].2) = (ns.map noId)[i]'(by simpa using hi) by simp [noId], List.set_getElem_self]
def IdsIn (b : Nat) (w : World) (gt : Nat) (a : Option Addr) (N c : Nat) (F : List Nat) (wr : World) : Prop :=
 ∃ ns : List GNode, ns.length = N ∧ TreeFine ns ∧ OwnT w wr (.slice a N c) F ns ∧ VRow wr gt 38 [.slice a N c] ∧ VRow wr (w.heap.size + 1) 38 [.slice none 0 0] ∧ CurR wr b ∧ Wr [b] w wr
set_option maxRecDepth 100000 in
set_option maxHeartbeats 16000000 in
theorem l13Draw_any (b : Nat) {fg : List Nat} {cg : Array Value} (g : GGrammar d) (w : World) (h : CurR w b) (hg : Rd.rd fg w cg.toList g) (hbg : b ∉ fg) (hok : GramOK g) :
  Calls Try.prog 79 #[.pointer (some ⟨b, 0, none⟩), .agg cg] w (TreeD b w) := by
 have HC := Lib.hid h
 have HOK := Lib.hid hok
 have HB3 := Lib.hid (fun (s : ByteArray) => (show 0 ≤ hh g s ∧ hh g s ≤ 3 from ⟨(hh_bd g s).1, by have h1 := (hh_bd g s).2; have h2 := hok.2.1; omega⟩))
 have hbl := h.lt
 clear h hok
 have HG := Lib.hid hg
 obtain ⟨g0, g1⟩ := g
 obtain ⟨vg0, fg0, vg1, fg1, rfl, hfpg, hg0, hg1⟩ := rdGrammar_inv g0 g1 hg
 have FPg := Lib.hid hfpg
 clear hfpg
 obtain ⟨ag0, kg0, rfl, og01, og02, og03⟩ := hg0.open
 obtain ⟨ag1, kg1, rfl, og11, og12, og13⟩ := hg1.open
 clear hg
 go_enter Try.func79, Try.ntmps79
 go_upto_region 1 with fail
 generalize hW2 : ((w.alloc (.cells #[.slice ag0 g0.length kg0, .slice ag1 g1.length kg1] 114)).alloc (.cells #[.slice none 0 0] 38)) = W2
 have g02 : Gr w W2 := by rw [← hW2]; exact gd
 have VG := Lib.hid (show VRow W2 w.heap.size 114 [.slice ag0 g0.length kg0, .slice ag1 g1.length kg1] by rw [← hW2]; exact (VRow.new (A := w) rfl).gr gd)
 have VT := Lib.hid (show VRow W2 (w.heap.size + 1) 38 [.slice none 0 0] by rw [← hW2]; exact VRow.new (by simp))
 have s0 : W2.heap.size = w.heap.size + 2 := by rw [← hW2]; simp
 clear hW2
 have HG02 := Lib.hid g02
 have HC2 := Lib.hid (HC.out.gr g02)
 have HRG := Lib.hid (Rd.gr HG.out g02)
 have y0 := VG.out.cell (k := 0) (by simp)
 have y1 := VG.out.cell (k := 1) (by simp)
 have zy0 := blk y0
 have hbl2 : b < W2.heap.size := HC2.out.lt
 refine wp_region_K (SDX b 680 W2) (VDX b #[.slice ag0 g0.length kg0, .slice ag1 g1.length kg1]) 13 [7, 8, 9, 10, 11, 12, 13, 14, 15, 16, 17, 18, 5] (by kernel_rfl) (by kernel_rfl) (by kernel_rfl) ⟨HC2.out.gr (Gr.drew (Gr.refl _)), (Gr.drew (Gr.refl W2)).toWr [b], (fun _ h => by cases h), (fun _ h => by cases h), (fun h => by cases h)⟩ ?_ ?_
 ·refine ⟨?_, ?_, ?_, ?_, ?_, ?_, ?_, ?_, ?_, ?_, ?_, ?_, ?_, ?_, trivial⟩
  all_goals intro D f a w' hDz hsz' hDi hdone hf hS hfr hV K hK
  all_goals have HSZ := Lib.hid hsz'
  all_goals clear hsz'
  ·have e0 : a.tmps[0]?.getD undef = .pointer (some ⟨b, 0, none⟩) := hfr 0 (by kernel_rfl)
   go_simp
   refine hK.out _ _ (by simpa [SDX, Act.put, Array.getElem?_setIfInBounds] using hS) (fun d h => h) (fun d hd => ?_)
   obtain rfl := Option.some.inj hd
   exact rfl
  ·have e3 : a.tmps[3]?.getD undef = .pointer (some ⟨w.heap.size, 0, none⟩) := hfr 3 (by kernel_rfl)
   have y0 := hS.2.1.keepC y0 (by simp; omega)
   have y1 := hS.2.1.keepC y1 (by simp; omega)
   have zy0 := blk y0
   go_simp
   refine hK.out _ _ (by simpa [SDX, Act.put, Array.getElem?_setIfInBounds] using hS) (fun d h => h) (fun d hd => ?_)
   obtain rfl := Option.some.inj hd
   exact rfl
  ·have e3 : a.tmps[3]?.getD undef = .pointer (some ⟨w.heap.size, 0, none⟩) := hfr 3 (by kernel_rfl)
   have y0 := hS.2.1.keepC y0 (by simp; omega)
   have y1 := hS.2.1.keepC y1 (by simp; omega)
   have zy0 := blk y0
   go_simp
   refine hK.out _ _ (by simpa [SDX, Act.put, Array.getElem?_setIfInBounds] using hS) (fun d h => h) (fun d hd => ?_)
   obtain rfl := Option.some.inj hd
   exact rfl
  ·have e9 : a.tmps[9]?.getD undef = .agg #[.slice ag0 g0.length kg0, .slice ag1 g1.length kg1] := hV 9 (by kernel_rfl)
   obtain rfl := hf (.inr (by kernel_rfl))
   have hCL := Lib.hid (l13Start_some (g0, g1) w' (Rd.wr HRG.out hS.2.1 (fun c hc hm => hbg (List.mem_singleton.1 hm ▸ hc))))
   go_simp
   refine hCL.out.mono ?_
   rintro e u ⟨rfl, hg9⟩
   refine hK.out _ u ?_ (fun d h => h) (fun d hd => ?_)
   ·have h9 := ST.wr hS hbl2 (hS.1.gr hg9) (hg9.toWr [b]) hDz
    simpa [SDX, Act.put, Array.getElem?_setIfInBounds] using h9
   ·obtain rfl := Option.some.inj hd
    exact ⟨_, rfl⟩
  ·have e0 : a.tmps[0]?.getD undef = .pointer (some ⟨b, 0, none⟩) := hfr 0 (by kernel_rfl)
   go_simp
   refine hK.out _ _ (by simpa [SDX, Act.put, Array.getElem?_setIfInBounds] using hS) (fun d h => h) (fun d hd => ?_)
   obtain rfl := Option.some.inj hd
   exact rfl
  ·have e11 : a.tmps[11]?.getD undef = .pointer (some ⟨b, 0, none⟩) := hV 11 (by kernel_rfl)
   obtain rfl := hf (.inr (by kernel_rfl))
   have hCL := Lib.hid (l1Below_any b 12 w' hS.1 (by omega) (by omega))
   go_simp
   refine hCL.out.mono ?_
   rintro e u ⟨xk, rfl, hx0, hx1, hcx, hwx⟩
   refine hK.out _ u ?_ (fun d h => h) (fun d hd => ?_)
   ·have h9 := ST.wr hS hbl2 hcx hwx hDz
    simpa [SDX, Act.put, Array.getElem?_setIfInBounds] using h9
   ·obtain rfl := Option.some.inj hd
    exact ⟨xk, rfl, hx0, by omega⟩
  ·obtain ⟨x, e12, hx0, hx1⟩ := hV 12 (by kernel_rfl)
   have iw : IntKind.i64.wrap (6 + x) = 6 + x := IntWalk.i64_in _ (by omega)
   go_simp
   refine hK.out _ _ (by simpa [SDX, Act.put, Array.getElem?_setIfInBounds] using hS) (fun d h => h) (fun d hd => ?_)
   obtain rfl := Option.some.inj hd
   exact ⟨6 + x, rfl, by omega, by omega⟩
  ·have e0 : a.tmps[0]?.getD undef = .pointer (some ⟨b, 0, none⟩) := hfr 0 (by kernel_rfl)
   go_simp
   refine hK.out _ _ (by simpa [SDX, Act.put, Array.getElem?_setIfInBounds] using hS) (fun d h => h) (fun d hd => ?_)
   obtain rfl := Option.some.inj hd
   exact rfl
  ·have e14 : a.tmps[14]?.getD undef = .pointer (some ⟨b, 0, none⟩) := hV 14 (by kernel_rfl)
   obtain rfl := hf (.inr (by kernel_rfl))
   have hCL := Lib.hid (l1Below_any b 3 w' hS.1 (by omega) (by omega))
   go_simp
   refine hCL.out.mono ?_
   rintro e u ⟨xk, rfl, hx0, hx1, hcx, hwx⟩
   refine hK.out _ u ?_ (fun d h => h) (fun d hd => ?_)
   ·have h9 := ST.wr hS hbl2 hcx hwx hDz
    simpa [SDX, Act.put, Array.getElem?_setIfInBounds] using h9
   ·obtain rfl := Option.some.inj hd
    exact ⟨xk, rfl, hx0, by omega⟩
  ·obtain ⟨x, e15, hx0, hx1⟩ := hV 15 (by kernel_rfl)
   have iw : IntKind.i64.wrap (x * 10) = x * 10 := IntWalk.i64_in _ (by omega)
   go_simp
   refine hK.out _ _ (by simpa [SDX, Act.put, Array.getElem?_setIfInBounds] using hS) (fun d h => h) (fun d hd => ?_)
   obtain rfl := Option.some.inj hd
   exact ⟨x * 10, rfl, by omega, by omega⟩
  ·obtain ⟨x, e16, hx0, hx1⟩ := hV 16 (by kernel_rfl)
   have iw : IntKind.i64.wrap (1 + x) = 1 + x := IntWalk.i64_in _ (by omega)
   go_simp
   refine hK.out _ _ (by simpa [SDX, Act.put, Array.getElem?_setIfInBounds] using hS) (fun d h => h) (fun d hd => ?_)
   obtain rfl := Option.some.inj hd
   exact ⟨1 + x, rfl, by omega, by omega⟩
  ·have e7 : a.tmps[7]?.getD undef = .pointer (some ⟨b, 0, none⟩) := hV 7 (by kernel_rfl)
   have e8 : a.tmps[8]?.getD undef = .agg #[.slice ag0 g0.length kg0, .slice ag1 g1.length kg1] := hV 8 (by kernel_rfl)
   obtain ⟨sy, e10⟩ := hV 10 (by kernel_rfl)
   obtain ⟨rm, e13, hr0, hr1⟩ := hV 13 (by kernel_rfl)
   obtain ⟨iy, e17, hi0, hi1⟩ := hV 17 (by kernel_rfl)
   obtain rfl := hf (.inr (by kernel_rfl))
   have hkk := KK_le (room := rm) (h := (hh (g0, g1) sy).toNat) hr1 (by have := HB3.out sy; omega)
   have hCL := Lib.hid (l13Grow_any b 30 fg _ (g0, g1) sy rm iy w' hS.1 (Rd.wr HRG.out hS.2.1 (fun c hc hm => hbg (List.mem_singleton.1 hm ▸ hc))) hbg HOK.out ⟨fun h => by omega, fun h => by omega⟩ ⟨by omega, by omega, by omega⟩ ⟨hi0, by omega⟩)
   go_simp
   refine hCL.out.mono ?_
   rintro e u ⟨vv, F, ns, rfl, hoT, hfT, hpT, hlT, hcT, hwT⟩
   obtain ⟨av, cv, rfl⟩ := hoT.form
   have hs9 := hS.2.1.size
   obtain ⟨h91, h92, h93, h94, h95⟩ := ST.wr hS hbl2 hcT hwT hDz
   refine hK.out _ _ ⟨h91, h92, ?_, fun _ _ => ⟨av, cv, F, ns, ?_, hoT.lower hs9, hfT, Nat.le_trans hlT hkk, ?_⟩, ?_⟩ (fun d h => h) (fun d hd => ?_)
   ·simpa [Act.put, Array.getElem?_setIfInBounds] using h93
   ·rw [← eval_tmp]; exact eval_put_self (by rw [HSZ.out]; exact of_decide_eq_true rfl)
   ·intro hq gn o hg hm
    obtain ⟨g2, k1, k2, k3⟩ := hS.2.2.1 hDz (by simpa using hq)
    have k4 : a.tmps[5]?.getD undef = .pointer (some ⟨gn, o, none⟩) := by simpa [Act.put, Array.getElem?_setIfInBounds] using hg
    rw [k1] at k4
    cases k4
    have := k3.lt
    have := hoT.ge _ hm
    omega
   ·simpa [Act.put, Array.getElem?_setIfInBounds] using h95
   ·obtain rfl := Option.some.inj hd
    exact trivial
  ·obtain rfl := hf (.inr (by kernel_rfl))
   go_simp
   have hga := (Gr.alloc (Gr.refl w') (.cells #[.slice none 0 0] 38))
   refine hK.out _ _ ⟨hS.1.gr hga, hS.2.1.gr hga, fun _ _ => ⟨_, ?_, hS.2.1.size, VRow.new rfl⟩, fun _ hp => ?_, fun hz => ?_⟩ (fun d h => h) (fun d hd => ?_)
   ·rw [← eval_tmp]; exact eval_put_self (by rw [HSZ.out]; exact of_decide_eq_true rfl)
   ·obtain ⟨av, cv, F, ns, e1, e2, e3, e4, e5⟩ := hS.2.2.2.1 hDz (by simpa using hp)
    refine ⟨av, cv, F, ns, by simpa [Act.put, Array.getElem?_setIfInBounds] using e1, e2.gr hga, e3, e4, fun _ gn o hg => ?_⟩
    rw [← eval_tmp, eval_put_self (by rw [HSZ.out]; exact of_decide_eq_true rfl)] at hg
    cases hg
    intro hm
    have := e2.lt _ hm
    omega
   ·exfalso
    have : D 13 = true := by simpa using hz
    rw [hDz] at this; cases this
   ·obtain rfl := Option.some.inj hd
    exact trivial
  ·obtain rfl := hf (.inl rfl)
   obtain ⟨av, cv, F, ns, e18, e2, e3, e4, e5⟩ := hS.2.2.2.1 hDz (hdone 11 (by kernel_rfl))
   obtain ⟨gn, m1, m2, m3⟩ := hS.2.2.1 hDz (hdone 12 (by kernel_rfl))
   have hne := e5 (hdone 12 (by kernel_rfl)) gn 0 m1
   have c0 := m3.cell (k := 0) (by simp)
   have f0 := m3.frozen 0
   have zg := blk c0
   have HGV := Lib.hid m3
   have HE2 := Lib.hid e2
   have JC := Lib.hid hS.1
   have JW := Lib.hid hS.2.1
   clear hS m3 e2 e5
   go_simp
   have wU := Wr.put1 w' gn (.slice av ns.length cv)
   refine hK.out undef _ ⟨JC.out.wr wU (fun x hx => by rw [List.mem_singleton.1 hx]; omega), JW.out.more2 wU (fun x hx => .inr (by rw [List.mem_singleton.1 hx]; omega)), (fun h => by cases h), (fun h => by cases h), fun _ => ⟨gn, av, cv, F, ns, m1, VRow.put1 HGV.out _, HE2.out.wr wU (fun x hx hm => hne (List.mem_singleton.1 hm ▸ hx)), e3, e4, m2, hne⟩⟩ (fun d h => h) (fun d hd => by cases hd)
 ·intro D t W3 hall hlay hS3 hV
  obtain ⟨gt, av, cv, F, ns, m1, m2, m3, m4, m5, m6, m7⟩ := hS3.2.2.2.2 (hall 13 (of_decide_eq_true rfl))
  rw [hlay 5 (by kernel_rfl)] at m1
  simp only [layI, List.foldl_cons, List.foldl_nil, Act.put, List.setIfInBounds_toArray, List.set_cons_zero, List.set_cons_succ, m1]
  have hw23 := hS3.2.1
  have hz23 := hw23.size
  have HT3 := Lib.hid m3
  have HF3 := Lib.hid m4
  have HN3 := Lib.hid m7
  have HBT := Lib.hid m2
  have HC3 := Lib.hid hS3.1
  have HW3 := Lib.hid ((HG02.out.toWr [b]).trans hw23)
  have VG3 := Lib.hid (VG.out.wr hw23 (by simp; omega))
  have VT3 := Lib.hid (VT.out.wr hw23 (by simp; omega))
  have HRG3 := Lib.hid (Rd.wr HRG.out hw23 (fun c hc hm => hbg (List.mem_singleton.1 hm ▸ hc)))
  have hgt3 := m2.lt
  have c0 := m2.cell (k := 0) (by simp)
  have zc0 := blk c0
  clear m2 m3 m4 m7 hw23 hS3 hV hlay hall y0 y1 zy0
  by_cases h16 : 16 < ns.length
  ·have h16i : (16 : Int) < (ns.length : Int) := by omega
   have y0 := VG3.out.cell (k := 0) (by simp)
   have y1 := VG3.out.cell (k := 1) (by simp)
   have zy0 := blk y0
   have kk0 := fun (w' : World) (h : Wr [b] W3 w') => h.keepC y0 (by simp; omega)
   have kk1 := fun (w' : World) (h : Wr [b] W3 w') => h.keepC y1 (by simp; omega)
   go_upto_region 3 with fail
   refine wp_region_U (fun w' => Wr [b] W3 w') 5 (by kernel_rfl) ((gd : Gr W3 W3.drew).toWr [b]) (fun hU => ?_)
   refine anyU_q 0 ?_
   try simp only [Act.put, uq1, uq2, uq3]
   refine anyU_q 1 ?_
   try simp only [Act.put, uq1, uq2, uq3]
   refine anyU_q 2 ?_
   try simp only [Act.put, uq1, uq2, uq3]
   refine anyU_ready (rs := [3]) (by kernel_rfl) (by simp) ?_
   refine (ReadyU.cons rfl (fun K hK => ?_) ReadyU.nil)
   go_simp
   go_at_call 98
   refine (l13Start_some (g0, g1) _ (Rd.gr HRG3.out gd)).mono ?_
   rintro e W4 ⟨rfl, hg4⟩
   have w34 := ((Gr.drew (Gr.refl W3)).trans hg4)
   have HG34 := Lib.hid w34
   generalize (((g0, g1) : GGrammar d).1.head?.map Prod.fst).getD ⟨#[]⟩ = sy
   refine hK.out _ _ (w34.toWr [b]) (fun hU1 => ?_)
   clear hK K w34 hg4
   try simp only [Act.put, uq1, uq2, uq3]
   refine anyU_ready (rs := [4]) (by kernel_rfl) (by simp) ?_
   refine (ReadyU.cons rfl (fun K hK => ?_) ReadyU.nil)
   go_simp
   go_at_call 97
   have h3 := HB3.out sy
   have hk1 : KK 1 (hh (g0, g1) sy).toNat ≤ 40 := by unfold KK; rw [if_pos (by decide)]; exact NH3 (by omega)
   refine (l13Grow_any b 5 fg _ (g0, g1) sy 1 1 _ (HC3.out.gr HG34.out) (Rd.gr HRG3.out HG34.out) hbg HOK.out ⟨fun h => by omega, fun h => by omega⟩ ⟨by omega, by omega, by omega⟩ ⟨by omega, by omega⟩).mono ?_
   rintro e W5 ⟨vv, F5, ns5, rfl, hoT, hfT, hpT, hlT, hcT, hwT⟩
   obtain ⟨a5, c5, rfl⟩ := hoT.form
   have w35 := (HG34.out.toWr [b]).trans hwT
   have hz35 := w35.size
   have hz45 := HG34.out.size
   have HB5 := Lib.hid (HBT.out.wr w35 (by simp; omega))
   have d0 := HB5.out.cell (k := 0) (by simp)
   have fd0 := HB5.out.frozen 0
   have zd0 := blk d0
   have HW35 := Lib.hid w35
   have HT5 := Lib.hid hoT
   have HF5 := Lib.hid hfT
   have HC5 := Lib.hid hcT
   refine hK.out _ _ w35 (fun hU2 => ?_)
   clear hK K w35 hwT hoT hfT hcT
   try simp only [Act.put, uq1, uq2, uq3]
   refine anyU_ready (rs := [5]) (by kernel_rfl) (by simp) ?_
   refine ReadyU.last rfl (fun K hK => ?_)
   go_simp
   refine hK.out _ _ ?_
   clear hK K
   try simp only [Act.put, uq1, uq2, uq3]
   refine anyU_done (by kernel_rfl) ?_ _
   skip
   have wU := Wr.put1 W5 gt (.slice a5 ns5.length c5)
   have vU := VRow.put1 HB5.out (.slice a5 ns5.length c5)
   generalize W5.setCell ⟨gt, 0, none⟩ (.slice a5 ns5.length c5) = U at wU vU ⊢
   have hzU := wU.size
   have HBX := Lib.hid vU
   have HCX := Lib.hid (HC5.out.wr wU (fun x hx => by rw [List.mem_singleton.1 hx]; omega))
   have HWX := Lib.hid ((HW3.out.trans HW35.out).more2 wU (fun x hx => .inr (by rw [List.mem_singleton.1 hx]; omega)))
   have HVX := Lib.hid ((VT3.out.wr HW35.out (by simp; omega)).wr wU (by simp; omega))
   have HTX := Lib.hid ((HT5.out.lower (by omega)).wr wU (fun x hx hm => by have h1 := HT5.out.ge x hx; have h2 := List.mem_singleton.1 hm; omega) : OwnT w U _ _ _)
   have HFY := HF5
   have HFXT := Lib.hid (show ∀ x ∈ F5, x ≠ w.heap.size + 1 from fun x hx => by have := HT5.out.ge x hx; omega)
   have HFXB := Lib.hid (show gt ∉ F5 from fun hm => by have := HT5.out.ge gt hm; omega)
   obtain ⟨N, hN⟩ : ∃ N, ns5.length = N := ⟨_, rfl⟩
   have hN40 : N ≤ 40 := by omega
   rw [hN] at HBX HTX
   rw [hN]
   have hNX := hN
   clear wU vU y0 y1 zy0 kk0 kk1 d0 fd0 zd0 c0 zc0
   go_wp2_with fail
   refine (l1Once_any b 3 _ HCX.out (by omega) (by omega)).mono ?_
   rintro e W6 ⟨x6, rfl, hc6, hw6⟩
   have hz6 := hw6.size
   have HCY := Lib.hid hc6
   have HWY := Lib.hid (HWX.out.trans hw6)
   have HBY := Lib.hid (HBX.out.wr hw6 (by simp; omega))
   have HVY := Lib.hid (HVX.out.wr hw6 (by simp; omega))
   have HTY := Lib.hid (HTX.out.wr hw6 (fun x hx hm => by have h1 := HTX.out.ge x hx; have h2 := List.mem_singleton.1 hm; omega))
   clear hc6 hw6
   cases x6 with
   | false =>
    go_upto_region 9 with fail
    have c0 := HBY.out.cell (k := 0) (by simp)
    have zc0 := blk c0
    have t0 := HVY.out.cell (k := 0) (by simp)
    have ft0 := HVY.out.frozen 0
    have zt0 := blk t0
    go_wp2_with fail
    have wU := Wr.put1 W6 (w.heap.size + 1) (.slice a5 N c5)
    have vU := VRow.put1 HVY.out (.slice a5 N c5)
    generalize W6.setCell ⟨w.heap.size + 1, 0, none⟩ (.slice a5 N c5) = U8 at wU vU ⊢
    have r0 := vU.cell (k := 0) (by simp)
    exact bodyPost_ret (v := .agg #[.slice a5 N c5]) (by simp [results, Try.results79, go_sem, r0]) rfl ⟨_, F5, _, rfl, HTY.out.wr wU (fun x hx hm => HFXT.out x hx (List.mem_singleton.1 hm)), HFY.out, by omega, HCY.out.wr wU (fun x hx => by rw [List.mem_singleton.1 hx]; omega), HWY.out.more2 wU (fun x hx => .inr (by rw [List.mem_singleton.1 hx]; omega))⟩
   | true =>
    go_wp2_with fail
    go_loopw [6] (fun s6 wr => ∃ i : Nat, i ≤ N ∧ IdsIn b w gt a5 N c5 F5 wr ∧ s6 = .int .i64 i) (fun s6 _ => N - (intOf s6).toNat)
    case atStart => exact ⟨0, by omega, ⟨_, hNX, HFY.out, HTY.out, HBY.out, HVY.out, HCY.out, HWY.out⟩, rfl⟩
    case round =>
     obtain ⟨i, hi, ⟨ns9, hl9, hf9, ho9, hb9, hv9, hc9, hw9⟩, rfl⟩ := hrel
     rename World => W9
     have hz9 := hw9.size
     have HF9 := Lib.hid hf9
     have HO9 := Lib.hid ho9
     have HB9 := Lib.hid hb9
     have HC9 := Lib.hid hc9
     have HV9 := Lib.hid hv9
     have HW9 := Lib.hid hw9
     clear hf9 ho9 hb9 hc9 hw9 hv9
     have c0 := HB9.out.cell (k := 0) (by simp)
     have zc0 := blk c0
     by_cases hlt : i < N
     ·have i0 : (0 : Int) ≤ (i : Int) := by omega
      have i1 : (i : Int) < (N : Int) := by omega
      have iwi : IntKind.i64.wrap ((i : Int) + 1) = (i : Int) + 1 := IntWalk.i64_in _ (by omega)
      obtain ⟨g, cap, vj, fpj, hv, hgl, hgb, hgF, hcells, hfz, -, -, -, -, -, -⟩ := HO9.out.at (i := i) (by omega)
      have n0 : W9.cell? ⟨g, i * 6, none⟩ = some (.int .i64 ns9[i].1) := hcells 0 _ rfl
      have fn0 := hfz (i * 6)
      have zn0 := blk n0
      have ht9 := (HO9.out.gr (Gr.drew (Gr.refl W9)))
      obtain ⟨g', cap', vj', fpj', hv', -, -, -, -, -, -, -, -, -, -, hset⟩ := ht9.at (i := i) (by omega)
      have hgg : g' = g := by
       have h1 := hv.symm.trans hv'
       injection h1 with h1 _ _
       exact (congrArg Addr.block (Option.some.inj h1)).symm
      subst hgg
      injection hv with e1 e2 e3
      clear e2 hv'
      subst e1 e3
      have HSET := Lib.hid hset
      obtain ⟨y0, hy0⟩ : ∃ y0, y0 = ns9[i].1 := ⟨_, rfl⟩
      rw [← hy0] at n0
      have HGF := Lib.hid hgF
      clear hy0 hset hcells hfz ht9 hgF
      obtain ⟨y1, hy1⟩ : ∃ y1, y1 = IntKind.i64.wrap (IntKind.i64.wrap (y0 * 7) + 3) := ⟨_, rfl⟩
      have hy1' := hy1.symm
      have iwm : IntKind.i64.wrap (y1.tmod 97 + 1) = y1.tmod 97 + 1 := IntWalk.i64_in _ (by have h1 := Int.tmod_lt_of_pos y1 (show (0 : Int) < 97 by omega); have h2 := Int.lt_tmod_of_pos y1 (show (0 : Int) < 97 by omega); omega)
      clear hy1
      go_upto_region 8 with fail
      refine wp_region_U (fun w' => w' = W9.drew) 15 (by kernel_rfl) (rfl) (fun hU => ?_)
      refine anyU_q 0 ?_
      try simp only [Act.put, uq1, uq2, uq3]
      refine anyU_q 2 ?_
      try simp only [Act.put, uq1, uq2, uq3]
      refine anyU_q 3 ?_
      try simp only [Act.put, uq1, uq2, uq3]
      refine anyU_q 5 ?_
      try simp only [Act.put, uq1, uq2, uq3]
      refine anyU_q 1 ?_
      try simp only [Act.put, uq1, uq2, uq3]
      refine anyU_q 4 ?_
      try simp only [Act.put, uq1, uq2, uq3]
      refine anyU_q 6 ?_
      try simp only [Act.put, uq1, uq2, uq3]
      refine anyU_q 7 ?_
      try simp only [Act.put, uq1, uq2, uq3]
      refine anyU_q 8 ?_
      try simp only [Act.put, uq1, uq2, uq3]
      refine anyU_q 9 ?_
      try simp only [Act.put, uq1, uq2, uq3]
      refine anyU_q 10 ?_
      try simp only [Act.put, uq1, uq2, uq3]
      refine anyU_q 11 ?_
      try simp only [Act.put, uq1, uq2, uq3]
      refine anyU_q 12 ?_
      try simp only [Act.put, uq1, uq2, uq3]
      refine anyU_ready (rs := [13]) (by kernel_rfl) (by simp) ?_
      refine (ReadyU.cons rfl (fun K hK => ?_) ReadyU.nil)
      go_simp
      refine hK.out _ _ (by assumption) (fun hU0 => ?_)
      clear hK K hU0
      try simp only [Act.put, uq1, uq2, uq3]
      refine anyU_q 14 ?_
      try simp only [Act.put, uq1, uq2, uq3]
      refine anyU_ready (rs := [15]) (by kernel_rfl) (by simp) ?_
      refine ReadyU.last rfl (fun K hK => ?_)
      go_simp
      refine hK.out _ _ ?_
      clear hK K
      try simp only [Act.put, uq1, uq2, uq3]
      refine anyU_done (by kernel_rfl) ?_ _
      skip
      have hwf : (Lit.int .i64 (y1.tmod 97 + 1)).wf = true := wf_of (by have h2 := Int.lt_tmod_of_pos y1 (show (0 : Int) < 97 by omega); omega) (by have h1 := Int.tmod_lt_of_pos y1 (show (0 : Int) < 97 by omega); omega)
      have hset := HSET.out (y1.tmod 97 + 1) hwf
      have wst : Wr [g'] W9.drew (W9.drew.setCell ⟨g', i * 6, none⟩ (.int .i64 (y1.tmod 97 + 1))) := Wr.setCell (Wr.refl [g'] W9.drew) (List.mem_singleton.2 rfl) _
      have gd := Gr.drew (Gr.refl W9)
      have hgt : gt ≠ g' := fun h => HFXB.out (h ▸ HGF.out)
      have hgw := HFXT.out g' HGF.out
      have hB := (HB9.out.gr gd).wr wst (by simp; omega)
      have hV := (HV9.out.gr gd).wr wst (by simp; omega)
      have hCC := (HC9.out.gr gd).wr wst (fun x hx => by rw [List.mem_singleton.1 hx]; omega)
      have hWW := (HW9.out.gr gd).more2 wst (fun x hx => .inr (by rw [List.mem_singleton.1 hx]; omega))
      have hFF := HF9.out.setId (i := i) (by omega) (y1.tmod 97 + 1)
      go_wp2_with fail
      exact ⟨⟨i + 1, by omega, ⟨ns9.set i (y1.tmod 97 + 1, ns9[i].2), by simp [hl9], hFF, hset, hB, hV, hCC, hWW⟩, by go_num⟩, by simp [intOf]; omega⟩
     ·have i1 : ¬ (i : Int) < (N : Int) := by omega
      have HT9 := Lib.hid (show OwnT w W9 (.slice a5 N c5) F5 ns9 from HO9.out)
      go_upto_region 9 with fail
      have c0 := HB9.out.cell (k := 0) (by simp)
      have zc0 := blk c0
      have t0 := HV9.out.cell (k := 0) (by simp)
      have ft0 := HV9.out.frozen 0
      have zt0 := blk t0
      go_wp2_with fail
      have wU := Wr.put1 W9 (w.heap.size + 1) (.slice a5 N c5)
      have vU := VRow.put1 HV9.out (.slice a5 N c5)
      generalize W9.setCell ⟨w.heap.size + 1, 0, none⟩ (.slice a5 N c5) = U8 at wU vU ⊢
      have r0 := vU.cell (k := 0) (by simp)
      exact bodyPost_ret (v := .agg #[.slice a5 N c5]) (by simp [results, Try.results79, go_sem, r0]) rfl ⟨_, F5, _, rfl, HT9.out.wr wU (fun x hx hm => HFXT.out x hx (List.mem_singleton.1 hm)), HF9.out, by omega, HC9.out.wr wU (fun x hx => by rw [List.mem_singleton.1 hx]; omega), HW9.out.more2 wU (fun x hx => .inr (by rw [List.mem_singleton.1 hx]; omega))⟩
  ·have h16i : ¬ (16 : Int) < (ns.length : Int) := by omega
   go_upto_region 4 with fail
   have HBX := HBT
   have HCX := HC3
   have HWX := HW3
   have HVX := VT3
   have HTX := Lib.hid (HT3.out.lower (by omega) : OwnT w W3 _ _ _)
   have HFY := HF3
   have HFXT := Lib.hid (show ∀ x ∈ F, x ≠ w.heap.size + 1 from fun x hx => by have := HT3.out.ge x hx; omega)
   have HFXB := HN3
   obtain ⟨N, hN⟩ : ∃ N, ns.length = N := ⟨_, rfl⟩
   have hN40 : N ≤ 40 := by omega
   rw [hN] at HBX HTX
   rw [hN]
   have hNX := hN
   clear c0 zc0
   go_wp2_with fail
   refine (l1Once_any b 3 _ HCX.out (by omega) (by omega)).mono ?_
   rintro e W6 ⟨x6, rfl, hc6, hw6⟩
   have hz6 := hw6.size
   have HCY := Lib.hid hc6
   have HWY := Lib.hid (HWX.out.trans hw6)
   have HBY := Lib.hid (HBX.out.wr hw6 (by simp; omega))
   have HVY := Lib.hid (HVX.out.wr hw6 (by simp; omega))
   have HTY := Lib.hid (HTX.out.wr hw6 (fun x hx hm => by have h1 := HTX.out.ge x hx; have h2 := List.mem_singleton.1 hm; omega))
   clear hc6 hw6
   cases x6 with
   | false =>
    go_upto_region 9 with fail
    have c0 := HBY.out.cell (k := 0) (by simp)
    have zc0 := blk c0
    have t0 := HVY.out.cell (k := 0) (by simp)
    have ft0 := HVY.out.frozen 0
    have zt0 := blk t0
    go_wp2_with fail
    have wU := Wr.put1 W6 (w.heap.size + 1) (.slice av N cv)
    have vU := VRow.put1 HVY.out (.slice av N cv)
    generalize W6.setCell ⟨w.heap.size + 1, 0, none⟩ (.slice av N cv) = U8 at wU vU ⊢
    have r0 := vU.cell (k := 0) (by simp)
    exact bodyPost_ret (v := .agg #[.slice av N cv]) (by simp [results, Try.results79, go_sem, r0]) rfl ⟨_, F, _, rfl, HTY.out.wr wU (fun x hx hm => HFXT.out x hx (List.mem_singleton.1 hm)), HFY.out, by omega, HCY.out.wr wU (fun x hx => by rw [List.mem_singleton.1 hx]; omega), HWY.out.more2 wU (fun x hx => .inr (by rw [List.mem_singleton.1 hx]; omega))⟩
   | true =>
    go_wp2_with fail
    go_loopw [6] (fun s6 wr => ∃ i : Nat, i ≤ N ∧ IdsIn b w gt av N cv F wr ∧ s6 = .int .i64 i) (fun s6 _ => N - (intOf s6).toNat)
    case atStart => exact ⟨0, by omega, ⟨_, hNX, HFY.out, HTY.out, HBY.out, HVY.out, HCY.out, HWY.out⟩, rfl⟩
    case round =>
     obtain ⟨i, hi, ⟨ns9, hl9, hf9, ho9, hb9, hv9, hc9, hw9⟩, rfl⟩ := hrel
     rename World => W9
     have hz9 := hw9.size
     have HF9 := Lib.hid hf9
     have HO9 := Lib.hid ho9
     have HB9 := Lib.hid hb9
     have HC9 := Lib.hid hc9
     have HV9 := Lib.hid hv9
     have HW9 := Lib.hid hw9
     clear hf9 ho9 hb9 hc9 hw9 hv9
     have c0 := HB9.out.cell (k := 0) (by simp)
     have zc0 := blk c0
     by_cases hlt : i < N
     ·have i0 : (0 : Int) ≤ (i : Int) := by omega
      have i1 : (i : Int) < (N : Int) := by omega
      have iwi : IntKind.i64.wrap ((i : Int) + 1) = (i : Int) + 1 := IntWalk.i64_in _ (by omega)
      obtain ⟨g, cap, vj, fpj, hv, hgl, hgb, hgF, hcells, hfz, -, -, -, -, -, -⟩ := HO9.out.at (i := i) (by omega)
      have n0 : W9.cell? ⟨g, i * 6, none⟩ = some (.int .i64 ns9[i].1) := hcells 0 _ rfl
      have fn0 := hfz (i * 6)
      have zn0 := blk n0
      have ht9 := (HO9.out.gr (Gr.drew (Gr.refl W9)))
      obtain ⟨g', cap', vj', fpj', hv', -, -, -, -, -, -, -, -, -, -, hset⟩ := ht9.at (i := i) (by omega)
      have hgg : g' = g := by
       have h1 := hv.symm.trans hv'
       injection h1 with h1 _ _
       exact (congrArg Addr.block (Option.some.inj h1)).symm
      subst hgg
      injection hv with e1 e2 e3
      clear e2 hv'
      subst e1 e3
      have HSET := Lib.hid hset
      obtain ⟨y0, hy0⟩ : ∃ y0, y0 = ns9[i].1 := ⟨_, rfl⟩
      rw [← hy0] at n0
      have HGF := Lib.hid hgF
      clear hy0 hset hcells hfz ht9 hgF
      obtain ⟨y1, hy1⟩ : ∃ y1, y1 = IntKind.i64.wrap (IntKind.i64.wrap (y0 * 7) + 3) := ⟨_, rfl⟩
      have hy1' := hy1.symm
      have iwm : IntKind.i64.wrap (y1.tmod 97 + 1) = y1.tmod 97 + 1 := IntWalk.i64_in _ (by have h1 := Int.tmod_lt_of_pos y1 (show (0 : Int) < 97 by omega); have h2 := Int.lt_tmod_of_pos y1 (show (0 : Int) < 97 by omega); omega)
      clear hy1
      go_upto_region 8 with fail
      refine wp_region_U (fun w' => w' = W9.drew) 15 (by kernel_rfl) (rfl) (fun hU => ?_)
      refine anyU_q 0 ?_
      try simp only [Act.put, uq1, uq2, uq3]
      refine anyU_q 2 ?_
      try simp only [Act.put, uq1, uq2, uq3]
      refine anyU_q 3 ?_
      try simp only [Act.put, uq1, uq2, uq3]
      refine anyU_q 5 ?_
      try simp only [Act.put, uq1, uq2, uq3]
      refine anyU_q 1 ?_
      try simp only [Act.put, uq1, uq2, uq3]
      refine anyU_q 4 ?_
      try simp only [Act.put, uq1, uq2, uq3]
      refine anyU_q 6 ?_
      try simp only [Act.put, uq1, uq2, uq3]
      refine anyU_q 7 ?_
      try simp only [Act.put, uq1, uq2, uq3]
      refine anyU_q 8 ?_
      try simp only [Act.put, uq1, uq2, uq3]
      refine anyU_q 9 ?_
      try simp only [Act.put, uq1, uq2, uq3]
      refine anyU_q 10 ?_
      try simp only [Act.put, uq1, uq2, uq3]
      refine anyU_q 11 ?_
      try simp only [Act.put, uq1, uq2, uq3]
      refine anyU_q 12 ?_
      try simp only [Act.put, uq1, uq2, uq3]
      refine anyU_ready (rs := [13]) (by kernel_rfl) (by simp) ?_
      refine (ReadyU.cons rfl (fun K hK => ?_) ReadyU.nil)
      go_simp
      refine hK.out _ _ (by assumption) (fun hU0 => ?_)
      clear hK K hU0
      try simp only [Act.put, uq1, uq2, uq3]
      refine anyU_q 14 ?_
      try simp only [Act.put, uq1, uq2, uq3]
      refine anyU_ready (rs := [15]) (by kernel_rfl) (by simp) ?_
      refine ReadyU.last rfl (fun K hK => ?_)
      go_simp
      refine hK.out _ _ ?_
      clear hK K
      try simp only [Act.put, uq1, uq2, uq3]
      refine anyU_done (by kernel_rfl) ?_ _
      skip
      have hwf : (Lit.int .i64 (y1.tmod 97 + 1)).wf = true := wf_of (by have h2 := Int.lt_tmod_of_pos y1 (show (0 : Int) < 97 by omega); omega) (by have h1 := Int.tmod_lt_of_pos y1 (show (0 : Int) < 97 by omega); omega)
      have hset := HSET.out (y1.tmod 97 + 1) hwf
      have wst : Wr [g'] W9.drew (W9.drew.setCell ⟨g', i * 6, none⟩ (.int .i64 (y1.tmod 97 + 1))) := Wr.setCell (Wr.refl [g'] W9.drew) (List.mem_singleton.2 rfl) _
      have gd := Gr.drew (Gr.refl W9)
      have hgt : gt ≠ g' := fun h => HFXB.out (h ▸ HGF.out)
      have hgw := HFXT.out g' HGF.out
      have hB := (HB9.out.gr gd).wr wst (by simp; omega)
      have hV := (HV9.out.gr gd).wr wst (by simp; omega)
      have hCC := (HC9.out.gr gd).wr wst (fun x hx => by rw [List.mem_singleton.1 hx]; omega)
      have hWW := (HW9.out.gr gd).more2 wst (fun x hx => .inr (by rw [List.mem_singleton.1 hx]; omega))
      have hFF := HF9.out.setId (i := i) (by omega) (y1.tmod 97 + 1)
      go_wp2_with fail
      exact ⟨⟨i + 1, by omega, ⟨ns9.set i (y1.tmod 97 + 1, ns9[i].2), by simp [hl9], hFF, hset, hB, hV, hCC, hWW⟩, by go_num⟩, by simp [intOf]; omega⟩
     ·have i1 : ¬ (i : Int) < (N : Int) := by omega
      have HT9 := Lib.hid (show OwnT w W9 (.slice av N cv) F ns9 from HO9.out)
      go_upto_region 9 with fail
      have c0 := HB9.out.cell (k := 0) (by simp)
      have zc0 := blk c0
      have t0 := HV9.out.cell (k := 0) (by simp)
      have ft0 := HV9.out.frozen 0
      have zt0 := blk t0
      go_wp2_with fail
      have wU := Wr.put1 W9 (w.heap.size + 1) (.slice av N cv)
      have vU := VRow.put1 HV9.out (.slice av N cv)
      generalize W9.setCell ⟨w.heap.size + 1, 0, none⟩ (.slice av N cv) = U8 at wU vU ⊢
      have r0 := vU.cell (k := 0) (by simp)
      exact bodyPost_ret (v := .agg #[.slice av N cv]) (by simp [results, Try.results79, go_sem, r0]) rfl ⟨_, F, _, rfl, HT9.out.wr wU (fun x hx hm => HFXT.out x hx (List.mem_singleton.1 hm)), HF9.out, by omega, HC9.out.wr wU (fun x hx => by rw [List.mem_singleton.1 hx]; omega), HW9.out.more2 wU (fun x hx => .inr (by rw [List.mem_singleton.1 hx]; omega))⟩
end Go.Proofs.Ytmfcagcanhmdbaa
