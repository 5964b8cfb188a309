/- A store, a tree and a node drawn. No condition. -/
import Derived.Test.YtmfcagcanhmdbaaH42
namespace Go.Proofs.Ytmfcagcanhmdbaa
open Go.RowKit
set_option linter.unusedVariables false
set_option linter.unusedSimpArgs false

def Bent (u ns : List GNode) : Prop := ns = u ∨ ∃ (x : GNode) (y : Int), u[0]? = some x ∧ (y = 0 ∨ y = 99 ∨ y = -1) ∧ ns = u.set 0 (x.1, x.2.1, x.2.2.1, x.2.2.2.1, x.2.2.2.2.1, x.2.2.2.2.2 ++ [y])
theorem Bent.len {u ns : List GNode} (h : Bent u ns) : ns.length = u.length := by
 rcases h with rfl | ⟨x, y, -, -, rfl⟩
 ·rfl
 ·simp
theorem Bent.wt {u ns : List GNode} (h : Bent u ns) : wtTree ns ≤ wtTree u + 1 := by
 rcases h with rfl | ⟨x, y, h0, -, rfl⟩
 ·omega
 ·cases u with
  | nil => simp at h0
  | cons z zs =>
   simp only [List.getElem?_cons_zero, Option.some.injEq] at h0
   subst h0
   have e1 : wtNode (z.1, z.2.1, z.2.2.1, z.2.2.2.1, z.2.2.2.2.1, z.2.2.2.2.2 ++ [y]) = wtNode z + 1 := by
    show z.2.2.2.2.1.size + (z.2.2.2.2.2 ++ [y]).length = z.2.2.2.2.1.size + z.2.2.2.2.2.length + 1
    simp
    omega
   show wtL wtNode _ ≤ wtL wtNode _ + 1
   simp only [List.set_cons_zero, wtL, List.map_cons, List.sum_cons, List.length_cons, e1]
   omega
def ItnD (w : World) (e : Ending) (w' : World) : Prop :=
 ∃ (vs : Value) (fs : List Nat) (s : GStore) (vt : Value) (ft : List Nat) (u ns : List GNode) (i : Int), e = .returned (.tuple #[.agg #[vs], .agg #[vt], .int .i64 i]) ∧ Rd.rd (α := GStore) fs w' [vs] s ∧ Rd.rd (α := GTree) ft w' [vt] ns ∧ wtStore s ≤ 9000 ∧ TreeFine u ∧ u.length ≤ 40 ∧ Bent u ns ∧ 0 ≤ i ∧ i ≤ ns.length ∧ Gr w w'

set_option maxRecDepth 100000 in
set_option maxHeartbeats 16000000 in
theorem drawIntern_any (fp : List Nat) (u : Value) (code : List U8) (w : World) (hu : SlR fp w u code) (hlen : code.length ≤ 1048576) :
  Calls Try.prog 25 #[u] w (ItnD w) := by
 obtain ⟨i0, hi, hz0, hz1, hz2⟩ := info_parts Try.infoIntC
 have HZ := Lib.hid (And.intro hi (And.intro hz0 (And.intro hz1 hz2)))
 clear hi hz0 hz1 hz2
 have HU := Lib.hid hu
 obtain ⟨a, c, rfl, k1, k2, k3⟩ := hu.open
 clear hu k3
 go_enter Try.func25, Try.ntmps25
 go_wp2_with fail
 generalize hW0 : ((w.alloc (.cells #[.slice none 0 0] 32)).alloc (.cells #[.slice none 0 0] 38)) = W0
 have g0W : Gr w W0 := by rw [← hW0]; exact gd
 have VS0 := Lib.hid (show VRow W0 w.heap.size 32 [.slice none 0 0] by rw [← hW0]; exact (VRow.new (A := w) rfl).gr gd)
 have VT0 := Lib.hid (show VRow W0 (w.heap.size + 1) 38 [.slice none 0 0] by rw [← hW0]; exact VRow.new (by simp))
 have s0 : w.heap.size + 2 ≤ W0.heap.size := by rw [← hW0]; simp
 clear hW0
 refine (l1New_any fp _ code W0 (HU.out.gr g0W) hlen).mono ?_
 rintro e W1 ⟨b, rfl, hc1, hb1, hg1⟩
 have VS1 := Lib.hid (VS0.out.gr hg1)
 have VT1 := Lib.hid (VT0.out.gr hg1)
 have hG1 := Lib.hid (g0W.trans hg1)
 have hs1 := hg1.size
 have HC1 := Lib.hid hc1
 have hb0 : w.heap.size + 1 < b := by omega
 clear hg1 hc1 hb1 g0W VS0 VT0
 go_wp2_with fail
 refine (l39Draw_any b W1 HC1.out).mono ?_
 rintro e W2 ⟨vs, Fs, s, vt, Ft, u, rfl, hos, hot, hdis, hws, hfu, hlu, hc2, hw2⟩
 obtain ⟨av, cv, rfl⟩ := hos.form
 obtain ⟨at2, ct2, rfl⟩ := hot.form
 have hs2 := hw2.size
 have HOS2 := Lib.hid (hos.lower (w0 := w) (by omega))
 have HOT2 := Lib.hid (hot.lower (w0 := w) (by omega))
 have HFS2 := Lib.hid (show ∀ x ∈ Fs, W1.heap.size ≤ x ∧ x < W2.heap.size from fun x hx => ⟨hos.ge x hx, hos.lt x hx⟩)
 have HFT2 := Lib.hid (show ∀ x ∈ Ft, W1.heap.size ≤ x ∧ x < W2.heap.size from fun x hx => ⟨hot.ge x hx, hot.lt x hx⟩)
 have HDIS := Lib.hid hdis
 have HFU := Lib.hid hfu
 have HC2 := Lib.hid hc2
 have hb1 : b < W1.heap.size := HC1.out.lt
 have VS2 := Lib.hid (VS1.out.wr hw2 (by simp; omega))
 have VT2 := Lib.hid (VT1.out.wr hw2 (by simp; omega))
 have HG2 := Lib.hid (hG1.out.wr hw2 (fun x hx => by rw [List.mem_singleton.1 hx]; omega))
 clear hos hot hdis hfu hc2 hw2
 go_upto_region 3 with fail
 have VX3 := (show VRow ((W2.alloc (.cells #[.slice av s.length cv] 32)).alloc (.cells #[.slice at2 u.length ct2] 38)) W2.heap.size 32 [.slice av s.length cv] from (VRow.new (A := W2) rfl).gr gd)
 have VY3 := (show VRow ((W2.alloc (.cells #[.slice av s.length cv] 32)).alloc (.cells #[.slice at2 u.length ct2] 38)) (W2.heap.size + 1) 38 [.slice at2 u.length ct2] from VRow.new (by simp))
 have g23 := (show Gr W2 ((W2.alloc (.cells #[.slice av s.length cv] 32)).alloc (.cells #[.slice at2 u.length ct2] 38)) from gd)
 generalize ((W2.alloc (.cells #[.slice av s.length cv] 32)).alloc (.cells #[.slice at2 u.length ct2] 38)) = W3 at VX3 VY3 g23 ⊢
 have hs3 := g23.size
 have hy3 := VY3.lt
 have HVX3 := Lib.hid VX3
 have HVY3 := Lib.hid VY3
 have HG23 := Lib.hid g23
 clear VX3 VY3 g23
 go_wp2_with fail
 refine (l1Once_any b 12 _ (HC2.out.gr HG23.out) (by omega) (by omega)).mono ?_
 rintro e W4 ⟨x4, rfl, hc4, hw4⟩
 have hs4 := hw4.size
 have HXX := Lib.hid (HVX3.out.wr hw4 (by simp; omega))
 have HYYY := Lib.hid (HVY3.out.wr hw4 (by simp; omega))
 have HO4 := Lib.hid ((HOS2.out.gr HG23.out).wr hw4 (fun x hx hm => by have h1 := HFS2.out x hx; have h2 := List.mem_singleton.1 hm; omega))
 have HT4 := Lib.hid ((HOT2.out.gr HG23.out).wr hw4 (fun x hx hm => by have h1 := HFT2.out x hx; have h2 := List.mem_singleton.1 hm; omega))
 have HS4 := Lib.hid ((VS2.out.gr HG23.out).wr hw4 (by simp; omega))
 have HR4 := Lib.hid ((VT2.out.gr HG23.out).wr hw4 (by simp; omega))
 have HG4 := Lib.hid ((HG2.out.trans HG23.out).wr hw4 (fun x hx => by rw [List.mem_singleton.1 hx]; omega))
 have HC4 := Lib.hid hc4
 clear hc4 hw4 HVX3 HVY3 HC2 VS2 VT2 HOS2 HOT2
 cases x4 with
 | false =>
  go_upto_region 5 with fail
  have HXY := HXX
  have HYY := HYYY
  have HVS := HS4
  have HVT := HR4
  have HOY := HO4
  have HTY := HT4
  have HCY := HC4
  have HGY := HG4
  have HBN := Lib.hid (show Bent u u from .inl rfl)
  have HFSY := Lib.hid (show ∀ x ∈ Fs, w.heap.size + 1 < x ∧ b < x from fun x hx => by have := HFS2.out x hx; omega)
  have HFTY := Lib.hid (show ∀ x ∈ Ft, w.heap.size + 1 < x ∧ b < x from fun x hx => by have := HFT2.out x hx; omega)
  have hlY : u.length ≤ 40 := by rw [HBN.out.len]; exact hlu
  have x0 := HXY.out.cell (k := 0) (by simp)
  have y0 := HYY.out.cell (k := 0) (by simp)
  have zx0 := blk x0
  have zy0 := blk y0
  have hbY := HCY.out.lt
  have hsY := HVS.out.lt
  have hrY := HVT.out.lt
  have iw1 : IntKind.i64.wrap ((u.length : Int) + 1) = (u.length : Int) + 1 := IntWalk.i64_in _ (by omega)
  have hnx : W2.heap.size ∉ [b, w.heap.size, w.heap.size + 1] := by simp; omega
  have hny : (W2.heap.size + 1) ∉ [b, w.heap.size, w.heap.size + 1] := by simp; omega
  have kk0 := fun (w' : World) (h : Wr [b, w.heap.size, w.heap.size + 1] W4 w') => h.keepC x0 hnx
  have kk1 := fun (w' : World) (h : Wr [b, w.heap.size, w.heap.size + 1] W4 w') => h.keepC y0 hny
  go_upto_region 5 with fail
  refine wp_region_U (fun w' => Wr [b, w.heap.size, w.heap.size + 1] W4 w') 10 (by kernel_rfl) ((gd : Gr W4 W4.drew).toWr [b, w.heap.size, w.heap.size + 1]) (fun hU => ?_)
  refine anyU_q 0 ?_
  try simp only [Act.put, uq1, uq2, uq3]
  refine anyU_q 1 ?_
  try simp only [Act.put, uq1, uq2, uq3]
  refine anyU_q 2 ?_
  try simp only [Act.put, uq1, uq2, uq3]
  refine anyU_q 3 ?_
  try simp only [Act.put, uq1, uq2, uq3]
  refine anyU_q 4 ?_
  try simp only [Act.put, uq1, uq2, uq3]
  refine anyU_q 5 ?_
  try simp only [Act.put, uq1, uq2, uq3]
  refine anyU_q 6 ?_
  try simp only [Act.put, uq1, uq2, uq3]
  refine anyU_ready (rs := [7]) (by kernel_rfl) (by simp) ?_
  refine (ReadyU.cons rfl (fun K hK => ?_) ReadyU.nil)
  go_simp
  go_at_call 52
  refine (l1Below_any b ((u.length : Int) + 1) _ (HCY.out.gr gd) (by omega) (by omega)).mono ?_
  rintro e WA ⟨xa, rfl, hxa0, hxa1, hca, hwa⟩
  have wya := ((Gr.drew (Gr.refl W4)).toWr [b]).trans hwa
  have vs1 := HVS.out.wr wya (by simp; omega)
  have vt1 := HVT.out.wr wya (by simp; omega)
  have s0 := vs1.cell (k := 0) (by simp)
  have t0 := vt1.cell (k := 0) (by simp)
  have fs0 := vs1.frozen 0
  have ft0 := vt1.frozen 0
  have zs0 := blk s0
  have zt0 := blk t0
  have HS1 := Lib.hid vs1
  have HT1 := Lib.hid vt1
  have HWA := Lib.hid wya
  refine hK.out _ _ (wya.sub (fun x hx => by rw [List.mem_singleton.1 hx]; simp)) (fun hU1 => ?_)
  clear hK K hca hwa wya vs1 vt1
  try simp only [Act.put, uq1, uq2, uq3]
  refine anyU_ready (rs := [8]) (by kernel_rfl) (by simp) ?_
  refine (ReadyU.cons rfl (fun K hK => ?_) ReadyU.nil)
  go_simp
  have wst := (Wr.refl [b, w.heap.size, w.heap.size + 1] WA).setCell (b := w.heap.size) (o := 0) (by simp) (.slice av s.length cv)
  refine hK.out _ _ (hU1.trans wst) (fun hU4 => ?_)
  clear hK K
  try simp only [Act.put, uq1, uq2, uq3]
  refine anyU_ready (rs := [9]) (by kernel_rfl) (by simp) ?_
  refine (ReadyU.cons rfl (fun K hK => ?_) ReadyU.nil)
  go_simp
  have wst2 := wst.setCell (b := w.heap.size + 1) (o := 0) (by simp) (.slice at2 u.length ct2)
  refine hK.out _ _ (hU1.trans wst2) (fun hU5 => ?_)
  clear hK K
  try simp only [Act.put, uq1, uq2, uq3]
  refine anyU_ready (rs := [10]) (by kernel_rfl) (by simp) ?_
  refine ReadyU.last rfl (fun K hK => ?_)
  go_simp
  refine hK.out _ _ ?_
  clear hK K
  try simp only [Act.put, uq1, uq2, uq3]
  refine anyU_done (by kernel_rfl) ?_ _
  have wF := (HWA.out.sub (fun x hx => by rw [List.mem_singleton.1 hx]; simp) : Wr [b, w.heap.size, w.heap.size + 1] W4 WA).trans wst2
  have sF := (HS1.out.set 0 (.slice av s.length cv)).ne (b := w.heap.size) (c := w.heap.size + 1) (k := 0) (u := .slice at2 u.length ct2) (by omega)
  have tF := (HT1.out.ne (b := w.heap.size + 1) (c := w.heap.size) (k := 0) (u := .slice av s.length cv) (by omega)).set 0 (.slice at2 u.length ct2)
  generalize (WA.setCell ⟨w.heap.size, 0, none⟩ (.slice av s.length cv)).setCell ⟨w.heap.size + 1, 0, none⟩ (.slice at2 u.length ct2) = WF at wF sF tF ⊢
  have r0 := sF.cell (k := 0) (by simp)
  have r1 := tF.cell (k := 0) (by simp)
  have hOF := HOY.out.wr wF (fun x hx hm => by
   have h1 := HFSY.out x hx
   simp at hm
   omega)
  have hTF := HTY.out.wr wF (fun x hx hm => by
   have h1 := HFTY.out x hx
   simp at hm
   omega)
  have hwu := HFU.out.wt hlu
  have hwn := HBN.out.wt
  obtain ⟨fF, hrF, -, -⟩ := hOF.rd (by omega)
  obtain ⟨gF, hrG, -, -⟩ := hTF.rd (by omega)
  have gF2 := HGY.out.wr wF (fun x hx => by simp at hx; omega)
  go_wp2_with fail
  exact bodyPost_ret (v := .tuple #[.agg #[.slice av s.length cv], .agg #[.slice at2 u.length ct2], .int .i64 xa]) (by simp [results, Try.results25, go_sem, r0, r1]) rfl ⟨_, fF, _, _, gF, u, u, xa, rfl, hrF, hrG, by omega, HFU.out, hlu, HBN.out, hxa0, by omega, gF2⟩
 | true =>
  have hu1 : 0 < u.length := HFU.out.2.pos
  obtain ⟨g, cap, vj, fpj, ev, hgl, hgw, hgF, hcell, hfz, hOj, hfj, hgn, hvF, hgrow, -⟩ := HT4.out.at (i := 0) hu1
  injection ev with ev1 ev2 ev3
  subst ev1 ev3
  clear ev2
  obtain ⟨CH, hCH⟩ : ∃ CH, CH = u[0].2.2.2.2.2 := ⟨_, rfl⟩
  have hCl : CH.length ≤ 3 := by rw [hCH]; exact (HFU.out.1 _ (List.getElem_mem hu1)).2.2.2.1
  rw [← hCH] at hOj
  obtain ⟨aj, cj, hjf⟩ := hOj.form
  subst hjf
  have e2 : W4.cell? ⟨g, 5, none⟩ = some (.slice aj CH.length cj) := hcell 5 _ rfl
  have fe2 : W4.frozen? ⟨g, 5, none⟩ = false := hfz 5
  have ze2 := blk e2
  have x0 := HYYY.out.cell (k := 0) (by simp)
  have zx0 := blk x0
  have HCHX := Lib.hid hCH
  have HGF := Lib.hid hgF
  have hgW := HFT2.out g hgF
  obtain ⟨OWN, hOWN⟩ : ∃ l, l = (Value.slice aj CH.length cj).ownBlock.toList := ⟨_, rfl⟩
  have HOB := Lib.hid (show ∀ c ∈ OWN, c ∈ Ft from fun c hc => by rw [hOWN] at hc; exact hvF c hc)
  have HOWN := Lib.hid hOWN
  have HNO1 := Lib.hid (show W2.heap.size + 1 ∉ b :: OWN from fun hm => by
   rcases List.mem_cons.1 hm with h | h
   ·omega
   ·have := HFT2.out _ (HOB.out _ h); omega)
  have HNO2 := Lib.hid (show g ∉ b :: OWN from fun hm => by
   rcases List.mem_cons.1 hm with h | h
   ·omega
   ·rw [hOWN] at h; exact hgn h)
  clear hcell hfz hOj hgrow hvF hgn hfj hgF hCH hOWN
  have kk0 := fun (w' : World) (h : Wr (b :: OWN) W4 w') => h.keepC x0 HNO1.out
  have kk1 := fun (w' : World) (h : Wr (b :: OWN) W4 w') => h.keepC e2 HNO2.out
  have hbl4 := HC4.out.lt
  go_wp2_with fail
  refine wp_region_U (fun w' => Wr (b :: OWN) W4 w') 14 (by kernel_rfl) ((gd : Gr W4 W4.drew).toWr (b :: OWN)) (fun hU => ?_)
  refine anyU_q 0 ?_
  try simp only [Act.put, uq1, uq2, uq3]
  refine anyU_q 2 ?_
  try simp only [Act.put, uq1, uq2, uq3]
  refine anyU_q 7 ?_
  try simp only [Act.put, uq1, uq2, uq3]
  refine anyU_q 1 ?_
  try simp only [Act.put, uq1, uq2, uq3]
  refine anyU_q 3 ?_
  try simp only [Act.put, uq1, uq2, uq3]
  refine anyU_q 4 ?_
  try simp only [Act.put, uq1, uq2, uq3]
  refine anyU_q 5 ?_
  try simp only [Act.put, uq1, uq2, uq3]
  refine anyU_q 6 ?_
  try simp only [Act.put, uq1, uq2, uq3]
  refine anyU_ready (rs := [8]) (by kernel_rfl) (by simp) ?_
  refine (ReadyU.cons rfl (fun K hK => ?_) ReadyU.nil)
  go_simp
  obtain ⟨fl, hl1, hl2⟩ := SlR.litI 3 (w := W4.drew) (g := W4.heap.size) (n := 3) (cs := #[.int .i64 0, .int .i64 99, .int .i64 (-1)]) rfl [0, 99, -1] rfl rfl (by decide) (by decide)
  have HLA := Lib.hid hl1
  have hlb : b ∉ fl := fun hm => by have h1 : W4.heap.size ≤ b := hl2 b hm; omega
  refine hK.out _ _ ((gd : Gr W4 (W4.drew.alloc (.cells #[.int .i64 0, .int .i64 99, .int .i64 (-1)] 3))).toWr _) (fun hU2 => ?_)
  clear hK K hl1 hl2
  try simp only [Act.put, uq1, uq2, uq3]
  refine anyU_ready (rs := [9]) (by kernel_rfl) (by simp) ?_
  refine (ReadyU.cons rfl (fun K hK => ?_) ReadyU.nil)
  go_simp
  go_at_call 53
  refine (l1PickInt_any b fl _ [0, 99, -1] _ (HC4.out.gr gd) HLA.out hlb (by simp) (by simp)).mono ?_
  rintro e W9 ⟨y, hy, rfl, hc9, hw9⟩
  have hyy : y = 0 ∨ y = 99 ∨ y = -1 := by simpa using hy
  have w89 := ((gd : Gr W4 (W4.drew.alloc (.cells #[.int .i64 0, .int .i64 99, .int .i64 (-1)] 3))).toWr [b]).trans hw9
  have hz89 := w89.size
  have HW89 := Lib.hid w89
  have HC9 := Lib.hid hc9
  have HT9 := Lib.hid (HT4.out.wr w89 (fun x hx hm => by have h1 := HFT2.out x hx; have h2 := List.mem_singleton.1 hm; omega))
  obtain ⟨g', cap', vj', fpj', ev', -, -, -, hcell', -, hOj', -, -, -, hgrow', -⟩ := HT9.out.at (i := 0) hu1
  injection ev' with ev1 ev2 ev3
  obtain rfl : g = g' := by injection ev1 with h; injection h
  have e29' := w89.keepC e2 (by simp; omega)
  obtain rfl : Value.slice aj CH.length cj = vj' := Option.some.inj (e29'.symm.trans (hcell' 5 _ rfl))
  rw [← HCHX.out] at hOj'
  have HOJ9 := Lib.hid hOj'
  have HGR9 := Lib.hid hgrow'
  have HYY9 := Lib.hid hyy
  have HG9 := Lib.hid (HG4.out.wr w89 (fun x hx => by rw [List.mem_singleton.1 hx]; omega))
  clear ev1 ev2 ev3 hcell' hOj' hgrow' e29' hy hyy
  refine hK.out _ _ (w89.sub (fun c hc => by rw [List.mem_singleton.1 hc]; simp)) (fun hU1 => ?_)
  clear hK K hc9 hw9 w89
  try simp only [Act.put, uq1, uq2, uq3]
  refine anyU_ready (rs := [10]) (by kernel_rfl) (by simp) ?_
  refine (ReadyU.cons rfl (fun K hK => ?_) ReadyU.nil)
  go_simp
  refine hK.out _ _ ((HW89.out.gr gd).sub (fun c hc => by rw [List.mem_singleton.1 hc]; simp)) (fun hU3 => ?_)
  clear hK K
  try simp only [Act.put, uq1, uq2, uq3]
  refine anyU_ready (rs := [11]) (by kernel_rfl) (by simp) ?_
  refine (ReadyU.cons rfl (fun K hK => ?_) ReadyU.nil)
  have hwfy : (Lit.int .i64 y).wf = true := wf_of (by have := HYY9.out; omega) (by have := HYY9.out; omega)
  refine step_append_RB (α := Int) (wg := w) (w0 := w) (HG9.out.trans gd) (Nat.le_refl _) (by simp; omega) (by rfl) _ _ _ (by rfl) 3 i0 (.int .i64 0) 8 Try.underlying59 HZ.out.1 HZ.out.2.1 HZ.out.2.2.1 HZ.out.2.2.2 rfl (.slice aj CH.length cj) fpj' CH (by rfl) (HOJ9.out.gr gd) _ [[]] [y] (by rfl) (SrcR.one (w := W9) (by simp) (intRd hwfy _)) (fun c _ => by simp) (by unfold maxLen; simp; omega) (by simp; omega) ?_
  intro v10 w10 k1 k2 k3 k4
  have k2' := ((Gr.toWr (show Gr W9 (W9.alloc (.cells #[.int .i64 y] 3)) from gd) (Value.slice aj CH.length cj).ownBlock.toList).trans k2)
  rw [← HOWN.out] at k2'
  have hz10 := k2'.size
  have w810 : Wr (b :: OWN) W4 w10 := (HW89.out.sub (fun c hc => by rw [List.mem_singleton.1 hc]; simp)).trans (k2'.sub (fun c hc => List.mem_cons_of_mem _ hc))
  obtain ⟨vb, vcc, hfo⟩ := k1.form
  subst hfo
  have K1 := Lib.hid k1
  have K2 := Lib.hid k2'
  have K3 := Lib.hid (show (Value.slice vb (CH ++ [y]).length vcc).ownBlock = (Value.slice aj CH.length cj).ownBlock ∨ ∃ n, (Value.slice vb (CH ++ [y]).length vcc).ownBlock = some n ∧ W9.heap.size ≤ n from k3.imp id fun h => ⟨_, h, by simp⟩)
  have W810 := Lib.hid w810
  have e29 := w810.keepC e2 HNO2.out
  have f29 := w810.frozenC fe2 ze2 HNO2.out
  have z29 := blk e29
  clear k1 k2 k3 k4 k2'
  refine hK.out _ _ w810 (fun hU4 => ?_)
  clear hK K w810
  try simp only [Act.put, uq1, uq2, uq3]
  refine anyU_ready (rs := [12]) (by kernel_rfl) (by simp) ?_
  refine (ReadyU.cons rfl (fun K hK => ?_) ReadyU.nil)
  go_simp
  refine hK.out _ _ (by assumption) (fun hU0 => ?_)
  clear hK K hU0
  try simp only [Act.put, uq1, uq2, uq3]
  refine anyU_q 13 ?_
  try simp only [Act.put, uq1, uq2, uq3]
  refine anyU_ready (rs := [14]) (by kernel_rfl) (by simp) ?_
  refine ReadyU.last rfl (fun K hK => ?_)
  go_simp
  refine hK.out _ _ ?_
  clear hK K
  try simp only [Act.put, uq1, uq2, uq3]
  refine anyU_done (by kernel_rfl) ?_ _
  skip
  obtain ⟨FZ, hoZ, hfZ⟩ := HGR9.out w10 _ (CH ++ [y]) (by rw [← HOWN.out]; exact K2.out) K1.out K3.out
  rw [show (Value.slice vb (CH ++ [y]).length vcc) = .slice vb (CH.length + 1) vcc by simp, show (⟨g, 0 * 6 + 5, none⟩ : Addr) = ⟨g, 5, none⟩ from rfl] at hoZ
  have wU : Wr [g] w10 (w10.setCell ⟨g, 5, none⟩ (.slice vb (CH.length + 1) vcc)) := (Wr.refl [g] w10).setCell (List.mem_singleton.2 rfl) _
  generalize w10.setCell ⟨g, 5, none⟩ (.slice vb (CH.length + 1) vcc) = WZ at hoZ wU ⊢
  have hsZ := wU.size
  have wZ : Wr (g :: b :: OWN) W4 WZ := (W810.out.sub (fun c hc => List.mem_cons_of_mem _ hc)).trans (wU.sub (fun x hx => by rw [List.mem_singleton.1 hx]; simp))
  have hin : ∀ x ∈ g :: b :: OWN, x = b ∨ x ∈ Ft := fun x hx => by
   rcases List.mem_cons.1 hx with h | h
   ·exact .inr (by rw [h]; exact HGF.out)
   ·rcases List.mem_cons.1 h with h | h
    ·exact .inl h
    ·exact .inr (HOB.out x h)
  have hnot : ∀ c, c < W1.heap.size ∨ W2.heap.size ≤ c → c ≠ b → c ∉ g :: b :: OWN := fun c hc hb hm => by
   rcases hin c hm with h | h
   ·exact hb h
   ·have := HFT2.out c h; omega
  have HXY := Lib.hid (HXX.out.wr wZ (hnot _ (by omega) (by omega)))
  have HYY := Lib.hid (HYYY.out.wr wZ (hnot _ (by omega) (by omega)))
  have HVS := Lib.hid (HS4.out.wr wZ (hnot _ (by omega) (by omega)))
  have HVT := Lib.hid (HR4.out.wr wZ (hnot _ (by omega) (by omega)))
  have HOY := Lib.hid (HO4.out.wr wZ (fun x hx hm => by
   rcases hin x hm with h | h
   ·have := HFS2.out x hx; omega
   ·exact HDIS.out x hx h))
  have HCY := Lib.hid ((HC9.out.wr K2.out (fun x hx => by have := HFT2.out x (HOB.out x hx); omega)).wr wU (fun x hx => by rw [List.mem_singleton.1 hx]; omega))
  have HGY := Lib.hid (HG4.out.wr wZ (fun x hx => by
   rcases hin x hx with h | h
   ·omega
   ·have := HFT2.out x h; omega))
  obtain ⟨nz, hnz⟩ : ∃ nz, nz = u.set 0 (u[0].1, u[0].2.1, u[0].2.2.1, u[0].2.2.2.1, u[0].2.2.2.2.1, CH ++ [y]) := ⟨_, rfl⟩
  rw [← hnz] at hoZ
  have HBN := Lib.hid (show Bent u nz from .inr ⟨u[0], y, List.getElem?_eq_getElem hu1, HYY9.out, by rw [hnz, HCHX.out]⟩)
  have hlz : nz.length = u.length := HBN.out.len
  have HTY := Lib.hid hoZ
  have HFSY := Lib.hid (show ∀ x ∈ Fs, w.heap.size + 1 < x ∧ b < x from fun x hx => by have := HFS2.out x hx; omega)
  have HFTY := Lib.hid (show ∀ x ∈ FZ, w.heap.size + 1 < x ∧ b < x from fun x hx => by
   rcases hfZ x hx with h | h
   ·have := HFT2.out x h; omega
   ·omega)
  have hbz : b < WZ.heap.size := by omega
  rw [← hlz] at HYY HTY
  clear hnz hoZ kk0 kk1 e2 fe2 ze2 e29 f29 z29 x0 zx0 hU hU1 hU2 hU3 hU4 K1 K2 K3 HGR9 HOJ9 HT9 HC9 HW89 HLA hlz
  go_upto_region 5 with fail
  have hlY : nz.length ≤ 40 := by rw [HBN.out.len]; exact hlu
  have x0 := HXY.out.cell (k := 0) (by simp)
  have y0 := HYY.out.cell (k := 0) (by simp)
  have zx0 := blk x0
  have zy0 := blk y0
  have hbY := HCY.out.lt
  have hsY := HVS.out.lt
  have hrY := HVT.out.lt
  have iw1 : IntKind.i64.wrap ((nz.length : Int) + 1) = (nz.length : Int) + 1 := IntWalk.i64_in _ (by omega)
  have hnx : W2.heap.size ∉ [b, w.heap.size, w.heap.size + 1] := by simp; omega
  have hny : (W2.heap.size + 1) ∉ [b, w.heap.size, w.heap.size + 1] := by simp; omega
  have kk0 := fun (w' : World) (h : Wr [b, w.heap.size, w.heap.size + 1] WZ w') => h.keepC x0 hnx
  have kk1 := fun (w' : World) (h : Wr [b, w.heap.size, w.heap.size + 1] WZ w') => h.keepC y0 hny
  go_upto_region 5 with fail
  refine wp_region_U (fun w' => Wr [b, w.heap.size, w.heap.size + 1] WZ w') 10 (by kernel_rfl) ((gd : Gr WZ WZ.drew).toWr [b, w.heap.size, w.heap.size + 1]) (fun hU => ?_)
  refine anyU_q 0 ?_
  try simp only [Act.put, uq1, uq2, uq3]
  refine anyU_q 1 ?_
  try simp only [Act.put, uq1, uq2, uq3]
  refine anyU_q 2 ?_
  try simp only [Act.put, uq1, uq2, uq3]
  refine anyU_q 3 ?_
  try simp only [Act.put, uq1, uq2, uq3]
  refine anyU_q 4 ?_
  try simp only [Act.put, uq1, uq2, uq3]
  refine anyU_q 5 ?_
  try simp only [Act.put, uq1, uq2, uq3]
  refine anyU_q 6 ?_
  try simp only [Act.put, uq1, uq2, uq3]
  refine anyU_ready (rs := [7]) (by kernel_rfl) (by simp) ?_
  refine (ReadyU.cons rfl (fun K hK => ?_) ReadyU.nil)
  go_simp
  go_at_call 52
  refine (l1Below_any b ((nz.length : Int) + 1) _ (HCY.out.gr gd) (by omega) (by omega)).mono ?_
  rintro e WA ⟨xa, rfl, hxa0, hxa1, hca, hwa⟩
  have wya := ((Gr.drew (Gr.refl WZ)).toWr [b]).trans hwa
  have vs1 := HVS.out.wr wya (by simp; omega)
  have vt1 := HVT.out.wr wya (by simp; omega)
  have s0 := vs1.cell (k := 0) (by simp)
  have t0 := vt1.cell (k := 0) (by simp)
  have fs0 := vs1.frozen 0
  have ft0 := vt1.frozen 0
  have zs0 := blk s0
  have zt0 := blk t0
  have HS1 := Lib.hid vs1
  have HT1 := Lib.hid vt1
  have HWA := Lib.hid wya
  refine hK.out _ _ (wya.sub (fun x hx => by rw [List.mem_singleton.1 hx]; simp)) (fun hU1 => ?_)
  clear hK K hca hwa wya vs1 vt1
  try simp only [Act.put, uq1, uq2, uq3]
  refine anyU_ready (rs := [8]) (by kernel_rfl) (by simp) ?_
  refine (ReadyU.cons rfl (fun K hK => ?_) ReadyU.nil)
  go_simp
  have wst := (Wr.refl [b, w.heap.size, w.heap.size + 1] WA).setCell (b := w.heap.size) (o := 0) (by simp) (.slice av s.length cv)
  refine hK.out _ _ (hU1.trans wst) (fun hU4 => ?_)
  clear hK K
  try simp only [Act.put, uq1, uq2, uq3]
  refine anyU_ready (rs := [9]) (by kernel_rfl) (by simp) ?_
  refine (ReadyU.cons rfl (fun K hK => ?_) ReadyU.nil)
  go_simp
  have wst2 := wst.setCell (b := w.heap.size + 1) (o := 0) (by simp) (.slice (some ⟨g, 0, none⟩) nz.length ct2)
  refine hK.out _ _ (hU1.trans wst2) (fun hU5 => ?_)
  clear hK K
  try simp only [Act.put, uq1, uq2, uq3]
  refine anyU_ready (rs := [10]) (by kernel_rfl) (by simp) ?_
  refine ReadyU.last rfl (fun K hK => ?_)
  go_simp
  refine hK.out _ _ ?_
  clear hK K
  try simp only [Act.put, uq1, uq2, uq3]
  refine anyU_done (by kernel_rfl) ?_ _
  have wF := (HWA.out.sub (fun x hx => by rw [List.mem_singleton.1 hx]; simp) : Wr [b, w.heap.size, w.heap.size + 1] WZ WA).trans wst2
  have sF := (HS1.out.set 0 (.slice av s.length cv)).ne (b := w.heap.size) (c := w.heap.size + 1) (k := 0) (u := .slice (some ⟨g, 0, none⟩) nz.length ct2) (by omega)
  have tF := (HT1.out.ne (b := w.heap.size + 1) (c := w.heap.size) (k := 0) (u := .slice av s.length cv) (by omega)).set 0 (.slice (some ⟨g, 0, none⟩) nz.length ct2)
  generalize (WA.setCell ⟨w.heap.size, 0, none⟩ (.slice av s.length cv)).setCell ⟨w.heap.size + 1, 0, none⟩ (.slice (some ⟨g, 0, none⟩) nz.length ct2) = WF at wF sF tF ⊢
  have r0 := sF.cell (k := 0) (by simp)
  have r1 := tF.cell (k := 0) (by simp)
  have hOF := HOY.out.wr wF (fun x hx hm => by
   have h1 := HFSY.out x hx
   simp at hm
   omega)
  have hTF := HTY.out.wr wF (fun x hx hm => by
   have h1 := HFTY.out x hx
   simp at hm
   omega)
  have hwu := HFU.out.wt hlu
  have hwn := HBN.out.wt
  obtain ⟨fF, hrF, -, -⟩ := hOF.rd (by omega)
  obtain ⟨gF, hrG, -, -⟩ := hTF.rd (by omega)
  have gF2 := HGY.out.wr wF (fun x hx => by simp at hx; omega)
  go_wp2_with fail
  exact bodyPost_ret (v := .tuple #[.agg #[.slice av s.length cv], .agg #[.slice (some ⟨g, 0, none⟩) nz.length ct2], .int .i64 xa]) (by simp [results, Try.results25, go_sem, r0, r1]) rfl ⟨_, fF, _, _, gF, u, nz, xa, rfl, hrF, hrG, by omega, HFU.out, hlu, HBN.out, hxa0, by omega, gF2⟩
end Go.Proofs.Ytmfcagcanhmdbaa
