/- A store, a cell and a first Id drawn. No condition. -/
import Derived.Test.YtmfcagcanhmdbaaE40
import Derived.Test.YtmfcagcanhmdbaaE27
namespace Go.Proofs.Ytmfcagcanhmdbaa
open Go.RowKit
set_option linter.unusedVariables false
set_option linter.unusedSimpArgs false

theorem OwnR.takeZ {α : Type} [Rd α] {w0 w : World} {e : TypeId} {a : Option Addr} {c : Nat} {fps : List (List Nat)} {xs : List α} (h : OwnR w0 e w (.slice a xs.length c) fps xs) {k : Nat} (hk : k ≤ xs.length) (hx : 0 < xs.length) : OwnR w0 e w (.slice a k c) (fps.take k) (xs.take k) := by
 have hfl := h.fl
 obtain ⟨⟨css, ho, hE⟩, ha⟩ := h
 have hcl := hE.cl
 have hnn := hE.n
 rcases ho.2 with ⟨_, h0⟩ | ⟨g, cap, cur, hv, hb, hg, hnc, hcm, hcs, htake⟩
 ·omega
 ·injection hv with e1 e2 e3
  subst e1 e3
  have hkl : (xs.take k).length = k := by simp; omega
  refine ⟨⟨css.take k, ⟨?_, .inr ⟨g, c, cur, by rw [hkl], hb, hg, by rw [hkl]; omega, hcm, hcs, ?_⟩⟩, ?_⟩, fun b hb' hm => ha b hb' ?_⟩
  ·rw [flat_len (fun c hc => hnn c (List.mem_of_mem_take hc))]; simp [hcl]
  ·rw [hkl]
   have e1 : (css.take k).flatten = css.flatten.take (k * Rd.n α) := by
    rw [← List.take_append_drop k css, List.flatten_append]
    have : (css.take k).flatten.length = k * Rd.n α := by rw [flat_len (fun c hc => hnn c (List.mem_of_mem_take hc))]; rw [List.length_take, Nat.min_eq_left (by omega)]
    rw [List.take_append_drop, ← this, List.take_left']
    rfl
   rw [e1, ← htake, List.take_take, Nat.min_eq_left (Nat.mul_le_mul_right _ hk)]
  ·refine ⟨by simp [hcl], by simp [hfl], fun i h0 h1 h2 => ?_⟩
   simp only [List.getElem_take]
   exact hE.rd i (by simp at h0; omega) (by simp at h1; omega) (by simp at h2; omega)
  ·obtain ⟨f, hf, hbf⟩ := List.mem_flatten.1 hm
   exact List.mem_flatten.2 ⟨f, List.mem_of_mem_take hf, hbf⟩

def ExpD (w : World) (e : Ending) (w' : World) : Prop :=
 ∃ (vs : Value) (fq : List Nat) (s : GStore) (a i : Int), e = .returned (.tuple #[.agg #[vs], .int .i64 a, .int .i64 i]) ∧ Rd.rd (α := GStore) fq w' [vs] s ∧ (∀ x ∈ fq, w.heap.size ≤ x) ∧ wtStore s ≤ 9000 ∧ -1 ≤ a ∧ a ≤ 9001 ∧ 0 ≤ i ∧ i ≤ 999 ∧ Gr w w'
def ExpIn (b sB k : Nat) (w wr : World) : Prop :=
 ∃ (v : Value) (F : List Nat) (s : GStore), VRow wr sB 32 [v] ∧ OwnD w wr v F s ∧ (∀ x ∈ F, x ≠ sB ∧ w.heap.size < x ∧ b < x) ∧ wtStore s ≤ 8001 + 10 * k ∧ CurR wr b ∧ VRow wr w.heap.size 32 [.slice none 0 0] ∧ Gr w wr

set_option maxRecDepth 100000 in
set_option maxHeartbeats 16000000 in
theorem drawExpand_any (fp : List Nat) (u : Value) (code : List U8) (w : World) (hu : SlR fp w u code) (hlen : code.length ≤ 1048576) :
  Calls Try.prog 18 #[u] w (ExpD w) := by
 obtain ⟨i0, hi, hz0, hz1, hz2⟩ := info_parts Try.infoCell
 have HZ := Lib.hid (And.intro hi (And.intro hz0 (And.intro hz1 hz2)))
 clear hi hz0 hz1 hz2
 have HU := Lib.hid hu
 obtain ⟨a, c, rfl, k1, k2, k3⟩ := hu.open
 clear hu k3
 go_enter Try.func18, Try.ntmps18
 go_wp2_with fail
 refine (l1New_any fp _ code _ (HU.out.gr gd) hlen).mono ?_
 rintro e W1 ⟨b, rfl, hc1, hb1, hg1⟩
 have VS1 := Lib.hid (show VRow W1 w.heap.size 32 [.slice none 0 0] from (VRow.new (A := w) rfl).gr hg1)
 have hG1 := Lib.hid ((gd : Gr w (w.alloc (.cells #[.slice none 0 0] 32))).trans hg1)
 have hs1 := hG1.out.size
 have HC1 := Lib.hid hc1
 have hb0 : w.heap.size < b := by simp at hb1; omega
 clear hg1 hc1 hb1
 go_wp2_with fail
 refine (l39Draw_any b W1 HC1.out).mono ?_
 rintro e W2 ⟨vs, Fs, s, vt, Ft, ns, rfl, hos, hot, -, hws, -, -, hc2, hw2⟩
 obtain ⟨av, cv, rfl⟩ := hos.form
 obtain ⟨at2, ct2, rfl⟩ := hot.form
 have hs2 := hw2.size
 have HOS2 := Lib.hid (hos.lower (w0 := w) (by omega))
 have HFS2 := Lib.hid (show ∀ x ∈ Fs, W1.heap.size ≤ x ∧ x < W2.heap.size from fun x hx => ⟨hos.ge x hx, hos.lt x hx⟩)
 have HC2 := Lib.hid hc2
 have hb1 : b < W1.heap.size := HC1.out.lt
 have VS2 := Lib.hid (VS1.out.wr hw2 (by simp; omega))
 have HG2 := Lib.hid (hG1.out.wr hw2 (fun x hx => by rw [List.mem_singleton.1 hx]; omega))
 clear hos hc2 hw2
 go_upto_region 3 with fail
 have VX3 := (show VRow ((W2.alloc (.cells #[.slice av s.length cv] 32)).alloc (.cells #[.slice at2 ns.length ct2] 38)) W2.heap.size 32 [.slice av s.length cv] from (VRow.new (A := W2) rfl).gr gd)
 have g23 := (show Gr W2 ((W2.alloc (.cells #[.slice av s.length cv] 32)).alloc (.cells #[.slice at2 ns.length ct2] 38)) from gd)
 generalize ((W2.alloc (.cells #[.slice av s.length cv] 32)).alloc (.cells #[.slice at2 ns.length ct2] 38)) = W3 at VX3 g23 ⊢
 have hs3 := g23.size
 have hx3 := VX3.lt
 have HVX3 := Lib.hid VX3
 have HG23 := Lib.hid g23
 clear VX3 g23
 go_wp2_with fail
 refine (l1Once_any b 8 _ (HC2.out.gr HG23.out) (by omega) (by omega)).mono ?_
 rintro e W4 ⟨x4, rfl, hc4, hw4⟩
 have hs4 := hw4.size
 have hX4 : ExpIn b W2.heap.size 0 w W4 := ⟨_, Fs, s, HVX3.out.wr hw4 (by simp; omega), (HOS2.out.gr HG23.out).wr hw4 (fun x hx hm => by have h1 := HFS2.out x hx; have h2 := List.mem_singleton.1 hm; omega), fun x hx => by have h1 := HFS2.out x hx; omega, by omega, hc4, (VS2.out.gr HG23.out).wr hw4 (by simp; omega), (HG2.out.trans HG23.out).wr hw4 (fun x hx => by rw [List.mem_singleton.1 hx]; omega)⟩
 have HX4 := Lib.hid hX4
 have hbs : b ≠ W2.heap.size := by omega
 have hsl : w.heap.size < W2.heap.size := by omega
 clear hc4 hw4 hX4 HVX3 HC2 VS2 HOS2
 cases x4 with
 | false =>
  go_upto_region 9 with fail
  have HXF := Lib.hid (show ∃ k, k ≤ 6 ∧ ExpIn b W2.heap.size k w W4 from ⟨0, by omega, HX4.out⟩)
  obtain ⟨k9, hk9, ⟨v9, F9, s9, hv9, ho9, hf9, hw9, hc9, hr9, hg9⟩⟩ := HXF.out
  obtain ⟨a9, c9, rfl⟩ := ho9.form
  have hsl9 : s9.length ≤ 9000 := (kids_store (M := 9000) (by omega)).1
  have hsz9 := hg9.size
  have HV9 := Lib.hid hv9
  have HO9 := Lib.hid ho9
  have HF9 := Lib.hid hf9
  have HC9 := Lib.hid hc9
  have HR9 := Lib.hid hr9
  have HG9 := Lib.hid hg9
  have hbl9 := hc9.lt
  have hr9l := hr9.lt
  clear hv9 ho9 hf9 hc9 hr9 hg9
  have x0 := HV9.out.cell (k := 0) (by simp)
  have zx0 := blk x0
  have iw2 : IntKind.i64.wrap ((s9.length : Int) + 2) = (s9.length : Int) + 2 := IntWalk.i64_in _ (by omega)
  have hsb : W2.heap.size ∉ [b, w.heap.size] := by simp; omega
  have kk0 := fun (w' : World) (h : Wr [b, w.heap.size] W4 w') => h.keepC x0 hsb
  go_upto_region 9 with fail
  refine wp_region_U (fun w' => Wr [b, w.heap.size] W4 w') 13 (by kernel_rfl) ((gd : Gr W4 W4.drew).toWr [b, w.heap.size]) (fun hU => ?_)
  refine anyU_q 0 ?_
  try simp only [Act.put, uq1, uq2, uq3]
  refine anyU_q 1 ?_
  try simp only [Act.put, uq1, uq2, uq3]
  refine anyU_q 2 ?_
  try simp only [Act.put, uq1, uq2, uq3]
  refine anyU_q 8 ?_
  try simp only [Act.put, uq1, uq2, uq3]
  refine anyU_q 3 ?_
  try simp only [Act.put, uq1, uq2, uq3]
  refine anyU_q 4 ?_
  try simp only [Act.put, uq1, uq2, uq3]
  refine anyU_q 5 ?_
  try simp only [Act.put, uq1, uq2, uq3]
  refine anyU_ready (rs := [6, 9]) (by kernel_rfl) (by simp) ?_
  refine (ReadyU.cons rfl (fun K hK => ?_) (ReadyU.cons rfl (fun K hK => ?_) ReadyU.nil))
  ·skip
   go_simp
   go_at_call 52
   refine (l1Below_any b ((s9.length : Int) + 2) _ (HC9.out.gr gd) (by omega) (by omega)).mono ?_
   rintro e WA ⟨xa, rfl, hxa0, hxa1, hca, hwa⟩
   have iwx : IntKind.i64.wrap (xa - 1) = xa - 1 := IntWalk.i64_in _ (by omega)
   have wya := ((Gr.drew (Gr.refl W4)).toWr [b]).trans hwa
   have HCA := Lib.hid hca
   have HWA := Lib.hid wya
   refine hK.out _ _ (wya.sub (fun x hx => by rw [List.mem_singleton.1 hx]; simp)) (fun hU1 => ?_)
   clear hK K hca hwa wya
   try simp only [Act.put, uq1, uq2, uq3]
   refine anyU_q 7 ?_
   try simp only [Act.put, uq1, uq2, uq3]
   refine anyU_ready (rs := [9]) (by kernel_rfl) (by simp) ?_
   refine (ReadyU.cons rfl (fun K hK => ?_) ReadyU.nil)
   go_simp
   obtain ⟨fl, hl1, hl2⟩ := SlR.litI 3 (w := WA) (g := WA.heap.size) (n := 4) (cs := #[.int .i64 1, .int .i64 50, .int .i64 0, .int .i64 999]) rfl [1, 50, 0, 999] rfl rfl (by decide) (by decide)
   have hcl := HCA.out.gr (gd : Gr WA (WA.alloc (.cells #[.int .i64 1, .int .i64 50, .int .i64 0, .int .i64 999] 3)))
   have hwl := HWA.out.gr (gd : Gr WA (WA.alloc (.cells #[.int .i64 1, .int .i64 50, .int .i64 0, .int .i64 999] 3)))
   have hlb : b ∉ fl := fun hm => by have h1 := hl2 b hm; have h2 := HCA.out.lt; omega
   refine hK.out _ _ (hwl.sub (fun x hx => by rw [List.mem_singleton.1 hx]; simp)) (fun hU2 => ?_)
   clear hK K
   generalize WA.alloc (.cells #[.int .i64 1, .int .i64 50, .int .i64 0, .int .i64 999] 3) = WB at hl1 hcl hwl hU2 ⊢
   have HLB := Lib.hid hl1
   have HCB := Lib.hid hcl
   have HWB := Lib.hid hwl
   clear hl1 hcl hwl hl2
   try simp only [Act.put, uq1, uq2, uq3]
   refine anyU_ready (rs := [10]) (by kernel_rfl) (by simp) ?_
   refine (ReadyU.cons rfl (fun K hK => ?_) ReadyU.nil)
   go_simp
   go_at_call 53
   refine (l1PickInt_any b fl _ [1, 50, 0, 999] _ HCB.out HLB.out hlb (by simp) (by simp)).mono ?_
   rintro e WC ⟨y, hy, rfl, hcc, hwc⟩
   have hy0 : 0 ≤ y ∧ y ≤ 999 := by simp at hy; omega
   have wyc := HWB.out.trans hwc
   have vrc := HR9.out.wr wyc (by simp; omega)
   have t0 := vrc.cell (k := 0) (by simp)
   have ft0 := vrc.frozen 0
   have zt0 := blk t0
   have HRC := Lib.hid vrc
   have HWC := Lib.hid wyc
   refine hK.out _ _ (wyc.sub (fun x hx => by rw [List.mem_singleton.1 hx]; simp)) (fun hU3 => ?_)
   clear hK K hcc hwc wyc vrc hy
   try simp only [Act.put, uq1, uq2, uq3]
   refine anyU_ready (rs := [11]) (by kernel_rfl) (by simp) ?_
   refine (ReadyU.cons rfl (fun K hK => ?_) ReadyU.nil)
   go_simp
   have wst := (Wr.refl [b, w.heap.size] WC).setCell (b := w.heap.size) (o := 0) (by simp) (.slice a9 s9.length c9)
   refine hK.out _ _ (hU3.trans wst) (fun hU4 => ?_)
   clear hK K
   try simp only [Act.put, uq1, uq2, uq3]
   refine anyU_q 12 ?_
   try simp only [Act.put, uq1, uq2, uq3]
   refine anyU_ready (rs := [13]) (by kernel_rfl) (by simp) ?_
   refine ReadyU.last rfl (fun K hK => ?_)
   go_simp
   refine hK.out _ _ ?_
   clear hK K
   try simp only [Act.put, uq1, uq2, uq3]
   refine anyU_done (by kernel_rfl) ?_ _
   have wF := HWC.out.sub (fun x hx => by rw [List.mem_singleton.1 hx]; simp : ∀ x ∈ [b], x ∈ [b, w.heap.size]) |>.trans ((Wr.refl [b, w.heap.size] WC).setCell (b := w.heap.size) (o := 0) (by simp) (.slice a9 s9.length c9))
   have vF := HRC.out.set 0 (.slice a9 s9.length c9)
   generalize WC.setCell ⟨w.heap.size, 0, none⟩ (.slice a9 s9.length c9) = WF at wF vF hU4 ⊢
   have r0 := vF.cell (k := 0) (by simp)
   have hOF := HO9.out.wr wF (fun x hx hm => by
    have h1 := HF9.out x hx
    simp at hm
    omega)
   obtain ⟨fF, hrF, hfF, -⟩ := hOF.rd (by omega)
   have gF := HG9.out.wr wF (fun x hx => by simp at hx; omega)
   go_wp2_with fail
   exact bodyPost_ret (v := .tuple #[.agg #[.slice a9 s9.length c9], .int .i64 (xa - 1), .int .i64 y]) (by simp [results, Try.results18, go_sem, r0]) rfl ⟨_, fF, s9, xa - 1, y, rfl, hrF, hfF.2, by omega, by omega, by omega, hy0.1, hy0.2, gF⟩
  ·skip
   go_simp
   obtain ⟨fl, hl1, hl2⟩ := SlR.litI 3 (w := W4.drew) (g := W4.heap.size) (n := 4) (cs := #[.int .i64 1, .int .i64 50, .int .i64 0, .int .i64 999]) rfl [1, 50, 0, 999] rfl rfl (by decide) (by decide)
   have HLA := Lib.hid hl1
   have hlb : b ∉ fl := fun hm => by have h1 : W4.heap.size ≤ b := hl2 b hm; omega
   refine hK.out _ _ ((gd : Gr W4 (W4.drew.alloc (.cells #[.int .i64 1, .int .i64 50, .int .i64 0, .int .i64 999] 3))).toWr _) (fun hU2 => ?_)
   clear hK K hl1 hl2
   try simp only [Act.put, uq1, uq2, uq3]
   refine anyU_ready (rs := [6]) (by kernel_rfl) (by simp) ?_
   refine (ReadyU.cons rfl (fun K hK => ?_) ReadyU.nil)
   go_simp
   go_at_call 52
   refine (l1Below_any b ((s9.length : Int) + 2) _ (HC9.out.gr gd) (by omega) (by omega)).mono ?_
   rintro e WB ⟨xa, rfl, hxa0, hxa1, hca, hwa⟩
   have iwx : IntKind.i64.wrap (xa - 1) = xa - 1 := IntWalk.i64_in _ (by omega)
   have wya := ((gd : Gr W4 (W4.drew.alloc (.cells #[.int .i64 1, .int .i64 50, .int .i64 0, .int .i64 999] 3))).toWr [b]).trans hwa
   have HLB := Lib.hid (HLA.out.wr hwa (fun x hx hm => hlb (by rw [← List.mem_singleton.1 hm]; exact hx)))
   have HCB := Lib.hid hca
   have HWB := Lib.hid wya
   refine hK.out _ _ (wya.sub (fun x hx => by rw [List.mem_singleton.1 hx]; simp)) (fun hU1 => ?_)
   clear hK K hca hwa wya
   try simp only [Act.put, uq1, uq2, uq3]
   refine anyU_q 7 ?_
   try simp only [Act.put, uq1, uq2, uq3]
   refine anyU_ready (rs := [10]) (by kernel_rfl) (by simp) ?_
   refine (ReadyU.cons rfl (fun K hK => ?_) ReadyU.nil)
   go_simp
   go_at_call 53
   refine (l1PickInt_any b fl _ [1, 50, 0, 999] _ HCB.out HLB.out hlb (by simp) (by simp)).mono ?_
   rintro e WC ⟨y, hy, rfl, hcc, hwc⟩
   have hy0 : 0 ≤ y ∧ y ≤ 999 := by simp at hy; omega
   have wyc := HWB.out.trans hwc
   have vrc := HR9.out.wr wyc (by simp; omega)
   have t0 := vrc.cell (k := 0) (by simp)
   have ft0 := vrc.frozen 0
   have zt0 := blk t0
   have HRC := Lib.hid vrc
   have HWC := Lib.hid wyc
   refine hK.out _ _ (wyc.sub (fun x hx => by rw [List.mem_singleton.1 hx]; simp)) (fun hU3 => ?_)
   clear hK K hcc hwc wyc vrc hy
   try simp only [Act.put, uq1, uq2, uq3]
   refine anyU_ready (rs := [11]) (by kernel_rfl) (by simp) ?_
   refine (ReadyU.cons rfl (fun K hK => ?_) ReadyU.nil)
   go_simp
   have wst := (Wr.refl [b, w.heap.size] WC).setCell (b := w.heap.size) (o := 0) (by simp) (.slice a9 s9.length c9)
   refine hK.out _ _ (hU3.trans wst) (fun hU4 => ?_)
   clear hK K
   try simp only [Act.put, uq1, uq2, uq3]
   refine anyU_q 12 ?_
   try simp only [Act.put, uq1, uq2, uq3]
   refine anyU_ready (rs := [13]) (by kernel_rfl) (by simp) ?_
   refine ReadyU.last rfl (fun K hK => ?_)
   go_simp
   refine hK.out _ _ ?_
   clear hK K
   try simp only [Act.put, uq1, uq2, uq3]
   refine anyU_done (by kernel_rfl) ?_ _
   have wF := HWC.out.sub (fun x hx => by rw [List.mem_singleton.1 hx]; simp : ∀ x ∈ [b], x ∈ [b, w.heap.size]) |>.trans ((Wr.refl [b, w.heap.size] WC).setCell (b := w.heap.size) (o := 0) (by simp) (.slice a9 s9.length c9))
   have vF := HRC.out.set 0 (.slice a9 s9.length c9)
   generalize WC.setCell ⟨w.heap.size, 0, none⟩ (.slice a9 s9.length c9) = WF at wF vF hU4 ⊢
   have r0 := vF.cell (k := 0) (by simp)
   have hOF := HO9.out.wr wF (fun x hx hm => by
    have h1 := HF9.out x hx
    simp at hm
    omega)
   obtain ⟨fF, hrF, hfF, -⟩ := hOF.rd (by omega)
   have gF := HG9.out.wr wF (fun x hx => by simp at hx; omega)
   go_wp2_with fail
   exact bodyPost_ret (v := .tuple #[.agg #[.slice a9 s9.length c9], .int .i64 (xa - 1), .int .i64 y]) (by simp [results, Try.results18, go_sem, r0]) rfl ⟨_, fF, s9, xa - 1, y, rfl, hrF, hfF.2, by omega, by omega, by omega, hy0.1, hy0.2, gF⟩
 | true =>
  go_wp2_with fail
  go_loopw [8] (fun s8 wr => ∃ k : Nat, k ≤ 6 ∧ ExpIn b W2.heap.size k w wr ∧ s8 = .int .i64 k) (fun s8 _ => 6 - (intOf s8).toNat)
  case atStart => exact ⟨0, by omega, HX4.out, rfl⟩
  case round =>
   obtain ⟨k, hk, ⟨v5, F5, s5, hv5, ho5, hf5, hw5, hc5, hr5, hg5⟩, rfl⟩ := hrel
   rename World => W5
   obtain ⟨a5, c5, rfl⟩ := ho5.form
   have HV5 := Lib.hid hv5
   have HO5 := Lib.hid ho5
   have HF5 := Lib.hid hf5
   have HC5 := Lib.hid hc5
   have HR5 := Lib.hid hr5
   have HG5 := Lib.hid hg5
   have hs5 := hg5.size
   have hsl5 : s5.length ≤ 9000 := (kids_store (M := 9000) (by omega)).1
   clear hv5 ho5 hf5 hc5 hr5 hg5
   by_cases hlt : k < 6
   ·have k0 : (0 : Int) ≤ (k : Int) := by omega
    have k1 : (k : Int) < 6 := by omega
    have iwk : IntKind.i64.wrap ((k : Int) + 1) = (k : Int) + 1 := IntWalk.i64_in _ (by omega)
    have x0 := HV5.out.cell (k := 0) (by simp)
    have fx0 := HV5.out.frozen 0
    have zx0 := blk x0
    have iwn : IntKind.i64.wrap ((s5.length : Int) - 1) = (s5.length : Int) - 1 := IntWalk.i64_in _ (by omega)
    have hcat : ∀ (t : ByteArray), t.size ≤ 2 → ¬ (9223372036854775807 < 1 + t.size) := fun t h => by omega
    obtain ⟨OWN, hOWN⟩ : ∃ l, l = (Value.slice a5 s5.length c5).ownBlock.toList := ⟨_, rfl⟩
    have hown0 : ∀ x ∈ OWN, x ∈ F5 := fun x hx => by
     obtain ⟨fps, ys, -, -, -, -, hF⟩ := HO5.out
     rw [hF, ← hOWN]
     exact List.mem_append_left _ hx
    have HOWN := Lib.hid hOWN
    have HNO := Lib.hid (show W2.heap.size ∉ OWN from fun hm => (HF5.out _ (hown0 _ hm)).1 rfl)
    have HOB := Lib.hid hown0
    clear hOWN hown0
    have kk0 := fun (w' : World) (h : Wr OWN W5 w') => h.keepC x0 HNO.out
    obtain ⟨mm, hmm, hmm9⟩ : ∃ mm : Nat, (mm : Int) = max 0 ((s5.length : Int) - 1) ∧ mm ≤ 9000 := ⟨(max 0 ((s5.length : Int) - 1)).toNat, by omega, by omega⟩
    obtain ⟨m2, hm2, hm22⟩ : ∃ m2 : Nat, (m2 : Int) = min (s5.length : Int) 2 ∧ m2 ≤ 2 := ⟨(min (s5.length : Int) 2).toNat, by omega, by omega⟩
    have HMM := Lib.hid hmm
    have HM2 := Lib.hid hm2
    have hm20 : (0 : Int) ≤ (m2 : Int) := by omega
    have hm21 : (m2 : Int) ≤ 2 := by omega
    clear hmm hm2
    obtain ⟨fps5, ys5, hor5, hys5, hnd5, hge5, hfe5⟩ := HO5.out
    have hyl5 : ys5.length = s5.length := by rw [← hys5, List.length_map]
    have HYL5 := Lib.hid hyl5
    have HOR5 := Lib.hid hor5
    have HYS5 := Lib.hid hys5
    have HND5 := Lib.hid (And.intro hnd5 hge5)
    have HFE5 := Lib.hid hfe5
    clear hor5 hys5 hnd5 hge5 hfe5 hyl5
    go_upto_region 8 with fail
    refine wp_region_U (fun w' => Wr OWN W5 w') 19 (by kernel_rfl) ((gd : Gr W5 W5.drew).toWr OWN) (fun hU => ?_)
    refine anyU_q 0 ?_
    try simp only [Act.put, uq1, uq2, uq3]
    refine anyU_q 2 ?_
    try simp only [Act.put, uq1, uq2, uq3]
    refine anyU_q 5 ?_
    try simp only [Act.put, uq1, uq2, uq3]
    refine anyU_q 8 ?_
    try simp only [Act.put, uq1, uq2, uq3]
    refine anyU_q 12 ?_
    try simp only [Act.put, uq1, uq2, uq3]
    refine anyU_q 1 ?_
    try simp only [Act.put, uq1, uq2, uq3]
    refine anyU_q 6 ?_
    try simp only [Act.put, uq1, uq2, uq3]
    refine anyU_q 9 ?_
    try simp only [Act.put, uq1, uq2, uq3]
    refine anyU_ready (rs := [3]) (by kernel_rfl) (by simp) ?_
    refine (ReadyU.cons rfl (fun K hK => ?_) ReadyU.nil)
    go_simp
    go_at_call 49
    refine (formatInt_some k (by omega) _).mono ?_
    rintro e W6 ⟨tx, rfl, htx, g6⟩
    have HG6 := Lib.hid ((gd : Gr W5 W5.drew).trans g6)
    have hcx := hcat tx htx
    refine hK.out _ _ (HG6.out.toWr OWN) (fun hU1 => ?_)
    clear hK K g6
    try simp only [Act.put, uq1, uq2, uq3]
    refine anyU_q 4 ?_
    try simp only [Act.put, uq1, uq2, uq3]
    refine anyU_ready (rs := [7]) (by kernel_rfl) (by simp) ?_
    refine (ReadyU.cons rfl (fun K hK => ?_) ReadyU.nil)
    go_simp
    go_at_call 50
    refine (l1Max_any _ _ _).mono ?_
    rintro e w' ⟨rfl, rfl⟩
    rw [← HMM.out]
    refine hK.out _ _ (HG6.out.toWr OWN) (fun hU2 => ?_)
    clear hK K
    try simp only [Act.put, uq1, uq2, uq3]
    refine anyU_ready (rs := [10]) (by kernel_rfl) (by simp) ?_
    refine (ReadyU.cons rfl (fun K hK => ?_) ReadyU.nil)
    go_simp
    go_at_call 50
    refine (l1Max_any _ _ _).mono ?_
    rintro e w' ⟨rfl, rfl⟩
    rw [← HMM.out]
    refine hK.out _ _ (HG6.out.toWr OWN) (fun hU3 => ?_)
    clear hK K
    try simp only [Act.put, uq1, uq2, uq3]
    refine anyU_ready (rs := [11, 13]) (by kernel_rfl) (by simp) ?_
    refine (ReadyU.cons rfl (fun K hK => ?_) (ReadyU.cons rfl (fun K hK => ?_) ReadyU.nil))
    ·skip
     go_simp
     refine hK.out _ _ ((HG6.out.trans gd).toWr OWN) (fun hU4 => ?_)
     clear hK K
     try simp only [Act.put, uq1, uq2, uq3]
     refine anyU_ready (rs := [13]) (by kernel_rfl) (by simp) ?_
     refine (ReadyU.cons rfl (fun K hK => ?_) ReadyU.nil)
     go_simp
     go_at_call 51
     refine (l1Min_any _ _ _).mono ?_
     rintro e w' ⟨rfl, rfl⟩
     rw [← HM2.out]
     refine hK.out _ _ ((HG6.out.trans gd).toWr OWN) (fun hU5 => ?_)
     clear hK K
     try simp only [Act.put, uq1, uq2, uq3]
     refine anyU_q 14 ?_
     try simp only [Act.put, uq1, uq2, uq3]
     refine anyU_q 15 ?_
     try simp only [Act.put, uq1, uq2, uq3]
     refine anyU_ready (rs := [16]) (by kernel_rfl) (by simp) ?_
     refine (ReadyU.cons rfl (fun K hK => ?_) ReadyU.nil)
     go_simp
     refine hK.out _ _ ((HG6.out.trans gd).toWr OWN) (fun hU6 => ?_)
     clear hK K
     try simp only [Act.put, uq1, uq2, uq3]
     refine anyU_ready (rs := [17]) (by kernel_rfl) (by simp) ?_
     refine (ReadyU.cons rfl (fun K hK => ?_) ReadyU.nil)
     have hs6 := HG6.out.size
     have hm64 : (Lit.int .i64 (mm : Int)).wf = true := wf_small (by omega) (by omega)
     have hl2 : OwnR (α := Int) w 3 (W6.alloc (.cells #[.int .i64 (mm : Int), .int .i64 (mm : Int)] 3)) (.slice (some ⟨W6.heap.size, 0, none⟩) [(mm : Int), (mm : Int)].length 2) [[], []] [(mm : Int), (mm : Int)] := OwnR.litN (w0 := w) (w := W6) 3 (by omega) rfl ((Els.one (intRd hm64 W6)).app (Els.one (intRd hm64 W6))) rfl (by unfold maxLen; simp)
     have hl3 := (hl2.takeZ (k := m2) (by simp; omega) (by simp)).toORow
     obtain ⟨ks, hks⟩ : ∃ ks : List Int, ks = [(mm : Int), (mm : Int)].take m2 := ⟨_, rfl⟩
     rw [← hks] at hl3
     have hksl : ks.length ≤ 2 := by rw [hks]; simp; omega
     have hg67 : Gr (W6.alloc (.cells #[.int .i64 (mm : Int), .int .i64 (mm : Int)] 3)) ((W6.alloc (.cells #[.int .i64 (mm : Int), .int .i64 (mm : Int)] 3)).alloc (.cells #[.string (⟨#[112]⟩ ++ tx), .int .i64 0, .slice (some ⟨W6.heap.size, 0, none⟩) m2 2] 78)) := gd
     have hcs : ((⟨#[112]⟩ ++ tx) : ByteArray).size ≤ 3 := by rw [ByteArray.size_append]; show 1 + tx.size ≤ 3; omega
     have hrd := rdCellO_mk (base := w.heap.size) (⟨#[112]⟩ ++ tx) 0 (by unfold maxLen; omega) (by decide) (Rd.gr hl3 hg67)
     have hF6 : ∀ x ∈ F5, x < W6.heap.size := fun x hx => by have := HO5.out.lt x hx; omega
     refine step_append_RB (α := CellO w.heap.size) (wg := w) (w0 := w) (HG5.out.trans (HG6.out.trans gd)) (Nat.le_refl _) (by simp; omega) (by rfl) _ _ _ (by rfl) 78 i0 (.agg #[.string ByteArray.empty, .int .i64 0, .slice none 0 0]) 48 Try.underlying30 HZ.out.1 HZ.out.2.1 HZ.out.2.2.1 HZ.out.2.2.2 rfl (.slice a5 s5.length c5) fps5 ys5 (by rfl) (HOR5.out.gr (HG6.out.trans gd)) _ [[W6.heap.size]] [((⟨#[112]⟩ : ByteArray) ++ tx, (0 : Int), ORow.mk w.heap.size 3 ks)] (by rfl) (SrcR.one (by simp) (show Rd.rd (α := CellO w.heap.size) [W6.heap.size] _ (#[.string ((⟨#[112]⟩ : ByteArray) ++ tx), .int .i64 0, .slice (some ⟨W6.heap.size, 0, none⟩) m2 2] : Array Value).toList ((⟨#[112]⟩ : ByteArray) ++ tx, (0 : Int), ORow.mk w.heap.size 3 ks) from hrd)) (fun c hc hm => by
      have h1 := hF6 c (HOB.out c (by rw [HOWN.out, hc]; simp))
      simp at hm
      omega) (by rw [HYL5.out]; unfold maxLen; simp; omega) (by rw [HYL5.out]; simp; omega) ?_
     intro v9 w9 h1 h2 h3 h4
     have t9 : OwnD w w9 v9 (v9.ownBlock.toList ++ (fps5.flatten ++ [W6.heap.size])) (s5 ++ [((⟨#[112]⟩ ++ tx : ByteArray), (0 : Int), ks)]) := OwnD.of_append h1 HYS5.out HND5.out.1 HND5.out.2 (by simp) (fun x hx => by
      obtain rfl := List.mem_singleton.1 hx
      exact ⟨by omega, fun hm => by have := hF6 _ (by rw [HFE5.out]; exact List.mem_append_right _ hm); omega⟩)
     obtain ⟨a9, c9, hf9⟩ := t9.form
     rw [show (s5 ++ [((⟨#[112]⟩ ++ tx : ByteArray), (0 : Int), ks)]).length = s5.length + 1 by simp] at hf9
     subst hf9
     have w69 := ((HG6.out.trans gd : Gr W5 ((W6.alloc (.cells #[.int .i64 (mm : Int), .int .i64 (mm : Int)] 3)).alloc (.cells #[.string (⟨#[112]⟩ ++ tx), .int .i64 0, .slice (some ⟨W6.heap.size, 0, none⟩) m2 2] 78))).toWr OWN).trans (by rw [HOWN.out]; exact h2)
     have hfr9 : ∀ x ∈ (Value.slice a9 (s5.length + 1) c9).ownBlock.toList ++ (fps5.flatten ++ [W6.heap.size]), x ∈ F5 ∨ W6.heap.size ≤ x := fun x hx => by
      rcases List.mem_append.1 hx with hx | hx
      ·rcases h3 with h | h
       ·rw [h, ← HOWN.out] at hx; exact .inl (HOB.out x hx)
       ·rw [h] at hx; simp at hx; exact .inr (by omega)
      ·rcases List.mem_append.1 hx with hx | hx
       ·exact .inl (by rw [HFE5.out]; exact List.mem_append_right _ hx)
       ·exact .inr (by rw [List.mem_singleton.1 hx]; omega)
     have hwt9 : wtStore (s5 ++ [((⟨#[112]⟩ ++ tx : ByteArray), (0 : Int), ks)]) ≤ 8001 + 10 * (k + 1) := by
      rw [wtStore_snoc]
      have e : wtCell ((⟨#[112]⟩ ++ tx : ByteArray), (0 : Int), ks) = (⟨#[112]⟩ ++ tx : ByteArray).size + ks.length := rfl
      omega
     have T9 := Lib.hid t9
     have W69 := Lib.hid w69
     have FR9 := Lib.hid hfr9
     have G9 := Lib.hid h4
     have v9r := HV5.out.wr w69 HNO.out
     have x9 := v9r.cell (k := 0) (by simp)
     have fx9 := v9r.frozen 0
     have zx9 := blk x9
     have V9R := Lib.hid v9r
     refine hK.out _ _ w69 (fun hU7 => ?_)
     clear hK K h1 h2 h3 h4 t9 w69 hfr9 v9r hl2 hl3 hrd hg67 hF6 hks
     try simp only [Act.put, uq1, uq2, uq3]
     refine anyU_q 18 ?_
     try simp only [Act.put, uq1, uq2, uq3]
     refine anyU_ready (rs := [19]) (by kernel_rfl) (by simp) ?_
     refine ReadyU.last rfl (fun K hK => ?_)
     go_simp
     refine hK.out _ _ ?_
     clear hK K
     try simp only [Act.put, uq1, uq2, uq3]
     refine anyU_done (by kernel_rfl) ?_ _
     generalize hW10 : w9.setCell ⟨W2.heap.size, 0, none⟩ (.slice a9 (s5.length + 1) c9) = W10
     have w10 : Wr [W2.heap.size] w9 W10 := by rw [← hW10]; exact (Wr.refl [W2.heap.size] w9).setCell (List.mem_singleton.2 rfl) _
     have v10 : VRow W10 W2.heap.size 32 [.slice a9 (s5.length + 1) c9] := by rw [← hW10]; exact V9R.out.set 0 _
     have hX10 : ExpIn b W2.heap.size (k + 1) w W10 := by
      have e : ∀ x ∈ OWN, w.heap.size < x ∧ b < x := fun x hx => by have h1 := HF5.out x (HOB.out x hx); omega
      refine ⟨_, _, _, v10, T9.out.wr w10 (fun x hx hm => ?_), fun x hx => ?_, hwt9, (HC5.out.wr W69.out (fun x hx => (e x hx).2)).wr w10 (fun x hx => by rw [List.mem_singleton.1 hx]; omega), (HR5.out.wr W69.out (fun hm => by have := (e _ hm).1; omega)).wr w10 (by simp; omega), G9.out.wr w10 (fun x hx => by rw [List.mem_singleton.1 hx]; omega)⟩
      ·have h2 := List.mem_singleton.1 hm
       have h3 := HV5.out.lt
       rcases FR9.out x hx with h | h
       ·have h1 := HF5.out x h; omega
       ·omega
      ·have h3 := HV5.out.lt
       rcases FR9.out x hx with h | h
       ·exact HF5.out x h
       ·omega
     have HX10 := Lib.hid hX10
     clear hW10 w10 v10 hX10
     go_wp2_with fail
     exact ⟨⟨k + 1, by omega, HX10.out, by go_num⟩, by simp [intOf]; omega⟩
    ·skip
     go_simp
     go_at_call 51
     refine (l1Min_any _ _ _).mono ?_
     rintro e w' ⟨rfl, rfl⟩
     rw [← HM2.out]
     refine hK.out _ _ ((HG6.out.trans gd).toWr OWN) (fun hU5 => ?_)
     clear hK K
     try simp only [Act.put, uq1, uq2, uq3]
     refine anyU_ready (rs := [11]) (by kernel_rfl) (by simp) ?_
     refine (ReadyU.cons rfl (fun K hK => ?_) ReadyU.nil)
     go_simp
     refine hK.out _ _ ((HG6.out.trans gd).toWr OWN) (fun hU4 => ?_)
     clear hK K
     try simp only [Act.put, uq1, uq2, uq3]
     refine anyU_q 14 ?_
     try simp only [Act.put, uq1, uq2, uq3]
     refine anyU_q 15 ?_
     try simp only [Act.put, uq1, uq2, uq3]
     refine anyU_ready (rs := [16]) (by kernel_rfl) (by simp) ?_
     refine (ReadyU.cons rfl (fun K hK => ?_) ReadyU.nil)
     go_simp
     refine hK.out _ _ ((HG6.out.trans gd).toWr OWN) (fun hU6 => ?_)
     clear hK K
     try simp only [Act.put, uq1, uq2, uq3]
     refine anyU_ready (rs := [17]) (by kernel_rfl) (by simp) ?_
     refine (ReadyU.cons rfl (fun K hK => ?_) ReadyU.nil)
     have hs6 := HG6.out.size
     have hm64 : (Lit.int .i64 (mm : Int)).wf = true := wf_small (by omega) (by omega)
     have hl2 : OwnR (α := Int) w 3 (W6.alloc (.cells #[.int .i64 (mm : Int), .int .i64 (mm : Int)] 3)) (.slice (some ⟨W6.heap.size, 0, none⟩) [(mm : Int), (mm : Int)].length 2) [[], []] [(mm : Int), (mm : Int)] := OwnR.litN (w0 := w) (w := W6) 3 (by omega) rfl ((Els.one (intRd hm64 W6)).app (Els.one (intRd hm64 W6))) rfl (by unfold maxLen; simp)
     have hl3 := (hl2.takeZ (k := m2) (by simp; omega) (by simp)).toORow
     obtain ⟨ks, hks⟩ : ∃ ks : List Int, ks = [(mm : Int), (mm : Int)].take m2 := ⟨_, rfl⟩
     rw [← hks] at hl3
     have hksl : ks.length ≤ 2 := by rw [hks]; simp; omega
     have hg67 : Gr (W6.alloc (.cells #[.int .i64 (mm : Int), .int .i64 (mm : Int)] 3)) ((W6.alloc (.cells #[.int .i64 (mm : Int), .int .i64 (mm : Int)] 3)).alloc (.cells #[.string (⟨#[112]⟩ ++ tx), .int .i64 0, .slice (some ⟨W6.heap.size, 0, none⟩) m2 2] 78)) := gd
     have hcs : ((⟨#[112]⟩ ++ tx) : ByteArray).size ≤ 3 := by rw [ByteArray.size_append]; show 1 + tx.size ≤ 3; omega
     have hrd := rdCellO_mk (base := w.heap.size) (⟨#[112]⟩ ++ tx) 0 (by unfold maxLen; omega) (by decide) (Rd.gr hl3 hg67)
     have hF6 : ∀ x ∈ F5, x < W6.heap.size := fun x hx => by have := HO5.out.lt x hx; omega
     refine step_append_RB (α := CellO w.heap.size) (wg := w) (w0 := w) (HG5.out.trans (HG6.out.trans gd)) (Nat.le_refl _) (by simp; omega) (by rfl) _ _ _ (by rfl) 78 i0 (.agg #[.string ByteArray.empty, .int .i64 0, .slice none 0 0]) 48 Try.underlying30 HZ.out.1 HZ.out.2.1 HZ.out.2.2.1 HZ.out.2.2.2 rfl (.slice a5 s5.length c5) fps5 ys5 (by rfl) (HOR5.out.gr (HG6.out.trans gd)) _ [[W6.heap.size]] [((⟨#[112]⟩ : ByteArray) ++ tx, (0 : Int), ORow.mk w.heap.size 3 ks)] (by rfl) (SrcR.one (by simp) (show Rd.rd (α := CellO w.heap.size) [W6.heap.size] _ (#[.string ((⟨#[112]⟩ : ByteArray) ++ tx), .int .i64 0, .slice (some ⟨W6.heap.size, 0, none⟩) m2 2] : Array Value).toList ((⟨#[112]⟩ : ByteArray) ++ tx, (0 : Int), ORow.mk w.heap.size 3 ks) from hrd)) (fun c hc hm => by
      have h1 := hF6 c (HOB.out c (by rw [HOWN.out, hc]; simp))
      simp at hm
      omega) (by rw [HYL5.out]; unfold maxLen; simp; omega) (by rw [HYL5.out]; simp; omega) ?_
     intro v9 w9 h1 h2 h3 h4
     have t9 : OwnD w w9 v9 (v9.ownBlock.toList ++ (fps5.flatten ++ [W6.heap.size])) (s5 ++ [((⟨#[112]⟩ ++ tx : ByteArray), (0 : Int), ks)]) := OwnD.of_append h1 HYS5.out HND5.out.1 HND5.out.2 (by simp) (fun x hx => by
      obtain rfl := List.mem_singleton.1 hx
      exact ⟨by omega, fun hm => by have := hF6 _ (by rw [HFE5.out]; exact List.mem_append_right _ hm); omega⟩)
     obtain ⟨a9, c9, hf9⟩ := t9.form
     rw [show (s5 ++ [((⟨#[112]⟩ ++ tx : ByteArray), (0 : Int), ks)]).length = s5.length + 1 by simp] at hf9
     subst hf9
     have w69 := ((HG6.out.trans gd : Gr W5 ((W6.alloc (.cells #[.int .i64 (mm : Int), .int .i64 (mm : Int)] 3)).alloc (.cells #[.string (⟨#[112]⟩ ++ tx), .int .i64 0, .slice (some ⟨W6.heap.size, 0, none⟩) m2 2] 78))).toWr OWN).trans (by rw [HOWN.out]; exact h2)
     have hfr9 : ∀ x ∈ (Value.slice a9 (s5.length + 1) c9).ownBlock.toList ++ (fps5.flatten ++ [W6.heap.size]), x ∈ F5 ∨ W6.heap.size ≤ x := fun x hx => by
      rcases List.mem_append.1 hx with hx | hx
      ·rcases h3 with h | h
       ·rw [h, ← HOWN.out] at hx; exact .inl (HOB.out x hx)
       ·rw [h] at hx; simp at hx; exact .inr (by omega)
      ·rcases List.mem_append.1 hx with hx | hx
       ·exact .inl (by rw [HFE5.out]; exact List.mem_append_right _ hx)
       ·exact .inr (by rw [List.mem_singleton.1 hx]; omega)
     have hwt9 : wtStore (s5 ++ [((⟨#[112]⟩ ++ tx : ByteArray), (0 : Int), ks)]) ≤ 8001 + 10 * (k + 1) := by
      rw [wtStore_snoc]
      have e : wtCell ((⟨#[112]⟩ ++ tx : ByteArray), (0 : Int), ks) = (⟨#[112]⟩ ++ tx : ByteArray).size + ks.length := rfl
      omega
     have T9 := Lib.hid t9
     have W69 := Lib.hid w69
     have FR9 := Lib.hid hfr9
     have G9 := Lib.hid h4
     have v9r := HV5.out.wr w69 HNO.out
     have x9 := v9r.cell (k := 0) (by simp)
     have fx9 := v9r.frozen 0
     have zx9 := blk x9
     have V9R := Lib.hid v9r
     refine hK.out _ _ w69 (fun hU7 => ?_)
     clear hK K h1 h2 h3 h4 t9 w69 hfr9 v9r hl2 hl3 hrd hg67 hF6 hks
     try simp only [Act.put, uq1, uq2, uq3]
     refine anyU_q 18 ?_
     try simp only [Act.put, uq1, uq2, uq3]
     refine anyU_ready (rs := [19]) (by kernel_rfl) (by simp) ?_
     refine ReadyU.last rfl (fun K hK => ?_)
     go_simp
     refine hK.out _ _ ?_
     clear hK K
     try simp only [Act.put, uq1, uq2, uq3]
     refine anyU_done (by kernel_rfl) ?_ _
     generalize hW10 : w9.setCell ⟨W2.heap.size, 0, none⟩ (.slice a9 (s5.length + 1) c9) = W10
     have w10 : Wr [W2.heap.size] w9 W10 := by rw [← hW10]; exact (Wr.refl [W2.heap.size] w9).setCell (List.mem_singleton.2 rfl) _
     have v10 : VRow W10 W2.heap.size 32 [.slice a9 (s5.length + 1) c9] := by rw [← hW10]; exact V9R.out.set 0 _
     have hX10 : ExpIn b W2.heap.size (k + 1) w W10 := by
      have e : ∀ x ∈ OWN, w.heap.size < x ∧ b < x := fun x hx => by have h1 := HF5.out x (HOB.out x hx); omega
      refine ⟨_, _, _, v10, T9.out.wr w10 (fun x hx hm => ?_), fun x hx => ?_, hwt9, (HC5.out.wr W69.out (fun x hx => (e x hx).2)).wr w10 (fun x hx => by rw [List.mem_singleton.1 hx]; omega), (HR5.out.wr W69.out (fun hm => by have := (e _ hm).1; omega)).wr w10 (by simp; omega), G9.out.wr w10 (fun x hx => by rw [List.mem_singleton.1 hx]; omega)⟩
      ·have h2 := List.mem_singleton.1 hm
       have h3 := HV5.out.lt
       rcases FR9.out x hx with h | h
       ·have h1 := HF5.out x h; omega
       ·omega
      ·have h3 := HV5.out.lt
       rcases FR9.out x hx with h | h
       ·exact HF5.out x h
       ·omega
     have HX10 := Lib.hid hX10
     clear hW10 w10 v10 hX10
     go_wp2_with fail
     exact ⟨⟨k + 1, by omega, HX10.out, by go_num⟩, by simp [intOf]; omega⟩
   ·have k1 : ¬ (k : Int) < 6 := by omega
    have HXF := Lib.hid (show ∃ k, k ≤ 6 ∧ ExpIn b W2.heap.size k w W5 from ⟨k, hk, _, F5, s5, HV5.out, HO5.out, HF5.out, hw5, HC5.out, HR5.out, HG5.out⟩)
    clear hsl5
    go_upto_region 9 with fail
    obtain ⟨k9, hk9, ⟨v9, F9, s9, hv9, ho9, hf9, hw9, hc9, hr9, hg9⟩⟩ := HXF.out
    obtain ⟨a9, c9, rfl⟩ := ho9.form
    have hsl9 : s9.length ≤ 9000 := (kids_store (M := 9000) (by omega)).1
    have hsz9 := hg9.size
    have HV9 := Lib.hid hv9
    have HO9 := Lib.hid ho9
    have HF9 := Lib.hid hf9
    have HC9 := Lib.hid hc9
    have HR9 := Lib.hid hr9
    have HG9 := Lib.hid hg9
    have hbl9 := hc9.lt
    have hr9l := hr9.lt
    clear hv9 ho9 hf9 hc9 hr9 hg9
    have x0 := HV9.out.cell (k := 0) (by simp)
    have zx0 := blk x0
    have iw2 : IntKind.i64.wrap ((s9.length : Int) + 2) = (s9.length : Int) + 2 := IntWalk.i64_in _ (by omega)
    have hsb : W2.heap.size ∉ [b, w.heap.size] := by simp; omega
    have kk0 := fun (w' : World) (h : Wr [b, w.heap.size] W5 w') => h.keepC x0 hsb
    go_upto_region 9 with fail
    refine wp_region_U (fun w' => Wr [b, w.heap.size] W5 w') 13 (by kernel_rfl) ((gd : Gr W5 W5.drew).toWr [b, w.heap.size]) (fun hU => ?_)
    refine anyU_q 0 ?_
    try simp only [Act.put, uq1, uq2, uq3]
    refine anyU_q 1 ?_
    try simp only [Act.put, uq1, uq2, uq3]
    refine anyU_q 2 ?_
    try simp only [Act.put, uq1, uq2, uq3]
    refine anyU_q 8 ?_
    try simp only [Act.put, uq1, uq2, uq3]
    refine anyU_q 3 ?_
    try simp only [Act.put, uq1, uq2, uq3]
    refine anyU_q 4 ?_
    try simp only [Act.put, uq1, uq2, uq3]
    refine anyU_q 5 ?_
    try simp only [Act.put, uq1, uq2, uq3]
    refine anyU_ready (rs := [6, 9]) (by kernel_rfl) (by simp) ?_
    refine (ReadyU.cons rfl (fun K hK => ?_) (ReadyU.cons rfl (fun K hK => ?_) ReadyU.nil))
    ·skip
     go_simp
     go_at_call 52
     refine (l1Below_any b ((s9.length : Int) + 2) _ (HC9.out.gr gd) (by omega) (by omega)).mono ?_
     rintro e WA ⟨xa, rfl, hxa0, hxa1, hca, hwa⟩
     have iwx : IntKind.i64.wrap (xa - 1) = xa - 1 := IntWalk.i64_in _ (by omega)
     have wya := ((Gr.drew (Gr.refl W5)).toWr [b]).trans hwa
     have HCA := Lib.hid hca
     have HWA := Lib.hid wya
     refine hK.out _ _ (wya.sub (fun x hx => by rw [List.mem_singleton.1 hx]; simp)) (fun hU1 => ?_)
     clear hK K hca hwa wya
     try simp only [Act.put, uq1, uq2, uq3]
     refine anyU_q 7 ?_
     try simp only [Act.put, uq1, uq2, uq3]
     refine anyU_ready (rs := [9]) (by kernel_rfl) (by simp) ?_
     refine (ReadyU.cons rfl (fun K hK => ?_) ReadyU.nil)
     go_simp
     obtain ⟨fl, hl1, hl2⟩ := SlR.litI 3 (w := WA) (g := WA.heap.size) (n := 4) (cs := #[.int .i64 1, .int .i64 50, .int .i64 0, .int .i64 999]) rfl [1, 50, 0, 999] rfl rfl (by decide) (by decide)
     have hcl := HCA.out.gr (gd : Gr WA (WA.alloc (.cells #[.int .i64 1, .int .i64 50, .int .i64 0, .int .i64 999] 3)))
     have hwl := HWA.out.gr (gd : Gr WA (WA.alloc (.cells #[.int .i64 1, .int .i64 50, .int .i64 0, .int .i64 999] 3)))
     have hlb : b ∉ fl := fun hm => by have h1 := hl2 b hm; have h2 := HCA.out.lt; omega
     refine hK.out _ _ (hwl.sub (fun x hx => by rw [List.mem_singleton.1 hx]; simp)) (fun hU2 => ?_)
     clear hK K
     generalize WA.alloc (.cells #[.int .i64 1, .int .i64 50, .int .i64 0, .int .i64 999] 3) = WB at hl1 hcl hwl hU2 ⊢
     have HLB := Lib.hid hl1
     have HCB := Lib.hid hcl
     have HWB := Lib.hid hwl
     clear hl1 hcl hwl hl2
     try simp only [Act.put, uq1, uq2, uq3]
     refine anyU_ready (rs := [10]) (by kernel_rfl) (by simp) ?_
     refine (ReadyU.cons rfl (fun K hK => ?_) ReadyU.nil)
     go_simp
     go_at_call 53
     refine (l1PickInt_any b fl _ [1, 50, 0, 999] _ HCB.out HLB.out hlb (by simp) (by simp)).mono ?_
     rintro e WC ⟨y, hy, rfl, hcc, hwc⟩
     have hy0 : 0 ≤ y ∧ y ≤ 999 := by simp at hy; omega
     have wyc := HWB.out.trans hwc
     have vrc := HR9.out.wr wyc (by simp; omega)
     have t0 := vrc.cell (k := 0) (by simp)
     have ft0 := vrc.frozen 0
     have zt0 := blk t0
     have HRC := Lib.hid vrc
     have HWC := Lib.hid wyc
     refine hK.out _ _ (wyc.sub (fun x hx => by rw [List.mem_singleton.1 hx]; simp)) (fun hU3 => ?_)
     clear hK K hcc hwc wyc vrc hy
     try simp only [Act.put, uq1, uq2, uq3]
     refine anyU_ready (rs := [11]) (by kernel_rfl) (by simp) ?_
     refine (ReadyU.cons rfl (fun K hK => ?_) ReadyU.nil)
     go_simp
     have wst := (Wr.refl [b, w.heap.size] WC).setCell (b := w.heap.size) (o := 0) (by simp) (.slice a9 s9.length c9)
     refine hK.out _ _ (hU3.trans wst) (fun hU4 => ?_)
     clear hK K
     try simp only [Act.put, uq1, uq2, uq3]
     refine anyU_q 12 ?_
     try simp only [Act.put, uq1, uq2, uq3]
     refine anyU_ready (rs := [13]) (by kernel_rfl) (by simp) ?_
     refine ReadyU.last rfl (fun K hK => ?_)
     go_simp
     refine hK.out _ _ ?_
     clear hK K
     try simp only [Act.put, uq1, uq2, uq3]
     refine anyU_done (by kernel_rfl) ?_ _
     have wF := HWC.out.sub (fun x hx => by rw [List.mem_singleton.1 hx]; simp : ∀ x ∈ [b], x ∈ [b, w.heap.size]) |>.trans ((Wr.refl [b, w.heap.size] WC).setCell (b := w.heap.size) (o := 0) (by simp) (.slice a9 s9.length c9))
     have vF := HRC.out.set 0 (.slice a9 s9.length c9)
     generalize WC.setCell ⟨w.heap.size, 0, none⟩ (.slice a9 s9.length c9) = WF at wF vF hU4 ⊢
     have r0 := vF.cell (k := 0) (by simp)
     have hOF := HO9.out.wr wF (fun x hx hm => by
      have h1 := HF9.out x hx
      simp at hm
      omega)
     obtain ⟨fF, hrF, hfF, -⟩ := hOF.rd (by omega)
     have gF := HG9.out.wr wF (fun x hx => by simp at hx; omega)
     go_wp2_with fail
     exact bodyPost_ret (v := .tuple #[.agg #[.slice a9 s9.length c9], .int .i64 (xa - 1), .int .i64 y]) (by simp [results, Try.results18, go_sem, r0]) rfl ⟨_, fF, s9, xa - 1, y, rfl, hrF, hfF.2, by omega, by omega, by omega, hy0.1, hy0.2, gF⟩
    ·skip
     go_simp
     obtain ⟨fl, hl1, hl2⟩ := SlR.litI 3 (w := W5.drew) (g := W5.heap.size) (n := 4) (cs := #[.int .i64 1, .int .i64 50, .int .i64 0, .int .i64 999]) rfl [1, 50, 0, 999] rfl rfl (by decide) (by decide)
     have HLA := Lib.hid hl1
     have hlb : b ∉ fl := fun hm => by have h1 : W5.heap.size ≤ b := hl2 b hm; omega
     refine hK.out _ _ ((gd : Gr W5 (W5.drew.alloc (.cells #[.int .i64 1, .int .i64 50, .int .i64 0, .int .i64 999] 3))).toWr _) (fun hU2 => ?_)
     clear hK K hl1 hl2
     try simp only [Act.put, uq1, uq2, uq3]
     refine anyU_ready (rs := [6]) (by kernel_rfl) (by simp) ?_
     refine (ReadyU.cons rfl (fun K hK => ?_) ReadyU.nil)
     go_simp
     go_at_call 52
     refine (l1Below_any b ((s9.length : Int) + 2) _ (HC9.out.gr gd) (by omega) (by omega)).mono ?_
     rintro e WB ⟨xa, rfl, hxa0, hxa1, hca, hwa⟩
     have iwx : IntKind.i64.wrap (xa - 1) = xa - 1 := IntWalk.i64_in _ (by omega)
     have wya := ((gd : Gr W5 (W5.drew.alloc (.cells #[.int .i64 1, .int .i64 50, .int .i64 0, .int .i64 999] 3))).toWr [b]).trans hwa
     have HLB := Lib.hid (HLA.out.wr hwa (fun x hx hm => hlb (by rw [← List.mem_singleton.1 hm]; exact hx)))
     have HCB := Lib.hid hca
     have HWB := Lib.hid wya
     refine hK.out _ _ (wya.sub (fun x hx => by rw [List.mem_singleton.1 hx]; simp)) (fun hU1 => ?_)
     clear hK K hca hwa wya
     try simp only [Act.put, uq1, uq2, uq3]
     refine anyU_q 7 ?_
     try simp only [Act.put, uq1, uq2, uq3]
     refine anyU_ready (rs := [10]) (by kernel_rfl) (by simp) ?_
     refine (ReadyU.cons rfl (fun K hK => ?_) ReadyU.nil)
     go_simp
     go_at_call 53
     refine (l1PickInt_any b fl _ [1, 50, 0, 999] _ HCB.out HLB.out hlb (by simp) (by simp)).mono ?_
     rintro e WC ⟨y, hy, rfl, hcc, hwc⟩
     have hy0 : 0 ≤ y ∧ y ≤ 999 := by simp at hy; omega
     have wyc := HWB.out.trans hwc
     have vrc := HR9.out.wr wyc (by simp; omega)
     have t0 := vrc.cell (k := 0) (by simp)
     have ft0 := vrc.frozen 0
     have zt0 := blk t0
     have HRC := Lib.hid vrc
     have HWC := Lib.hid wyc
     refine hK.out _ _ (wyc.sub (fun x hx => by rw [List.mem_singleton.1 hx]; simp)) (fun hU3 => ?_)
     clear hK K hcc hwc wyc vrc hy
     try simp only [Act.put, uq1, uq2, uq3]
     refine anyU_ready (rs := [11]) (by kernel_rfl) (by simp) ?_
     refine (ReadyU.cons rfl (fun K hK => ?_) ReadyU.nil)
     go_simp
     have wst := (Wr.refl [b, w.heap.size] WC).setCell (b := w.heap.size) (o := 0) (by simp) (.slice a9 s9.length c9)
     refine hK.out _ _ (hU3.trans wst) (fun hU4 => ?_)
     clear hK K
     try simp only [Act.put, uq1, uq2, uq3]
     refine anyU_q 12 ?_
     try simp only [Act.put, uq1, uq2, uq3]
     refine anyU_ready (rs := [13]) (by kernel_rfl) (by simp) ?_
     refine ReadyU.last rfl (fun K hK => ?_)
     go_simp
     refine hK.out _ _ ?_
     clear hK K
     try simp only [Act.put, uq1, uq2, uq3]
     refine anyU_done (by kernel_rfl) ?_ _
     have wF := HWC.out.sub (fun x hx => by rw [List.mem_singleton.1 hx]; simp : ∀ x ∈ [b], x ∈ [b, w.heap.size]) |>.trans ((Wr.refl [b, w.heap.size] WC).setCell (b := w.heap.size) (o := 0) (by simp) (.slice a9 s9.length c9))
     have vF := HRC.out.set 0 (.slice a9 s9.length c9)
     generalize WC.setCell ⟨w.heap.size, 0, none⟩ (.slice a9 s9.length c9) = WF at wF vF hU4 ⊢
     have r0 := vF.cell (k := 0) (by simp)
     have hOF := HO9.out.wr wF (fun x hx hm => by
      have h1 := HF9.out x hx
      simp at hm
      omega)
     obtain ⟨fF, hrF, hfF, -⟩ := hOF.rd (by omega)
     have gF := HG9.out.wr wF (fun x hx => by simp at hx; omega)
     go_wp2_with fail
     exact bodyPost_ret (v := .tuple #[.agg #[.slice a9 s9.length c9], .int .i64 (xa - 1), .int .i64 y]) (by simp [results, Try.results18, go_sem, r0]) rfl ⟨_, fF, s9, xa - 1, y, rfl, hrF, hfF.2, by omega, by omega, by omega, hy0.1, hy0.2, gF⟩
end Go.Proofs.Ytmfcagcanhmdbaa
