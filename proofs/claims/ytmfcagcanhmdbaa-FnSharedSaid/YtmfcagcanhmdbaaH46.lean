/- The tree of a cell: the program's, appended to a tree in a box. No condition. -/
import Derived.Test.YtmfcagcanhmdbaaH45
import Derived.Test.YtmfcagcanhmdbaaH24
namespace Go.Proofs.Ytmfcagcanhmdbaa
open Go.RowKit
set_option linter.unusedVariables false
set_option linter.unusedSimpArgs false

def ExpPost (s : GStore) (f a : Nat) (first p l : Int) (bx : Nat) (w0 w : World) (F : List Nat) (ns : List GNode) (e : Ending) (w' : World) : Prop :=
 ∃ r : Bool, e = .returned (.bool r) ∧ Wr (bx :: F) w w' ∧ (r = true → ns.length + exL s f a ≤ 16) ∧ (r = false → 16 < ns.length + exL s f a) ∧
  (r = true → ∃ v' F', VRow w' bx 38 [v'] ∧ OwnT w0 w' v' F' (ns ++ idN first ns.length (exN s f a ns.length p l)) ∧ ∀ c ∈ F', c ∈ F ∨ w.heap.size ≤ c)

set_option maxRecDepth 100000 in
set_option maxHeartbeats 16000000 in
theorem expand_any (s : GStore) (hv : ValidStore s) (hl : wtStore s ≤ 1048576) (first : Int) (hfst : 1 ≤ first ∧ first ≤ 999) (bx : Nat) (w0 : World) (hb : bx < w0.heap.size) :
  ∀ (f a : Nat) (p l : Int) (fs : List Nat) (cs : Array Value) (v : Value) (F : List Nat) (ns : List GNode) (w : World) (hs : Rd.rd fs w cs.toList s) (ha : a < s.length) (hf : a < f) (hp : (Lit.int .i64 p).wf = true) (hll : (Lit.int .i64 l).wf = true)
   (hfs : ∀ c ∈ fs, c < w0.heap.size ∧ c ≠ bx) (h0w : w0.heap.size ≤ w.heap.size) (hbx : VRow w bx 38 [v]) (ht : OwnT w0 w v F ns) (hn : ns.length ≤ 16),
  Calls Try.prog 56 #[.agg cs, .int .i64 (a : Int), .int .i64 first, .pointer (some ⟨bx, 0, none⟩), .int .i64 p, .int .i64 l] w (ExpPost s f a first p l bx w0 w F ns) := by
 intro f
 induction f with
 | zero => intro a p l fs cs v F ns w hs ha hf; omega
 | succ f ih =>
  intro a p l fs cs v F ns w hs hlt hf hp hll hfs h0w hbx ht hn
  obtain ⟨i0, hi, hz0, hz1, hz2⟩ := info_parts Try.infoIntC
  have HZ := Lib.hid (And.intro hi (And.intro hz0 (And.intro hz1 hz2)))
  clear hi hz0 hz1 hz2
  obtain ⟨iN, hi, hz0, hz1, hz2⟩ := info_parts Try.infoNode
  have HZN := Lib.hid (And.intro hi (And.intro hz0 (And.intro hz1 hz2)))
  clear hi hz0 hz1 hz2
  obtain ⟨E, hE⟩ : ∃ E, E = w.first 0 := ⟨_, rfl⟩
  have hE0 : E.heap.size = 0 := by rw [hE]; exact size_first (by omega)
  have hEg : Gr E w := by rw [hE]; exact gr_first (by omega)
  have HE0 := Lib.hid hE0
  have HEG := Lib.hid hEg
  have HIH := Lib.hid ih
  have HWT := Lib.hid hl
  have HV := Lib.hid hv
  have hex := exL_at s f hlt
  have HCS := Lib.hid (cells_small hl)
  have hkid : ∀ k (hk : k < s[a].2.2.length), ∃ m : Nat, s[a].2.2[k] = m ∧ m < a := fun k hk => valid_kid hv hlt hk
  have hen := exN_at s f (List.getElem?_eq_getElem hlt) ns.length p l
  clear hv ih hl hE hE0 hEg
  have HS := Lib.hid hs
  obtain ⟨s0, rfl⟩ : ∃ y, y = s := ⟨s, rfl⟩
  obtain ⟨vs0, fs0, rfl, hfps, hs0⟩ := rdStore_inv s0 hs
  have FPs := Lib.hid hfps
  clear hfps
  obtain ⟨as0, ks0, rfl, os01, os02, os03⟩ := hs0.open
  clear hs
  obtain ⟨b, off, rfl, hbb⟩ := os03 a hlt
  obtain ⟨csq, feq, hcq, hrq, hsub⟩ := hs0.at hlt
  obtain ⟨yq, hyq⟩ : ∃ y, y = s0[a] := ⟨_, rfl⟩
  rw [← hyq] at hrq
  have HYq := Lib.hid hyq
  have HRq := Lib.hid hrq
  obtain ⟨q0, q1, q2⟩ := yq
  obtain ⟨vq2, fq2, hcsq, hfpq, hq0, hq1, hq2⟩ := rdCell_inv (cs := csq.toArray) q0 q1 q2 (by simpa using hrq)
  obtain rfl : csq = [.string q0, .int .i64 q1, vq2] := by have := congrArg Array.toList hcsq; simpa using this
  obtain ⟨aq2, kq2, rfl, oq21, oq22, oq23⟩ := hq2.open
  have qz0 : w.cell? ⟨b, off + a * 3, none⟩ = some (.string q0) := by simpa [Rd.n] using hcq 0 _ rfl
  have qz1 : w.cell? ⟨b, off + a * 3 + 1, none⟩ = some (.int .i64 q1) := hcq 1 _ rfl
  have qz2 : w.cell? ⟨b, off + a * 3 + 2, none⟩ = some (.slice aq2 q2.length kq2) := hcq 2 _ rfl
  have qzb := blk qz0
  clear hcsq hcq hrq hyq
  have HSUB := Lib.hid (show ∀ c ∈ fq2, c ∈ fs from fun c hc => by
   have h1 := hsub c (by rw [hfpq]; simpa using hc)
   have h2 := FPs.out
   rw [h2]
   simpa using h1)
  clear hsub hfpq
  rw [← HYq.out] at hex hen
  have hkid2 : ∀ k (hk : k < q2.length), ∃ m : Nat, q2[k] = m ∧ m < a := by
   have e : q2 = s0[a].2.2 := congrArg (fun x : GCell => x.2.2) HYq.out
   subst e
   exact hkid
  simp only at hex hen
  have hql : q2.length ≤ 1048576 := HCS.out.2 (q0, q1, q2) (by rw [HYq.out]; exact List.getElem_mem hlt)
  have HEX := Lib.hid hex
  have HEN := Lib.hid hen
  have HK := Lib.hid hkid2
  have HQ := Lib.hid (And.intro hq0 (And.intro hq1 hq2))
  have HQ2 := Lib.hid hq2
  have HFST := Lib.hid hfst
  have HPL := Lib.hid (And.intro hp hll)
  have HFS := Lib.hid hfs
  have HBX := Lib.hid hbx
  have HT := Lib.hid ht
  have hFl := ht.lt
  have hFg := ht.ge
  have HFL := Lib.hid hFl
  have HFG := Lib.hid hFg
  have hbl : bx < w.heap.size := by omega
  obtain ⟨av, cv, hform⟩ := ht.form
  subst hform
  have y0 := hbx.box
  have zy0 := blk y0
  have fy0 := hbx.frozen 0
  have f1 := hfst.1
  have f2 := hfst.2
  clear hkid hkid2 hex hq0 hq1 hq2 hen hp hll hfs hbx ht hFl hFg hfst
  have i0' : (0 : Int) ≤ (a : Int) := by omega
  have i1' : (a : Int) < (s0.length : Int) := by omega
  go_enter Try.func56, Try.ntmps56
  go_wp2_with fail
  generalize hW1 : w.alloc (.cells #[.slice (some ⟨b, off, none⟩) s0.length ks0] 32) = W1
  have g1 : Gr w W1 := by rw [← hW1]; exact gd
  have s1 : W1.heap.size = w.heap.size + 1 := by rw [← hW1]; simp
  have c1 : W1.cell? ⟨w.heap.size, 0, none⟩ = some (.slice (some ⟨b, off, none⟩) s0.length ks0) := by rw [← hW1]; exact box_cell rfl rfl
  have HC1 := Lib.hid c1
  have HG1 := Lib.hid g1
  clear hW1 g1 c1 y0 zy0 fy0
  have kk0 := fun (w' : World) (h : Gr W1 w') => h.keep HC1.out
  have kk1 := fun (w' : World) (h : Gr W1 w') => (HG1.out.trans h).keep HBX.out.box
  have kk2 := fun (w' : World) (h : Gr W1 w') => (HG1.out.trans h).keep qz0
  have kk3 := fun (w' : World) (h : Gr W1 w') => (HG1.out.trans h).keep qz1
  have kk4 := fun (w' : World) (h : Gr W1 w') => (HG1.out.trans h).keep qz2
  refine wp_region_U (fun w' => Gr W1 w') 12 (by kernel_rfl) ((Gr.refl W1).drew) (fun hU => ?_)
  refine anyU_q 0 ?_
  try simp only [Act.put, uq1, uq2, uq3]
  refine anyU_q 5 ?_
  try simp only [Act.put, uq1, uq2, uq3]
  refine anyU_q 7 ?_
  try simp only [Act.put, uq1, uq2, uq3]
  refine anyU_q 1 ?_
  try simp only [Act.put, uq1, uq2, uq3]
  refine anyU_q 6 ?_
  try simp only [Act.put, uq1, uq2, uq3]
  refine anyU_q 2 ?_
  try simp only [Act.put, uq1, uq2, uq3]
  refine anyU_q 8 ?_
  try simp only [Act.put, uq1, uq2, uq3]
  refine anyU_q 3 ?_
  try simp only [Act.put, uq1, uq2, uq3]
  refine anyU_q 9 ?_
  try simp only [Act.put, uq1, uq2, uq3]
  refine anyU_q 4 ?_
  try simp only [Act.put, uq1, uq2, uq3]
  refine anyU_ready (rs := [10]) (by kernel_rfl) (by simp) ?_
  refine (ReadyU.cons rfl (fun K hK => ?_) ReadyU.nil)
  go_simp
  refine hK.out _ _ gd (fun hU1 => ?_)
  clear hK K
  try simp only [Act.put, uq1, uq2, uq3]
  refine anyU_q 11 ?_
  try simp only [Act.put, uq1, uq2, uq3]
  refine anyU_ready (rs := [12]) (by kernel_rfl) (by simp) ?_
  refine ReadyU.last rfl (fun K hK => ?_)
  go_simp
  refine hK.out _ _ ?_
  clear hK K
  try simp only [Act.put, uq1, uq2, uq3]
  refine anyU_done (by kernel_rfl) ?_ _
  skip
  generalize hW2 : (W1.alloc (.cells #[.string q0, .int .i64 q1, .slice aq2 q2.length kq2] 78)).drew = W2
  have g2 : Gr w W2 := by rw [← hW2]; exact HG1.out.trans gd
  have s2 : W2.heap.size = w.heap.size + 2 := by rw [← hW2]; simp; omega
  have c2 : W2.cell? ⟨w.heap.size, 0, none⟩ = some (.slice (some ⟨b, off, none⟩) s0.length ks0) := by rw [← hW2]; exact Gr.keep gd HC1.out
  have v2 : VRow W2 (w.heap.size + 1) 78 [.string q0, .int .i64 q1, .slice aq2 q2.length kq2] := by rw [← hW2]; exact (VRow.new (A := W1) (by omega)).gr gd
  have HC2 := Lib.hid c2
  have HV2 := Lib.hid v2
  have HG2 := Lib.hid g2
  have HS2 := Lib.hid s2
  have hw2 : w.heap.size + 1 < W2.heap.size := by omega
  clear hW2 hU hU1 kk0 kk1 kk2 kk3 kk4 c2 s1 s2
  by_cases hn16 : ns.length = 16
  ·have hfin : ExpPost s0 (f + 1) a first p l bx w0 w F ns (.returned (.bool false)) W2 := by
    refine ⟨false, rfl, g2.toWr _, (fun h => by cases h), fun _ => ?_, fun h => by cases h⟩
    have := HEX.out
    omega
   have HFIN := Lib.hid hfin
   have hb16 : ((ns.length : Int) == 16) = true := by rw [hn16]; rfl
   clear hfin g2 v2
   go_wp2_with fail
   go_ret
   exact HFIN.out
  ·have hn15 : ns.length ≤ 15 := by omega
   have hb16 : ((ns.length : Int) == 16) = false := by simp; omega
   have y0 := g2.keep HBX.out.box
   have zy0 := blk y0
   have fy0 := (HBX.out.gr g2).frozen 0
   have d0 := v2.cell (k := 0) (by simp)
   have d1 := v2.cell (k := 1) (by simp)
   have zd0 := blk d0
   have hT2 := HT.out.gr g2
   have hFb : bx ∉ F := fun hm => by have := HFG.out bx hm; omega
   have HFB := Lib.hid hFb
   obtain ⟨fpt, xst, hOX, hXN, hnd, hge, hFE⟩ := hT2
   have HOX := Lib.hid hOX
   have HXN := Lib.hid hXN
   have HND := Lib.hid (And.intro hnd hge)
   have hxl : xst.length = ns.length := by rw [← hXN, List.length_map]
   have HXL := Lib.hid hxl
   have hown : ∀ c ∈ (Value.slice av ns.length cv).ownBlock.toList, c ∈ F := fun c hc => by rw [hFE]; exact List.mem_append_left _ hc
   have HOWN := Lib.hid hown
   have HFE := Lib.hid hFE
   have hnx : ∀ x, x ∉ F → x ∉ (Value.slice av ns.length cv).ownBlock.toList := fun x hx hm => hx (hown x hm)
   have HNX := Lib.hid hnx
   have h1F : w.heap.size + 1 ∉ F := fun hm => by have := HFL.out _ hm; omega
   have H1F := Lib.hid h1F
   have iw1 : IntKind.i64.wrap (first + (ns.length : Int)) = first + (ns.length : Int) := IntWalk.i64_in _ (by omega)
   have hE2 : Gr E W2 := HEG.out.trans g2
   have HE2 := Lib.hid hE2
   obtain ⟨NR, hNR⟩ : ∃ NR, NR = ns ++ [(first + (ns.length : Int), p, l, q1, q0, ([] : List Int))] := ⟨_, rfl⟩
   have hNRl : NR.length = ns.length + 1 := by rw [hNR]; simp
   have HNR := Lib.hid hNR
   have HNRL := Lib.hid hNRl
   clear hOX hXN hnd hge hFE hxl hown hnx h1F hFb g2 v2 hE2 hNR hNRl
   have kk0 := fun (w' : World) (h : Wr (Value.slice av ns.length cv).ownBlock.toList W2 w') => h.keepC y0 (HNX.out _ HFB.out)
   have kk1 := fun (w' : World) (h : Wr (Value.slice av ns.length cv).ownBlock.toList W2 w') => h.keepC d0 (HNX.out _ H1F.out)
   have kk2 := fun (w' : World) (h : Wr (Value.slice av ns.length cv).ownBlock.toList W2 w') => h.keepC d1 (HNX.out _ H1F.out)
   go_wp2_with fail
   refine wp_region_U (fun w' => Wr (Value.slice av ns.length cv).ownBlock.toList W2 w' ∧ Gr E w') 19 (by kernel_rfl) (⟨(Gr.drew (Gr.refl W2)).toWr _, HE2.out.drew⟩) (fun hU => ?_)
   refine anyU_q 0 ?_
   try simp only [Act.put, uq1, uq2, uq3]
   refine anyU_q 1 ?_
   try simp only [Act.put, uq1, uq2, uq3]
   refine anyU_q 5 ?_
   try simp only [Act.put, uq1, uq2, uq3]
   refine anyU_q 6 ?_
   try simp only [Act.put, uq1, uq2, uq3]
   refine anyU_q 8 ?_
   try simp only [Act.put, uq1, uq2, uq3]
   refine anyU_q 9 ?_
   try simp only [Act.put, uq1, uq2, uq3]
   refine anyU_q 10 ?_
   try simp only [Act.put, uq1, uq2, uq3]
   refine anyU_q 12 ?_
   try simp only [Act.put, uq1, uq2, uq3]
   refine anyU_q 2 ?_
   try simp only [Act.put, uq1, uq2, uq3]
   refine anyU_q 7 ?_
   try simp only [Act.put, uq1, uq2, uq3]
   refine anyU_q 11 ?_
   try simp only [Act.put, uq1, uq2, uq3]
   refine anyU_q 13 ?_
   try simp only [Act.put, uq1, uq2, uq3]
   refine anyU_q 3 ?_
   try simp only [Act.put, uq1, uq2, uq3]
   refine anyU_q 14 ?_
   try simp only [Act.put, uq1, uq2, uq3]
   refine anyU_q 4 ?_
   try simp only [Act.put, uq1, uq2, uq3]
   refine anyU_ready (rs := [15]) (by kernel_rfl) (by simp) ?_
   refine (ReadyU.cons rfl (fun K hK => ?_) ReadyU.nil)
   go_simp
   refine hK.out _ _ ⟨(gd : Gr W2 (W2.drew.alloc (.cells #[.int .i64 (first + (ns.length : Int)), .int .i64 p, .int .i64 l, .int .i64 q1, .string q0, .slice none 0 0] 86))).toWr _, HE2.out.trans gd⟩ (fun hU1 => ?_)
   clear hK K
   try simp only [Act.put, uq1, uq2, uq3]
   refine anyU_ready (rs := [16]) (by kernel_rfl) (by simp) ?_
   refine (ReadyU.cons rfl (fun K hK => ?_) ReadyU.nil)
   refine step_append_RB (α := NodeO w0.heap.size) (wg := E) (w0 := w0) (HE2.out.trans gd) (by have := HE0.out; omega) (by have := (gd : Gr W2 (W2.drew.alloc (.cells #[.int .i64 (first + (ns.length : Int)), .int .i64 p, .int .i64 l, .int .i64 q1, .string q0, .slice none 0 0] 86))).size; simp; omega) (by rfl) _ _ _ (by rfl) 86 iN (.agg #[.int .i64 0, .int .i64 0, .int .i64 0, .int .i64 0, .string ByteArray.empty, .slice none 0 0]) 72 Try.underlying36 HZN.out.1 HZN.out.2.1 HZN.out.2.2.1 HZN.out.2.2.2 rfl (.slice av ns.length cv) fpt xst (by rfl) (HOX.out.gr gd) _ [(Value.slice none 0 0).ownBlock.toList] [(first + (ns.length : Int), p, l, q1, q0, ORow.mk w0.heap.size 3 [])] (by rfl) (SrcR.gr (SrcR.one (w := W2) (e := 86) rfl (rdNodeO_mk (first + (ns.length : Int)) p l q1 q0 (wf_of (by omega) (by omega)) HPL.out.1 HPL.out.2 HQ.out.2.1 HQ.out.1 ((OwnR.nil (α := Int) w0 _ 3).toORow))) gd) (fun c hc => by simp [Value.ownBlock]) (by rw [HXL.out]; unfold maxLen; simp; omega) (by rw [HXL.out]; simp; omega) ?_
   intro v9 w9 k1 k2 k3 k4
   have hw9 : Wr (Value.slice av ns.length cv).ownBlock.toList W2 w9 := ((gd : Gr W2 _).toWr _).trans k2
   have t9 : OwnT w0 w9 v9 (v9.ownBlock.toList ++ (fpt.flatten ++ (Value.slice none 0 0).ownBlock.toList)) NR := by
    rw [HNR.out]
    exact OwnT.of_append k1 HXN.out HND.out.1 HND.out.2 (fun c hc => by simp [Value.ownBlock] at hc)
   obtain ⟨va, vc, hf9⟩ := t9.form
   subst hf9
   have e9 := hw9.keepC y0 (HNX.out _ HFB.out)
   have f9 := hw9.frozenC fy0 zy0 (HNX.out _ HFB.out)
   have z9 := blk e9
   have hF9 : ∀ c ∈ (Value.slice va NR.length vc).ownBlock.toList ++ (fpt.flatten ++ (Value.slice none 0 0).ownBlock.toList), c ∈ F ∨ W2.heap.size ≤ c := fun c hc => by
    rcases List.mem_append.1 hc with h | h
    ·rcases k3 with e | e
     ·rw [e] at h; exact .inl (HOWN.out c h)
     ·rw [e] at h; simp at h; exact .inr (by omega)
    ·rcases List.mem_append.1 h with h | h
     ·exact .inl (by rw [HFE.out]; exact List.mem_append_right _ h)
     ·simp [Value.ownBlock] at h
   have HW9 := Lib.hid hw9
   have HT9 := Lib.hid t9
   have HF9 := Lib.hid hF9
   have HE9 := Lib.hid k4
   clear k1 k2 k3 t9 hF9
   refine hK.out _ _ ⟨hw9, k4⟩ (fun hU3 => ?_)
   clear hK K hw9 k4
   try simp only [Act.put, uq1, uq2, uq3]
   refine anyU_ready (rs := [17]) (by kernel_rfl) (by simp) ?_
   refine (ReadyU.cons rfl (fun K hK => ?_) ReadyU.nil)
   go_simp
   refine hK.out _ _ (by assumption) (fun hU0 => ?_)
   clear hK K hU0
   try simp only [Act.put, uq1, uq2, uq3]
   refine anyU_q 18 ?_
   try simp only [Act.put, uq1, uq2, uq3]
   refine anyU_ready (rs := [19]) (by kernel_rfl) (by simp) ?_
   refine ReadyU.last rfl (fun K hK => ?_)
   go_simp
   refine hK.out _ _ ?_
   clear hK K
   try simp only [Act.put, uq1, uq2, uq3]
   refine anyU_done (by kernel_rfl) ?_ _
   skip
   generalize hW4 : w9.setCell ⟨bx, 0, none⟩ (.slice va NR.length vc) = W4
   have v4 : VRow W4 bx 38 [.slice va NR.length vc] := by rw [← hW4]; exact ((HBX.out.gr HG2.out).wr HW9.out (HNX.out _ HFB.out)).set 0 _
   have hbF9 : bx ∉ (Value.slice va NR.length vc).ownBlock.toList ++ (fpt.flatten ++ (Value.slice none 0 0).ownBlock.toList) := fun hm => by
    rcases HF9.out _ hm with h | h
    ·exact HFB.out h
    ·omega
   have t4 : OwnT w0 W4 (.slice va NR.length vc) ((Value.slice va NR.length vc).ownBlock.toList ++ (fpt.flatten ++ (Value.slice none 0 0).ownBlock.toList)) NR := by
    rw [← hW4]
    exact HT9.out.wr ((Wr.refl [bx] _).setCell (by simp) _) (fun c hc hm => by simp at hm; subst hm; exact hbF9 hc)
   have w4 : Wr (bx :: F) w W4 := by
    rw [← hW4]
    exact (((HG2.out.toWr _).trans (HW9.out.sub fun c hc => List.mem_cons_of_mem _ (HOWN.out c hc)))).setCell (by simp) _
   have c4 : W4.cell? ⟨w.heap.size, 0, none⟩ = some (.slice (some ⟨b, off, none⟩) s0.length ks0) := by
    rw [← hW4]
    exact ((Wr.refl [bx] _).setCell (by simp) _).keepC (HW9.out.keepC HC2.out (HNX.out _ (fun hm => by have := HFL.out _ hm; omega))) (by simp; omega)
   have vc4 : VRow W4 (w.heap.size + 1) 78 [.string q0, .int .i64 q1, .slice aq2 q2.length kq2] := by
    rw [← hW4]
    exact (HV2.out.wr HW9.out (HNX.out _ H1F.out)).ne (by omega)
   have s24 : W2.heap.size ≤ W4.heap.size := by rw [← hW4, size_setCell']; exact HW9.out.size
   have e4 : Gr E W4 := Wr.ofNone HE0.out HEG.out w4
   obtain ⟨F4, hF4⟩ : ∃ F4, F4 = (Value.slice va NR.length vc).ownBlock.toList ++ (fpt.flatten ++ (Value.slice none 0 0).ownBlock.toList) := ⟨_, rfl⟩
   rw [← hF4] at t4 HF9
   have HV4 := Lib.hid v4
   have HT4 := Lib.hid t4
   have HW4 := Lib.hid w4
   have HC4 := Lib.hid c4
   have HVC4 := Lib.hid vc4
   have HE4 := Lib.hid e4
   have d2 := vc4.cell (k := 2) (by simp)
   have zd2 := blk d2
   clear hW4 v4 hbF9 t4 w4 c4 vc4 e4 hF4 kk0 kk1 kk2 e9 f9 z9 hU hU1 hU3 y0 zy0 fy0 d0 d1 zd0
   go_wp2_with fail
   go_loopw [51] (fun s51 wr => ∃ (k : Nat) (v : Value) (F5 : List Nat), k ≤ q2.length ∧ Hid (VRow wr bx 38 [v]) ∧ Hid (OwnT w0 wr v F5 (ns ++ (first + (ns.length : Int), p, l, q1, q0, (exK (fun q b i k => exN s0 f q.toNat b i k) (ns.length : Int) 1 ((ns.length : Int) + 1) (q2.take k)).1) :: idN first ((ns.length : Int) + 1) (exK (fun q b i k => exN s0 f q.toNat b i k) (ns.length : Int) 1 ((ns.length : Int) + 1) (q2.take k)).2)) ∧ Hid (Wr (bx :: F) w wr) ∧ Hid (wr.cell? ⟨w.heap.size, 0, none⟩ = some (.slice (some ⟨b, off, none⟩) s0.length ks0)) ∧ Hid (∀ c ∈ F5, c ∈ F ∨ W2.heap.size ≤ c) ∧ W2.heap.size ≤ wr.heap.size ∧ Hid (ns.length + 1 + (exK (fun q b i k => exN s0 f q.toNat b i k) (ns.length : Int) 1 ((ns.length : Int) + 1) (q2.take k)).2.length ≤ 16) ∧ s51 = .int .i64 k) (fun s51 _ => q2.length - (intOf s51).toNat)
   case atStart => exact ⟨0, _, F4, by omega, HV4, by rw [List.take_zero]; simp only [exK, idN]; rw [← HNR.out]; exact HT4, HW4, HC4, HF9, s24, Lib.hid (by rw [List.take_zero]; simp [exK]; omega), rfl⟩
   case round =>
    obtain ⟨k, v, F5, hk, HV5, HT5, HW5, HC5, HF5, hs5, HL5, rfl⟩ := hrel
    rename World => W5
    obtain ⟨CH, hCH⟩ : ∃ CH, CH = (exK (fun q b i k => exN s0 f q.toNat b i k) (ns.length : Int) 1 ((ns.length : Int) + 1) (q2.take k)).1 := ⟨_, rfl⟩
    obtain ⟨TL, hTL⟩ : ∃ TL, TL = (exK (fun q b i k => exN s0 f q.toNat b i k) (ns.length : Int) 1 ((ns.length : Int) + 1) (q2.take k)).2 := ⟨_, rfl⟩
    rw [← hCH, ← hTL] at HT5
    rw [← hTL] at HL5
    have hl5 := HL5.out
    have hTs : TL.length = ((q2.take k).map fun q => exL s0 f q.toNat).sum := by
     rw [hTL]
     exact (exK_len (L := fun q => exL s0 f q.toNat) (fun q b i k => exN_len s0 f q.toNat b i k) _ (q2.take k) 1 _).1
    have hCl : CH.length = k := by
     rw [hCH, (exK_len (L := fun q => exL s0 f q.toNat) (fun q b i k => exN_len s0 f q.toNat b i k) _ (q2.take k) 1 _).2, List.length_take]
     omega
    obtain ⟨NK, hNK⟩ : ∃ NK, NK = ns ++ (first + (ns.length : Int), p, l, q1, q0, CH) :: idN first ((ns.length : Int) + 1) TL := ⟨_, rfl⟩
    rw [← hNK] at HT5
    have hNKl : NK.length = ns.length + 1 + TL.length := by rw [hNK, List.length_append, List.length_cons, idN_len]; omega
    have HCH := Lib.hid hCH
    have HTL := Lib.hid hTL
    have HTS := Lib.hid hTs
    have HCL := Lib.hid hCl
    have HNK := Lib.hid hNK
    have HNKL := Lib.hid hNKl
    clear hCH hTL hTs hCl hl5
    by_cases hlk : k < q2.length
    ·obtain ⟨m, hm, hma⟩ := HK.out k hlk
     obtain ⟨bL, oL, rfl, hbL⟩ := oq23 k hlk
     have hfsb := HFS.out
     have hcL := HW5.out.keepC (HQ2.out.int_at hlk).1 (fun hmm => by
      have h1 := HFS.out bL (HSUB.out _ (by
       have : q2 ≠ [] := by intro e; rw [e] at hlk; simp at hlk
       exact HQ2.out.blk_in this))
      rcases List.mem_cons.1 hmm with h | h
      ·exact h1.2 h
      ·have := HFG.out bL h; omega)
     rw [hm] at hcL
     have zcL := blk hcL
     have HCLL := Lib.hid hcL
     have him : ns.length < NK.length := by omega
     have hel : NK[ns.length]? = some (first + (ns.length : Int), p, l, q1, q0, CH) := by rw [hNK, List.getElem?_append_right (Nat.le_refl _), Nat.sub_self]; rfl
     have hset : ∀ y, NK.set ns.length y = ns ++ y :: idN first ((ns.length : Int) + 1) TL := fun y => by rw [hNK, List.set_append, if_neg (by omega), Nat.sub_self]; rfl
     have HSET := Lib.hid hset
     obtain ⟨him', hel'⟩ := List.getElem?_eq_some_iff.1 hel
     obtain ⟨ak, ck, hform⟩ := HT5.out.form
     subst hform
     obtain ⟨g, cap, vj, fpj, ev, hgl, hgw, hgF, hcell, hfz, hOj, hfj, hgn, hvF, hgrow, -⟩ := HT5.out.at him
     injection ev with ev1 ev2 ev3
     subst ev1 ev3
     rw [hel'] at hOj hgrow
     have y0 := HV5.out.box
     have zy0 := blk y0
     have fy0 := HV5.out.frozen 0
     have e5 := hcell 5 vj rfl
     have fz := hfz (ns.length * 6 + 5)
     have zg := blk e5
     obtain ⟨aj, cj, hjf⟩ := hOj.form
     subst hjf
     have HOJ := Lib.hid hOj
     have HGROW := Lib.hid hgrow
     have HVF := Lib.hid hvF
     have HGN := Lib.hid hgn
     have HFJ := Lib.hid hfj
     have HGF := Lib.hid hgF
     have hbF5 : bx ∉ F5 := fun hm => by
      rcases HF5.out _ hm with h | h
      ·exact HFB.out h
      ·omega
     have HBF5 := Lib.hid hbF5
     have hE5 : Gr E W5 := Wr.ofNone HE0.out HEG.out HW5.out
     have HE5 := Lib.hid hE5
     have HM := Lib.hid hm
     have hCL2 : CH.length ≤ 1048576 := by have := HCL.out; omega
     have hNL2 : NK.length ≤ 16 := by have := HL5.out; omega
     clear hNKl hm hel hel' him' hset hOj hgrow hvF hgn hfj hcell hfz hgF hbF5 hfsb ev2 hE5 hNK hcL zcL
     have kk0 := fun (w' : World) (h : Wr (Value.slice aj CH.length cj).ownBlock.toList W5 w') => h.keepC y0 (fun hm => HBF5.out (HVF.out _ hm))
     have kk1 := fun (w' : World) (h : Wr (Value.slice aj CH.length cj).ownBlock.toList W5 w') => h.keepC e5 HGN.out
     have u0 : (0 : Int) ≤ (ns.length : Int) := by omega
     have u1 : (ns.length : Int) < (NK.length : Int) := by omega
     have w0' : (0 : Int) ≤ (k : Int) := by omega
     have w1' : (k : Int) < (q2.length : Int) := by omega
     have hcL := HCLL.out
     have zcL := blk hcL
     go_wp2_with fail
     refine wp_region_U (fun w' => Wr (Value.slice aj CH.length cj).ownBlock.toList W5 w' ∧ Gr E w') 22 (by kernel_rfl) (⟨(Gr.drew (Gr.refl W5)).toWr _, HE5.out.drew⟩) (fun hU => ?_)
     refine anyU_q 0 ?_
     try simp only [Act.put, uq1, uq2, uq3]
     refine anyU_q 4 ?_
     try simp only [Act.put, uq1, uq2, uq3]
     refine anyU_q 5 ?_
     try simp only [Act.put, uq1, uq2, uq3]
     refine anyU_q 9 ?_
     try simp only [Act.put, uq1, uq2, uq3]
     refine anyU_q 13 ?_
     try simp only [Act.put, uq1, uq2, uq3]
     refine anyU_q 1 ?_
     try simp only [Act.put, uq1, uq2, uq3]
     refine anyU_q 6 ?_
     try simp only [Act.put, uq1, uq2, uq3]
     refine anyU_q 14 ?_
     try simp only [Act.put, uq1, uq2, uq3]
     refine anyU_q 2 ?_
     try simp only [Act.put, uq1, uq2, uq3]
     refine anyU_q 7 ?_
     try simp only [Act.put, uq1, uq2, uq3]
     refine anyU_q 15 ?_
     try simp only [Act.put, uq1, uq2, uq3]
     refine anyU_q 3 ?_
     try simp only [Act.put, uq1, uq2, uq3]
     refine anyU_q 8 ?_
     try simp only [Act.put, uq1, uq2, uq3]
     refine anyU_q 16 ?_
     try simp only [Act.put, uq1, uq2, uq3]
     refine anyU_q 10 ?_
     try simp only [Act.put, uq1, uq2, uq3]
     refine anyU_q 17 ?_
     try simp only [Act.put, uq1, uq2, uq3]
     refine anyU_q 11 ?_
     try simp only [Act.put, uq1, uq2, uq3]
     refine anyU_q 12 ?_
     try simp only [Act.put, uq1, uq2, uq3]
     refine anyU_ready (rs := [18]) (by kernel_rfl) (by simp) ?_
     refine (ReadyU.cons rfl (fun K hK => ?_) ReadyU.nil)
     go_simp
     refine hK.out _ _ ⟨(gd : Gr W5 (W5.drew.alloc (.cells #[.int .i64 (NK.length : Int)] 3))).toWr _, HE5.out.trans gd⟩ (fun hU1 => ?_)
     clear hK K
     try simp only [Act.put, uq1, uq2, uq3]
     refine anyU_ready (rs := [19]) (by kernel_rfl) (by simp) ?_
     refine (ReadyU.cons rfl (fun K hK => ?_) ReadyU.nil)
     refine step_append_RB (α := Int) (wg := E) (w0 := w0) (HE5.out.trans gd) (by have := HE0.out; omega) (by simp; omega) (by rfl) _ _ _ (by rfl) 3 i0 (.int .i64 0) 8 Try.underlying59 HZ.out.1 HZ.out.2.1 HZ.out.2.2.1 HZ.out.2.2.2 rfl (.slice aj CH.length cj) fpj _ (by rfl) (HOJ.out.gr gd) _ [[]] [(NK.length : Int)] (by rfl) (SrcR.gr (SrcR.one (w := W5) (e := 3) rfl (intRd (wf_small (by omega) (by omega)) _)) gd) (fun c _ => by simp) (by unfold maxLen; simp; omega) (by simp; omega) ?_
     intro v9 w9 k1 k2 k3 k4
     have g9 : Gr W5 (W5.drew.alloc (.cells #[.int .i64 (NK.length : Int)] 3)) := gd
     have hw9 : Wr (Value.slice aj CH.length cj).ownBlock.toList W5 w9 := (g9.toWr _).trans k2
     have e59 := hw9.keepC e5 HGN.out
     have f59 := hw9.frozenC fz zg HGN.out
     have z59 := blk e59
     have k3' : v9.ownBlock = (Value.slice aj CH.length cj).ownBlock ∨ ∃ n, v9.ownBlock = some n ∧ W5.heap.size ≤ n := k3.imp id fun h => ⟨_, h, g9.size⟩
     obtain ⟨F6, hT6, hF6⟩ := HGROW.out w9 v9 _ hw9 k1 k3'
     have HT6 := Lib.hid hT6
     have HF6 := Lib.hid hF6
     have HW9 := Lib.hid hw9
     have HE9 := Lib.hid k4
     obtain ⟨vb, vcc, hfo⟩ := k1.form
     subst hfo
     clear g9 k1 k2 k3 k3' hT6 hF6 k4
     refine hK.out _ _ ⟨hw9, HE9.out⟩ (fun hU3 => ?_)
     clear hK K hw9
     try simp only [Act.put, uq1, uq2, uq3]
     refine anyU_ready (rs := [20]) (by kernel_rfl) (by simp) ?_
     refine (ReadyU.cons rfl (fun K hK => ?_) ReadyU.nil)
     go_simp
     refine hK.out _ _ (by assumption) (fun hU0 => ?_)
     clear hK K hU0
     try simp only [Act.put, uq1, uq2, uq3]
     refine anyU_q 21 ?_
     try simp only [Act.put, uq1, uq2, uq3]
     refine anyU_ready (rs := [22]) (by kernel_rfl) (by simp) ?_
     refine ReadyU.last rfl (fun K hK => ?_)
     go_simp
     refine hK.out _ _ ?_
     clear hK K
     try simp only [Act.put, uq1, uq2, uq3]
     refine anyU_done (by kernel_rfl) ?_ _
     skip
     generalize hW6 : w9.setCell ⟨g, ns.length * 6 + 5, none⟩ (.slice vb (CH.length + 1) vcc) = W6
     have w6 : Wr (g :: (Value.slice aj CH.length cj).ownBlock.toList) W5 W6 := by rw [← hW6]; exact (HW9.out.sub fun c hc => List.mem_cons_of_mem _ hc).setCell (by simp) _
     have hT6 := HT6.out
     have e6 : (Value.slice vb (CH ++ [(NK.length : Int)]).length vcc) = .slice vb (CH.length + 1) vcc := by simp
     rw [e6, hW6, HSET.out] at hT6
     obtain ⟨N6, hN6⟩ : ∃ N6, N6 = ns ++ (first + (ns.length : Int), p, l, q1, q0, CH ++ [(NK.length : Int)]) :: idN first ((ns.length : Int) + 1) TL := ⟨_, rfl⟩
     rw [show ns ++ ((first + (ns.length : Int), p, l, q1, q0, CH).1, (first + (ns.length : Int), p, l, q1, q0, CH).2.1, (first + (ns.length : Int), p, l, q1, q0, CH).2.2.1, (first + (ns.length : Int), p, l, q1, q0, CH).2.2.2.1, (first + (ns.length : Int), p, l, q1, q0, CH).2.2.2.2.1, CH ++ [(NK.length : Int)]) :: idN first ((ns.length : Int) + 1) TL = N6 from hN6.symm] at hT6
     have hN6l : N6.length = NK.length := by rw [hN6, HNKL.out, List.length_append, List.length_cons, idN_len]; omega
     have hin5 : ∀ x ∈ g :: (Value.slice aj CH.length cj).ownBlock.toList, x ∈ F5 := fun x hx => by
      rcases List.mem_cons.1 hx with h | h
      ·rw [h]; exact HGF.out
      ·exact HVF.out _ h
     have vx6 := HV5.out.wr w6 (fun hm => HBF5.out (hin5 _ hm))
     have ww6 : Wr (bx :: F) w W6 := HW5.out.more2 w6 (fun x hx => by
      rcases HF5.out x (hin5 x hx) with h | h
      ·exact .inl (List.mem_cons_of_mem _ h)
      ·exact .inr (by omega))
     have hs0n : ∀ F' : List Nat, (∀ c ∈ F', c ∈ F ∨ W2.heap.size ≤ c) → w.heap.size ∉ F' := fun F' h hm => by
      rcases h _ hm with h | h
      ·have := HFL.out _ h; omega
      ·omega
     have c6 := w6.keepC HC5.out (fun hm => hs0n F5 HF5.out (hin5 _ hm))
     have hF6' : ∀ c ∈ F6, c ∈ F ∨ W2.heap.size ≤ c := fun c hc => by
      rcases HF6.out c hc with h | h
      ·exact HF5.out c h
      ·exact .inr (by omega)
     have hs6 := w6.size
     have iw : IntKind.i64.wrap ((k : Int) + 1) = (k : Int) + 1 := IntWalk.i64_in _ (by omega)
     have HT6' := Lib.hid hT6
     have HN6 := Lib.hid hN6
     have HN6L := Lib.hid hN6l
     have HVX6 := Lib.hid vx6
     have HW6 := Lib.hid ww6
     have HF6' := Lib.hid hF6'
     have HC6 := Lib.hid c6
     have HS0N := Lib.hid hs0n
     have zc6 := blk c6
     clear hW6 w6 hT6 e6 hN6 hN6l hin5 vx6 ww6 hs0n hF6' kk0 kk1 e59 f59 z59 hU hU1 hU3 y0 zy0 fy0 e5 fz zg hcL zcL
     go_wp2_with fail
     refine (HIH.out m (ns.length : Int) ((k : Int) + 1) fs _ _ F6 N6 _ (Rd.wr HS.out HW6.out (fun c hc hm => by
      have h1 := HFS.out c hc
      rcases List.mem_cons.1 hm with h | h
      ·exact h1.2 h
      ·have := HFG.out _ h; omega)) (by omega) (by omega) (wf_small (by omega) (by omega)) (wf_small (by omega) (by omega)) HFS.out (by omega) HVX6.out HT6'.out (by rw [HN6L.out]; exact hNL2)).mono ?_
     rintro e W7 ⟨r, rfl, hw7, hr1, hr2, hr3⟩
     have hsum : ((q2.take (k + 1)).map fun q => exL s0 f q.toNat).sum = ((q2.take k).map fun q => exL s0 f q.toNat).sum + exL s0 f m := by
      rw [sum_take_succ (fun q : Int => exL s0 f q.toNat) q2 k hlk, HM.out]; rfl
     have hsle := sum_take_le (fun q : Int => exL s0 f q.toNat) q2 (k + 1)
     have hlen6 : N6.length = ns.length + 1 + ((q2.take k).map fun q => exL s0 f q.toNat).sum := by rw [HN6L.out, HNKL.out, HTS.out]
     have ww7 : Wr (bx :: F) w W7 := HW6.out.more2 hw7 (fun x hx => by
      rcases List.mem_cons.1 hx with h | h
      ·exact .inl (by rw [h]; simp)
      ·rcases HF6'.out x h with h | h
       ·exact .inl (List.mem_cons_of_mem _ h)
       ·exact .inr (by omega))
     have HW7 := Lib.hid ww7
     have HEX2 := Lib.hid (And.intro hsum (And.intro hsle hlen6))
     cases r with
     | false =>
      have hfin : ExpPost s0 (f + 1) a first p l bx w0 w F ns (.returned (.bool false)) W7 := by
       refine ⟨false, rfl, ww7, (fun h => by cases h), fun _ => ?_, fun h => by cases h⟩
       have h1 := hr2 rfl
       have h2 := HEX.out
       omega
      have HFIN := Lib.hid hfin
      clear hr1 hr2 hr3 hsum hsle hlen6 ww7 hfin hw7
      go_wp2_with fail
      go_ret
      exact HFIN.out
     | true =>
      obtain ⟨v7, F7, vx7, t7, hF7⟩ := hr3 rfl
      have hle := hr1 rfl
      have c7 := hw7.keepC HC6.out (fun hm => by
       rcases List.mem_cons.1 hm with h | h
       ·omega
       ·exact HS0N.out F6 HF6'.out h)
      have hF7' : ∀ c ∈ F7, c ∈ F ∨ W2.heap.size ≤ c := fun c hc => by
       rcases hF7 c hc with h | h
       ·exact HF6'.out c h
       ·exact .inr (by omega)
      have hs7 := hw7.size
      have hsn := exK_snoc (T := fun q b i k => exN s0 f q.toNat b i k) (ns.length : Int) (q2.take k) (q2[k]) 1 ((ns.length : Int) + 1)
      rw [← List.take_succ_eq_append_getElem hlk, ← HCH.out, ← HTL.out, List.length_take, Nat.min_eq_left (by omega), HM.out] at hsn
      have hb6 : (ns.length : Int) + 1 + (TL.length : Int) = (N6.length : Int) := by rw [HN6L.out, HNKL.out]; omega
      rw [hb6] at hsn
      have h1k : (1 : Int) + (k : Int) = (k : Int) + 1 := by omega
      rw [h1k] at hsn
      have hlst : N6 ++ idN first (N6.length : Int) (exN s0 f m (N6.length : Int) (ns.length : Int) ((k : Int) + 1)) = ns ++ (first + (ns.length : Int), p, l, q1, q0, (exK (fun q b i k => exN s0 f q.toNat b i k) (ns.length : Int) 1 ((ns.length : Int) + 1) (q2.take (k + 1))).1) :: idN first ((ns.length : Int) + 1) (exK (fun q b i k => exN s0 f q.toNat b i k) (ns.length : Int) 1 ((ns.length : Int) + 1) (q2.take (k + 1))).2 := by
       rw [hsn]
       simp only
       rw [idN_append, hb6, HN6L.out]
       conv => lhs; rw [HN6.out]
       simp
      have hll : ns.length + 1 + (exK (fun q b i k => exN s0 f q.toNat b i k) (ns.length : Int) 1 ((ns.length : Int) + 1) (q2.take (k + 1))).2.length ≤ 16 := by
       rw [hsn]
       simp only [List.length_append]
       rw [exN_len, HTS.out, Int.toNat_natCast]
       omega
      rw [hlst] at t7
      have HT7 := Lib.hid t7
      have HV7 := Lib.hid vx7
      have HF7 := Lib.hid hF7'
      have HC7 := Lib.hid c7
      have HL7 := Lib.hid hll
      clear hr1 hr2 hr3 hsum hsle hlen6 ww7 hw7 vx7 t7 hF7 hF7' c7 hsn hb6 h1k hlst hll hle
      go_wp2_with fail
      exact ⟨⟨k + 1, v7, F7, by omega, HV7, HT7, HW7, HC7, HF7, by omega, HL7, by go_num⟩, by simp [intOf]; omega⟩
    ·have hk2 : k = q2.length := by omega
     subst hk2
     have hfin : ExpPost s0 (f + 1) a first p l bx w0 w F ns (.returned (.bool true)) W5 := by
      refine ⟨true, rfl, HW5.out, fun _ => ?_, (fun h => by cases h), fun _ => ⟨v, F5, HV5.out, ?_, fun c hc => ?_⟩⟩
      ·have h1 := HL5.out
       have h2 := HTS.out
       rw [List.take_length] at h2
       have h3 := HEX.out
       omega
      ·rw [HEN.out]
       have h1 := HT5.out
       rw [HNK.out, HCH.out, HTL.out, List.take_length] at h1
       simpa [idN] using h1
      ·have h1 := HF5.out c hc
       have h2 := HS2.out
       rcases h1 with h | h
       ·exact .inl h
       ·exact .inr (by omega)
     have HFIN := Lib.hid hfin
     clear hNK hNKl hfin
     go_wp2_with fail
     go_ret
     exact HFIN.out
end Go.Proofs.Ytmfcagcanhmdbaa
