/- A subtree interned: the program's. No condition. -/
import Derived.Test.YtmfcagcanhmdbaaH05
import Derived.Test.YtmfcagcanhmdbaaH28
import Derived.Test.YtmfcagcanhmdbaaH09
import Derived.Test.YtmfcagcanhmdbaaH04
namespace Go.Proofs.Ytmfcagcanhmdbaa
open Go.RowKit
set_option linter.unusedVariables false
set_option linter.unusedSimpArgs false

def InPost (bx cb : Nat) (w0 w : World) (F : List Nat) (s' : GStore) (d' : List Int) (y : Int) (e : Ending) (w' : World) : Prop :=
 ∃ v' F', e = .returned (.int .i64 y) ∧ Gr w0 w' ∧ Wr (bx :: cb :: F) w w' ∧ VRow w' bx 32 [v'] ∧ IRow w' cb 3 d' ∧ OwnC w0 w' v' F' s' ∧ ∀ b ∈ F', b ∈ F ∨ w.heap.size ≤ b

set_option maxRecDepth 100000 in
set_option maxHeartbeats 16000000 in
theorem intern_any (t : List GNode) (htl : t.length ≤ 1048576) (htk : ∀ x ∈ t, (kidsN x).length ≤ 1048576) (bx cb : Nat) (hne : bx ≠ cb) (w0 : World) (hbx : w0.heap.size ≤ bx) (hcb : w0.heap.size ≤ cb) :
  ∀ (f i : Nat) (ft : List Nat) (ct : Array Value) (v : Value) (cp : Nat) (F : List Nat) (xs : GStore) (d : List Int) (s' : GStore) (d' : List Int) (y : Int) (w : World) (ht : Rd.rd ft w ct.toList t) (hft : ∀ b ∈ ft, b < w0.heap.size) (hlt : i < t.length) (hg : Gr w0 w) (hvx : VRow w bx 32 [v]) (hvc : IRow w cb 3 d) (hO : OwnC w0 w v F xs) (hbF : bx ∉ F) (hcF : cb ∉ F) (hdl : d.length = t.length) (hwt : wtStore xs + pot t d ≤ 2097152) (hbd : ∀ y ∈ d, y < (xs.length : Int)) (hN : inN t f xs d i = some (s', d', y)),
  Calls Try.prog 39 #[.pointer (some ⟨bx, 0, none⟩), .agg ct, .int .i64 (i : Int), .slice (some ⟨cb, 0, none⟩) t.length cp] w (InPost bx cb w0 w F s' d' y) := by
 intro f
 induction f with
 | zero => intro i ft ct v cp F xs d s' d' y w ht hft hlt hg hvx hvc hO hbF hcF hdl hwt hbd hN; simp [inN] at hN
 | succ f ih =>
  intro i ft ct v cp F xs d s' d' y w ht hft hlt hg hvx hvc hO hbF hcF hdl hwt hbd hN
  obtain ⟨i0, hi, hz0, hz1, hz2⟩ := info_parts Try.infoIntC
  have HZ := Lib.hid (And.intro hi (And.intro hz0 (And.intro hz1 hz2)))
  clear hi hz0 hz1 hz2
  obtain ⟨iC, hi, hz0, hz1, hz2⟩ := info_parts Try.infoCell
  have HZC := Lib.hid (And.intro hi (And.intro hz0 (And.intro hz1 hz2)))
  clear hi hz0 hz1 hz2
  have HIH := Lib.hid ih
  have HTK := Lib.hid htk
  have HFT := Lib.hid hft
  have HG0 := Lib.hid hg
  have HVX := Lib.hid hvx
  have HVC := Lib.hid hvc
  have HO := Lib.hid hO
  have HBF := Lib.hid (And.intro hbF hcF)
  have HDL := Lib.hid hdl
  have HWT := Lib.hid hwt
  have HBD := Lib.hid hbd
  have HN := Lib.hid hN
  have hid : i < d.length := by omega
  obtain ⟨y0, hy0⟩ : ∃ y, d[i]? = some y := ⟨_, List.getElem?_eq_getElem hid⟩
  have HY0 := Lib.hid hy0
  have hbl : bx < w.heap.size := hvx.lt
  have hcl : cb < w.heap.size := hvc.lt
  have hgs := hg.size
  have c1 : w.cell? ⟨cb, i, none⟩ = some (.int .i64 y0) := by
   have h1 := hvc.cell hid
   rw [List.getElem?_eq_getElem hid] at hy0
   rw [← Option.some.inj hy0]
   exact h1
  have zc1 := blk c1
  have i0' : (0 : Int) ≤ (i : Int) := by omega
  have i1' : (i : Int) < (t.length : Int) := by omega
  clear ih htk hft hvx hvc hO hbF hcF hdl hwt hbd hid hy0
  have HT := Lib.hid ht
  obtain ⟨t0, rfl⟩ : ∃ y, y = t := ⟨t, rfl⟩
  obtain ⟨vt0, ft0, rfl, hfpt, ht0⟩ := rdTree_inv t0 ht
  have FPt := Lib.hid hfpt
  clear hfpt
  obtain ⟨at0, kt0, rfl, ot01, ot02, ot03⟩ := ht0.open
  clear ht
  by_cases hpos : 0 ≤ y0
  ·have hr := HN.out
   rw [inN_done HY0.out hpos] at hr
   simp only [Option.some.injEq, Prod.mk.injEq] at hr
   obtain ⟨e1, e2, e3⟩ := hr
   have hfin : InPost bx cb w0 w F s' d' y (.returned (.int .i64 y0)) (w.alloc (.cells #[.slice at0 t0.length kt0] 38)) := by
    refine ⟨v, F, by rw [e3], HG0.out.trans gd, (gd : Gr w _).toWr _, HVX.out.gr gd, ?_, ?_, fun b hb => .inl hb⟩
    ·rw [← e2]; exact VRow.gr HVC.out gd
    ·rw [← e1]; exact HO.out.gr gd
   have HFIN := Lib.hid hfin
   clear hfin e1 e2 e3 hN
   go_enter Try.func39, Try.ntmps39
   go_wp2_with fail
   go_ret
   exact HFIN.out
  ·skip
   obtain ⟨b, off, rfl, hbb⟩ := ot03 i hlt
   obtain ⟨csq, feq, hcq, hrq, hsub⟩ := ht0.at hlt
   obtain ⟨yq, hyq⟩ : ∃ y, y = t0[i] := ⟨_, rfl⟩
   rw [← hyq] at hrq
   have HYq := Lib.hid hyq
   have HRq := Lib.hid hrq
   obtain ⟨q0, q1, q2, q3, q4, q5⟩ := yq
   obtain ⟨vq5, fq5, hcsq, hfpq, hq0, hq1, hq2, hq3, hq4, hq5⟩ := rdNode_inv (cs := csq.toArray) q0 q1 q2 q3 q4 q5 (by simpa using hrq)
   obtain rfl : csq = [.int .i64 q0, .int .i64 q1, .int .i64 q2, .int .i64 q3, .string q4, vq5] := by have := congrArg Array.toList hcsq; simpa using this
   obtain ⟨aq5, kq5, rfl, oq51, oq52, oq53⟩ := hq5.open
   have qz0 : w.cell? ⟨b, off + i * 6, none⟩ = some (.int .i64 q0) := by simpa [Rd.n] using hcq 0 _ rfl
   have qz1 : w.cell? ⟨b, off + i * 6 + 1, none⟩ = some (.int .i64 q1) := hcq 1 _ rfl
   have qz2 : w.cell? ⟨b, off + i * 6 + 2, none⟩ = some (.int .i64 q2) := hcq 2 _ rfl
   have qz3 : w.cell? ⟨b, off + i * 6 + 3, none⟩ = some (.int .i64 q3) := hcq 3 _ rfl
   have qz4 : w.cell? ⟨b, off + i * 6 + 4, none⟩ = some (.string q4) := hcq 4 _ rfl
   have qz5 : w.cell? ⟨b, off + i * 6 + 5, none⟩ = some (.slice aq5 q5.length kq5) := hcq 5 _ rfl
   have qzb := blk qz0
   clear hcsq hcq hrq hyq
   have HSUB := Lib.hid (show ∀ c ∈ fq5, c ∈ ft from fun c hc => by
    have h1 := hsub c (by rw [hfpq]; simpa using hc)
    have h2 := FPt.out
    rw [h2]
    simpa using h1)
   clear hsub hfpq
   have hx : t0[i]? = some (q0, q1, q2, q3, q4, q5) := by rw [List.getElem?_eq_getElem hlt, HYq.out]
   have hr := HN.out
   rw [inN_new HY0.out (by omega) hx] at hr
   change (match inK (inN t0 f) i t0.length xs d q5 with
    | none => none
    | some (s', d', ks) => some ((putC s' (q4, q3, ks)).1, d'.set i (putC s' (q4, q3, ks)).2, (putC s' (q4, q3, ks)).2)) = some (s', d', y) at hr
   obtain ⟨sK, dK, ksK, hK, eK⟩ : ∃ sK dK ksK, inK (inN t0 f) i t0.length xs d q5 = some (sK, dK, ksK) ∧ some ((putC sK (q4, q3, ksK)).1, dK.set i (putC sK (q4, q3, ksK)).2, (putC sK (q4, q3, ksK)).2) = some (s', d', y) := by
    cases hK : inK (inN t0 f) i t0.length xs d q5 with
    | none => rw [hK] at hr; cases hr
    | some r => obtain ⟨sK, dK, ksK⟩ := r; rw [hK] at hr; exact ⟨sK, dK, ksK, rfl, hr⟩
   simp only [Option.some.injEq, Prod.mk.injEq] at eK
   have HK := Lib.hid hK
   have HEK := Lib.hid eK
   have hql : q5.length ≤ 1048576 := HTK.out (q0, q1, q2, q3, q4, q5) (by rw [HYq.out]; exact List.getElem_mem hlt)
   have HQ := Lib.hid (And.intro hq3 hq4)
   have HQ5 := Lib.hid hq5
   have hdi : y0 < 0 := by omega
   clear hr hK eK hx hN hq0 hq1 hq2 hq3 hq4 hpos
   go_enter Try.func39, Try.ntmps39
   go_wp2_with fail
   generalize hW2 : ((w.alloc (.cells #[.slice (some ⟨b, off, none⟩) t0.length kt0] 38)).alloc (.cells #[.int .i64 q0, .int .i64 q1, .int .i64 q2, .int .i64 q3, .string q4, .slice aq5 q5.length kq5] 86)).alloc (.cells #[.string q4, .int .i64 q3, .slice none 0 0] 78) = W2
   have g2 : Gr w W2 := by rw [← hW2]; exact gd
   have s2 : W2.heap.size = w.heap.size + 3 := by rw [← hW2]; simp
   have ct2 : W2.cell? ⟨w.heap.size, 0, none⟩ = some (.slice (some ⟨b, off, none⟩) t0.length kt0) := by rw [← hW2]; exact Gr.keep gd (box_cell (A := w) rfl rfl)
   have vc2 : VRow W2 (w.heap.size + 1 + 1) 78 [.string q4, .int .i64 q3, .slice none 0 0] := by
    rw [← hW2]
    exact VRow.new (by simp)
   have HG2 := Lib.hid g2
   have HCT2 := Lib.hid ct2
   have HVC2 := Lib.hid vc2
   have HFL := Lib.hid HO.out.lt
   have HFGE := Lib.hid HO.out.ge
   clear hW2 g2 ct2 vc2 qz0 qz1 qz2 qz3 qz4 qz5 c1 zc1 qzb
   go_loopw [36] (fun s36 wr => ∃ (k : Nat) (v5 : Value) (F5 : List Nat) (s5 : GStore) (d5 ks : List Int) (vc : Value) (fpc : List (List Nat)), k ≤ q5.length ∧ Hid (inK (inN t0 f) i t0.length xs d (q5.take k) = some (s5, d5, ks)) ∧ Hid (Gr w0 wr) ∧ Hid (Wr (bx :: cb :: F) w wr) ∧ W2.heap.size ≤ wr.heap.size ∧ Hid (VRow wr bx 32 [v5]) ∧ Hid (IRow wr cb 3 d5) ∧ Hid (OwnC w0 wr v5 F5 s5) ∧ Hid (∀ b ∈ F5, b ∈ F ∨ W2.heap.size ≤ b) ∧ Hid (wr.cell? ⟨w.heap.size, 0, none⟩ = some (.slice (some ⟨b, off, none⟩) t0.length kt0)) ∧ Hid (VRow wr (w.heap.size + 1 + 1) 78 [.string q4, .int .i64 q3, vc]) ∧ Hid (OwnR (α := Int) W2 3 wr vc fpc ks) ∧ Hid (fpc.flatten = []) ∧ Hid (∀ b ∈ vc.ownBlock.toList, b ∉ F5) ∧ s36 = .int .i64 k) (fun s36 _ => q5.length - (intOf s36).toNat)
   case atStart => exact ⟨0, v, F, xs, d, [], .slice none 0 0, [], by omega, Lib.hid rfl, Lib.hid (HG0.out.trans HG2.out), Lib.hid (HG2.out.toWr _), Nat.le_refl _, Lib.hid (HVX.out.gr HG2.out), Lib.hid (VRow.gr HVC.out HG2.out), Lib.hid (HO.out.gr HG2.out), Lib.hid (fun b hb => .inl hb), HCT2, HVC2, Lib.hid (OwnR.nil W2 W2 _), Lib.hid rfl, Lib.hid (fun b hb => by simp [Value.ownBlock] at hb), rfl⟩
   case round =>
    obtain ⟨k, v5, F5, s5, d5, ks, vc, fpc, hk, HK5, HG5, HW5, hs5, HVX5, HVC5, HO5, HF5, HCT5, HCC5, HOR5, HFC5, HDJ5, rfl⟩ := hrel
    rename World => W5
    have hok := inK_ok (t := t0) (T := inN t0 f) (i := i) t0.length (fun s d j s' d' k _ hj hd h => inN_ok t0 f s d j s' d' k hj hd h) (q5.take k) xs d [] s5 d5 ks HDL.out HK5.out
    have hd5 : d5.length = t0.length := hok.1.len.trans HDL.out
    have hksl : ks.length = k := by rw [hok.2.1, List.length_take]; simp; omega
    have hwt5 : wtStore s5 + pot t0 d5 ≤ 2097152 := Nat.le_trans hok.1.wt HWT.out
    have hbd5 := hok.1.bd HBD.out
    have hks5 := hok.2.2 HBD.out (by simp)
    have hlow5 : d5[i]? = some y0 := (hok.1.low i (by omega)).trans HY0.out
    have hsl5 : s5.length ≤ 2097152 := by have := wtL_len wtCell s5; have h2 : wtStore s5 = wtL wtCell s5 := rfl; omega
    have HD5 := Lib.hid hd5
    have HWT5 := Lib.hid hwt5
    have HBD5 := Lib.hid hbd5
    have HKS5 := Lib.hid hks5
    have HLOW5 := Lib.hid hlow5
    have HKSL := Lib.hid hksl
    have HSL5 := Lib.hid hsl5
    obtain ⟨ac, cc, hform⟩ := HOR5.out.form
    subst hform
    have hcF5 : w.heap.size + 1 + 1 ∉ F5 := fun hm => by
     rcases HF5.out _ hm with h | h
     ·have := HFL.out _ h; omega
     ·omega
    have htF5 : w.heap.size ∉ F5 := fun hm => by
     rcases HF5.out _ hm with h | h
     ·have := HFL.out _ h; omega
     ·omega
    have hob : ∀ b ∈ (Value.slice ac ks.length cc).ownBlock.toList, W2.heap.size ≤ b ∧ b < W5.heap.size := fun b hb => HOR5.out.base b (by simpa using hb)
    have HCF5 := Lib.hid (And.intro hcF5 htF5)
    have HOB := Lib.hid hob
    have c2 := HCC5.out.cell (k := 2) (by simp)
    have zc2 := blk c2
    have fc2 := HCC5.out.frozen 2
    have ct5 := HCT5.out
    have zct5 := blk ct5
    clear hok hd5 hwt5 hbd5 hks5 hlow5 hcF5 htF5 hob hksl hsl5
    by_cases hlk : k < q5.length
    ·have hne : inK (inN t0 f) i t0.length xs d (q5.take (k + 1)) ≠ none := fun h => by
      have := inK_take h
      rw [HK.out] at this
      cases this
     rw [List.take_succ_eq_append_getElem hlk, inK_snoc, HK5.out] at hne
     have hin : (i : Int) + 1 ≤ q5[k] ∧ q5[k] ≤ (t0.length : Int) - 1 := by
      apply Classical.byContradiction
      intro h
      exact hne (by simp only [inStep]; rw [if_neg h])
     obtain ⟨s6, d6, y6, hT⟩ : ∃ s6 d6 y6, inN t0 f s5 d5 q5[k].toNat = some (s6, d6, y6) := by
      cases hT : inN t0 f s5 d5 q5[k].toNat with
      | none => exact absurd (by simp only [inStep]; rw [if_pos hin, hT]) hne
      | some r => exact ⟨_, _, _, rfl⟩
     have hK6 : inK (inN t0 f) i t0.length xs d (q5.take (k + 1)) = some (s6, d6, ks ++ [y6]) := by
      rw [List.take_succ_eq_append_getElem hlk, inK_snoc, HK5.out]
      simp only [inStep]
      rw [if_pos hin, hT]
     obtain ⟨m, hm⟩ : ∃ m : Nat, q5[k] = m := ⟨q5[k].toNat, by omega⟩
     rw [hm] at hT hin
     rw [Int.toNat_natCast] at hT
     have hml : m < t0.length := by omega
     have hok6 := inN_ok t0 f s5 d5 m s6 d6 y6 hml HD5.out hT
     have hy6 : 0 ≤ y6 ∧ y6 < (s6.length : Int) := ⟨hok6.2.1, hok6.2.2 HBD5.out⟩
     have hs6l : s6.length ≤ 2097152 := by have := wtL_len wtCell s6; have h2 : wtStore s6 = wtL wtCell s6 := rfl; have := hok6.1.wt; have := HWT5.out; omega
     have HK6 := Lib.hid hK6
     have HTT := Lib.hid hT
     have HY6 := Lib.hid hy6
     obtain ⟨bL, oL, rfl, hbL⟩ := oq53 k hlk
     have hcL := HW5.out.keepC (HQ5.out.int_at hlk).1 (fun hmm => by
      have h1 := HFT.out bL (HSUB.out _ (HQ5.out.blk_in (by intro e; rw [e] at hlk; simp at hlk)))
      rcases List.mem_cons.1 hmm with h | h
      ·omega
      ·rcases List.mem_cons.1 h with h | h
       ·omega
       ·have := HFGE.out bL h; omega)
     rw [hm] at hcL
     have zcL := blk hcL
     have hrt : Rd.rd ft W5 [.slice (some ⟨b, off, none⟩) t0.length kt0] t0 := Rd.wr HT.out HW5.out (fun x hx hmm => by
      have h1 := HFT.out x hx
      rcases List.mem_cons.1 hmm with h | h
      ·omega
      ·rcases List.mem_cons.1 h with h | h
       ·omega
       ·have := HFGE.out x h; omega)
     have HRT := Lib.hid hrt
     have hxF5 : bx ∉ F5 ∧ cb ∉ F5 := ⟨fun hmm => by
      rcases HF5.out _ hmm with h | h
      ·exact HBF.out.1 h
      ·omega, fun hmm => by
      rcases HF5.out _ hmm with h | h
      ·exact HBF.out.2 h
      ·omega⟩
     have HXF5 := Lib.hid hxF5
     have k0' : (0 : Int) ≤ (k : Int) := by omega
     have k1' : (k : Int) < (q5.length : Int) := by omega
     have iw : IntKind.i64.wrap ((k : Int) + 1) = (k : Int) + 1 := IntWalk.i64_in _ (by omega)
     clear hne hin hT hK6 hok6 hy6 hm hrt hxF5
     obtain ⟨LS, hLS⟩ : ∃ LS, LS = bx :: cb :: (F5 ++ (Value.slice ac ks.length cc).ownBlock.toList) := ⟨_, rfl⟩
     have HLS := Lib.hid hLS
     have kk0 := fun (w' : World) (h : Wr LS W5 w') => h.keepC c2 (fun hmm => by
      rw [HLS.out] at hmm
      rcases List.mem_cons.1 hmm with h | h
      ·omega
      ·rcases List.mem_cons.1 h with h | h
       ·omega
       ·rcases List.mem_append.1 h with h | h
        ·exact HCF5.out.1 h
        ·have := HOB.out _ h; omega)
     have kk1 := fun (w' : World) (h : Wr LS W5 w') => h.keepC ct5 (fun hmm => by
      rw [HLS.out] at hmm
      rcases List.mem_cons.1 hmm with h | h
      ·omega
      ·rcases List.mem_cons.1 h with h | h
       ·omega
       ·rcases List.mem_append.1 h with h | h
        ·exact HCF5.out.2 h
        ·have := HOB.out _ h; omega)
     clear hLS
     go_wp2_with fail
     refine wp_region_U (fun w' => Wr LS W5 w' ∧ Gr w0 w') 10 (by kernel_rfl) (⟨(Gr.drew (Gr.refl W5)).toWr _, HG5.out.drew⟩) (fun hU => ?_)
     refine anyU_q 0 ?_
     try simp only [Act.put, uq1, uq2, uq3]
     refine anyU_q 2 ?_
     try simp only [Act.put, uq1, uq2, uq3]
     refine anyU_q 3 ?_
     try simp only [Act.put, uq1, uq2, uq3]
     refine anyU_q 4 ?_
     try simp only [Act.put, uq1, uq2, uq3]
     refine anyU_q 5 ?_
     try simp only [Act.put, uq1, uq2, uq3]
     refine anyU_q 1 ?_
     try simp only [Act.put, uq1, uq2, uq3]
     refine anyU_ready (rs := [6]) (by kernel_rfl) (by simp) ?_
     refine (ReadyU.cons rfl (fun K hK => ?_) ReadyU.nil)
     go_simp
     go_at_call 39
     refine (HIH.out m ft _ v5 cp F5 s5 d5 s6 d6 y6 _ (Rd.gr HRT.out gd) HFT.out hml (HG5.out.trans gd) (HVX5.out.gr gd) (VRow.gr HVC5.out gd) (HO5.out.gr gd) HXF5.out.1 HXF5.out.2 HD5.out HWT5.out HBD5.out HTT.out).mono ?_
     rintro e W6 ⟨v6, F6, rfl, g6, wr6, vx6, vc6, o6, hF6⟩
     have wl6 : Wr LS W5 W6 := ((Gr.drew (Gr.refl W5)).toWr _).trans (wr6.sub fun c hc => by
      rw [HLS.out]
      rcases List.mem_cons.1 hc with h | h
      ·rw [h]; simp
      ·rcases List.mem_cons.1 h with h | h
       ·rw [h]; simp
       ·simp [h])
     have hcl6 : w.heap.size + 1 + 1 ∉ LS := fun hmm => by
      rw [HLS.out] at hmm
      rcases List.mem_cons.1 hmm with h | h
      ·omega
      ·rcases List.mem_cons.1 h with h | h
       ·omega
       ·rcases List.mem_append.1 h with h | h
        ·exact HCF5.out.1 h
        ·have := HOB.out _ h; omega
     have hob6 : ∀ b ∈ (Value.slice ac ks.length cc).ownBlock.toList, b ∉ bx :: cb :: F5 := fun b hb hmm => by
      rcases List.mem_cons.1 hmm with h | h
      ·have := HOB.out b hb; omega
      ·rcases List.mem_cons.1 h with h | h
       ·have := HOB.out b hb; omega
       ·exact HDJ5.out b hb h
     have or6 : OwnR (α := Int) W2 3 W6 (.slice ac ks.length cc) fpc ks := (HOR5.out.gr (Gr.drew (Gr.refl W5))).wr wr6 (fun b hb => by rw [HFC5.out] at hb; simp at hb) (fun b hb => hob6 b (by rw [hb]; simp))
     have hsz6 := wr6.size
     have ww6 : Wr (bx :: cb :: F) w W6 := (HW5.out.gr (Gr.drew (Gr.refl W5))).more2 wr6 (fun x hx => by
      rcases List.mem_cons.1 hx with h | h
      ·rw [h]; simp
      ·rcases List.mem_cons.1 h with h | h
       ·rw [h]; simp
       ·rcases HF5.out x h with h | h
        ·left; simp [h]
        ·right; omega)
     have HWL6 := Lib.hid wl6
     have HG6 := Lib.hid g6
     have HVX6 := Lib.hid vx6
     have HVC6 := Lib.hid vc6
     have HO6 := Lib.hid o6
     have HOR6 := Lib.hid or6
     have HWW6 := Lib.hid ww6
     have HCC6 := Lib.hid (HCC5.out.wr wl6 hcl6)
     have HCT6 := Lib.hid (wl6.keepC HCT5.out (fun hmm => by
      rw [HLS.out] at hmm
      rcases List.mem_cons.1 hmm with h | h
      ·omega
      ·rcases List.mem_cons.1 h with h | h
       ·omega
       ·rcases List.mem_append.1 h with h | h
        ·exact HCF5.out.2 h
        ·have := HOB.out _ h; omega))
     have HF6 := Lib.hid (show ∀ b ∈ F6, b ∈ F5 ∨ W5.heap.size ≤ b from hF6)
     have hsz56 : W5.heap.size ≤ W6.heap.size := hsz6
     clear g6 vx6 vc6 o6 or6 ww6 hF6 hob6 hcl6 hsz6 wr6
     refine hK.out _ _ ⟨wl6, HG6.out⟩ (fun hU1 => ?_)
     clear hK K wl6
     try simp only [Act.put, uq1, uq2, uq3]
     refine anyU_ready (rs := [7]) (by kernel_rfl) (by simp) ?_
     refine (ReadyU.cons rfl (fun K hK => ?_) ReadyU.nil)
     go_simp
     refine hK.out _ _ ⟨HWL6.out.gr gd, HG6.out.trans gd⟩ (fun hU2 => ?_)
     clear hK K
     try simp only [Act.put, uq1, uq2, uq3]
     refine anyU_ready (rs := [8]) (by kernel_rfl) (by simp) ?_
     refine (ReadyU.cons rfl (fun K hK => ?_) ReadyU.nil)
     refine step_append_RB (α := Int) (wg := w0) (w0 := W2) (HG6.out.trans gd) (HG0.out.trans HG2.out).size (by simp; omega) (by rfl) _ _ _ (by rfl) 3 i0 (.int .i64 0) 8 Try.underlying59 HZ.out.1 HZ.out.2.1 HZ.out.2.2.1 HZ.out.2.2.2 rfl (.slice ac ks.length cc) fpc _ (by rfl) (HOR6.out.gr gd) _ [[]] [y6] (by rfl) (SrcR.gr (SrcR.one (w := W6) (e := 3) rfl (intRd (wf_small HY6.out.1 (by have := HY6.out.2; omega)) _)) gd) (fun c _ => by simp) (by rw [HKSL.out]; unfold maxLen; simp; omega) (by rw [HKSL.out]; simp; omega) ?_
     intro v9 w9 k1 k2 k3 k4
     have g9 : Gr W6 (W6.alloc (.cells #[.int .i64 y6] 3)) := gd
     have hw9 : Wr (Value.slice ac ks.length cc).ownBlock.toList W6 w9 := (g9.toWr _).trans k2
     obtain ⟨a9, c9, hv9⟩ := k1.form
     rw [show (ks ++ [y6]).length = ks.length + 1 by simp] at hv9
     subst hv9
     have cc9 := HCC6.out.wr hw9 (fun hm => by have := HOB.out _ hm; omega)
     have d2 := cc9.cell (k := 2) (by simp)
     have fd2 := cc9.frozen 2
     have zd2 := blk d2
     have k3' : ∀ b ∈ (Value.slice a9 (ks.length + 1) c9).ownBlock.toList, b ∈ (Value.slice ac ks.length cc).ownBlock.toList ∨ W6.heap.size ≤ b := fun b hb => by
      rcases k3 with e | e
      ·rw [e] at hb; exact .inl hb
      ·rw [e] at hb; simp at hb; exact .inr (by omega)
     have wl9 : Wr LS W5 w9 := HWL6.out.trans (hw9.sub fun c hc => by rw [HLS.out]; simp [List.mem_append.2 (.inr hc)])
     have HW9 := Lib.hid hw9
     have HOR9 := Lib.hid k1
     have HCC9 := Lib.hid cc9
     have HG9 := Lib.hid k4
     have HK39 := Lib.hid k3'
     have hsz9 := hw9.size
     clear k1 k2 k3 k4 hw9 cc9 k3' g9
     refine hK.out _ _ ⟨wl9, HG9.out⟩ (fun hU3 => ?_)
     clear hK K wl9
     try simp only [Act.put, uq1, uq2, uq3]
     refine anyU_q 9 ?_
     try simp only [Act.put, uq1, uq2, uq3]
     refine anyU_ready (rs := [10]) (by kernel_rfl) (by simp) ?_
     refine ReadyU.last rfl (fun K hK => ?_)
     go_simp
     refine hK.out _ _ ?_
     clear hK K
     try simp only [Act.put, uq1, uq2, uq3]
     refine anyU_done (by kernel_rfl) ?_ _
     go_wp2_with fail
     have how9 : ∀ b ∈ (Value.slice ac ks.length cc).ownBlock.toList, b ∉ F6 := fun b hb hm => by
      rcases HF6.out b hm with h | h
      ·exact HDJ5.out b hb h
      ·have := HOB.out b hb; omega
     have hcF6 : w.heap.size + 1 + 1 ∉ F6 := fun hm => by
      rcases HF6.out _ hm with h | h
      ·exact HCF5.out.1 h
      ·omega
     have hbo : ∀ b ∈ (Value.slice ac ks.length cc).ownBlock.toList, b ≠ bx ∧ b ≠ cb ∧ b ≠ w.heap.size := fun b hb => by
      have := HOB.out b hb
      refine ⟨by omega, by omega, by omega⟩
     refine ⟨⟨k + 1, v6, F6, s6, d6, ks ++ [y6], .slice a9 (ks.length + 1) c9, fpc ++ [[]], by omega, HK6, Lib.hid (HG9.out.setCell (p := ⟨w.heap.size + 1 + 1, 2, none⟩) (by simp <;> omega) _), Lib.hid ?_, by rw [size_setCell']; omega, Lib.hid ((HVX6.out.wr HW9.out (fun hm => (hbo _ hm).1 rfl)).ne (by omega)), Lib.hid (VRow.ne (VRow.wr HVC6.out HW9.out (fun hm => (hbo _ hm).2.1 rfl)) (by omega)), Lib.hid ?_, Lib.hid ?_, Lib.hid ?_, Lib.hid (HCC9.out.set 2 _), Lib.hid ?_, Lib.hid (by rw [List.flatten_append, HFC5.out]; rfl), Lib.hid ?_, by go_num⟩, by simp [intOf]; omega⟩
     ·exact ((HWW6.out.more2 HW9.out (fun x hx => .inr (by have := HOB.out x hx; omega)))).more2 ((Wr.refl [w.heap.size + 1 + 1] _).setCell (by simp) _) (fun x hx => .inr (by simp at hx; omega))
     ·exact (HO6.out.wr HW9.out (fun b hb hm => how9 b hm hb)).wr ((Wr.refl [w.heap.size + 1 + 1] _).setCell (by simp) _) (fun b hb hm => by simp at hm; subst hm; exact hcF6 hb)
     ·intro b hb
      rcases HF6.out b hb with h | h
      ·exact HF5.out b h
      ·exact .inr (by omega)
     ·exact ((Wr.refl [w.heap.size + 1 + 1] _).setCell (by simp) _).keepC (HW9.out.keepC HCT6.out (fun hm => (hbo _ hm).2.2 rfl)) (by simp; omega)
     ·exact HOR9.out.wr ((Wr.refl [w.heap.size + 1 + 1] _).setCell (by simp) _) (fun b hb => by rw [List.flatten_append, HFC5.out] at hb; simp at hb) (fun b hb hm => by
       have h1 := HOR9.out.base b hb
       simp at hm
       omega)
     ·intro b hb hm
      rcases HK39.out b hb with h | h
      ·exact how9 b h hm
      ·have := HO6.out.lt b hm
       omega
    ·have hk2 : k = q5.length := by omega
     subst hk2
     have hall := HK5.out
     rw [List.take_length, HK.out] at hall
     simp only [Option.some.injEq, Prod.mk.injEq] at hall
     obtain ⟨e1, e2, e3⟩ := hall
     subst e1 e2 e3
     obtain ⟨av, cv, hform⟩ := HO5.out.form
     subst hform
     have hsl := HSL5.out
     obtain ⟨fqs, hsr, -, -⟩ := HO5.out.read (by unfold reachLen; omega)
     obtain ⟨fqk, hkr, hkf⟩ := HOR5.out.slR (by have := HKSL.out; unfold reachLen; omega)
     have HKB := Lib.hid (show ∀ b ∈ fqk, b ∈ (Value.slice ac ksK.length cc).ownBlock.toList from fun b hb => by
      rcases hkf with ⟨-, h⟩ | ⟨c, h1, h2⟩
      ·rw [h] at hb; simp at hb
      ·rw [h2, HFC5.out] at hb
       simp at hb
       subst hb
       rw [h1]; simp)
     have HKN := Lib.hid (show fqk.Nodup by
      rcases hkf with ⟨-, h⟩ | ⟨c, h1, h2⟩
      ·rw [h]; simp
      ·rw [h2, HFC5.out]; simp)
     clear hkf
     obtain ⟨j, hj⟩ : ∃ j, j = idxOf (fun z => decide (z = ((q4, q3, ksK) : GCell))) sK := ⟨_, rfl⟩
     have hjl := idxOf_ltC (fun z => decide (z = ((q4, q3, ksK) : GCell))) sK
     rw [← hj] at hjl
     have HC : Hid (∀ x : Ext, Calls Try.prog 60 #[.slice av sK.length cv, .agg #[.string q4, .int .i64 q3, .slice ac ksK.length cc]] (W5.ext x) fun e w' => e = .returned (.int .i64 j) ∧ Gr (W5.ext x) w') := Lib.hid (fun x => by
      rw [hj]
      exact cellIndex_any _ _ _ _ sK (q4, q3, ksK) _ (hsr.gr gd) (Rd.gr (rdCell_mk q4 q3 ksK HQ.out.2 HQ.out.1 hkr) gd))
     have HJ := Lib.hid hj
     have HSR := Lib.hid hsr
     have HKR := Lib.hid hkr
     have x0 := HVX5.out.box
     have zx0 := blk x0
     have c0' := HCC5.out.cell (k := 0) (by simp)
     have c1' := HCC5.out.cell (k := 1) (by simp)
     have hput : (putC sK (q4, q3, ksK)) = if j < 0 then (sK ++ [(q4, q3, ksK)], (sK.length : Int)) else (sK, j) := by rw [hj]; rfl
     have HPUT := Lib.hid hput
     clear hj hsr hkr hput
     go_wp2_with fail
     refine wp_region_grown (by kernel_rfl) (by kernel_rfl) ?_
     repeat (go_big_quiet_step (first | (go_at_call 60; exact grown_call (HC.out _))))
     refine wpQuiet_nil ?_
     intro _ hw'
     obtain ⟨nx, hw''⟩ := hw'
     subst hw''
     generalize hW7 : W5.ext nx = W7
     have g7 : Gr W5 W7 := by rw [← hW7]; exact gd
     have HG7 := Lib.hid (HG5.out.trans g7)
     have HW7 := Lib.hid (HW5.out.gr g7)
     have HVX7 := Lib.hid (HVX5.out.gr g7)
     have HVC7 := Lib.hid (VRow.gr HVC5.out g7)
     have HO7 := Lib.hid (HO5.out.gr g7)
     have HCC7 := Lib.hid (HCC5.out.gr g7)
     have HKR7 := Lib.hid (HKR.out.gr g7)
     have HS7 := Lib.hid g7.size
     have hdi5 : i < dK.length := by have := HD5.out; omega
     have hxF : bx ∉ F5 ∧ cb ∉ F5 := ⟨fun hmm => by
      rcases HF5.out _ hmm with h | h
      ·exact HBF.out.1 h
      ·omega, fun hmm => by
      rcases HF5.out _ hmm with h | h
      ·exact HBF.out.2 h
      ·omega⟩
     have HXF := Lib.hid hxF
     have x7 := HVX7.out.box
     have zx7 := blk x7
     have fx7 := HVX7.out.frozen 0
     have y7 := HVC7.out.cell (k := i) (by simpa using hdi5)
     have zy7 := blk y7
     have fy7 := HVC7.out.frozen i
     have d0 := HCC7.out.cell (k := 0) (by simp)
     have d1 := HCC7.out.cell (k := 1) (by simp)
     have d2 := HCC7.out.cell (k := 2) (by simp)
     have zd0 := blk d0
     clear hW7 g7 x0 zx0 c0' c1' c2 zc2 fc2 ct5 zct5 HC hxF
     by_cases hneg : j < 0
     ·obtain ⟨fpv, hOv, hndv, hgev, hFEv⟩ := HO7.out
      have HOV := Lib.hid hOv
      have HNDV := Lib.hid (And.intro hndv hgev)
      have HFEV := Lib.hid hFEv
      have hownb : ∀ b ∈ (Value.slice av sK.length cv).ownBlock.toList, b ∈ F5 := fun b hb => by rw [hFEv]; exact List.mem_append_left _ hb
      have HOWN := Lib.hid hownb
      have hkb : ∀ b ∈ fqk, b ∈ (Value.slice ac ksK.length cc).ownBlock.toList := HKB.out
      have hkn : fqk.Nodup := HKN.out
      have hcF5 := HCF5.out.1
      obtain ⟨LT, hLT⟩ : ∃ LT, LT = (Value.slice av sK.length cv).ownBlock.toList := ⟨_, rfl⟩
      have HLT := Lib.hid hLT
      clear hOv hndv hgev hFEv hownb hLT hkb hkn
      have kk0 := fun (w' : World) (h : Wr LT W7 w') => h.keepC x7 (fun hm => by rw [HLT.out] at hm; exact HXF.out.1 (HOWN.out _ hm))
      have kk2 := fun (w' : World) (h : Wr LT W7 w') => h.keepC d0 (fun hm => by rw [HLT.out] at hm; exact HCF5.out.1 (HOWN.out _ hm))
      have kk3 := fun (w' : World) (h : Wr LT W7 w') => h.keepC d1 (fun hm => by rw [HLT.out] at hm; exact HCF5.out.1 (HOWN.out _ hm))
      have kk4 := fun (w' : World) (h : Wr LT W7 w') => h.keepC d2 (fun hm => by rw [HLT.out] at hm; exact HCF5.out.1 (HOWN.out _ hm))
      go_wp2_with fail
      refine wp_region_U (fun w' => Wr LT W7 w' ∧ Gr w0 w') 16 (by kernel_rfl) (⟨(Gr.drew (Gr.refl W7)).toWr _, HG7.out.drew⟩) (fun hU => ?_)
      refine anyU_q 0 ?_
      try simp only [Act.put, uq1, uq2, uq3]
      refine anyU_q 1 ?_
      try simp only [Act.put, uq1, uq2, uq3]
      refine anyU_q 6 ?_
      try simp only [Act.put, uq1, uq2, uq3]
      refine anyU_q 10 ?_
      try simp only [Act.put, uq1, uq2, uq3]
      refine anyU_q 2 ?_
      try simp only [Act.put, uq1, uq2, uq3]
      refine anyU_q 7 ?_
      try simp only [Act.put, uq1, uq2, uq3]
      refine anyU_q 3 ?_
      try simp only [Act.put, uq1, uq2, uq3]
      refine anyU_q 8 ?_
      try simp only [Act.put, uq1, uq2, uq3]
      refine anyU_q 4 ?_
      try simp only [Act.put, uq1, uq2, uq3]
      refine anyU_q 9 ?_
      try simp only [Act.put, uq1, uq2, uq3]
      refine anyU_q 5 ?_
      try simp only [Act.put, uq1, uq2, uq3]
      refine anyU_ready (rs := [11]) (by kernel_rfl) (by simp) ?_
      refine (ReadyU.cons rfl (fun K hK => ?_) ReadyU.nil)
      go_simp
      refine hK.out _ _ ⟨(gd : Gr W7 (W7.drew.alloc (.cells #[.string q4, .int .i64 q3, .slice ac ksK.length cc] 78))).toWr _, HG7.out.trans gd⟩ (fun hU1 => ?_)
      clear hK K
      try simp only [Act.put, uq1, uq2, uq3]
      refine anyU_ready (rs := [12]) (by kernel_rfl) (by simp) ?_
      refine (ReadyU.cons rfl (fun K hK => ?_) ReadyU.nil)
      refine step_append_RB (α := GCell) (wg := w0) (w0 := w0) (HG7.out.trans gd) (Nat.le_refl _) (HG7.out.trans gd).size (by rfl) _ _ _ (by rfl) 78 iC (.agg #[.string ByteArray.empty, .int .i64 0, .slice none 0 0]) 48 Try.underlying30 HZC.out.1 HZC.out.2.1 HZC.out.2.2.1 HZC.out.2.2.2 rfl (.slice av sK.length cv) fpv _ (by rfl) (HOV.out.gr gd) _ [fqk] [(q4, q3, ksK)] (by rfl) (SrcR.gr (SrcR.one (w := W7) (e := 78) rfl (rdCell_mk q4 q3 ksK HQ.out.2 HQ.out.1 (HKR7.out.gr gd))) gd) (fun b hb hm => HDJ5.out b (HKB.out b (by simpa using hm)) (HOWN.out b (by rw [hb]; simp))) (by unfold maxLen; simp; omega) (by simp; omega) ?_
      intro v9 w9 k1 k2 k3 k4
      have g9 : Gr W7 (W7.drew.alloc (.cells #[.string q4, .int .i64 q3, .slice ac ksK.length cc] 78)) := gd
      have hw9 : Wr LT W7 w9 := by rw [HLT.out]; exact (g9.toWr _).trans k2
      have t9 : OwnC w0 w9 v9 (v9.ownBlock.toList ++ (fpv.flatten ++ fqk)) (sK ++ [(q4, q3, ksK)]) := OwnC.of_append k1 HNDV.out.1 HNDV.out.2 HKN.out (fun b hb => ⟨by have := HOB.out b (HKB.out b hb); omega, fun hm => HDJ5.out b (HKB.out b hb) (by rw [HFEV.out]; exact List.mem_append_right _ hm)⟩)
      have hF9 : ∀ b ∈ v9.ownBlock.toList ++ (fpv.flatten ++ fqk), b ∈ F5 ∨ W2.heap.size ≤ b := fun b hb => by
       rcases List.mem_append.1 hb with h | h
       ·rcases k3 with e | e
        ·rw [e] at h; exact .inl (HOWN.out b h)
        ·rw [e] at h; simp at h; exact .inr (by omega)
       ·rcases List.mem_append.1 h with h | h
        ·exact .inl (by rw [HFEV.out]; exact List.mem_append_right _ h)
        ·exact .inr (HOB.out b (HKB.out b h)).1
      obtain ⟨a9, c9, hf9⟩ := t9.form
      rw [show (sK ++ [((q4, q3, ksK) : GCell)]).length = sK.length + 1 by simp] at hf9
      subst hf9
      have bx9 := HVX7.out.wr hw9 (fun hm => by rw [HLT.out] at hm; exact HXF.out.1 (HOWN.out _ hm))
      have e9 := bx9.box
      have f9 := bx9.frozen 0
      have z9 := blk e9
      have HBX9 := Lib.hid bx9
      have HW9 := Lib.hid hw9
      have HT9 := Lib.hid t9
      have HF9 := Lib.hid hF9
      have HG9 := Lib.hid k4
      have hs9 := hw9.size
      clear k1 k2 k3 k4 g9 t9 hF9 bx9
      refine hK.out _ _ ⟨hw9, HG9.out⟩ (fun hU2 => ?_)
      clear hK K hw9
      try simp only [Act.put, uq1, uq2, uq3]
      refine anyU_q 13 ?_
      try simp only [Act.put, uq1, uq2, uq3]
      refine anyU_ready (rs := [14]) (by kernel_rfl) (by simp) ?_
      refine (ReadyU.cons rfl (fun K hK => ?_) ReadyU.nil)
      go_simp
      refine hK.out _ _ (by assumption) (fun hU0 => ?_)
      clear hK K hU0
      try simp only [Act.put, uq1, uq2, uq3]
      refine anyU_q 15 ?_
      try simp only [Act.put, uq1, uq2, uq3]
      refine anyU_ready (rs := [16]) (by kernel_rfl) (by simp) ?_
      refine ReadyU.last rfl (fun K hK => ?_)
      go_simp
      refine hK.out _ _ ?_
      clear hK K
      try simp only [Act.put, uq1, uq2, uq3]
      refine anyU_done (by kernel_rfl) ?_ _
      skip
      generalize hW10 : w9.setCell ⟨bx, 0, none⟩ (.slice a9 (sK.length + 1) c9) = W10
      have v10 : VRow W10 bx 32 [.slice a9 (sK.length + 1) c9] := by rw [← hW10]; exact HBX9.out.set 0 _
      have r10 : IRow W10 cb 3 dK := by
       rw [← hW10]
       exact VRow.ne (VRow.wr HVC7.out HW9.out (fun hm => by rw [HLT.out] at hm; exact HXF.out.2 (HOWN.out _ hm))) (by omega)
      have hxF9 : bx ∉ (Value.slice a9 (sK.length + 1) c9).ownBlock.toList ++ (fpv.flatten ++ fqk) ∧ cb ∉ (Value.slice a9 (sK.length + 1) c9).ownBlock.toList ++ (fpv.flatten ++ fqk) := ⟨fun hm => by
       rcases HF9.out _ hm with h | h
       ·exact HXF.out.1 h
       ·omega, fun hm => by
       rcases HF9.out _ hm with h | h
       ·exact HXF.out.2 h
       ·omega⟩
      have t10 : OwnC w0 W10 (.slice a9 (sK.length + 1) c9) ((Value.slice a9 (sK.length + 1) c9).ownBlock.toList ++ (fpv.flatten ++ fqk)) (sK ++ [(q4, q3, ksK)]) := by
       rw [← hW10]
       exact HT9.out.wr ((Wr.refl [bx] _).setCell (by simp) _) (fun b hb hm => by simp at hm; subst hm; exact hxF9.1 hb)
      have g10 : Gr w0 W10 := by rw [← hW10]; exact HG9.out.setCell (p := ⟨bx, 0, none⟩) hbx _
      have w10 : Wr (bx :: cb :: F) w W10 := by
       rw [← hW10]
       refine (HW7.out.more2 HW9.out (fun x hx => ?_)).setCell (by simp) _
       rw [HLT.out] at hx
       rcases HF5.out x (HOWN.out x hx) with h | h
       ·left; simp [h]
       ·right; omega
      have hfin : InPost bx cb w0 w F s' d' y (.returned (.int .i64 (sK.length : Int))) (W10.setCell ⟨cb, i, none⟩ (.int .i64 (sK.length : Int))) := by
       have hp := HPUT.out
       rw [if_pos hneg] at hp
       obtain ⟨e1, e2, e3⟩ := HEK.out
       rw [hp] at e1 e2 e3
       refine ⟨.slice a9 (sK.length + 1) c9, (Value.slice a9 (sK.length + 1) c9).ownBlock.toList ++ (fpv.flatten ++ fqk), by rw [← e3], g10.setCell (p := ⟨cb, i, none⟩) hcb _, w10.setCell (by simp) _, v10.ne hne, ?_, ?_, fun b hb => ?_⟩
       ·rw [← e2]
        exact IRow.set r10 i _
       ·rw [← e1]
        exact t10.wr ((Wr.refl [cb] _).setCell (by simp) _) (fun b hb hm => by simp at hm; subst hm; exact hxF9.2 hb)
       ·rcases HF9.out b hb with h | h
        ·rcases HF5.out b h with h | h
         ·exact .inl h
         ·exact .inr (by omega)
        ·exact .inr (by omega)
      have HFIN := Lib.hid hfin
      have y10 := r10.cell (k := i) (by simpa using hdi5)
      have zy10 := blk y10
      have fy10 := VRow.frozen r10 i
      clear hfin t10 g10 w10 v10 r10 hxF9 hW10 e9 f9 z9 x7 zx7 fx7 y7 zy7 fy7 d0 d1 d2 zd0 kk0 kk2 kk3 kk4
      go_wp2_with fail
      go_ret
      exact HFIN.out
     ·have hfin : InPost bx cb w0 w F s' d' y (.returned (.int .i64 j)) (W7.setCell ⟨cb, i, none⟩ (.int .i64 j)) := by
       have hp := HPUT.out
       rw [if_neg hneg] at hp
       obtain ⟨e1, e2, e3⟩ := HEK.out
       rw [hp] at e1 e2 e3
       refine ⟨.slice av sK.length cv, F5, by rw [← e3], HG7.out.setCell (p := ⟨cb, i, none⟩) hcb _, HW7.out.setCell (by simp) _, HVX7.out.ne hne, ?_, ?_, fun b hb => ?_⟩
       ·rw [← e2]
        exact IRow.set HVC7.out i j
       ·rw [← e1]
        exact HO7.out.wr ((Wr.refl [cb] _).setCell (by simp) _) (fun b hb hm => by simp at hm; subst hm; exact HXF.out.2 hb)
       ·rcases HF5.out b hb with h | h
        ·exact .inl h
        ·exact .inr (by omega)
      have HFIN := Lib.hid hfin
      clear hfin
      go_wp2_with fail
      go_ret
      exact HFIN.out
end Go.Proofs.Ytmfcagcanhmdbaa
