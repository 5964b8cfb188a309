/- The heights of a grammar's symbols: the reference's. A region that draws its order, by what is known of each operation's value: each operation is walked once. No condition. -/
import Derived.Test.YtmfcagcanhmdbaaH28
import Derived.Test.YtmfcagcanhmdbaaH08
namespace Go.Proofs.Ytmfcagcanhmdbaa
open Go.RowKit
set_option linter.unusedVariables false
set_option linter.unusedSimpArgs false
variable {d : Nat}

def hStep (g : GGrammar d) (out : List Int) (r : Int) (nx : List Int) (i : Nat) : List Int :=
 if out.getD i 0 = 0 ∧ reachS g out ((g.1.getD i (⟨#[]⟩, [])).1) = true then nx.set i r else nx
def hRow (g : GGrammar d) (out : List Int) (r : Int) (k : Nat) : List Int := (List.range k).foldl (hStep g out r) out
def hts (g : GGrammar d) (k : Nat) : List Int := (List.range k).foldl (fun out (j : Nat) => hRow g out ((j : Int) + 1) g.1.length) (List.replicate g.1.length 0)
theorem hRow_succ (g : GGrammar d) (out : List Int) (r : Int) (k : Nat) : hRow g out r (k + 1) = hStep g out r (hRow g out r k) k := by
 unfold hRow
 rw [List.range_succ, List.foldl_append]
 rfl
theorem hts_succ (g : GGrammar d) (k : Nat) : hts g (k + 1) = hRow g (hts g k) ((k : Int) + 1) g.1.length := by
 unfold hts
 rw [List.range_succ, List.foldl_append]
 rfl
theorem hStep_ok {g : GGrammar d} {out : List Int} {r M : Int} (hr : 0 ≤ r ∧ r ≤ M) {nx : List Int} {i : Nat} (h : ∀ y ∈ nx, 0 ≤ y ∧ y ≤ M) : (hStep g out r nx i).length = nx.length ∧ ∀ y ∈ hStep g out r nx i, 0 ≤ y ∧ y ≤ M := by
 unfold hStep
 split
 ·refine ⟨by simp, fun y hy => ?_⟩
  rcases List.mem_or_eq_of_mem_set hy with hy | rfl
  ·exact h y hy
  ·exact hr
 ·exact ⟨rfl, h⟩
theorem hRow_ok {g : GGrammar d} {out : List Int} {r M : Int} (hr : 0 ≤ r ∧ r ≤ M) (h : ∀ y ∈ out, 0 ≤ y ∧ y ≤ M) : ∀ k, (hRow g out r k).length = out.length ∧ ∀ y ∈ hRow g out r k, 0 ≤ y ∧ y ≤ M := by
 intro k
 induction k with
 | zero => exact ⟨rfl, h⟩
 | succ k ih =>
  rw [hRow_succ]
  have := hStep_ok (g := g) (out := out) hr (i := k) ih.2
  exact ⟨this.1.trans ih.1, this.2⟩
theorem hts_ok (g : GGrammar d) : ∀ k, k ≤ g.1.length → (hts g k).length = g.1.length ∧ ∀ y ∈ hts g k, 0 ≤ y ∧ y ≤ (g.1.length : Int) := by
 intro k
 induction k with
 | zero => exact fun _ => ⟨by simp [hts], fun y hy => by have := (List.mem_replicate.1 hy).2; omega⟩
 | succ k ih =>
  intro hk
  have h1 := ih (by omega)
  rw [hts_succ]
  have h2 := hRow_ok (g := g) (out := hts g k) (r := (k : Int) + 1) (M := g.1.length) (by omega) h1.2 g.1.length
  exact ⟨h2.1.trans h1.1, h2.2⟩

theorem DRow.slR {rest : List Value} {w : World} {b : Nat} {xs : List Int} (h : DRow rest w b xs) (hw : ∀ y ∈ xs, 0 ≤ y ∧ y ≤ 140737488351232) (hr : xs.length ≤ 1048576) {cap : Nat} (hc : xs.length ≤ cap) : ∃ fq, SlR fq w (.slice (some ⟨b, 0, none⟩) xs.length cap) xs ∧ ∀ c ∈ fq, c = b := by
 by_cases h0 : xs = []
 ·subst h0
  exact ⟨[], ⟨_, cap, rfl, hc, by simp, .inl ⟨rfl, rfl⟩⟩, by simp⟩
 ·refine ⟨[b], ⟨_, cap, rfl, hc, by unfold reachLen; omega, .inr ⟨b, 0, List.replicate xs.length [], h0, rfl, by simp, by simp, fun j hj => VRow.frozen h _, fun i hi hi' => ?_⟩⟩, by simp⟩
  refine ⟨[.int .i64 xs[i]], fun j v hj => ?_, by have := hw _ (List.getElem_mem hi); simpa using intRd (wf_small this.1 this.2) w⟩
  cases j with
  | zero => simp at hj; subst hj; simpa [Rd.n] using h.cell hi
  | succ j => simp at hj

def HtsAt (g : GGrammar d) (w : World) (e : Ending) (w' : World) : Prop := ∃ v fq, e = .returned v ∧ SlR fq w' v (hts g g.1.length) ∧ (∀ c ∈ fq, w.heap.size ≤ c) ∧ Gr w w'
theorem DRow.of_own2 {w0 w : World} {v : Value} {fps : List (List Nat)} {xs : List Int} (h : OwnR (α := Int) w0 3 w v fps xs) (hn : xs ≠ []) (hr : xs.length ≤ 1048576) : ∃ g cap rest, v = .slice (some ⟨g, 0, none⟩) xs.length cap ∧ w0.heap.size ≤ g ∧ xs.length ≤ cap ∧ DRow rest w g xs := by
 obtain ⟨g, cap, rest, rfl, h1, -, h2⟩ := DRow.of_own h hn
 obtain ⟨fp, hs, -⟩ := h.slR (by unfold reachLen; omega)
 obtain ⟨a, c, he, hc, -⟩ := hs
 injection he with _ _ e3
 exact ⟨g, cap, rest, rfl, h1, by omega, h2⟩

set_option maxRecDepth 10000 in
set_option maxHeartbeats 8000000 in
theorem l12Heights_any {fg : List Nat} {cg : Array Value} (g : GGrammar d) (w : World) (hg : Rd.rd fg w cg.toList g) (hn : 0 < g.1.length) (hn2 : g.1.length ≤ 1000) :
  Calls Try.prog 117 #[.agg cg] w (HtsAt g w) := by
 obtain ⟨i0, hi, hz0, hz1, hz2⟩ := info_parts Try.infoIntC
 have hmi := fun (W : World) => run_make (P := Try.prog) W 59 3 i0 (.int .i64 0) Try.underlying59 hi hz0 .i64 .i64 g.1.length g.1.length (by omega) (by omega) (by rw [hz2]; omega) (by omega)
 have HZ := Lib.hid (And.intro hi (And.intro hz0 (And.intro hz1 hz2)))
 rw [hz1] at hmi
 clear hi hz0 hz1 hz2
 simp only [Int.toNat_natCast, Nat.mul_one] at hmi
 have HI0 := Lib.hid (fun W : World => IRow.made W g.1.length 3)
 have hci : (Value.int .i64 0).cells = #[.int .i64 0] := rfl
 rw [hci] at hmi
 generalize madeCells #[.int .i64 0] g.1.length = C1 at hmi HI0
 clear hci
 have HG := Lib.hid hg
 obtain ⟨g0, g1⟩ := g
 obtain ⟨vg0, fg0, vg1, fg1, rfl, hfpg, hg0, hg1⟩ := rdGrammar_inv g0 g1 hg
 have FPg := Lib.hid hfpg
 clear hfpg
 obtain ⟨ag0, kg0, rfl, og01, og02, og03⟩ := hg0.open
 obtain ⟨ag1, kg1, rfl, og11, og12, og13⟩ := hg1.open
 clear hg
 have hn' : 0 < g0.length := hn
 have hn2' : g0.length ≤ 1000 := hn2
 change Hid (∀ W : World, IRow (W.alloc (.cells C1 3)) W.heap.size 3 (List.replicate g0.length 0)) at HI0
 change ∀ W : World, _ = Result.ok (Value.slice _ g0.length g0.length) _ at hmi
 clear hn hn2
 go_enter Try.func117, Try.ntmps117
 go_wp2_with fail
 generalize hB : (w.alloc (.cells #[.slice ag0 g0.length kg0, .slice ag1 g1.length kg1] 114)).alloc (.cells C1 3) = B
 have gB : Gr w B := by rw [← hB]; exact gd
 have sB : B.heap.size = w.heap.size + 2 := by rw [← hB]; simp
 have b0 : B.cell? ⟨w.heap.size, 0, none⟩ = some (.slice ag0 g0.length kg0) := by rw [← hB]; exact Gr.keep gd (box_cell (A := w) rfl rfl)
 have b1 : B.cell? ⟨w.heap.size, 1, none⟩ = some (.slice ag1 g1.length kg1) := by rw [← hB]; exact Gr.keep gd (box_cell (A := w) rfl rfl)
 have d0 : DRow [] B (w.heap.size + 1) (hts (g0, g1) 0) := by
  rw [← hB]
  have h := HI0.out (w.alloc (.cells #[.slice ag0 g0.length kg0, .slice ag1 g1.length kg1] 114))
  rw [show (w.alloc (.cells #[.slice ag0 g0.length kg0, .slice ag1 g1.length kg1] 114)).heap.size = w.heap.size + 1 by simp] at h
  unfold DRow
  rw [List.append_nil]
  exact h
 have HGB := Lib.hid gB
 have HB0 := Lib.hid b0
 have HB1 := Lib.hid b1
 have HD0 := Lib.hid d0
 clear hB gB b0 b1 d0 hmi HI0
 go_loopw [4, 3] (fun s4 s3 wr => ∃ (k b cap : Nat) (rest : List Value), k ≤ g0.length ∧ Hid (Gr B wr) ∧ Hid (DRow rest wr b (hts (g0, g1) k)) ∧ w.heap.size < b ∧ g0.length ≤ cap ∧ s4 = .int .i64 ((k : Int) + 1) ∧ s3 = .slice (some ⟨b, 0, none⟩) g0.length cap) (fun s4 _ _ => g0.length + 1 - (intOf s4).toNat)
 case atStart => exact ⟨0, w.heap.size + 1, g0.length, [], by omega, Lib.hid (Gr.refl _), HD0, by omega, Nat.le_refl _, rfl, rfl⟩
 case round =>
  obtain ⟨k, bo, cap, rest, hk, HG1, HD1, hwb, hcap, rfl, rfl⟩ := hrel
  rename World => W1
  have y0 := HG1.out.keep HB0.out
  have zy0 := blk y0
  have hok := hts_ok (g0, g1) k hk
  have hlo : (hts (g0, g1) k).length = g0.length := hok.1
  have hvo : ∀ y ∈ hts (g0, g1) k, 0 ≤ y ∧ y ≤ (g0.length : Int) := hok.2
  obtain ⟨OUT, hOUT⟩ : ∃ O, O = hts (g0, g1) k := ⟨_, rfl⟩
  rw [← hOUT] at HD1 hlo hvo
  have HOUT := Lib.hid hOUT
  have HVO := Lib.hid hvo
  have HLO := Lib.hid hlo
  obtain ⟨fo, hso, hfo⟩ := HD1.out.slR (fun y hy => by have := hvo y hy; omega) (by omega) (cap := cap) (by omega)
  rw [hlo] at hso
  have hbl := HD1.out.lt
  have HSO := Lib.hid hso
  have HFO := Lib.hid hfo
  clear hok hOUT hvo hso hfo
  by_cases hlt : k < g0.length
  ·have hk1 : (k : Int) + 1 ≤ (g0.length : Int) := by omega
   have iwk : IntKind.i64.wrap ((k : Int) + 1 + 1) = (k : Int) + 1 + 1 := IntWalk.i64_in _ (by omega)
   obtain ⟨gps, hsrc, -, -⟩ := SrcR.of_slR HSO.out
   have hfl := hsrc.flat flatInt
   have HSRC := Lib.hid hsrc
   have HFL := Lib.hid hfl
   have hne : OUT ≠ [] := fun e => by have := HLO.out; rw [e] at this; simp at this; omega
   have HNE := Lib.hid hne
   clear hsrc hfl hne hlo
   go_wp2_with (first | (at_builtin; refine wpList_append_RB (α := Int) (wg := W1) (w0 := W1) (Gr.alloc (Gr.refl _) _) (Nat.le_refl _) (by simp) rfl _ _ 59 rfl 3 i0 (.int .i64 0) 8 Try.underlying59 HZ.out.1 HZ.out.2.1 HZ.out.2.2.1 HZ.out.2.2.2 rfl _ [] [] (by rfl) (OwnR.lit0 (α := Int) (w0 := W1) (w := W1) 3 (Nat.le_refl _) rfl) _ gps OUT (by rfl) (HSRC.out.gr gd) (fun b _ => by rw [HFL.out]; simp) (by rw [HLO.out]; unfold maxLen; simp; omega) (by rw [HLO.out]; simp; omega) ?_; intro v3 w3 h1 h2 h3 h4; rw [List.nil_append, List.nil_append] at h1; obtain ⟨g3, cp3, rest3, hv3, hg3, hc3, hd3⟩ := DRow.of_own2 h1 HNE.out (by rw [HLO.out]; omega); rw [HLO.out] at hv3 hc3; subst hv3; have HD3 := Lib.hid hd3; have HG3 := Lib.hid h4; clear h1 h2 h3 h4 hd3))
   have hg1s := HG1.out.size
   have hg3s := HG3.out.size
   clear y0 zy0
   go_loopw [6] (fun s6 wr => ∃ i : Nat, i ≤ g0.length ∧ Hid (Wr [g3] w3 wr) ∧ Hid (DRow rest3 wr g3 (hRow (g0, g1) OUT ((k : Int) + 1) i)) ∧ s6 = .int .i64 i) (fun s6 _ => g0.length - (intOf s6).toNat)
   case atStart => exact ⟨0, by omega, Lib.hid (Wr.refl _ _), HD3, rfl⟩
   case round =>
    obtain ⟨i, hi, HW4, HD4, rfl⟩ := hrel
    rename World => W4
    have HG4 := Lib.hid (Gr.wr (HG1.out.trans HG3.out) HW4.out (fun c hc => by rw [List.mem_singleton.1 hc]; omega))
    have HGW4 := Lib.hid (HGB.out.trans HG4.out)
    have y0 := HG4.out.keep HB0.out
    have y1 := HG4.out.keep HB1.out
    have zy0 := blk y0
    have HSO4 := Lib.hid ((HSO.out.gr HG3.out).wr HW4.out (fun c hc hm => by have h1 := HFO.out c hc; have h2 := List.mem_singleton.1 hm; omega))
    have hrl : (hRow (g0, g1) OUT ((k : Int) + 1) i).length = g0.length := by
     rw [(hRow_ok (g := (g0, g1)) (out := OUT) (r := (k : Int) + 1) (M := (g0.length : Int)) (by omega) HVO.out i).1, HLO.out]
    have HRL := Lib.hid hrl
    clear hrl
    by_cases hlt : i < g0.length
    ·have hgw := HGW4.out
     have hio : i < OUT.length := by rw [HLO.out]; exact hlt
     have cO : W4.cell? ⟨bo, i, none⟩ = some (.int .i64 OUT[i]) := HW4.out.keepC (HG3.out.keep (HD1.out.cell hio)) (by simp; omega)
     have zO := blk cO
     have i0' : (0 : Int) ≤ (i : Int) := by omega
     have i1' : (i : Int) < (g0.length : Int) := by omega
     have iwi : IntKind.i64.wrap ((i : Int) + 1) = (i : Int) + 1 := IntWalk.i64_in _ (by omega)
     obtain ⟨b, off, rfl, hbb⟩ := og03 i hlt
     obtain ⟨csq, feq, hcq, hrq, -⟩ := hg0.at hlt
     obtain ⟨yq, hyq⟩ : ∃ y, y = g0[i] := ⟨_, rfl⟩
     rw [← hyq] at hrq
     have HYq := Lib.hid hyq
     have HRq := Lib.hid hrq
     obtain ⟨q0, q1⟩ := yq
     obtain ⟨vq1, fq1, hcsq, -, hq0, hq1⟩ := rdSymbol_inv (cs := csq.toArray) q0 q1 (by simpa using hrq)
     obtain rfl : csq = [.string q0, vq1] := by have := congrArg Array.toList hcsq; simpa using this
     obtain ⟨aq1, kq1, rfl, oq11, oq12, oq13⟩ := hq1.open
     have qz0 := hgw.keep (show w.cell? ⟨b, off + i * 2, none⟩ = some (.string q0) from by simpa [Rd.n] using hcq 0 _ rfl)
     have qz1 := hgw.keep (show w.cell? ⟨b, off + i * 2 + 1, none⟩ = some (.slice aq1 q1.length kq1) from hcq 1 _ rfl)
     have qzb := blk qz0
     clear hcsq hcq hrq hyq
     have HST : Hid (hRow (g0, g1) OUT ((k : Int) + 1) (i + 1) = if OUT[i] = 0 ∧ reachS (g0, g1) OUT q0 = true then (hRow (g0, g1) OUT ((k : Int) + 1) i).set i ((k : Int) + 1) else hRow (g0, g1) OUT ((k : Int) + 1) i) := Lib.hid (by
      rw [hRow_succ]
      unfold hStep
      have e1 : OUT.getD i 0 = OUT[i] := by simp [List.getD_eq_getElem?_getD, List.getElem?_eq_getElem hio]
      have e2 : ((g0, g1) : GGrammar d).1.getD i (⟨#[]⟩, []) = g0[i] := by simp [List.getD_eq_getElem?_getD, List.getElem?_eq_getElem hlt]
      rw [e1, e2, ← HYq.out])
     obtain ⟨oi, hoi⟩ : ∃ o, o = OUT[i] := ⟨_, rfl⟩
     rw [← hoi] at cO HST
     obtain ⟨rb, hrb⟩ : ∃ r, r = reachS (g0, g1) OUT q0 := ⟨_, rfl⟩
     have HC : Hid (∀ x : Ext, Calls Try.prog 121 #[.agg #[.slice (some ⟨b, off, none⟩) g0.length kg0, .slice ag1 g1.length kg1], .string q0, .slice (some ⟨bo, 0, none⟩) g0.length cap] (W4.ext x) fun e w' => e = .returned (.bool rb) ∧ Gr (W4.ext x) w') := Lib.hid (fun x => by
      rw [hrb]
      exact l12Reached_any (g0, g1) q0 OUT _ (Rd.gr HG.out (HGW4.out.trans gd)) (HSO4.out.gr gd) HLO.out)
     rw [← hrb] at HST
     clear hoi hrb hio hgw
     have d4 := HD4.out.cell (k := i) (by rw [HRL.out]; exact hlt)
     have zd4 := blk d4
     have fd4 := VRow.frozen HD4.out i
     by_cases h0 : oi = 0
     ·have e0 : (oi == 0) = true := by simp [h0]
      go_wp2_with fail
      refine wp_region_grown (by kernel_rfl) (by kernel_rfl) ?_
      repeat (go_big_quiet_step (first | (go_at_call 121; exact grown_call (HC.out _))))
      refine wpQuiet_nil ?_
      intro _ hw'
      obtain ⟨nx, hw''⟩ := hw'
      subst hw''
      cases rb with
      | true =>
       have HST2 := Lib.hid (HST.out.trans (if_pos ⟨h0, rfl⟩))
       go_wp2_with fail
       exact ⟨⟨i + 1, by omega, Lib.hid ((HW4.out.setCell (List.mem_singleton.2 rfl) _).gr (Gr.ext (Gr.refl _) _)), Lib.hid (by rw [HST2.out]; exact VRow.gr (DRow.set HD4.out (by rw [HRL.out]; exact hlt) _) (Gr.ext (Gr.refl _) _)), by go_num⟩, by simp [intOf]; omega⟩
      | false =>
       have HST2 := Lib.hid (HST.out.trans (if_neg (fun h => by cases h.2)))
       go_wp2_with fail
       exact ⟨⟨i + 1, by omega, Lib.hid (HW4.out.gr (Gr.ext (Gr.refl _) _)), Lib.hid (by rw [HST2.out]; exact VRow.gr HD4.out (Gr.ext (Gr.refl _) _)), by go_num⟩, by simp [intOf]; omega⟩
     ·have e0 : (oi == 0) = false := by simpa using h0
      have HST2 := Lib.hid (HST.out.trans (if_neg (fun h => h0 h.1)))
      clear h0
      go_wp2_with fail
      refine wp_region_grown (by kernel_rfl) (by kernel_rfl) ?_
      repeat (go_big_quiet_step (fail))
      refine wpQuiet_nil ?_
      intro _ hw'
      obtain ⟨nx, hw''⟩ := hw'
      subst hw''
      go_wp2_with fail
      exact ⟨⟨i + 1, by omega, Lib.hid (HW4.out.gr (Gr.ext (Gr.refl _) _)), Lib.hid (by rw [HST2.out]; exact VRow.gr HD4.out (Gr.ext (Gr.refl _) _)), by go_num⟩, by simp [intOf]; omega⟩
    ·have hi2 : i = g0.length := by omega
     subst hi2
     have hnx : hts (g0, g1) (k + 1) = hRow (g0, g1) OUT ((k : Int) + 1) g0.length := by rw [hts_succ, ← HOUT.out]
     have HNX := Lib.hid hnx
     clear hnx
     go_wp2_with fail
     refine ⟨⟨k + 1, g3, cp3, rest3, by omega, HG4, Lib.hid (by rw [HNX.out]; exact HD4.out), by omega, hc3, ?_, rfl⟩, by simp [intOf]; omega⟩
     go_num
  ·have hk2 : k = g0.length := by omega
   subst hk2
   have hk1 : ¬ ((g0.length : Int) + 1 ≤ (g0.length : Int)) := by omega
   go_wp2_with fail
   go_ret
   refine ⟨_, fo, rfl, ?_, fun c hc => by have := HFO.out c hc; omega, HGB.out.trans HG1.out⟩
   rw [← HOUT.out]
   exact HSO.out
end Go.Proofs.Ytmfcagcanhmdbaa

namespace Go.Proofs.Ytmfcagcanhmdbaa
open Go.RowKit

section
variable {P : Program} {ops : Array Oper} {Q : Exit → Act → World → Prop}

def dstsI (ops : Array Oper) : List Nat := ops.toList.filterMap (·.dst)
def okI (z n : Nat) (ops : Array Oper) : Bool :=
 ((List.range ops.size).all fun i => ((ops[i]?).map fun o => o.guard.isNone && o.after.all (fun e => decide (e.on < i)) && o.dst.all (fun d => decide (d < n))).getD false) && decide ((dstsI ops).Nodup) && decide (z < ops.size)

def FrI (a0 : Act) (ds : List Nat) (a : Act) : Prop := a.defers = a0.defers ∧ a.tmps.size = a0.tmps.size ∧ ∀ k, k ∉ ds → a.eval (.tmp k) = a0.eval (.tmp k)
def layI (ds : List Nat) (t : Nat → Value) (a0 : Act) : Act := ds.foldl (fun b d => b.put (some d) (t d)) a0

theorem layI_get (t : Nat → Value) : ∀ (ds : List Nat) (a0 : Act), (layI ds t a0).defers = a0.defers ∧ (layI ds t a0).tmps.size = a0.tmps.size ∧ ∀ k, k < a0.tmps.size → (layI ds t a0).eval (.tmp k) = if k ∈ ds then t k else a0.eval (.tmp k)
 | [], a0 => ⟨rfl, rfl, fun k _ => by simp [layI]⟩
 | d :: ds, a0 => by
  obtain ⟨h1, h2, h3⟩ := layI_get t ds (a0.put (some d) (t d))
  have e : layI (d :: ds) t a0 = layI ds t (a0.put (some d) (t d)) := rfl
  have hs : (a0.put (some d) (t d)).tmps.size = a0.tmps.size := by simp [Act.put]
  rw [e]
  refine ⟨h1.trans rfl, h2.trans hs, fun k hk => ?_⟩
  rw [h3 k (by rw [hs]; exact hk)]
  by_cases hm : k ∈ ds
  ·rw [if_pos hm, if_pos (List.mem_cons_of_mem _ hm)]
  ·rw [if_neg hm]
   by_cases hd : k = d
   ·subst hd
    rw [if_pos List.mem_cons_self]
    show (a0.tmps.setIfInBounds k (t k)).getD k undef = t k
    simp [Array.getD, hk]
   ·rw [if_neg (by simp [hd, hm])]
    show (a0.tmps.setIfInBounds d (t d)).getD k undef = a0.tmps.getD k undef
    simp only [Array.getD_eq_getD_getElem?, Array.getElem?_setIfInBounds, if_neg (Ne.symm hd)]
theorem FrI.lay {a0 a : Act} {ds : List Nat} (h : FrI a0 ds a) : a = layI ds (fun d => a.eval (.tmp d)) a0 := by
 obtain ⟨g1, g2, g3⟩ := layI_get (fun d => a.eval (.tmp d)) ds a0
 obtain ⟨h1, h2, h3⟩ := h
 have ht : a.tmps = (layI ds (fun d => a.eval (.tmp d)) a0).tmps := by
  apply Array.ext
  ·rw [h2, g2]
  ·intro k hk hk'
   have gen : ∀ (b : Act) (h : k < b.tmps.size), b.eval (.tmp k) = b.tmps[k] := fun b h => by simp [Act.eval, Array.getD, h]
   have e1 := gen a hk
   have e2 := gen _ hk'
   rw [← e1, ← e2, g3 k (by omega)]
   split
   ·rfl
   ·rename_i hm; exact h3 k hm
 have hd : a.defers = (layI ds (fun d => a.eval (.tmp d)) a0).defers := h1.trans g1.symm
 generalize layI ds (fun d => a.eval (.tmp d)) a0 = b at ht hd
 cases a; cases b; simp at ht hd; rw [ht, hd]

theorem eval_put_self {a : Act} {d : Nat} {v : Value} (h : d < a.tmps.size) : (a.put (some d) v).eval (.tmp d) = v := by
 show (a.tmps.setIfInBounds d v).getD d undef = v
 simp [Array.getD, h]
theorem eval_put_ne {a : Act} {d k : Nat} {v : Value} (h : k ≠ d) : (a.put (some d) v).eval (.tmp k) = a.eval (.tmp k) := by
 show (a.tmps.setIfInBounds d v).getD k undef = a.tmps.getD k undef
 simp only [Array.getD_eq_getD_getElem?, Array.getElem?_setIfInBounds, if_neg (Ne.symm h)]

def predsI (ops : Array Oper) (o : Oper) : List Nat := o.after.toList.filterMap fun e => if Region.binds .any e then (ops[e.on]?).bind (·.dst) else none

def StepI (P : Program) (ops : Array Oper) (Q : Exit → Act → World → Prop) (S : Bool → World → Prop) (V : Bool → Nat → Value → World → Prop) (z : Nat) (a0 : Act) (i : Nat) (o : Oper) : Prop :=
 ∀ (f : Bool) (a : Act) (w : World), (i = z ∨ waits .any ops z i = true → f = false) → S f w → (∀ k, (dstsI ops).contains k = false → a.tmps[k]?.getD undef = a0.tmps[k]?.getD undef) →
  (∀ d, (predsI ops o).contains d = true → V f d (a.tmps[d]?.getD undef) w) →
  ∀ K : Act → World → Prop, Shut (∀ v u, S (f || decide (i = z)) u → (∀ d, V f d (a.tmps[d]?.getD undef) w → V (f || decide (i = z)) d (a.tmps[d]?.getD undef) u) → (∀ d, o.dst = some d → V (f || decide (i = z)) d v u) → K (a.put o.dst v) u) → Oper.wp P o a w K Q
theorem eval_tmp (a : Act) (k : Nat) : a.eval (.tmp k) = a.tmps[k]?.getD undef := Array.getD_eq_getD_getElem? ..

def AllI (p : Nat → Oper → Prop) : Nat → List Oper → Prop
 | _, [] => True
 | k, o :: os => p k o ∧ AllI p (k + 1) os
theorem AllI.at {p : Nat → Oper → Prop} : ∀ {k : Nat} {os : List Oper}, AllI p k os → ∀ {i : Nat} {o : Oper}, os[i]? = some o → p (k + i) o
 | _, [], _, _, _, h => by simp at h
 | _, _ :: _, h, 0, _, e => by simp at e; subst e; exact h.1
 | k, _ :: _, h, i + 1, _, e => by
  have := AllI.at h.2 (i := i) (by simpa using e)
  rwa [Nat.add_assoc, Nat.add_comm 1 i] at this

structure InvI (P : Program) (ops : Array Oper) (S : Bool → World → Prop) (V : Bool → Nat → Value → World → Prop) (z : Nat) (a0 : Act) (l : Array Bool) (a : Act) (w : World) : Prop where
 size : l.size = ops.size
 fr : FrI a0 (dstsI ops) a
 s : S (l.getD z false) w
 v : ∀ j o d, ops[j]? = some o → l.getD j false = true → o.dst = some d → V (l.getD z false) d (a.eval (.tmp d)) w
 z : l.getD z false = true → ∀ o, ops[z]? = some o → ∀ e ∈ o.after, Region.binds .any e = true → l.getD e.on false = true

theorem okI_at {z n : Nat} (h : okI z n ops = true) {i : Nat} {o : Oper} (ho : ops[i]? = some o) : o.guard = none ∧ (∀ e ∈ o.after, e.on < i) ∧ ∀ d, o.dst = some d → d < n := by
 unfold okI at h
 simp only [Bool.and_eq_true, List.all_eq_true, List.mem_range] at h
 have hi : i < ops.size := (Array.getElem?_eq_some_iff.1 ho).1
 have h1 := h.1.1 i hi
 rw [ho] at h1
 simp only [Option.map_some, Option.getD_some, Bool.and_eq_true, Array.all_eq_true_iff_forall_mem, decide_eq_true_eq, Option.isNone_iff_eq_none] at h1
 refine ⟨h1.1.1, h1.1.2, fun d hd => ?_⟩
 have := h1.2
 rw [hd] at this
 simpa using this
theorem okI_inj {z n : Nat} (h : okI z n ops = true) {i j : Nat} {o p : Oper} {d : Nat} (ho : ops[i]? = some o) (hp : ops[j]? = some p) (hd : o.dst = some d) (hd' : p.dst = some d) : i = j := by
 unfold okI at h
 simp only [Bool.and_eq_true, decide_eq_true_eq] at h
 have hn := h.1.2
 unfold dstsI at hn
 rw [← Array.getElem?_toList] at ho hp
 generalize ops.toList = xs at hn ho hp
 clear h
 induction xs generalizing i j with
 | nil => simp at ho
 | cons x xs ih =>
  have mem : ∀ {k : Nat} {q : Oper}, xs[k]? = some q → q.dst = some d → d ∈ xs.filterMap (·.dst) := fun hq hd => List.mem_filterMap.2 ⟨_, List.mem_of_getElem? hq, hd⟩
  cases i with
  | zero =>
   cases j with
   | zero => rfl
   | succ j =>
    simp at ho hp
    subst ho
    rw [List.filterMap_cons, hd] at hn
    exact absurd (mem hp hd') (List.nodup_cons.1 hn).1
  | succ i =>
   cases j with
   | zero =>
    simp at ho hp
    subst hp
    rw [List.filterMap_cons, hd'] at hn
    exact absurd (mem ho hd) (List.nodup_cons.1 hn).1
   | succ j =>
    simp at ho hp
    have : (xs.filterMap (·.dst)).Nodup := by
     rw [List.filterMap_cons] at hn
     split at hn
     ·exact hn
     ·exact (List.nodup_cons.1 hn).2
    rw [ih this ho hp]

theorem mem_dstsI {i : Nat} {o : Oper} {d : Nat} (ho : ops[i]? = some o) (hd : o.dst = some d) : d ∈ dstsI ops := by
 unfold dstsI
 exact List.mem_filterMap.2 ⟨o, by rw [← Array.getElem?_toList] at ho; exact List.mem_of_getElem? ho, hd⟩

theorem getD_setTrue {l : Array Bool} {i j : Nat} (hi : i < l.size) : (l.setIfInBounds i true).getD j false = if j = i then true else l.getD j false := by
 by_cases h : j = i
 ·subst h; simp [Array.getD, hi]
 ·rw [if_neg h, getD_set_ne false (Ne.symm h)]

theorem invI_any {S : Bool → World → Prop} {V : Bool → Nat → Value → World → Prop} {z : Nat} {a0 : Act} (hok : okI z a0.tmps.size ops = true) (step : AllI (StepI P ops Q S V z a0) 0 ops.toList)
  (hend : ∀ (t : Nat → Value) (w : World), S true w → (∀ d, (dstsI ops).contains d = true → V true d (t d) w) → Q .normal (layI (dstsI ops) t a0) w) :
  ∀ (n : Nat) (l : Array Bool) (a : Act) (w : World), InvI P ops S V z a0 l a w → l.toList.count false ≤ n → wpAny P .any ops Q n l a w := by
 have hzs : z < ops.size := by unfold okI at hok; simp only [Bool.and_eq_true, decide_eq_true_eq] at hok; exact hok.2
 have fin : ∀ (l : Array Bool) (a : Act) (w : World), InvI P ops S V z a0 l a w → Region.ready .any ops l = [] → Q .normal a w := by
  intro l a w hI hr
  have all : ∀ k, k < ops.size → l.getD k false = true := by
   intro k
   induction k using Nat.strongRecOn with
   | ind k ih =>
    intro hk
    rcases hlk : l.getD k false with _ | _
    ·have ho : ops[k]? = some ops[k] := Array.getElem?_eq_getElem hk
     have hm : k ∈ Region.ready .any ops l := mem_ready.2 ⟨by
      have hks : k < l.size := by rw [hI.size]; exact hk
      simpa [Array.getD, hks] using hlk, _, ho, fun e he _ => ih e.on ((okI_at hok ho).2.1 e he) (by have := (okI_at hok ho).2.1 e he; omega)⟩
     rw [hr] at hm; cases hm
    ·rfl
  have hz := all z hzs
  rw [hI.fr.lay]
  refine hend _ w (hz ▸ hI.s) fun d hd => ?_
  have hd : d ∈ dstsI ops := by simpa using hd
  obtain ⟨o, ho, hod⟩ := List.mem_filterMap.1 hd
  obtain ⟨j, hj⟩ := List.mem_iff_getElem?.1 ho
  rw [Array.getElem?_toList] at hj
  have := hI.v j o d hj (all j (Array.getElem?_eq_some_iff.1 hj).1) hod
  rwa [hz] at this
 intro n
 induction n with
 | zero =>
  intro l a w hI hc
  have hr : Region.ready .any ops l = [] := by
   rw [List.eq_nil_iff_forall_not_mem]
   intro i hi
   obtain ⟨h0, o, ho, -⟩ := mem_ready.1 hi
   have hil : i < l.size := by rw [hI.size]; exact (Array.getElem?_eq_some_iff.1 ho).1
   have : false ∈ l.toList := by
    simp [Array.getD, hil] at h0
    rw [← h0]
    exact Array.getElem_mem_toList hil
   have := List.count_pos_iff.2 this
   omega
  exact ⟨hr, fin l a w hI hr⟩
 | succ n ih =>
  intro l a w hI hc
  refine ⟨fin l a w hI, fun i hi => ?_⟩
  obtain ⟨h0, o, ho, hall⟩ := mem_ready.1 hi
  have his : i < ops.size := (Array.getElem?_eq_some_iff.1 ho).1
  have hil : i < l.size := by rw [hI.size]; exact his
  have hli : l.getD i false = false := by simpa [Array.getD, hil] using h0
  refine wpOp_step ho fun K' hK => ?_
  rw [if_pos (by simp [Region.wanted, (okI_at hok ho).1])]
  have step' : StepI P ops Q S V z a0 i o := by have := step.at (i := i) (o := o) (by rw [Array.getElem?_toList]; exact ho); rwa [Nat.zero_add] at this
  refine step' (l.getD z false) a w (fun hor => ?_) hI.s (fun k hk => by rw [← eval_tmp, ← eval_tmp]; exact hI.fr.2.2 k (by simpa using hk)) (fun d hd => ?_) K' (fun v u hS hst hV => hK _ _ (ih _ _ _ ⟨?_, ?_, ?_, ?_, ?_⟩ ?_))
  ·rcases hz : l.getD z false with _ | _
   ·rfl
   ·exfalso
    rcases hor with e | hw
    ·rw [← e, hli] at hz; cases hz
    ·obtain ⟨q, hq⟩ : ∃ q, ops[z]? = some q := ⟨_, Array.getElem?_eq_getElem hzs⟩
     unfold waits at hw
     rw [hq] at hw
     simp only [Option.map_some, Option.getD_some] at hw
     obtain ⟨x, hx, h2⟩ := Array.any_eq_true'.1 hw
     simp only [Bool.and_eq_true, beq_iff_eq] at h2
     have := hI.z hz q hq x hx h2.1
     rw [h2.2, hli] at this
     cases this
  ·rw [← eval_tmp]
   have hd : d ∈ predsI ops o := by simpa using hd
   obtain ⟨e, he, hed⟩ := List.mem_filterMap.1 hd
   have he : e ∈ o.after := by simpa using he
   split at hed
   ·rename_i hb
    cases hp : ops[e.on]? with
    | none => rw [hp] at hed; cases hed
    | some p =>
     rw [hp] at hed
     exact hI.v e.on p d hp (hall e he hb) hed
   ·cases hed
  ·simp [hI.size]
  ·refine ⟨?_, ?_, fun k hk => ?_⟩
   ·cases o.dst <;> exact hI.fr.1
   ·cases o.dst
    ·exact hI.fr.2.1
    ·exact (show (Array.setIfInBounds _ _ _).size = _ by simp).trans hI.fr.2.1
   ·cases hd : o.dst with
    | none => exact hI.fr.2.2 k hk
    | some d => rw [eval_put_ne (fun e => hk (by rw [e]; exact mem_dstsI ho hd))]; exact hI.fr.2.2 k hk
  ·rw [getD_setTrue hil]
   by_cases e : i = z
   ·subst e; simpa using hS
   ·rw [if_neg (Ne.symm e)]
    simpa [e] using hS
  ·intro j p d hj hdj hd
   have hfz : (l.setIfInBounds i true).getD z false = (l.getD z false || decide (i = z)) := by
    rw [getD_setTrue hil]
    by_cases e : i = z
    ·subst e; simp
    ·rw [if_neg (Ne.symm e)]; simp [e]
   rw [hfz]
   rw [getD_setTrue hil] at hdj
   by_cases e : j = i
   ·subst e
    rw [ho] at hj
    cases hj
    rw [hd, eval_put_self (by rw [hI.fr.2.1]; exact (okI_at hok ho).2.2 d hd)]
    exact hV d hd
   ·rw [if_neg e] at hdj
    have hvj := hst d (by rw [← eval_tmp]; exact hI.v j p d hj hdj hd)
    rw [← eval_tmp] at hvj
    cases hod : o.dst with
    | none => exact hvj
    | some d' =>
     rw [eval_put_ne (fun h => e (okI_inj hok hj ho hd (by rw [hod, h])))]
     exact hvj
  ·intro hz q hq e he hb
   rw [getD_setTrue hil]
   split
   ·rfl
   ·rename_i hne
    rw [getD_setTrue hil] at hz
    by_cases hzi : z = i
    ·subst hzi
     rw [ho] at hq
     cases hq
     exact hall e he hb
    ·rw [if_neg hzi] at hz
     exact hI.z hz q hq e he hb
  ·have hgl : l.toList[i]'(by simpa using hil) = false := by simpa [Array.getD, hil] using h0
   rw [Array.toList_setIfInBounds, List.count_set (by simpa using hil)]
   have hpos : 0 < l.toList.count false := List.count_pos_iff.2 (by rw [← hgl]; exact List.getElem_mem _)
   rw [hgl]
   have e1 : (if (true == false) = true then 1 else 0) = 0 := rfl
   simp only [beq_self_eq_true, if_true, e1]
   omega

theorem wp_region_I {id : Nat} {a0 : Act} {w0 : World} (S : Bool → World → Prop) (V : Bool → Nat → Value → World → Prop) (z : Nat) (ds : List Nat) (hds : dstsI ops = ds) (hm : P.follows .mixedOrders = true) (hok : okI z a0.tmps.size ops = true) (hS : S false w0.drew)
  (step : AllI (StepI P ops Q S V z a0) 0 ops.toList)
  (hend : ∀ (t : Nat → Value) (w : World), S true w → (∀ d, ds.contains d = true → V true d (t d) w) → Q .normal (layI ds t a0) w) : (Code.region id ops true).wp P Q a0 w0 := by
 subst hds
 refine wp_region_any hm (invI_any hok step hend _ _ _ _ ⟨by simp, ⟨rfl, rfl, fun _ _ => rfl⟩, ?_, fun j o d hj h => ?_, fun h => ?_⟩ ?_)
 ·have : (Array.replicate ops.size false).getD z false = false := by simp [Array.getD]
  rw [this]; exact hS
 ·simp [Array.getD] at h
 ·simp [Array.getD] at h
 ·simp
end
end Go.Proofs.Ytmfcagcanhmdbaa
