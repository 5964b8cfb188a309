/- An interned subtree and the cell's tree have one shape; plain. Whether a number is a node of a tree. Whether all nodes of a subtree have their children behind them: the program's. A store copied: the program's. slices.Repeat at one number: as many of it as wanted, in a new block that is known whole. IsValidStore of the program. No condition. -/
import Derived.Test.YtmfcagcanhmdbaaH19
import Derived.Test.YtmfcagcanhmdbaaH43
import Derived.Test.YtmfcagcanhmdbaaH02
import Derived.Test.YtmfcagcanhmdbaaH05
import Derived.Test.YtmfcagcanhmdbaaH09
import Derived.Test.YtmfcagcanhmdbaaH28
import Derived.Test.YtmfcagcanhmdbaaH08
import Derived.Laws.CopyOwn
import Derived.Laws.Bits64b
import Derived.Test.YtmfcagcanhmdbaaH04
namespace Go.Proofs.Ytmfcagcanhmdbaa
open Go.RowKit
set_option linter.unusedVariables false

theorem exN_par {s : GStore} {f a : Nat} {i p l : Int} {k : Nat} {x : GNode} (hk : 0 < k) (hx : (exN s f a i p l)[k]? = some x) : i ≤ x.2.1 := by
 cases f with
 | zero => simp [exN] at hx
 | succ f =>
  cases hc : s[a]? with
  | none => simp only [exN, hc] at hx; simp at hx
  | some c =>
   rw [exN_nodes hc] at hx
   obtain ⟨k, rfl⟩ : ∃ j, k = j + 1 := ⟨k - 1, by omega⟩
   rw [List.getElem?_cons_succ] at hx
   have h1 := exK_small (T := fun q b i k => exN s f q.toNat b i k) (M := wtStore s) i (fun q b k => exN_small s (kids_store (Nat.le_refl _)).2 f q.toNat b i k) c.2.2 1 (i + 1)
   have h2 := (h1.1 x (List.mem_of_getElem? hx)).1
   omega
theorem Bent.at {u ns : List GNode} (h : Bent u ns) {j : Nat} (hj : 1 ≤ j) : ns[j]? = u[j]? := by
 rcases h with rfl | ⟨x, y, -, -, rfl⟩
 ·rfl
 ·rw [List.getElem?_set_ne (by omega)]
theorem sh_sh (b : Int) (x : GNode) : shN (-b) (shN b x) = x := by
 obtain ⟨x0, x1, x2, x3, x4, x5⟩ := x
 have e : (x5.map (· + b)).map (· + -b) = x5 := by
  rw [List.map_map]
  conv => rhs; rw [← List.map_id x5]
  apply List.map_congr_left
  intro c _
  simp only [Function.comp, id]
  omega
 show (x0, x1 + b + -b, x2, x3, x4, (x5.map (· + b)).map (· + -b)) = _
 rw [e]
 congr 2
 omega
theorem sh_noId (b : Int) (x : GNode) : noId (shN b x) = shN b (noId x) := rfl

theorem shape_all {s : GStore} {u ns : List GNode} {i a : Nat} (hB : Bent u ns) (hu : TreeFine u) (hl : u.length ≤ 40) (hv : ValidStore s) (hE : Emb s ns i a) :
  ∃ m, SegSz ns i m ∧ (∀ (j : Nat) (x : GNode), i ≤ j → ns[j]? = some x → NodeFine 1000 x) ∧ (subN ns i m).map noId = exN s s.length a 0 (-1) 0 := by
 have hlen := hB.len
 -- from i on the two trees are one
 have hsame : ∀ j, i ≤ j → ns[j]? = u[j]? := by
  intro j hj
  rcases hB with rfl | ⟨x, y, hx, hy, rfl⟩
  ·rfl
  ·rcases Nat.eq_zero_or_pos i with rfl | hi
   ·exfalso
    obtain ⟨x', c, hx', -, -, -, hn, hk⟩ := hE.at
    have hu0 : 0 < u.length := (List.getElem?_eq_some_iff.1 hx).1
    rw [List.getElem?_set_self hu0] at hx'
    simp only [Option.some.injEq] at hx'
    subst hx'
    have hn' : (x.2.2.2.2.2 ++ [y]).length = c.2.2.length := hn
    rw [List.length_append, List.length_singleton] at hn'
    have h1 := (hk x.2.2.2.2.2.length y (c.2.2[x.2.2.2.2.2.length]'(by omega)) (by show (x.2.2.2.2.2 ++ [y])[x.2.2.2.2.2.length]? = some y; simp) (List.getElem?_eq_getElem _)).1
    rw [List.length_set] at h1
    omega
   ·rw [List.getElem?_set_ne (by omega)]
 have hEu : Emb s u i a := hE.from hlen.symm (fun j hj => (hsame j hj).symm) (Nat.le_refl _)
 obtain ⟨hi, ha⟩ := hEu.lt
 have hx : u[i]? = some u[i] := List.getElem?_eq_getElem hi
 obtain ⟨g1, g2, g3, g4⟩ := hu.2.seg hv s.length i a u[i] hEu ha hx
 obtain ⟨f, hf⟩ : ∃ f, s.length = f + 1 := ⟨s.length - 1, by omega⟩
 have hpos : 1 ≤ exL s s.length a := by rw [hf]; exact exL_pos s f a ha
 have hc : s[a]? = some s[a] := List.getElem?_eq_getElem ha
 have each : ∀ k, k < exL s s.length a → ∃ x, u[i + k]? = some x ∧ (exN s s.length a (i : Int) u[i].2.1 u[i].2.2.1)[k]? = some (noId x) := by
  intro k hk
  have hik : i + k < u.length := by omega
  refine ⟨u[i + k], List.getElem?_eq_getElem hik, ?_⟩
  rw [← g3, List.getElem?_take_of_lt hk, List.getElem?_drop, List.getElem?_map, List.getElem?_eq_getElem hik]
  rfl
 refine ⟨exL s s.length a, ⟨hpos, by omega, fun j x h1 h2 hjx => ?_, fun x hxx => ?_⟩, fun j x hj hjx => ?_, ?_⟩
 ·rw [hsame j (by omega)] at hjx
  obtain ⟨y, hy, hz⟩ := each (j - i) (by omega)
  rw [show i + (j - i) = j by omega, hjx] at hy
  cases hy
  have := exN_par (by omega) hz
  exact this
 ·rcases Nat.eq_zero_or_pos i with rfl | hi0
  ·have := g2 rfl
   have h3 := (List.getElem?_eq_some_iff.1 hxx).1
   omega
  ·rw [hsame _ (by omega)] at hxx
   exact g4 hi0 x hxx
 ·rw [hsame j hj] at hjx
  exact (hu.1 x (List.mem_of_getElem? hjx)).mono (by omega)
 ·apply List.ext_getElem?
  intro k
  by_cases hk : k < exL s s.length a
  ·obtain ⟨x, hxk, hz⟩ := each k hk
   rw [List.getElem?_map, subN_at hk (by rw [hsame _ (by omega)]; exact hxk), Option.map_some]
   rw [show (i : Int) = 0 + (i : Int) by omega, show u[i].2.1 = (u[i].2.1 - i) + i by omega, exN_sh, List.getElem?_map] at hz
   rw [hf, exN_nodes hc] at hz ⊢
   cases k with
   | zero =>
    simp only [List.getElem?_cons_zero, Option.map_some, Option.some.injEq] at hz ⊢
    have hz2 := congrArg (shN (-(i : Int))) hz
    rw [sh_sh, ← sh_noId] at hz2
    unfold movN
    rw [if_pos rfl]
    have e := congrArg (fun z : GNode => z.2.2.2) hz2
    simp only [noId] at e ⊢
    rw [← e]
   | succ k =>
    simp only [List.getElem?_cons_succ] at hz ⊢
    cases ht : (exK (fun q b i k => exN s f q.toNat b i k) 0 1 (0 + 1) s[a].2.2).2[k]? with
    | none => rw [ht] at hz; simp at hz
    | some z =>
     rw [ht] at hz
     simp only [Option.map_some, Option.some.injEq] at hz
     have hz2 := congrArg (shN (-(i : Int))) hz
     rw [sh_sh, ← sh_noId] at hz2
     unfold movN
     rw [if_neg (by omega), ← hz2]
  ·have h1 : (subN ns i (exL s s.length a)).length = exL s s.length a := subN_len (by omega)
   rw [List.getElem?_eq_none (by rw [List.length_map]; omega), List.getElem?_eq_none (by rw [exN_len]; omega)]
end Go.Proofs.Ytmfcagcanhmdbaa

namespace Go.Proofs.Ytmfcagcanhmdbaa
open Go.RowKit

set_option maxHeartbeats 4000000 in
theorem nodeIn_any {ft : List Nat} {ct : Array Value} (t : List GNode) (i : Int) (w : World) (ht : Rd.rd ft w ct.toList t) :
  Calls Try.prog 37 #[.agg ct, .int .i64 i] w fun e w' => e = .returned (.bool (decide (0 ≤ i) && decide (i ≤ (t.length : Int) - 1))) ∧ Gr w w' := by
 have HT := Lib.hid ht
 obtain ⟨t0, rfl⟩ : ∃ y, y = t := ⟨t, rfl⟩
 obtain ⟨vt0, ft0, rfl, hfpt, ht0⟩ := rdTree_inv t0 ht
 have FPt := Lib.hid hfpt
 clear hfpt
 obtain ⟨at0, kt0, rfl, ot01, ot02, ot03⟩ := ht0.open
 clear ht
 go_enter Try.func37, Try.ntmps37
 go_wp2_with fail
 refine (within_any _ _ _ _).mono ?_
 rintro e w' ⟨rfl, rfl⟩
 go_wp2_with fail
 go_ret
 exact ⟨rfl, gd⟩

theorem nodeIn_yes {ft : List Nat} {ct : Array Value} (t : List GNode) (i : Int) (w : World) (ht : Rd.rd ft w ct.toList t) (h : 0 ≤ i) (h' : i ≤ (t.length : Int) - 1) :
  Calls Try.prog 37 #[.agg ct, .int .i64 i] w fun e w' => e = .returned (.bool true) ∧ Gr w w' :=
 (nodeIn_any t i w ht).mono fun e w' ⟨he, hw⟩ => ⟨by rw [he, decide_eq_true h, decide_eq_true h']; rfl, hw⟩
theorem nodeIn_no {ft : List Nat} {ct : Array Value} (t : List GNode) (i : Int) (w : World) (ht : Rd.rd ft w ct.toList t) (h : i < 0 ∨ (t.length : Int) - 1 < i) :
  Calls Try.prog 37 #[.agg ct, .int .i64 i] w fun e w' => e = .returned (.bool false) ∧ Gr w w' :=
 (nodeIn_any t i w ht).mono fun e w' ⟨he, hw⟩ => ⟨by rw [he, Bool.and_eq_false_iff.2 (h.imp (fun h => decide_eq_false (by omega)) (fun h => decide_eq_false (by omega)))], hw⟩
end Go.Proofs.Ytmfcagcanhmdbaa

namespace Go.Proofs.Ytmfcagcanhmdbaa
open Go.RowKit
set_option linter.unusedVariables false
set_option linter.unusedSimpArgs false

theorem Try.infoBool2 : (Try.prog.info? 4).map (fun i => (i.zero, i.size, i.bytes)) = some (some (.bool false), 1, 1) := by kernel_rfl
theorem goodB_true {t : List GNode} {i : Nat} (h : GoodT t i) : goodB t i = true := by unfold goodB; exact @decide_eq_true _ (Classical.propDecidable _) h
theorem goodB_false {t : List GNode} {i : Nat} (h : ¬ GoodT t i) : goodB t i = false := by unfold goodB; exact @decide_eq_false _ (Classical.propDecidable _) h

set_option maxRecDepth 10000 in
set_option maxHeartbeats 8000000 in
theorem sound_any {ft : List Nat} {ct : Array Value} (t : List GNode) (i : Nat) (hi : i < t.length) (hlen : t.length ≤ 1048576) (w : World) (ht : Rd.rd ft w ct.toList t) :
  Calls Try.prog 38 #[.agg ct, .int .i64 (i : Int)] w fun e w' => e = .returned (.bool (goodB t i)) ∧ Gr w w' := by
 obtain ⟨b0, hbi, hz0, hz1, hz2⟩ := info_parts Try.infoBool2
 have hmk := fun (W : World) => run_make (P := Try.prog) W 92 4 b0 (.bool false) Try.underlying92 hbi hz0 .i64 .i64 t.length t.length (by omega) (by omega) (by rw [hz2]; omega) (by omega)
 rw [hz1] at hmk
 clear hbi hz0 hz1 hz2
 simp only [Int.toNat_natCast, Nat.mul_one] at hmk
 have HB0 := Lib.hid (fun W : World => BRow.made W t.length 4)
 have hci : (Value.bool false).cells = #[.bool false] := rfl
 rw [hci] at hmk
 have hms : (madeCells #[Value.bool false] t.length).size = t.length := by simpa using size_madeCells #[Value.bool false] t.length
 generalize madeCells #[Value.bool false] t.length = C0 at hmk HB0 hms
 clear hci
 have y0 : i < C0.size := by omega
 have HMS := Lib.hid hms
 clear hms
 have HT := Lib.hid ht
 obtain ⟨t0, rfl⟩ : ∃ y, y = t := ⟨t, rfl⟩
 obtain ⟨vt0, ft0, rfl, hfpt, ht0⟩ := rdTree_inv t0 ht
 have FPt := Lib.hid hfpt
 clear hfpt
 obtain ⟨at0, kt0, rfl, ot01, ot02, ot03⟩ := ht0.open
 clear ht
 have i0 : (0 : Int) ≤ (i : Int) := by omega
 have i1 : (i : Int) < (t0.length : Int) := by omega
 have HI := Lib.hid hi
 go_enter Try.func38, Try.ntmps38
 go_wp2_with fail
 generalize hW1 : (w.alloc (.cells #[.slice at0 t0.length kt0] 38)).alloc (.cells (C0.setIfInBounds i (.bool true)) 4) = W1
 have g1 : Gr w W1 := by rw [← hW1]; exact gd
 have c1 : W1.cell? ⟨w.heap.size, 0, none⟩ = some (.slice at0 t0.length kt0) := by rw [← hW1]; exact Gr.keep (Gr.alloc (Gr.refl _) _) (box_cell rfl rfl)
 have hC0 : C0 = ((List.replicate t0.length false).map Value.bool).toArray := by
  have h1 := HB0.out w
  have h2 : (w.alloc (.cells C0 4)).heap[w.heap.size]? = _ := h1
  rw [heap_alloc_new] at h2
  simpa using h2
 have v1 : BRow W1 (w.heap.size + 1) 4 ((List.replicate t0.length false).set i true) := by
  rw [← hW1, hC0]
  have h1 := heap_alloc_new (w.alloc (.cells #[.slice at0 t0.length kt0] 38)) (.cells ((((List.replicate t0.length false).map Value.bool).toArray).setIfInBounds i (.bool true)) 4 (0, 0))
  rw [show (w.alloc (.cells #[.slice at0 t0.length kt0] 38)).heap.size = w.heap.size + 1 by simp] at h1
  unfold BRow
  rw [h1, List.map_set, List.setIfInBounds_toArray]
 have s1 : W1.heap.size = w.heap.size + 2 := by rw [← hW1]; simp
 have HG1 := Lib.hid g1
 have HC1 := Lib.hid c1
 have HV1 := Lib.hid v1
 have HF0 := Lib.hid (FL.start hi)
 clear hW1 hC0 g1 c1 v1 hmk HB0 y0
 go_loopw [6] (fun s6 wr => ∃ (k : Nat) (fl : List Bool), i ≤ k ∧ k ≤ t0.length ∧ Hid (Wr [w.heap.size + 1] W1 wr) ∧ Hid (BRow wr (w.heap.size + 1) 4 fl) ∧ Hid (FL t0 i k 0 fl) ∧ Hid (∀ m, m < k → Up t0 i m → KG t0 m) ∧ s6 = .int .i64 k) (fun s6 _ => t0.length - (intOf s6).toNat)
 case atStart => exact ⟨i, _, by omega, by omega, Lib.hid (Wr.refl _ _), HV1, HF0, Lib.hid (fun m hm hu => by have := hu.ge; omega), rfl⟩
 case round =>
  obtain ⟨k, fl, hik, hk, HW, HV, HFL, HK, rfl⟩ := hrel
  rename World => W2
  have b0 := HW.out.keepC HC1.out (by simp)
  have zb0 := blk b0
  have hfl : fl.length = t0.length := HFL.out.1
  have k0 : (0 : Int) ≤ (k : Int) := by omega
  by_cases hlt : k < t0.length
  ·have k1 : (k : Int) < (t0.length : Int) := by omega
   have v2 := HV.out.cell (k := k) (by omega)
   have zv2 := blk v2
   have HFLL := Lib.hid hfl
   by_cases hm : fl[k]'(by omega) = true
   ·have hup : Up t0 i k := (HFL.out.at hlt).1 (by rw [List.getElem?_eq_getElem (by omega), hm])
    rw [hm] at v2
    have HUP := Lib.hid hup
    clear hm hup hfl
    obtain ⟨b, off, rfl, hbb⟩ := ot03 k hlt
    obtain ⟨csq, feq, hcq, hrq, -⟩ := ht0.at hlt
    obtain ⟨yq, hyq⟩ : ∃ y, y = t0[k] := ⟨_, rfl⟩
    rw [← hyq] at hrq
    have HYq := Lib.hid hyq
    have HRq := Lib.hid hrq
    obtain ⟨q0, q1, q2, q3, q4, q5⟩ := yq
    obtain ⟨vq5, fq5, hcsq, -, hq0, hq1, hq2, hq3, hq4, hq5⟩ := rdNode_inv (cs := csq.toArray) q0 q1 q2 q3 q4 q5 (by simpa using hrq)
    obtain rfl : csq = [.int .i64 q0, .int .i64 q1, .int .i64 q2, .int .i64 q3, .string q4, vq5] := by have := congrArg Array.toList hcsq; simpa using this
    obtain ⟨aq5, kq5, rfl, oq51, oq52, oq53⟩ := hq5.open
    have qz0 : w.cell? ⟨b, off + k * 6, none⟩ = some (.int .i64 q0) := by simpa [Rd.n] using hcq 0 _ rfl
    have qz1 : w.cell? ⟨b, off + k * 6 + 1, none⟩ = some (.int .i64 q1) := hcq 1 _ rfl
    have qz2 : w.cell? ⟨b, off + k * 6 + 2, none⟩ = some (.int .i64 q2) := hcq 2 _ rfl
    have qz3 : w.cell? ⟨b, off + k * 6 + 3, none⟩ = some (.int .i64 q3) := hcq 3 _ rfl
    have qz4 : w.cell? ⟨b, off + k * 6 + 4, none⟩ = some (.string q4) := hcq 4 _ rfl
    have qz5 : w.cell? ⟨b, off + k * 6 + 5, none⟩ = some (.slice aq5 q5.length kq5) := hcq 5 _ rfl
    have qzb := blk qz0
    clear hcsq hcq hrq hyq
    have d5 := HW.out.keepC (HG1.out.keep qz5) (by simp; omega)
    have zd5 := blk d5
    clear qz0 qz1 qz2 qz3 qz4 qz5
    have iw : IntKind.i64.wrap ((k : Int) + 1) = (k : Int) + 1 := IntWalk.i64_in _ (by omega)
    have hkn : kidsN t0[k] = q5 := by rw [← HYq.out]; rfl
    have HKN := Lib.hid hkn
    clear hkn
    go_wp2_with fail
    go_loopw [36] (fun s36 wr => ∃ (c : Nat) (fl : List Bool), c ≤ q5.length ∧ Hid (Wr [w.heap.size + 1] W1 wr) ∧ Hid (BRow wr (w.heap.size + 1) 4 fl) ∧ Hid (FL t0 i k c fl) ∧ Hid (∀ j (h : j < q5.length), j < c → (k : Int) + 1 ≤ q5[j] ∧ q5[j] ≤ (t0.length : Int) - 1) ∧ s36 = .int .i64 c) (fun s36 _ => q5.length - (intOf s36).toNat)
    case atStart => exact ⟨0, fl, by omega, HW, HV, HFL, Lib.hid (fun j _ h => by omega), rfl⟩
    case round =>
     obtain ⟨c, fl3, hc, HW3, HV3, HFL3, HB3, rfl⟩ := hrel
     rename World => W3
     have e0 := HW3.out.keepC HC1.out (by simp)
     have ze0 := blk e0
     have c0 : (0 : Int) ≤ (c : Int) := by omega
     clear b0 zb0 v2 zv2 d5 zd5
     by_cases hlc : c < q5.length
     ·have c1 : (c : Int) < (q5.length : Int) := by omega
      obtain ⟨bL, oL, rfl, hbL⟩ := oq53 c hlc
      have eL := HW3.out.keepC (HG1.out.keep (hq5.int_at hlc).1) (by simp; omega)
      have zeL := blk eL
      have iwc : IntKind.i64.wrap ((c : Int) + 1) = (c : Int) + 1 := IntWalk.i64_in _ (by omega)
      have hrt : Rd.rd ft W3 [.slice (some ⟨b, off, none⟩) t0.length kt0] t0 := Rd.wr (Rd.gr HT.out HG1.out) HW3.out (fun x hx hm => by have := Rd.lt HT.out x hx; simp at hm; omega)
      have HRT := Lib.hid hrt
      clear hrt
      by_cases hck : q5[c] ≤ (k : Int)
      ·have HCK := Lib.hid hck
       go_wp2_with fail
       go_ret
       refine ⟨ret_bool (goodB_false fun hg => ?_).symm, Gr.wr HG1.out HW3.out (fun b hb => by simp at hb; omega)⟩
       have := (hg k HUP.out hlt q5[c] (by rw [HKN.out]; exact List.getElem_mem hlc)).1
       have := HCK.out
       omega
      ·by_cases hcn : q5[c] ≤ (t0.length : Int) - 1
       ·obtain ⟨m, hm⟩ : ∃ m : Nat, q5[c] = m := ⟨q5[c].toNat, by omega⟩
        rw [hm] at eL hck hcn
        have HM := Lib.hid hm
        have hml : m < t0.length := by omega
        have m0 : (0 : Int) ≤ (m : Int) := by omega
        have m1 : (m : Int) < (t0.length : Int) := by omega
        have HCK := Lib.hid (And.intro hck hcn)
        clear hm
        have e5 := HV3.out.cell (k := m) (by have := HFL3.out.1; omega)
        have ze5 := blk e5
        have fz5 := HV3.out.frozen m
        go_wp2_with fail
        refine (nodeIn_yes t0 _ _ HRT.out m0 (by have := HCK.out; omega)).mono ?_
        rintro e w' ⟨rfl, x4, rfl⟩
        go_wp2_with fail
        refine ⟨⟨c + 1, fl3.set m true, by omega, Lib.hid ?_, Lib.hid ?_, Lib.hid ?_, Lib.hid ?_, by go_num⟩, by simp [intOf]; omega⟩
        ·exact (HW3.out.setCell (List.mem_singleton.2 rfl) _).gr gd
        ·exact (HV3.out.set m true).gr gd
        ·exact FL.set HFL3.out hlt (by rw [HKN.out]; exact hlc) (by have := HM.out; simp only [HKN.out]; exact this) hml
        ·intro j h hj
         by_cases e : j < c
         ·exact HB3.out j h e
         ·obtain rfl : j = c := by omega
          have h1 := HM.out
          have h2 := HCK.out
          omega
       ·have HCN := Lib.hid hcn
        go_wp2_with fail
        refine (nodeIn_no t0 _ _ HRT.out (.inr (by omega))).mono ?_
        rintro e w' ⟨rfl, x4, rfl⟩
        go_wp2_with fail
        go_ret
        refine ⟨ret_bool (goodB_false fun hg => ?_).symm, (Gr.wr HG1.out HW3.out (fun b hb => by simp at hb; omega)).trans gd⟩
        have := (hg k HUP.out hlt q5[c] (by rw [HKN.out]; exact List.getElem_mem hlc)).2
        have := HCN.out
        omega
     ·obtain rfl : c = q5.length := by omega
      go_wp2_with fail
      refine ⟨⟨k + 1, fl3, by omega, by omega, HW3, HV3, Lib.hid ?_, Lib.hid ?_, by go_num⟩, by simp [intOf]; omega⟩
      ·exact FL.next hlt (by rw [HKN.out]; exact HFL3.out) HUP.out
      ·intro m hm hu
       by_cases e : m < k
       ·exact HK.out m e hu
       ·obtain rfl : m = k := by omega
        intro h x hx
        rw [HKN.out] at hx
        obtain ⟨j, hj, rfl⟩ := List.mem_iff_getElem.1 hx
        exact HB3.out j hj hj
   ·have hnup : ¬ Up t0 i k := fun hu => hm (by
     have := (HFL.out.at hlt).2 hu
     rw [List.getElem?_eq_getElem (by omega)] at this
     exact Option.some.inj this)
    have hmf : fl[k]'(by omega) = false := by simpa using hm
    rw [hmf] at v2
    have HNU := Lib.hid hnup
    clear hm hmf hnup
    have iw : IntKind.i64.wrap ((k : Int) + 1) = (k : Int) + 1 := IntWalk.i64_in _ (by omega)
    go_wp2_with fail
    refine ⟨⟨k + 1, fl, by omega, by omega, HW, HV, Lib.hid (HFL.out.skip HNU.out), Lib.hid (fun m hm hu => ?_), by go_num⟩, by simp [intOf]; omega⟩
    by_cases e : m < k
    ·exact HK.out m e hu
    ·obtain rfl : m = k := by omega
     exact absurd hu HNU.out
  ·go_wp2_with fail
   go_ret
   refine ⟨ret_bool (goodB_true fun j hu => ?_).symm, Gr.wr HG1.out HW.out (fun b hb => by simp at hb; omega)⟩
   by_cases hj : j < k
   ·exact HK.out j hj hu
   ·intro h
    omega
end Go.Proofs.Ytmfcagcanhmdbaa

namespace Go.Proofs.Ytmfcagcanhmdbaa
open Go.RowKit
set_option linter.unusedVariables false
set_option linter.unusedSimpArgs false

set_option maxRecDepth 10000 in
set_option maxHeartbeats 8000000 in
theorem copyStore_any {fs : List Nat} {cs : Array Value} (s : GStore) (w : World) (hs : Rd.rd fs w cs.toList s) (hl1 : s.length ≤ 2097152) (hl2 : ∀ c ∈ s, c.2.2.length ≤ 1048576) :
  Calls Try.prog 36 #[.agg cs] w (CopiedS w s) := by
 obtain ⟨i0, hi, hz0, hz1, hz2⟩ := info_parts Try.infoCell
 have HZ := Lib.hid (And.intro hi (And.intro hz0 (And.intro hz1 hz2)))
 clear hi hz0 hz1 hz2
 have HL2 := Lib.hid hl2
 clear hl2
 have HS := Lib.hid hs
 obtain ⟨s0, rfl⟩ : ∃ y, y = s := ⟨s, rfl⟩
 obtain ⟨vs0, fs0, rfl, hfps, hs0⟩ := rdStore_inv s0 hs
 have FPs := Lib.hid hfps
 clear hfps
 obtain ⟨as0, ks0, rfl, os01, os02, os03⟩ := hs0.open
 clear hs
 have hl : s0.length ≤ 2097152 := hl1
 clear hl1
 go_enter Try.func36, Try.ntmps36
 go_wp2_with fail
 generalize hB : ((w.alloc (.cells #[.slice as0 s0.length ks0] 32)).alloc (.cells #[.slice none 0 0] 32)).alloc (.cells #[.slice none 0 0] 32) = B
 have gB : Gr w B := by rw [← hB]; exact gd
 have vr : VRow B (w.heap.size + 1) 32 [.slice none 0 0] := by
  rw [← hB]
  exact (VRow.new (A := (w.alloc (.cells #[.slice as0 s0.length ks0] 32))) (by simp)).gr gd
 have vo : VRow B (w.heap.size + 1 + 1) 32 [.slice none 0 0] := by
  rw [← hB]
  exact VRow.new (by simp)
 have sB : B.heap.size = w.heap.size + 3 := by rw [← hB]; simp
 have HVR := Lib.hid vr
 have HVO := Lib.hid vo
 clear hB vr vo
 go_loopw [10] (fun s10 wr => ∃ (k : Nat) (v : Value) (F : List Nat), k ≤ s0.length ∧ Hid (Gr w wr) ∧ B.heap.size ≤ wr.heap.size ∧ Hid (VRow wr (w.heap.size + 1) 32 [.slice none 0 0]) ∧ Hid (VRow wr (w.heap.size + 1 + 1) 32 [v]) ∧ Hid (OwnC B wr v F (s0.take k)) ∧ s10 = .int .i64 k) (fun s10 _ => s0.length - (intOf s10).toNat)
 case atStart => exact ⟨0, _, _, by omega, Lib.hid gB, Nat.le_refl _, HVR, HVO, Lib.hid (OwnC.nil B B), rfl⟩
 case round =>
  obtain ⟨k, v, F, hk, HG, hsz, HR3, HO3, HC3, rfl⟩ := hrel
  rename World => W3
  by_cases hlt : k < s0.length
  ·skip
   obtain ⟨b, off, rfl, hbb⟩ := os03 k hlt
   obtain ⟨csq, feq, hcq, hrq, -⟩ := hs0.at hlt
   obtain ⟨yq, hyq⟩ : ∃ y, y = s0[k] := ⟨_, rfl⟩
   rw [← hyq] at hrq
   have HYq := Lib.hid hyq
   have HRq := Lib.hid hrq
   obtain ⟨q0, q1, q2⟩ := yq
   obtain ⟨vq2, fq2, hcsq, -, hq0, hq1, hq2⟩ := rdCell_inv (cs := csq.toArray) q0 q1 q2 (by simpa using hrq)
   obtain rfl : csq = [.string q0, .int .i64 q1, vq2] := by have := congrArg Array.toList hcsq; simpa using this
   obtain ⟨aq2, kq2, rfl, oq21, oq22, oq23⟩ := hq2.open
   have qz0 := HG.out.keep (show w.cell? ⟨b, off + k * 3, none⟩ = some (.string q0) from by simpa [Rd.n] using hcq 0 _ rfl)
   have qz1 := HG.out.keep (show w.cell? ⟨b, off + k * 3 + 1, none⟩ = some (.int .i64 q1) from hcq 1 _ rfl)
   have qz2 := HG.out.keep (show w.cell? ⟨b, off + k * 3 + 2, none⟩ = some (.slice aq2 q2.length kq2) from hcq 2 _ rfl)
   have qzb := blk qz0
   clear hcsq hcq hrq hyq
   have hql : q2.length ≤ 1048576 := by
    have := HL2.out (q0, q1, q2) (by rw [HYq.out]; exact List.getElem_mem hlt)
    exact this
   have HQ := Lib.hid (And.intro hq0 hq1)
   have HQ2 := Lib.hid hq2
   have k0 : (0 : Int) ≤ (k : Int) := by omega
   have k1 : (k : Int) < (s0.length : Int) := by omega
   have iw : IntKind.i64.wrap ((k : Int) + 1) = (k : Int) + 1 := IntWalk.i64_in _ (by omega)
   have o0 := HO3.out.box
   have zo0 := blk o0
   obtain ⟨T, hT⟩ : ∃ T, T = s0.take k := ⟨_, rfl⟩
   have hlk : T.length = k := by rw [hT, List.length_take]; omega
   rw [← hT] at HC3
   have HTT := Lib.hid hT
   clear hT
   obtain ⟨ra, rc, hform⟩ := HC3.out.form
   subst hform
   have hFl := HC3.out.lt
   have hFg := HC3.out.ge
   obtain ⟨fps, hO, hnd, hge, hFE⟩ := HC3.out
   have HO := Lib.hid hO
   have HND := Lib.hid (And.intro hnd hge)
   have HFL := Lib.hid hFl
   have HFG := Lib.hid hFg
   have HFE := Lib.hid hFE
   have HLK := Lib.hid hlk
   have hso : w.heap.size + 1 + 1 ∉ (Value.slice ra T.length rc).ownBlock.toList := fun hm => by
    have := hFg _ (by rw [hFE]; exact List.mem_append_left _ hm)
    omega
   have hsr : w.heap.size + 1 ∉ (Value.slice ra T.length rc).ownBlock.toList := fun hm => by
    have := hFg _ (by rw [hFE]; exact List.mem_append_left _ hm)
    omega
   have HSO := Lib.hid hso
   have HSR := Lib.hid hsr
   clear hq0 hq1 hO hnd hge hFE hFl hFg hlk hso hsr
   go_wp2_with fail
   refine (cloneInt_any _ _ q2 _ (HQ2.out.gr (HG.out.trans gd)) hql).mono ?_
   rintro e w' ⟨v5, f5, rfl, s5, r5, y5, rfl⟩
   obtain ⟨a5, c5, rfl, -, -, -⟩ := s5.open
   have S5 := Lib.hid s5
   have hr5 : ∀ b ∈ f5, W3.heap.size < b := fun b hb => by have := r5.2 b hb; simp at this; omega
   have hn5 : f5.Nodup := r5.1
   have HR5 := Lib.hid (And.intro hn5 hr5)
   have R5 := Lib.hid r5
   have hap : ∀ b, (Value.slice ra T.length rc).ownBlock = some b → b ∉ [f5].flatten := fun b hb hm => by
    have h1 := HFL.out b (by rw [HFE.out]; exact List.mem_append_left _ (by rw [hb]; simp))
    have h2 := hr5 b (by simpa using hm)
    omega
   have HAP := Lib.hid hap
   have HN5 := Lib.hid (show ∀ b ∈ f5, B.heap.size ≤ b ∧ b ∉ fps.flatten from fun b hb => ⟨by have := hr5 b hb; omega, fun hm => by
    have h1 := HFL.out b (by rw [HFE.out]; exact List.mem_append_right _ hm)
    have h2 := hr5 b hb
    omega⟩)
   clear s5 r5 hr5 hn5 hap
   go_wp2_with (first | (at_builtin; refine wpList_append_RB (α := GCell) (wg := w) (w0 := B) (HG.out.trans gd) gB.size (by simp; omega) rfl _ _ 30 rfl 78 i0 (.agg #[.string ByteArray.empty, .int .i64 0, .slice none 0 0]) 48 Try.underlying30 HZ.out.1 HZ.out.2.1 HZ.out.2.2.1 HZ.out.2.2.2 rfl _ fps _ (by rfl) (HO.out.gr gd) _ [f5] [(q0, q1, q2)] (by rfl) (SrcR.one (by simp) (rdCell_mk q0 q1 q2 HQ.out.1 HQ.out.2 (S5.out.moved R5.out gd (by simp)))) HAP.out (by rw [HLK.out]; unfold maxLen; simp; omega) (by rw [HLK.out]; simp; omega) ?_; intro v3 w3 h1 h2 h3 h4; have t3 : OwnC B w3 v3 (v3.ownBlock.toList ++ (fps.flatten ++ f5)) (T ++ [(q0, q1, q2)]) := OwnC.of_append h1 HND.out.1 HND.out.2 HR5.out.1 HN5.out; obtain ⟨va3, vc3, hf3⟩ := t3.form; rw [show (T ++ [(q0, q1, q2)]).length = T.length + 1 by simp] at hf3; subst hf3; replace t3 := Lib.hid t3; have hw3 := (gd : Gr W3 (((W3.alloc (.cells #[.string q0, .int .i64 q1, .slice a5 q2.length c5] 78)).ext y5).alloc (.cells #[.string q0, .int .i64 q1, .slice a5 q2.length c5] 78))).toWr _ |>.trans h2; have vo3 := HO3.out.wr hw3 HSO.out; have d0 := vo3.box; have fd0 := vo3.frozen 0; have zd0 := blk d0; have hs3 := hw3.size; have HW3 := Lib.hid hw3; have HVO3 := Lib.hid vo3; replace h3 := Lib.hid h3; replace h4 := Lib.hid h4; clear h1 h2 hw3 vo3))
   have h30 := h3.out
   refine ⟨⟨k + 1, .slice va3 (T.length + 1) vc3, (Value.slice va3 (T.length + 1) vc3).ownBlock.toList ++ (fps.flatten ++ f5), by omega, Lib.hid (h4.out.setCell (p := ⟨w.heap.size + 1 + 1, 0, none⟩) (by simp <;> omega) _), by rw [size_setCell']; omega, Lib.hid ((HR3.out.wr HW3.out HSR.out).ne (by omega)), Lib.hid (HVO3.out.set 0 _), Lib.hid ?_, by go_num⟩, by simp [intOf]; omega⟩
   have hq : s0.take (k + 1) = T ++ [(q0, q1, q2)] := by rw [List.take_succ_eq_append_getElem hlt, HTT.out, HYq.out]
   rw [hq]
   exact t3.out.wr ((Wr.refl [w.heap.size + 1 + 1] _).setCell (by simp) _) (fun b hb hm => by
    have := t3.out.ge b hb
    simp at hm
    omega)
  ·obtain rfl : k = s0.length := by omega
   have hC := HC3.out
   rw [List.take_length] at hC
   obtain ⟨va, vc, hform⟩ := hC.form
   subst hform
   have HC := Lib.hid hC
   clear hC
   have y0 := HO3.out.box
   have x0 := HR3.out.box
   have zy0 := blk y0
   have zx0 := blk x0
   have fx0 := HR3.out.frozen 0
   go_wp2_with fail
   generalize hF : W3.setCell ⟨w.heap.size + 1, 0, none⟩ (.slice va s0.length vc) = WF
   have vF : VRow WF (w.heap.size + 1) 32 [.slice va s0.length vc] := by rw [← hF]; exact HR3.out.set 0 _
   have tF : OwnC B WF (.slice va s0.length vc) F s0 := by
    rw [← hF]
    have h1 := HC.out
    exact h1.wr ((Wr.refl [w.heap.size + 1] _).setCell (by simp) _) (fun b hb hm => by
     have := h1.ge b hb
     simp at hm
     omega)
   have gF : Gr w WF := by rw [← hF]; exact HG.out.setCell (p := ⟨w.heap.size + 1, 0, none⟩) (by simp) _
   have r0' := vF.box
   clear hF vF
   exact bodyPost_ret (v := .agg #[.slice va s0.length vc]) (by simp [results, Try.results36, go_sem, r0']) rfl ⟨_, F, rfl, tF.lower gB.size, gF⟩
end Go.Proofs.Ytmfcagcanhmdbaa

namespace Go.Proofs.Ytmfcagcanhmdbaa
open Go.RowKit
set_option linter.unusedVariables false
set_option linter.unusedSimpArgs false

theorem and32 (a : Nat) (ha : a < 4294967296) : bits .and .u64 (a : Int) 4294967295 = (a : Int) := by
 have h := bits_and_u64_nat a 4294967295 (by omega) (by omega)
 rw [show a &&& 4294967295 = a % 4294967296 from Nat.and_two_pow_sub_one_eq_mod a 32, Nat.mod_eq_of_lt ha] at h
 exact h
theorem wrapU (a : Nat) (ha : a < 4294967296) : IntKind.u64.wrap (a : Int) = (a : Int) := by rw [IntKind.wrap_u64]; omega

set_option maxHeartbeats 1000000 in
theorem mul64One_any (n : Nat) (hn : n ≤ 1048576) (w : World) :
  Calls Try.prog 91 #[.int .u64 1, .int .u64 (n : Int)] w fun e w' => e = .returned (.tuple #[.int .u64 0, .int .u64 (n : Int)]) ∧ w = w' := by
 have e1 : bits .and .u64 1 4294967295 = 1 := and32 1 (by omega)
 have e2 := and32 n (by omega)
 have e3 : (n : Int) / 4294967296 = 0 := by omega
 have e4 := wrapU n (by omega)
 have e5 : bits .and .u64 0 4294967295 = 0 := and32 0 (by omega)
 go_enter Try.func91, Try.ntmps91
 go_wp2
 go_ret2
 exact ⟨rfl, rfl⟩

set_option maxHeartbeats 1000000 in
theorem mulOne_any (n : Nat) (hn : n ≤ 1048576) (w : World) :
  Calls Try.prog 72 #[.int .u64 1, .int .u64 (n : Int)] w fun e w' => e = .returned (.tuple #[.int .u64 0, .int .u64 (n : Int)]) ∧ w = w' := by
 go_enter Try.func72, Try.ntmps72
 go_wp2_with fail
 refine (mul64One_any n hn _).mono ?_
 rintro e w' ⟨rfl, rfl⟩
 go_wp2_with fail
 go_ret2
 exact ⟨rfl, rfl⟩

section
variable {P : Program}
theorem step_copy {W : World} {ops : Array Oper} {o : Oper} {a : Act} {K : Act → World → Prop} {Q : Exit → Act → World → Prop} {E : Prop} (hgd : o.guard = none) (d s : Operand) (dT sT : TypeId)
  (ho : o.op = .call { callee := .builtin .copy, args := #[d, s], argTypes := #[dT, sT] }) (elem : TypeId) (hu : P.underlying dT = some (.slice elem)) (hsz : (P.info? elem).map (·.size) = some 1)
  (g off dLen dCap : Nat) (ad : Addr) (sLen sCap : Nat) (hd : a.eval d = .slice (some ⟨g, off, none⟩) dLen dCap) (hs : a.eval s = .slice (some ad) sLen sCap)
  (cur : Array Value) (t : TypeId) (hg : W.heap[g]? = some (.cells cur t (0, 0))) (cs : List Value) (hn : cs.length = Nat.min sLen dLen)
  (hsrc : ∀ j v, cs[j]? = some v → W.cell? (ad.add j) = some v) (hfit : off + cs.length ≤ cur.size) (h1 : ∀ v ∈ cs, v.oneCell' = true)
  (h : K (a.put o.dst (goInt cs.length)) (W.setRow g (cur.toList.take off ++ cs ++ cur.toList.drop (off + cs.length)).toArray)) :
  if Region.wanted o (yielded ops a.tmps) = true then Oper.wp P o a W K Q else E := by
 have hw : Region.wanted o (yielded ops a.tmps) = true := by simp [Region.wanted, hgd]
 rw [if_pos hw]
 have hrun := run_copy_row (P := P) W dT sT o.type elem g off dLen dCap ad sLen sCap cur t cs hu hsz hg hn hsrc hfit h1
 unfold Oper.wp
 simp only [execOp, ho, resolve, invoke, builtin, Sem.run_bind, Sem.run_pure, Result.andThen_ok, List.map_toArray, List.map_cons, List.map_nil, hd, hs, hrun]
 exact h
end

theorem setRow_wr (W : World) (g : Nat) (cs : Array Value) : Wr [g] W (W.setRow g cs) :=
 ⟨rfl, rfl, rfl, by simp [World.setRow], Nat.le_refl _, fun k hk hn => setRow_other W g k cs (by simpa using hn)⟩

def repV (n c : Nat) (y : Int) : List Value := (List.replicate c y ++ List.replicate (n - c) 0).map (Value.int .i64)
theorem repV_len {n c : Nat} (y : Int) (h : c ≤ n) : (repV n c y).length = n := by simp [repV]; omega
theorem repV_copy {n c k : Nat} (y : Int) (h : c + k ≤ n) : (repV n c y).take c ++ (List.replicate k (Value.int .i64 y)) ++ (repV n c y).drop (c + k) = repV n (c + k) y := by
 unfold repV
 simp only [List.map_append, List.map_replicate]
 rw [List.take_append_of_le_length (by simp), List.take_of_length_le (by simp), List.drop_append, List.drop_of_length_le (by simp), List.length_replicate, List.drop_replicate]
 have e1 : c + k - c = k := by omega
 have e2 : n - c - k = n - (c + k) := by omega
 rw [e1, e2, List.nil_append, ← List.replicate_append_replicate]

set_option maxRecDepth 10000 in
set_option maxHeartbeats 4000000 in
theorem repeatOne_any (y : Int) (hy : (Lit.int .i64 y).wf = true) (n : Nat) (hn : n ≤ 1048576) (ab ao cap : Nat) (w : World) (hc : w.cell? ⟨ab, ao, none⟩ = some (.int .i64 y)) :
  Calls Try.prog 40 #[.slice (some ⟨ab, ao, none⟩) 1 cap, .int .i64 (n : Int)] w fun e w' => ∃ b cp, e = .returned (.slice (some ⟨b, 0, none⟩) n cp) ∧ n ≤ cp ∧ VRow w' b 3 (repV n n y) ∧ w.heap.size ≤ b ∧ Gr w w' := by
 have hal := blk hc
 obtain ⟨i0, hi, hz0, hz1, hz2⟩ := info_parts Try.infoIntC
 have hmi := fun (W : World) => run_make (P := Try.prog) W 59 3 i0 (.int .i64 0) Try.underlying59 hi hz0 .i64 .i64 n n (by omega) (by omega) (by rw [hz2]; omega) (by omega)
 have HSZ := Lib.hid (show (Try.prog.info? 3).map (·.size) = some 1 by rw [hi, Option.map_some, hz1])
 rw [hz1] at hmi
 clear hi hz0 hz1 hz2
 simp only [Int.toNat_natCast, Nat.mul_one] at hmi
 have HI0 := Lib.hid (fun W : World => IRow.made W n 3)
 have hci : (Value.int .i64 0).cells = #[.int .i64 0] := rfl
 rw [hci] at hmi
 generalize madeCells #[.int .i64 0] n = C1 at hmi HI0
 clear hci
 go_enter Try.func40, Try.ntmps40
 go_wp2_with fail
 refine (mulOne_any n hn _).mono ?_
 rintro e w' ⟨rfl, rfl⟩
 have hn0 : (0 : Int) ≤ (n : Int) := by omega
 have hn1 : (n : Int) ≤ 9223372036854775807 := by omega
 go_wp2_with fail
 by_cases h0 : n = 0
 ·subst h0
  have hcp := run_copy_none (P := Try.prog) (w.alloc (.cells C1 3)) 59 59 3 3 (some ⟨w.heap.size, 0, none⟩) (some ⟨ab, ao, none⟩) 0 0 1 cap Try.underlying59 HSZ.out rfl
  rw [hcp]
  clear hcp
  go_wp2_with fail
  have HI := Lib.hid (HI0.out w)
  go_loopw [8] (fun s8 wr => s8 = .int .i64 0 ∧ wr = w.alloc (.cells C1 3)) (fun _ _ => 0)
  case atStart => exact ⟨rfl, rfl⟩
  case round =>
   obtain ⟨rfl, rfl⟩ := hrel
   go_wp2_with fail
   go_ret
   exact ⟨w.heap.size, 0, rfl, Nat.le_refl _, by have := HI.out; exact this, Nat.le_refl _, gd⟩
 ·have hpos : 0 < n := by omega
  have hC1 : C1 = ((List.replicate n (0 : Int)).map (Value.int .i64)).toArray := by
   have h1 := HI0.out w
   have h2 : (w.alloc (.cells C1 3)).heap[w.heap.size]? = _ := h1
   rw [heap_alloc_new] at h2
   simpa using h2
  have hcp := run_copy_row (P := Try.prog) (w.alloc (.cells C1 3)) 59 59 3 3 w.heap.size 0 n n ⟨ab, ao, none⟩ 1 cap C1 3 [.int .i64 y] Try.underlying59 HSZ.out (heap_alloc_new w _) (by show 1 = Nat.min 1 n; exact (Nat.min_eq_left hpos).symm) (fun j v hj => by
   cases j with
   | zero => obtain rfl := Option.some.inj hj; exact Gr.keep gd hc
   | succ j => simp at hj) (by rw [hC1]; simp; omega) (fun v hv => by simp at hv; subst hv; rfl)
  generalize hW2 : World.setRow _ _ _ = W2 at hcp
  have w2 : Wr [w.heap.size] (w.alloc (.cells C1 3)) W2 := by rw [← hW2]; exact setRow_wr _ _ _
  have v2 : VRow W2 w.heap.size 3 (repV n 1 y) := by
   rw [← hW2]
   have h1 := repV_copy (n := n) (c := 0) (k := 1) y (by omega)
   have h2 := setRow_heap (w.alloc (.cells C1 3)) w.heap.size C1 (C1.toList.take 0 ++ [Value.int .i64 y] ++ C1.toList.drop (0 + [Value.int .i64 y].length)).toArray 3 (0, 0) (heap_alloc_new w _)
   show (World.setRow _ _ _).heap[w.heap.size]? = _
   rw [h2]
   have e : C1.toList = repV n 0 y := by rw [hC1]; simp [repV]
   rw [e]
   have h3 : [Value.int .i64 y] = List.replicate 1 (Value.int .i64 y) := rfl
   rw [h3]
   rw [List.length_replicate, h1]
  have g2 : Gr w W2 := Gr.wr (gd : Gr w (w.alloc (.cells C1 3))) w2 (fun b hb => by simp at hb; omega)
  have HV2 := Lib.hid v2
  have HG2 := Lib.hid g2
  rw [hcp]
  clear hW2 w2 v2 g2 hC1 hcp
  go_wp2_with fail
  go_loopw [8] (fun s8 wr => ∃ c : Nat, 0 < c ∧ c ≤ n ∧ Hid (Gr w wr) ∧ Hid (VRow wr w.heap.size 3 (repV n c y)) ∧ s8 = .int .i64 c) (fun s8 _ => n - (intOf s8).toNat)
  case atStart => exact ⟨1, by omega, by omega, HG2, HV2, rfl⟩
  case round =>
   obtain ⟨c, hc0, hcn, HG, HV, rfl⟩ := hrel
   rename World => W3
   by_cases hlt : c < n
   ·obtain ⟨k, hk⟩ : ∃ k, k = Nat.min c (n - c) := ⟨_, rfl⟩
    have hk1 : k ≤ c := by rw [hk]; exact Nat.min_le_left _ _
    have hk2 : k ≤ n - c := by rw [hk]; exact Nat.min_le_right _ _
    have hk3 : 0 < k := by rw [hk]; exact Nat.lt_min.2 ⟨hc0, by omega⟩
    have HK := Lib.hid hk
    have hrl := repV_len (n := n) y hcn
    have hrep : (repV n c y).take k = List.replicate k (Value.int .i64 y) := by
     unfold repV
     rw [List.map_append, List.map_replicate, List.take_append_of_le_length (by simp; omega), List.take_replicate, Nat.min_eq_left hk1]
    have HREP := Lib.hid hrep
    have HRL := Lib.hid hrl
    have c0 : (0 : Int) ≤ (c : Int) := by omega
    have c1 : (c : Int) ≤ (n : Int) := by omega
    have c2 : (c : Int) < (n : Int) := by omega
    clear hk hrep hrl
    go_wp2_with fail
    refine wp_region_U (fun w' => Gr w w') 9 (by kernel_rfl) (HG.out.drew) (fun hU => ?_)
    refine anyU_q 0 ?_
    try simp only [Act.put, uq1, uq2, uq3]
    refine anyU_q 1 ?_
    try simp only [Act.put, uq1, uq2, uq3]
    refine anyU_q 2 ?_
    try simp only [Act.put, uq1, uq2, uq3]
    refine anyU_q 4 ?_
    try simp only [Act.put, uq1, uq2, uq3]
    refine anyU_q 5 ?_
    try simp only [Act.put, uq1, uq2, uq3]
    refine anyU_q 3 ?_
    try simp only [Act.put, uq1, uq2, uq3]
    refine anyU_q 6 ?_
    try simp only [Act.put, uq1, uq2, uq3]
    refine anyU_ready (rs := [7]) (by kernel_rfl) (by simp) ?_
    refine (ReadyU.cons rfl (fun K hK => ?_) ReadyU.nil)
    refine step_copy (by rfl) _ _ _ _ (by rfl) 3 Try.underlying59 HSZ.out w.heap.size c (n - c) (n - c) ⟨w.heap.size, 0, none⟩ c n (by go_simp; omega) (by go_simp) (repV n c y).toArray 3 (HV.out.gr gd) (List.replicate k (Value.int .i64 y)) (by rw [List.length_replicate]; exact HK.out) (fun j v hj => by
     have hj1 : j < k := by have := (List.getElem?_eq_some_iff.1 hj).1; simpa using this
     have hj2 : (repV n c y)[j]? = some v := by rw [← List.getElem?_take_of_lt hj1, HREP.out]; exact hj
     obtain ⟨hj3, rfl⟩ := List.getElem?_eq_some_iff.1 hj2
     have e : (⟨w.heap.size, 0, none⟩ : Addr).add j = ⟨w.heap.size, j, none⟩ := by unfold Addr.add; split <;> simp_all
     rw [e]
     exact (HV.out.gr gd).cell hj3) (by rw [List.length_replicate]; simp [HRL.out]; omega) (fun v hv => by rw [(List.mem_replicate.1 hv).2]; rfl) ?_
    generalize hW4 : World.setRow _ _ _ = W4
    have w4 : Wr [w.heap.size] W3 W4 := by rw [← hW4]; exact ((gd : Gr W3 W3.drew).toWr _).trans (setRow_wr _ _ _)
    have v4 : VRow W4 w.heap.size 3 (repV n (c + k) y) := by
     rw [← hW4]
     show (World.setRow _ _ _).heap[w.heap.size]? = _
     have h1 := repV_copy (n := n) (c := c) (k := k) y (by omega)
     rw [setRow_heap _ w.heap.size (repV n c y).toArray _ 3 (0, 0) (HV.out.gr gd), List.length_replicate]
     rw [← h1]
    have HV4 := Lib.hid v4
    have g4 : Gr w W4 := Gr.wr HG.out w4 (fun b hb => by simp at hb; omega)
    have HG4 := Lib.hid g4
    clear hW4 w4 v4
    refine hK.out _ _ g4 (fun hU1 => ?_)
    clear hK K g4
    try simp only [Act.put, uq1, uq2, uq3]
    refine anyU_q 8 ?_
    try simp only [Act.put, uq1, uq2, uq3]
    refine anyU_ready (rs := [9]) (by kernel_rfl) (by simp) ?_
    refine ReadyU.last rfl (fun K hK => ?_)
    go_simp
    refine hK.out _ _ ?_
    clear hK K
    try simp only [Act.put, uq1, uq2, uq3]
    refine anyU_done (by kernel_rfl) ?_ _
    go_wp2_with fail
    refine ⟨⟨c + k, by omega, by omega, HG4, HV4, ?_⟩, ?_⟩
    ·have ew : IntKind.i64.wrap ((c : Int) + (k : Int)) = (c : Int) + (k : Int) := IntWalk.i64_in _ (by omega)
     rw [ew]
     exact congrArg _ (by omega)
    ·simp only [intOf]
     have ew : IntKind.i64.wrap ((c : Int) + (k : Int)) = (c : Int) + (k : Int) := IntWalk.i64_in _ (by omega)
     rw [ew]
     omega
   ·have hcn2 : c = n := by omega
    subst hcn2
    go_wp2_with fail
    go_ret
    exact ⟨w.heap.size, c, rfl, Nat.le_refl _, HV.out, Nat.le_refl _, HG.out⟩
end Go.Proofs.Ytmfcagcanhmdbaa

namespace Go.Proofs.Ytmfcagcanhmdbaa
open Go.RowKit

set_option maxHeartbeats 2000000 in
theorem implValid_any (fp : List Nat) (cs : Array Value) (xs : List GCell) (w : World) (hx : Rd.rd fp w cs.toList xs) :
  Calls Try.prog 22 #[.agg cs] w fun e w' => e = .returned (.bool (validB xs)) ∧ Gr w w' := by
 have hrx := hx
 obtain ⟨v, f, rfl, -, hu⟩ := rdStore_inv xs hx
 obtain ⟨a, ca, rfl, h1, h2, h3⟩ := hu.open
 clear hx
 go_enter Try.func22, Try.ntmps22
 go_wp2
 go_loopw [8, 3, 4] (fun s8 s3 s4 wr => ∃ k : Nat, k ≤ xs.length ∧ (∀ i (h : i < xs.length), i < k → (∀ j (hj : j < xs.length), j < i → xs[j] ≠ xs[i]) ∧ ∀ c ∈ xs[i].2.2, 0 ≤ c ∧ c ≤ (i : Int) - 1) ∧ (∃ x, wr = (w.alloc (.cells #[.slice a xs.length ca] 32)).ext x) ∧ s8 = .int .i64 k) (fun s8 s3 s4 _ => xs.length - (intOf s8).toNat)
 case atStart => exact ⟨0, by omega, by omega, ⟨⟨#[], 0⟩, (ext_zero _).symm⟩, rfl⟩
 case round =>
  obtain ⟨k, hk, ht, ⟨x, rfl⟩, rfl⟩ := hrel
  have hT := Lib.hid ht
  clear ht
  by_cases hlt : k < xs.length
  ·obtain ⟨b, off, rfl, hb⟩ := h3 k hlt
   obtain ⟨csq, feq, hcq, hrq, -⟩ := hu.at hlt
   have hrdq := hrq
   generalize hyq : xs[k] = yq at hrq
   obtain ⟨q0, q1, q2⟩ := yq
   obtain ⟨vq2, fq2, hcsq, -, hq0, hq1, hq2⟩ := rdCell_inv (cs := csq.toArray) q0 q1 q2 (by simpa using hrq)
   obtain rfl : csq = [.string q0, .int .i64 q1, vq2] := by have := congrArg Array.toList hcsq; simpa using this
   have z0 : w.cell? ⟨b, off + k * 3, none⟩ = some (.string q0) := by simpa [Rd.n] using hcq 0 _ rfl
   have z1 : w.cell? ⟨b, off + k * 3 + 1, none⟩ = some (.int .i64 q1) := hcq 1 _ rfl
   have z2 : w.cell? ⟨b, off + k * 3 + 2, none⟩ = some vq2 := hcq 2 _ rfl
   obtain ⟨aq, cq, rfl, k1, k2, k3⟩ := hq2.open
   have HY := Lib.hid hyq
   obtain ⟨ft, htk⟩ := hu.takeK hk
   clear h3 hcsq hcq hrq hyq k3
   go_wp2_with fail
   generalize hW : ((((w.alloc (Obj.cells #[Value.slice (some ⟨b, off, none⟩) xs.length ca] 32)).ext x).alloc (Obj.cells #[Value.int IntKind.i64 k] 3)).alloc (Obj.cells #[Value.string q0, Value.int IntKind.i64 q1, Value.slice aq q2.length cq] 78)) = W
   have gW : Gr w W := by rw [← hW]; exact gd
   have gS : Gr (w.alloc (Obj.cells #[Value.slice (some ⟨b, off, none⟩) xs.length ca] 32)) W := by rw [← hW]; exact gd
   have gI : Gr (((w.alloc (Obj.cells #[Value.slice (some ⟨b, off, none⟩) xs.length ca] 32)).ext x).alloc (Obj.cells #[Value.int IntKind.i64 k] 3)) W := by rw [← hW]; exact gd
   have gC : Gr ((((w.alloc (Obj.cells #[Value.slice (some ⟨b, off, none⟩) xs.length ca] 32)).ext x).alloc (Obj.cells #[Value.int IntKind.i64 k] 3)).alloc (Obj.cells #[Value.string q0, Value.int IntKind.i64 q1, Value.slice aq q2.length cq] 78)) W := by rw [← hW]; exact gd
   have l0 : ∀ w' : World, Gr W w' → w'.cell? ⟨w.heap.size, 0, none⟩ = some (.slice (some ⟨b, off, none⟩) xs.length ca) := fun w' hg => (gS.trans hg).keep (box_cell rfl rfl)
   have m0 : ∀ w' : World, Gr W w' → w'.cell? ⟨w.heap.size + 1 + x.objs.size, 0, none⟩ = some (.int .i64 k) := fun w' hg => (gI.trans hg).keep (box_cell (by simp) rfl)
   have n0 : ∀ w' : World, Gr W w' → w'.cell? ⟨w.heap.size + 1 + x.objs.size + 1, 0, none⟩ = some (.string q0) := fun w' hg => (gC.trans hg).keep (box_cell (by simp) rfl)
   have n1 : ∀ w' : World, Gr W w' → w'.cell? ⟨w.heap.size + 1 + x.objs.size + 1, 1, none⟩ = some (.int .i64 q1) := fun w' hg => (gC.trans hg).keep (box_cell (by simp) rfl)
   have n2 : ∀ w' : World, Gr W w' → w'.cell? ⟨w.heap.size + 1 + x.objs.size + 1, 2, none⟩ = some (.slice aq q2.length cq) := fun w' hg => (gC.trans hg).keep (box_cell (by simp) rfl)
   clear hW
   have hTI : ∀ w' : World, Gr W w' → TestI w' 62 #[.pointer (some ⟨w.heap.size + 1 + x.objs.size, 0, none⟩)] (outOf k) q2 := fun w' hg =>
    ⟨Try.call62, fun y _ z => childTest_any y k _ _ (by omega) (m0 _ (Gr.ext hg _))⟩
   have HTI := Lib.hid hTI
   clear hTI
   have b1 : (0 : Int) ≤ (k : Int) := by omega
   have b2 : (k : Int) ≤ (ca : Int) := by omega
   have b3 : k ≤ ca := by omega
   have l0' := l0 W (Gr.refl W)
   have m0' := m0 W (Gr.refl W)
   have n0' := n0 W (Gr.refl W)
   have n1' := n1 W (Gr.refl W)
   have n2' := n2 W (Gr.refl W)
   have s0 := blk l0'
   have s1 := blk m0'
   have s2 := blk n0'
   have gX := gS
   clear l0 m0 n0 n1 n2 gS gI gC
   by_cases hfound : 0 ≤ idxOf (fun z => decide (z = xs[k])) (xs.take k)
   ·have HF := Lib.hid hfound
    have HD : decide (0 ≤ idxOf (fun z => decide (z = xs[k])) (xs.take k)) = true := decide_eq_true hfound
    clear hfound
    go_wp2_with fail
    refine wp_region_grown (by kernel_rfl) (by kernel_rfl) ?_
    repeat (go_big_quiet_step (first
     | (go_at_call 60; refine grown_call (cellIndex_any _ _ _ _ (xs.take k) xs[k] _ (htk.gr ?_) (Rd.gr hrdq ?_)) <;> exact Gr.ext gW _)
     | (go_at_call 61; refine grown_call (slicesContainsFuncI_any _ _ q2 _ _ _ _ (hq2.gr ?_) (HTI.out _ ?_)) <;> first | exact Gr.ext gW _ | exact Gr.ext (Gr.refl _) _)))
    refine wpQuiet_nil ?_
    intro _ hw'
    obtain ⟨nx, hw''⟩ := hw'
    subst hw''
    go_wp2_with fail
    go_ret
    exact ⟨ret_bool (validB_false fun hv => (any_take_iff hlt).1 HF.out (hv k hlt).1).symm, by exact gW.trans gd⟩
   ·have HF := Lib.hid hfound
    have HD : decide (0 ≤ idxOf (fun z => decide (z = xs[k])) (xs.take k)) = false := decide_eq_false hfound
    clear hfound
    by_cases hany : q2.any (outOf k) = true
    ·have HA := Lib.hid hany
     go_wp2_with fail
     refine wp_region_grown (by kernel_rfl) (by kernel_rfl) ?_
     repeat (go_big_quiet_step (first
      | (go_at_call 60; refine grown_call (cellIndex_any _ _ _ _ (xs.take k) xs[k] _ (htk.gr ?_) (Rd.gr hrdq ?_)) <;> exact Gr.ext gW _)
      | (go_at_call 61; refine grown_call (slicesContainsFuncI_any _ _ q2 _ _ _ _ (hq2.gr ?_) (HTI.out _ ?_)) <;> first | exact Gr.ext gW _ | exact Gr.ext (Gr.refl _) _)))
     refine wpQuiet_nil ?_
     intro _ hw'
     obtain ⟨nx, hw''⟩ := hw'
     subst hw''
     go_wp2_with fail
     go_ret
     refine ⟨ret_bool (validB_false fun hv => any_outOf.1 HA.out fun c hc => ?_).symm, gW.trans gd⟩
     exact (hv k hlt).2 c (by rw [HY.out]; exact hc)
    ·have hany' : q2.any (outOf k) = false := by simpa using hany
     have HA := Lib.hid hany
     clear hany
     go_wp2_with fail
     refine wp_region_grown (by kernel_rfl) (by kernel_rfl) ?_
     repeat (go_big_quiet_step (first
      | (go_at_call 60; refine grown_call (cellIndex_any _ _ _ _ (xs.take k) xs[k] _ (htk.gr ?_) (Rd.gr hrdq ?_)) <;> exact Gr.ext gW _)
      | (go_at_call 61; refine grown_call (slicesContainsFuncI_any _ _ q2 _ _ _ _ (hq2.gr ?_) (HTI.out _ ?_)) <;> first | exact Gr.ext gW _ | exact Gr.ext (Gr.refl _) _)))
     refine wpQuiet_nil ?_
     intro _ hw'
     obtain ⟨nx, hw''⟩ := hw'
     subst hw''
     go_wp2_with fail
     obtain ⟨z, hz⟩ := (gX.trans (Gr.ext (Gr.refl W) nx) : Gr (w.alloc (Obj.cells #[Value.slice (some ⟨b, off, none⟩) xs.length ca] 32)) (W.ext nx))
     refine ⟨⟨k + 1, by omega, fun i hi hik => ?_, ⟨z, hz⟩, by go_num⟩, by simp [intOf]; omega⟩
     by_cases hik' : i < k
     ·exact hT.out i hi hik'
     ·obtain rfl : i = k := by omega
      refine ⟨Classical.byContradiction fun hc => by
       have h1 := HF.out
       have h2 := (any_take_iff hlt).2 hc
       omega, fun c hc => ?_⟩
      rw [HY.out] at hc
      exact (Classical.byContradiction fun hn => HA.out (any_outOf.2 hn) : ∀ c ∈ q2, 0 ≤ c ∧ c ≤ (i : Int) - 1) c hc
  ·go_wp2
   go_ret
   exact ⟨ret_bool (validB_true fun i hi => hT.out i hi (by omega)).symm, gd⟩
end Go.Proofs.Ytmfcagcanhmdbaa
