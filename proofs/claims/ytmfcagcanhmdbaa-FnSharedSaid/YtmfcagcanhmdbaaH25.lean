/- Leaves of expressions drawn. No condition. -/
import Derived.Test.YtmfcagcanhmdbaaH24
import Derived.Test.YtmfcagcanhmdbaaH09
namespace Go.Proofs.Ytmfcagcanhmdbaa
open Go.RowKit
set_option linter.unusedVariables false
set_option linter.unusedSimpArgs false
variable {d : Nat}

theorem wf_in {y : Int} (h0 : -9223372036854775808 ≤ y) (h1 : y ≤ 9223372036854775807) : (Lit.int .i64 y).wf = true := by
 simp only [Lit.wf, Bool.and_eq_true, decide_eq_true_eq]
 have e1 : IntKind.i64.min = -9223372036854775808 := by decide
 have e2 : IntKind.i64.max = 9223372036854775807 := by decide
 omega
def PickS (w : World) (b : Nat) (xs : List ByteArray) (e : Ending) (w' : World) : Prop := ∃ x, x ∈ xs ∧ e = .returned (.string x) ∧ CurR w' b ∧ Wr [b] w w'

set_option maxRecDepth 10000 in
set_option maxHeartbeats 1000000 in
theorem l1Pick_any (b : Nat) (fp : List Nat) (u : Value) (xs : List ByteArray) (w : World) (h : CurR w b) (hu : SlR fp w u xs) (hb : b ∉ fp) (hn : 1 ≤ xs.length) (hn2 : xs.length ≤ 1048576) : Calls Try.prog 94 #[.pointer (some ⟨b, 0, none⟩), u] w (PickS w b xs) := by
 have HC := Lib.hid h
 have HU := Lib.hid hu
 obtain ⟨a, c, rfl, k1, k2, k3⟩ := hu.open
 clear h hu
 go_enter Try.func94, Try.ntmps94
 go_wp2_with fail
 refine (l1Below_any b (xs.length : Int) _ HC.out (by omega) (by omega)).mono ?_
 rintro e w1 ⟨x, rfl, hx0, hx1, hc1, hw1⟩
 obtain ⟨n, rfl⟩ : ∃ n : Nat, x = n := ⟨x.toNat, by omega⟩
 have hnl : n < xs.length := by omega
 obtain ⟨bq, oq, rfl, hbq⟩ := k3 n hnl
 have c1 := ((HU.out.wr hw1 (fun y hy hm => hb (by simp at hm; exact hm ▸ hy))).str_at hnl).1
 have z1 := blk c1
 have HC1 := Lib.hid hc1
 have HW1 := Lib.hid hw1
 obtain ⟨y, hy⟩ : ∃ y, y = xs[n] := ⟨_, rfl⟩
 rw [← hy] at c1
 have HY : Hid (y ∈ xs) := Lib.hid (by rw [hy]; exact List.getElem_mem hnl)
 clear hc1 hw1 k3 hy
 go_wp2_with fail
 go_ret
 exact ⟨y, HY.out, rfl, HC1.out, HW1.out⟩

theorem l4Const_any (n t : Int) (w : World) : Calls Try.prog 115 #[.int .i64 n, .int .i64 t] w fun e w' => e = .returned (.agg #[.int .i64 1, .int .i64 n, .int .i64 0, .int .i64 t, .string ⟨#[]⟩, .string ⟨#[]⟩, .slice none 0 0]) ∧ Gr w w' := by
 go_enter Try.func115, Try.ntmps115
 go_wp2_with fail
 exact bodyPost_ret (v := .agg #[.int .i64 1, .int .i64 n, .int .i64 0, .int .i64 t, .string ⟨#[]⟩, .string ⟨#[]⟩, .slice none 0 0]) (by simp [results, Try.results115, go_sem]) rfl ⟨rfl, gd⟩

def ExprAt (d : Nat) (b : Nat) (K : Nat) (w : World) (e : Ending) (w' : World) : Prop :=
 ∃ (cs : Array Value) (fq : List Nat) (x : GExpr d), e = .returned (.agg cs) ∧ Rd.rd fq w' cs.toList x ∧ wtExpr x ≤ K ∧ (∀ c ∈ fq, w.heap.size ≤ c) ∧ CurR w' b ∧ Wr [b] w w'

theorem leaf_rd (d : Nat) (w : World) (a n p t : Int) (s r : ByteArray) (ha : (Lit.int .i64 a).wf = true) (hn : (Lit.int .i64 n).wf = true) (hp : (Lit.int .i64 p).wf = true) (ht : (Lit.int .i64 t).wf = true) (hs : s.size ≤ 64) (hr : r.size ≤ 64) :
  Rd.rd (α := GExpr d) [] w (#[.int .i64 a, .int .i64 n, .int .i64 p, .int .i64 t, .string s, .string r, .slice none 0 0] : Array Value).toList ((a, n, p, t, s, r, []) : GExpr d) :=
 rdExpr_mk a n p t s r [] ha hn hp ht (by unfold maxLen; omega) (by unfold maxLen; omega) (SlR.nil w)

set_option maxRecDepth 10000 in
set_option maxHeartbeats 8000000 in
theorem l4Leaf_any (d b : Nat) (kind : Int) (fl : List Nat) (u : Value) (os : List GOccurrence) (w : World) (h : CurR w b) (hu : SlR fl w u os) (hb : b ∉ fl) (hl : os.length ≤ 1048576) (ho : ∀ o ∈ os, o.2.size ≤ 64) (hk : (Lit.int .i64 kind).wf = true) :
  Calls Try.prog 106 #[.pointer (some ⟨b, 0, none⟩), .int .i64 kind, u] w (ExprAt d b 64 w) := by
 have HC := Lib.hid h
 have HU := Lib.hid hu
 have HO := Lib.hid ho
 have HK := Lib.hid hk
 have hbl := h.lt
 obtain ⟨a, c, rfl, k1, k2, k3⟩ := hu.open
 clear h hu ho hk
 have hw0 : Wr [b] w (w.alloc (.cells #[.int .i64 0, .int .i64 0, .int .i64 0, .int .i64 0, .string ⟨#[]⟩, .string ⟨#[]⟩, .slice none 0 0] 157)) := (gd : Gr w _).toWr _
 have hv0 : VRow (w.alloc (.cells #[.int .i64 0, .int .i64 0, .int .i64 0, .int .i64 0, .string ⟨#[]⟩, .string ⟨#[]⟩, .slice none 0 0] 157)) w.heap.size 157 [.int .i64 0, .int .i64 0, .int .i64 0, .int .i64 0, .string ⟨#[]⟩, .string ⟨#[]⟩, .slice none 0 0] := VRow.new rfl
 have HV0 := Lib.hid hv0
 have HW0 := Lib.hid hw0
 clear hv0 hw0
 have tail : ∀ (W : World) (st : World), True := fun _ _ => trivial
 clear tail
 by_cases hpos : 0 < os.length
 ·have hpos' : (0 : Int) < (os.length : Int) := by omega
  go_enter Try.func106, Try.ntmps106
  go_wp2_with fail
  refine (l1Once_any b 4 _ (HC.out.gr gd) (by omega) (by omega)).mono ?_
  rintro e W1 ⟨x1, rfl, hc1, hw1⟩
  have HC1 := Lib.hid hc1
  have HW1 := Lib.hid (HW0.out.trans hw1)
  have HVR1 := Lib.hid (HV0.out.wr hw1 (by simp; omega))
  clear hc1 hw1
  cases x1 with
  | false =>
   go_wp2_with fail
   refine (l1Below_any b (os.length : Int) _ HC1.out (by omega) (by omega)).mono ?_
   rintro e W2 ⟨x2, rfl, hx0, hx1, hc2, hw2⟩
   obtain ⟨n, rfl⟩ : ∃ n : Nat, x2 = n := ⟨x2.toNat, by omega⟩
   have hlt : n < os.length := by omega
   have HC := Lib.hid hc2
   have HW := Lib.hid (HW1.out.trans hw2)
   have HVR := Lib.hid (HVR1.out.wr hw2 (by simp; omega))
   have HUL := Lib.hid (show ∀ x ∈ fl, x ≠ b from fun x hx e => hb (e ▸ hx))
   clear hc2 hw2
   obtain ⟨bo, oo, rfl, hbo⟩ := k3 n hlt
   obtain ⟨cso, feo, hco, hro, hfo⟩ := HU.out.at hlt
   obtain ⟨yo, hyo⟩ : ∃ y, y = os[n] := ⟨_, rfl⟩
   have hsz : yo.2.size ≤ 64 := by rw [hyo]; exact HO.out _ (List.getElem_mem hlt)
   rw [← hyo] at hro
   obtain ⟨o0, o1⟩ := yo
   obtain ⟨hcso, -, ho0, ho1⟩ := rdOccurrence_inv (cs := cso.toArray) o0 o1 (by simpa using hro)
   obtain rfl : cso = [.int .i64 o0, .string o1] := by have := congrArg Array.toList hcso; simpa using this
   have hob : bo ≠ b := fun e => hb (by rw [← e]; exact HU.out.blk_in (by intro e; rw [e] at hlt; simp at hlt))
   have z0 := HW.out.keepC (show w.cell? ⟨bo, oo + n * 2, none⟩ = some (.int .i64 o0) from by simpa [Rd.n] using hco 0 _ rfl) (by simpa using hob)
   have z1 := HW.out.keepC (show w.cell? ⟨bo, oo + n * 2 + 1, none⟩ = some (.string o1) from hco 1 _ rfl) (by simpa using hob)
   have zz := blk z0
   have n0 : (0 : Int) ≤ (n : Int) := by omega
   have n1 : (n : Int) < (os.length : Int) := by omega
   have HOS := Lib.hid (And.intro ho0 hsz)
   clear hcso hco hro hfo hyo k3 ho0 ho1 hsz hx0 hx1
   have e0 := HVR.out.cell (k := 0) (by simp)
   have e1 := HVR.out.cell (k := 1) (by simp)
   have e2 := HVR.out.cell (k := 2) (by simp)
   have e3 := HVR.out.cell (k := 3) (by simp)
   have e4 := HVR.out.cell (k := 4) (by simp)
   have e5 := HVR.out.cell (k := 5) (by simp)
   have e6 := HVR.out.cell (k := 6) (by simp)
   have f0 := HVR.out.frozen 0
   have f1 := HVR.out.frozen 1
   have f2 := HVR.out.frozen 2
   have f3 := HVR.out.frozen 3
   have f4 := HVR.out.frozen 4
   have f5 := HVR.out.frozen 5
   have f6 := HVR.out.frozen 6
   have ze := blk e0
   go_wp2_with fail
   clear e0 e1 e2 e3 e4 e5 e6 f0 f1 f2 f3 f4 f5 f6 ze
   generalize hF : ((((((((W2.setCell ⟨w.heap.size, 0, none⟩ (.int .i64 3)).setCell ⟨w.heap.size, 1, none⟩ (.int .i64 0)).setCell ⟨w.heap.size, 2, none⟩ (.int .i64 o0)).setCell ⟨w.heap.size, 3, none⟩ (.int .i64 0)).setCell ⟨w.heap.size, 4, none⟩ (.string ⟨#[]⟩)).setCell ⟨w.heap.size, 5, none⟩ (.string o1)).setCell ⟨w.heap.size, 6, none⟩ (.slice none 0 0))).alloc (.cells #[.int .i64 o0, .string o1] 152) = WF
   have vF : VRow WF w.heap.size 157 [.int .i64 3, .int .i64 0, .int .i64 o0, .int .i64 0, .string ⟨#[]⟩, .string o1, .slice none 0 0] := by rw [← hF]; exact (VRow.put7 HVR.out _ _ _ _ _ _ _).gr (Gr.alloc (Gr.refl _) _)
   have wF : Wr [b] w WF := by rw [← hF]; exact (HW.out.more2 (Wr.put7 _ _ _ _ _ _ _ _ _) (fun x hx => .inr (by rw [List.mem_singleton.1 hx]; exact Nat.le_refl _))).gr (Gr.alloc (Gr.refl _) _)
   have cF : CurR WF b := by rw [← hF]; exact (HC.out.wr (Wr.put7 _ _ _ _ _ _ _ _ _) (fun x hx => by rw [List.mem_singleton.1 hx]; exact hbl)).gr (Gr.alloc (Gr.refl _) _)
   have r0 := vF.cell (k := 0) (by simp)
   have r1 := vF.cell (k := 1) (by simp)
   have r2 := vF.cell (k := 2) (by simp)
   have r3 := vF.cell (k := 3) (by simp)
   have r4 := vF.cell (k := 4) (by simp)
   have r5 := vF.cell (k := 5) (by simp)
   have r6 := vF.cell (k := 6) (by simp)
   clear hF vF
   exact bodyPost_ret (v := .agg #[.int .i64 3, .int .i64 0, .int .i64 o0, .int .i64 0, .string ⟨#[]⟩, .string o1, .slice none 0 0]) (by simp [results, Try.results106, go_sem, r0, r1, r2, r3, r4, r5, r6]) rfl ⟨_, [], _, rfl, leaf_rd d _ 3 0 o0 0 ⟨#[]⟩ o1 (by decide) (by decide) HOS.out.1 (by decide) (by decide) HOS.out.2, by have := HOS.out.2; show 0 + o1.size + wtL _ [] ≤ 64; simp [wtL]; omega, by simp, cF, wF⟩
  | true =>
   have HC := HC1
   have HW := HW1
   have HVR := HVR1
   clear HC1 HW1 HVR1
   by_cases hk4 : kind = 4
   ·subst hk4
    go_wp2_with fail
    refine (l1Once_any b 3 _ HC.out (by omega) (by omega)).mono ?_
    rintro e W5 ⟨x5, rfl, hc5, hw5⟩
    have HW := Lib.hid (HW.out.trans hw5)
    have HVR := Lib.hid (HVR.out.wr hw5 (by simp; omega))
    have HC := Lib.hid hc5
    clear hc5 hw5
    have e0 := HVR.out.cell (k := 0) (by simp)
    have e1 := HVR.out.cell (k := 1) (by simp)
    have e2 := HVR.out.cell (k := 2) (by simp)
    have e3 := HVR.out.cell (k := 3) (by simp)
    have e4 := HVR.out.cell (k := 4) (by simp)
    have e5 := HVR.out.cell (k := 5) (by simp)
    have e6 := HVR.out.cell (k := 6) (by simp)
    have f0 := HVR.out.frozen 0
    have f1 := HVR.out.frozen 1
    have f2 := HVR.out.frozen 2
    have f3 := HVR.out.frozen 3
    have f4 := HVR.out.frozen 4
    have f5 := HVR.out.frozen 5
    have f6 := HVR.out.frozen 6
    have ze := blk e0
    cases x5 with
    | true =>
     go_wp2_with fail
     clear e0 e1 e2 e3 e4 e5 e6 f0 f1 f2 f3 f4 f5 f6 ze
     generalize hF : (((((((W5.setCell ⟨w.heap.size, 0, none⟩ (.int .i64 7)).setCell ⟨w.heap.size, 1, none⟩ (.int .i64 0)).setCell ⟨w.heap.size, 2, none⟩ (.int .i64 0)).setCell ⟨w.heap.size, 3, none⟩ (.int .i64 0)).setCell ⟨w.heap.size, 4, none⟩ (.string ⟨#[]⟩)).setCell ⟨w.heap.size, 5, none⟩ (.string ⟨#[]⟩)).setCell ⟨w.heap.size, 6, none⟩ (.slice none 0 0)) = WF
     have vF : VRow WF w.heap.size 157 [.int .i64 7, .int .i64 0, .int .i64 0, .int .i64 0, .string ⟨#[]⟩, .string ⟨#[]⟩, .slice none 0 0] := by rw [← hF]; exact (VRow.put7 HVR.out _ _ _ _ _ _ _).gr (Gr.refl _)
     have wF : Wr [b] w WF := by rw [← hF]; exact (HW.out.more2 (Wr.put7 _ _ _ _ _ _ _ _ _) (fun x hx => .inr (by rw [List.mem_singleton.1 hx]; exact Nat.le_refl _))).gr (Gr.refl _)
     have cF : CurR WF b := by rw [← hF]; exact (HC.out.wr (Wr.put7 _ _ _ _ _ _ _ _ _) (fun x hx => by rw [List.mem_singleton.1 hx]; exact hbl)).gr (Gr.refl _)
     have r0 := vF.cell (k := 0) (by simp)
     have r1 := vF.cell (k := 1) (by simp)
     have r2 := vF.cell (k := 2) (by simp)
     have r3 := vF.cell (k := 3) (by simp)
     have r4 := vF.cell (k := 4) (by simp)
     have r5 := vF.cell (k := 5) (by simp)
     have r6 := vF.cell (k := 6) (by simp)
     clear hF vF
     exact bodyPost_ret (v := .agg #[.int .i64 7, .int .i64 0, .int .i64 0, .int .i64 0, .string ⟨#[]⟩, .string ⟨#[]⟩, .slice none 0 0]) (by simp [results, Try.results106, go_sem, r0, r1, r2, r3, r4, r5, r6]) rfl ⟨_, [], _, rfl, leaf_rd d _ 7 0 0 0 ⟨#[]⟩ ⟨#[]⟩ (by decide) (by decide) (by decide) (by decide) (by decide) (by decide), by show 0 + 0 + wtL _ [] ≤ 64; simp [wtL], by simp, cF, wF⟩
    | false =>
     go_wp2_with fail
     clear e0 e1 e2 e3 e4 e5 e6 f0 f1 f2 f3 f4 f5 f6 ze
     generalize hF : (((((((W5.setCell ⟨w.heap.size, 0, none⟩ (.int .i64 6)).setCell ⟨w.heap.size, 1, none⟩ (.int .i64 0)).setCell ⟨w.heap.size, 2, none⟩ (.int .i64 0)).setCell ⟨w.heap.size, 3, none⟩ (.int .i64 0)).setCell ⟨w.heap.size, 4, none⟩ (.string ⟨#[]⟩)).setCell ⟨w.heap.size, 5, none⟩ (.string ⟨#[]⟩)).setCell ⟨w.heap.size, 6, none⟩ (.slice none 0 0)) = WF
     have vF : VRow WF w.heap.size 157 [.int .i64 6, .int .i64 0, .int .i64 0, .int .i64 0, .string ⟨#[]⟩, .string ⟨#[]⟩, .slice none 0 0] := by rw [← hF]; exact (VRow.put7 HVR.out _ _ _ _ _ _ _).gr (Gr.refl _)
     have wF : Wr [b] w WF := by rw [← hF]; exact (HW.out.more2 (Wr.put7 _ _ _ _ _ _ _ _ _) (fun x hx => .inr (by rw [List.mem_singleton.1 hx]; exact Nat.le_refl _))).gr (Gr.refl _)
     have cF : CurR WF b := by rw [← hF]; exact (HC.out.wr (Wr.put7 _ _ _ _ _ _ _ _ _) (fun x hx => by rw [List.mem_singleton.1 hx]; exact hbl)).gr (Gr.refl _)
     have r0 := vF.cell (k := 0) (by simp)
     have r1 := vF.cell (k := 1) (by simp)
     have r2 := vF.cell (k := 2) (by simp)
     have r3 := vF.cell (k := 3) (by simp)
     have r4 := vF.cell (k := 4) (by simp)
     have r5 := vF.cell (k := 5) (by simp)
     have r6 := vF.cell (k := 6) (by simp)
     clear hF vF
     exact bodyPost_ret (v := .agg #[.int .i64 6, .int .i64 0, .int .i64 0, .int .i64 0, .string ⟨#[]⟩, .string ⟨#[]⟩, .slice none 0 0]) (by simp [results, Try.results106, go_sem, r0, r1, r2, r3, r4, r5, r6]) rfl ⟨_, [], _, rfl, leaf_rd d _ 6 0 0 0 ⟨#[]⟩ ⟨#[]⟩ (by decide) (by decide) (by decide) (by decide) (by decide) (by decide), by show 0 + 0 + wtL _ [] ≤ 64; simp [wtL], by simp, cF, wF⟩
   ·have n4 : (kind == 4) = false := by simpa using hk4
    by_cases hk3 : kind = 3
    ·subst hk3
     go_wp2_with fail
     refine (l1Below_any b 2 _ HC.out (by omega) (by omega)).mono ?_
     rintro e W5 ⟨x5, rfl, hx0, hx1, hc5, hw5⟩
     have HW := Lib.hid (HW.out.trans hw5)
     have HVR := Lib.hid (HVR.out.wr hw5 (by simp; omega))
     have HC := Lib.hid hc5
     clear hc5 hw5
     have e0 := HVR.out.cell (k := 0) (by simp)
     have e1 := HVR.out.cell (k := 1) (by simp)
     have e2 := HVR.out.cell (k := 2) (by simp)
     have e3 := HVR.out.cell (k := 3) (by simp)
     have e4 := HVR.out.cell (k := 4) (by simp)
     have e5 := HVR.out.cell (k := 5) (by simp)
     have e6 := HVR.out.cell (k := 6) (by simp)
     have f0 := HVR.out.frozen 0
     have f1 := HVR.out.frozen 1
     have f2 := HVR.out.frozen 2
     have f3 := HVR.out.frozen 3
     have f4 := HVR.out.frozen 4
     have f5 := HVR.out.frozen 5
     have f6 := HVR.out.frozen 6
     have ze := blk e0
     go_wp2_with fail
     refine (l4Const_any _ _ _).mono ?_
     rintro e w' ⟨rfl, x6, rfl⟩
     go_wp2_with fail
     clear e0 e1 e2 e3 e4 e5 e6 f0 f1 f2 f3 f4 f5 f6 ze
     generalize hF : ((((((((W5.setCell ⟨w.heap.size, 0, none⟩ (.int .i64 1)).setCell ⟨w.heap.size, 1, none⟩ (.int .i64 x5)).setCell ⟨w.heap.size, 2, none⟩ (.int .i64 0)).setCell ⟨w.heap.size, 3, none⟩ (.int .i64 3)).setCell ⟨w.heap.size, 4, none⟩ (.string ⟨#[]⟩)).setCell ⟨w.heap.size, 5, none⟩ (.string ⟨#[]⟩)).setCell ⟨w.heap.size, 6, none⟩ (.slice none 0 0))).ext x6 = WF
     have vF : VRow WF w.heap.size 157 [.int .i64 1, .int .i64 x5, .int .i64 0, .int .i64 3, .string ⟨#[]⟩, .string ⟨#[]⟩, .slice none 0 0] := by rw [← hF]; exact (VRow.put7 HVR.out _ _ _ _ _ _ _).gr (Gr.ext (Gr.refl _) _)
     have wF : Wr [b] w WF := by rw [← hF]; exact (HW.out.more2 (Wr.put7 _ _ _ _ _ _ _ _ _) (fun x hx => .inr (by rw [List.mem_singleton.1 hx]; exact Nat.le_refl _))).gr (Gr.ext (Gr.refl _) _)
     have cF : CurR WF b := by rw [← hF]; exact (HC.out.wr (Wr.put7 _ _ _ _ _ _ _ _ _) (fun x hx => by rw [List.mem_singleton.1 hx]; exact hbl)).gr (Gr.ext (Gr.refl _) _)
     have r0 := vF.cell (k := 0) (by simp)
     have r1 := vF.cell (k := 1) (by simp)
     have r2 := vF.cell (k := 2) (by simp)
     have r3 := vF.cell (k := 3) (by simp)
     have r4 := vF.cell (k := 4) (by simp)
     have r5 := vF.cell (k := 5) (by simp)
     have r6 := vF.cell (k := 6) (by simp)
     clear hF vF
     exact bodyPost_ret (v := .agg #[.int .i64 1, .int .i64 x5, .int .i64 0, .int .i64 3, .string ⟨#[]⟩, .string ⟨#[]⟩, .slice none 0 0]) (by simp [results, Try.results106, go_sem, r0, r1, r2, r3, r4, r5, r6]) rfl ⟨_, [], _, rfl, leaf_rd d _ 1 x5 0 3 ⟨#[]⟩ ⟨#[]⟩ (by decide) (wf_small hx0 (by omega)) (by decide) (by decide) (by decide) (by decide), by show 0 + 0 + wtL _ [] ≤ 64; simp [wtL], by simp, cF, wF⟩
    ·have n3 : (kind == 3) = false := by simpa using hk3
     by_cases hk2 : kind = 2
     ·subst hk2
      go_wp2_with fail
      refine (l1Below_any b 12 _ HC.out (by omega) (by omega)).mono ?_
      rintro e W5 ⟨x5, rfl, hx0, hx1, hc5, hw5⟩
      obtain ⟨m, rfl⟩ : ∃ m : Nat, x5 = m := ⟨x5.toNat, by omega⟩
      have hm : m < 12 := by omega
      have HW := Lib.hid (HW.out.trans hw5)
      have HVR := Lib.hid (HVR.out.wr hw5 (by simp; omega))
      have HC := Lib.hid hc5
      clear hc5 hw5
      have e0 := HVR.out.cell (k := 0) (by simp)
      have e1 := HVR.out.cell (k := 1) (by simp)
      have e2 := HVR.out.cell (k := 2) (by simp)
      have e3 := HVR.out.cell (k := 3) (by simp)
      have e4 := HVR.out.cell (k := 4) (by simp)
      have e5 := HVR.out.cell (k := 5) (by simp)
      have e6 := HVR.out.cell (k := 6) (by simp)
      have f0 := HVR.out.frozen 0
      have f1 := HVR.out.frozen 1
      have f2 := HVR.out.frozen 2
      have f3 := HVR.out.frozen 3
      have f4 := HVR.out.frozen 4
      have f5 := HVR.out.frozen 5
      have f6 := HVR.out.frozen 6
      have ze := blk e0
      go_wp2_with fail
      refine (l4Const_any _ _ _).mono ?_
      rintro e w' ⟨rfl, x6, rfl⟩
      go_wp2_with fail
      clear e0 e1 e2 e3 e4 e5 e6 f0 f1 f2 f3 f4 f5 f6 ze
      generalize hF : ((((((((W5.setCell ⟨w.heap.size, 0, none⟩ (.int .i64 1)).setCell ⟨w.heap.size, 1, none⟩ (.int .i64 (wrap64 (2 ^ m)))).setCell ⟨w.heap.size, 2, none⟩ (.int .i64 0)).setCell ⟨w.heap.size, 3, none⟩ (.int .i64 2)).setCell ⟨w.heap.size, 4, none⟩ (.string ⟨#[]⟩)).setCell ⟨w.heap.size, 5, none⟩ (.string ⟨#[]⟩)).setCell ⟨w.heap.size, 6, none⟩ (.slice none 0 0))).ext x6 = WF
      have vF : VRow WF w.heap.size 157 [.int .i64 1, .int .i64 (wrap64 (2 ^ m)), .int .i64 0, .int .i64 2, .string ⟨#[]⟩, .string ⟨#[]⟩, .slice none 0 0] := by rw [← hF]; exact (VRow.put7 HVR.out _ _ _ _ _ _ _).gr (Gr.ext (Gr.refl _) _)
      have wF : Wr [b] w WF := by rw [← hF]; exact (HW.out.more2 (Wr.put7 _ _ _ _ _ _ _ _ _) (fun x hx => .inr (by rw [List.mem_singleton.1 hx]; exact Nat.le_refl _))).gr (Gr.ext (Gr.refl _) _)
      have cF : CurR WF b := by rw [← hF]; exact (HC.out.wr (Wr.put7 _ _ _ _ _ _ _ _ _) (fun x hx => by rw [List.mem_singleton.1 hx]; exact hbl)).gr (Gr.ext (Gr.refl _) _)
      have r0 := vF.cell (k := 0) (by simp)
      have r1 := vF.cell (k := 1) (by simp)
      have r2 := vF.cell (k := 2) (by simp)
      have r3 := vF.cell (k := 3) (by simp)
      have r4 := vF.cell (k := 4) (by simp)
      have r5 := vF.cell (k := 5) (by simp)
      have r6 := vF.cell (k := 6) (by simp)
      clear hF vF
      exact bodyPost_ret (v := .agg #[.int .i64 1, .int .i64 (wrap64 (2 ^ m)), .int .i64 0, .int .i64 2, .string ⟨#[]⟩, .string ⟨#[]⟩, .slice none 0 0]) (by simp [results, Try.results106, go_sem, r0, r1, r2, r3, r4, r5, r6]) rfl ⟨_, [], _, rfl, leaf_rd d _ 1 (wrap64 (2 ^ m)) 0 2 ⟨#[]⟩ ⟨#[]⟩ (by decide) (wf_in (wrap64_bd _).1 (wrap64_bd _).2) (by decide) (by decide) (by decide) (by decide), by show 0 + 0 + wtL _ [] ≤ 64; simp [wtL], by simp, cF, wF⟩
     ·have n2 : (kind == 2) = false := by simpa using hk2
      go_wp2_with fail
      refine (l1Below_any b 9 _ HC.out (by omega) (by omega)).mono ?_
      rintro e W5 ⟨x5, rfl, hx0, hx1, hc5, hw5⟩
      have HW := Lib.hid (HW.out.trans hw5)
      have HVR := Lib.hid (HVR.out.wr hw5 (by simp; omega))
      have HC := Lib.hid hc5
      clear hc5 hw5
      have e0 := HVR.out.cell (k := 0) (by simp)
      have e1 := HVR.out.cell (k := 1) (by simp)
      have e2 := HVR.out.cell (k := 2) (by simp)
      have e3 := HVR.out.cell (k := 3) (by simp)
      have e4 := HVR.out.cell (k := 4) (by simp)
      have e5 := HVR.out.cell (k := 5) (by simp)
      have e6 := HVR.out.cell (k := 6) (by simp)
      have f0 := HVR.out.frozen 0
      have f1 := HVR.out.frozen 1
      have f2 := HVR.out.frozen 2
      have f3 := HVR.out.frozen 3
      have f4 := HVR.out.frozen 4
      have f5 := HVR.out.frozen 5
      have f6 := HVR.out.frozen 6
      have ze := blk e0
      go_wp2_with fail
      refine (l4Const_any _ _ _).mono ?_
      rintro e w' ⟨rfl, x6, rfl⟩
      go_wp2_with fail
      clear e0 e1 e2 e3 e4 e5 e6 f0 f1 f2 f3 f4 f5 f6 ze
      generalize hF : ((((((((W5.setCell ⟨w.heap.size, 0, none⟩ (.int .i64 1)).setCell ⟨w.heap.size, 1, none⟩ (.int .i64 x5)).setCell ⟨w.heap.size, 2, none⟩ (.int .i64 0)).setCell ⟨w.heap.size, 3, none⟩ (.int .i64 1)).setCell ⟨w.heap.size, 4, none⟩ (.string ⟨#[]⟩)).setCell ⟨w.heap.size, 5, none⟩ (.string ⟨#[]⟩)).setCell ⟨w.heap.size, 6, none⟩ (.slice none 0 0))).ext x6 = WF
      have vF : VRow WF w.heap.size 157 [.int .i64 1, .int .i64 x5, .int .i64 0, .int .i64 1, .string ⟨#[]⟩, .string ⟨#[]⟩, .slice none 0 0] := by rw [← hF]; exact (VRow.put7 HVR.out _ _ _ _ _ _ _).gr (Gr.ext (Gr.refl _) _)
      have wF : Wr [b] w WF := by rw [← hF]; exact (HW.out.more2 (Wr.put7 _ _ _ _ _ _ _ _ _) (fun x hx => .inr (by rw [List.mem_singleton.1 hx]; exact Nat.le_refl _))).gr (Gr.ext (Gr.refl _) _)
      have cF : CurR WF b := by rw [← hF]; exact (HC.out.wr (Wr.put7 _ _ _ _ _ _ _ _ _) (fun x hx => by rw [List.mem_singleton.1 hx]; exact hbl)).gr (Gr.ext (Gr.refl _) _)
      have r0 := vF.cell (k := 0) (by simp)
      have r1 := vF.cell (k := 1) (by simp)
      have r2 := vF.cell (k := 2) (by simp)
      have r3 := vF.cell (k := 3) (by simp)
      have r4 := vF.cell (k := 4) (by simp)
      have r5 := vF.cell (k := 5) (by simp)
      have r6 := vF.cell (k := 6) (by simp)
      clear hF vF
      exact bodyPost_ret (v := .agg #[.int .i64 1, .int .i64 x5, .int .i64 0, .int .i64 1, .string ⟨#[]⟩, .string ⟨#[]⟩, .slice none 0 0]) (by simp [results, Try.results106, go_sem, r0, r1, r2, r3, r4, r5, r6]) rfl ⟨_, [], _, rfl, leaf_rd d _ 1 x5 0 1 ⟨#[]⟩ ⟨#[]⟩ (by decide) (wf_small hx0 (by omega)) (by decide) (by decide) (by decide) (by decide), by show 0 + 0 + wtL _ [] ≤ 64; simp [wtL], by simp, cF, wF⟩
 ·have hpos' : ¬ (0 : Int) < (os.length : Int) := by omega
  have HC' := Lib.hid (HC.out.gr (gd : Gr w (w.alloc (.cells #[.int .i64 0, .int .i64 0, .int .i64 0, .int .i64 0, .string ⟨#[]⟩, .string ⟨#[]⟩, .slice none 0 0] 157))))
  have HVR := HV0
  have HW := HW0
  have HC := HC'
  clear HC' HV0 HW0
  go_enter Try.func106, Try.ntmps106
  by_cases hk4 : kind = 4
  ·subst hk4
   go_wp2_with fail
   refine (l1Once_any b 3 _ HC.out (by omega) (by omega)).mono ?_
   rintro e W5 ⟨x5, rfl, hc5, hw5⟩
   have HW := Lib.hid (HW.out.trans hw5)
   have HVR := Lib.hid (HVR.out.wr hw5 (by simp; omega))
   have HC := Lib.hid hc5
   clear hc5 hw5
   have e0 := HVR.out.cell (k := 0) (by simp)
   have e1 := HVR.out.cell (k := 1) (by simp)
   have e2 := HVR.out.cell (k := 2) (by simp)
   have e3 := HVR.out.cell (k := 3) (by simp)
   have e4 := HVR.out.cell (k := 4) (by simp)
   have e5 := HVR.out.cell (k := 5) (by simp)
   have e6 := HVR.out.cell (k := 6) (by simp)
   have f0 := HVR.out.frozen 0
   have f1 := HVR.out.frozen 1
   have f2 := HVR.out.frozen 2
   have f3 := HVR.out.frozen 3
   have f4 := HVR.out.frozen 4
   have f5 := HVR.out.frozen 5
   have f6 := HVR.out.frozen 6
   have ze := blk e0
   cases x5 with
   | true =>
    go_wp2_with fail
    clear e0 e1 e2 e3 e4 e5 e6 f0 f1 f2 f3 f4 f5 f6 ze
    generalize hF : (((((((W5.setCell ⟨w.heap.size, 0, none⟩ (.int .i64 7)).setCell ⟨w.heap.size, 1, none⟩ (.int .i64 0)).setCell ⟨w.heap.size, 2, none⟩ (.int .i64 0)).setCell ⟨w.heap.size, 3, none⟩ (.int .i64 0)).setCell ⟨w.heap.size, 4, none⟩ (.string ⟨#[]⟩)).setCell ⟨w.heap.size, 5, none⟩ (.string ⟨#[]⟩)).setCell ⟨w.heap.size, 6, none⟩ (.slice none 0 0)) = WF
    have vF : VRow WF w.heap.size 157 [.int .i64 7, .int .i64 0, .int .i64 0, .int .i64 0, .string ⟨#[]⟩, .string ⟨#[]⟩, .slice none 0 0] := by rw [← hF]; exact (VRow.put7 HVR.out _ _ _ _ _ _ _).gr (Gr.refl _)
    have wF : Wr [b] w WF := by rw [← hF]; exact (HW.out.more2 (Wr.put7 _ _ _ _ _ _ _ _ _) (fun x hx => .inr (by rw [List.mem_singleton.1 hx]; exact Nat.le_refl _))).gr (Gr.refl _)
    have cF : CurR WF b := by rw [← hF]; exact (HC.out.wr (Wr.put7 _ _ _ _ _ _ _ _ _) (fun x hx => by rw [List.mem_singleton.1 hx]; exact hbl)).gr (Gr.refl _)
    have r0 := vF.cell (k := 0) (by simp)
    have r1 := vF.cell (k := 1) (by simp)
    have r2 := vF.cell (k := 2) (by simp)
    have r3 := vF.cell (k := 3) (by simp)
    have r4 := vF.cell (k := 4) (by simp)
    have r5 := vF.cell (k := 5) (by simp)
    have r6 := vF.cell (k := 6) (by simp)
    clear hF vF
    exact bodyPost_ret (v := .agg #[.int .i64 7, .int .i64 0, .int .i64 0, .int .i64 0, .string ⟨#[]⟩, .string ⟨#[]⟩, .slice none 0 0]) (by simp [results, Try.results106, go_sem, r0, r1, r2, r3, r4, r5, r6]) rfl ⟨_, [], _, rfl, leaf_rd d _ 7 0 0 0 ⟨#[]⟩ ⟨#[]⟩ (by decide) (by decide) (by decide) (by decide) (by decide) (by decide), by show 0 + 0 + wtL _ [] ≤ 64; simp [wtL], by simp, cF, wF⟩
   | false =>
    go_wp2_with fail
    clear e0 e1 e2 e3 e4 e5 e6 f0 f1 f2 f3 f4 f5 f6 ze
    generalize hF : (((((((W5.setCell ⟨w.heap.size, 0, none⟩ (.int .i64 6)).setCell ⟨w.heap.size, 1, none⟩ (.int .i64 0)).setCell ⟨w.heap.size, 2, none⟩ (.int .i64 0)).setCell ⟨w.heap.size, 3, none⟩ (.int .i64 0)).setCell ⟨w.heap.size, 4, none⟩ (.string ⟨#[]⟩)).setCell ⟨w.heap.size, 5, none⟩ (.string ⟨#[]⟩)).setCell ⟨w.heap.size, 6, none⟩ (.slice none 0 0)) = WF
    have vF : VRow WF w.heap.size 157 [.int .i64 6, .int .i64 0, .int .i64 0, .int .i64 0, .string ⟨#[]⟩, .string ⟨#[]⟩, .slice none 0 0] := by rw [← hF]; exact (VRow.put7 HVR.out _ _ _ _ _ _ _).gr (Gr.refl _)
    have wF : Wr [b] w WF := by rw [← hF]; exact (HW.out.more2 (Wr.put7 _ _ _ _ _ _ _ _ _) (fun x hx => .inr (by rw [List.mem_singleton.1 hx]; exact Nat.le_refl _))).gr (Gr.refl _)
    have cF : CurR WF b := by rw [← hF]; exact (HC.out.wr (Wr.put7 _ _ _ _ _ _ _ _ _) (fun x hx => by rw [List.mem_singleton.1 hx]; exact hbl)).gr (Gr.refl _)
    have r0 := vF.cell (k := 0) (by simp)
    have r1 := vF.cell (k := 1) (by simp)
    have r2 := vF.cell (k := 2) (by simp)
    have r3 := vF.cell (k := 3) (by simp)
    have r4 := vF.cell (k := 4) (by simp)
    have r5 := vF.cell (k := 5) (by simp)
    have r6 := vF.cell (k := 6) (by simp)
    clear hF vF
    exact bodyPost_ret (v := .agg #[.int .i64 6, .int .i64 0, .int .i64 0, .int .i64 0, .string ⟨#[]⟩, .string ⟨#[]⟩, .slice none 0 0]) (by simp [results, Try.results106, go_sem, r0, r1, r2, r3, r4, r5, r6]) rfl ⟨_, [], _, rfl, leaf_rd d _ 6 0 0 0 ⟨#[]⟩ ⟨#[]⟩ (by decide) (by decide) (by decide) (by decide) (by decide) (by decide), by show 0 + 0 + wtL _ [] ≤ 64; simp [wtL], by simp, cF, wF⟩
  ·have n4 : (kind == 4) = false := by simpa using hk4
   by_cases hk3 : kind = 3
   ·subst hk3
    go_wp2_with fail
    refine (l1Below_any b 2 _ HC.out (by omega) (by omega)).mono ?_
    rintro e W5 ⟨x5, rfl, hx0, hx1, hc5, hw5⟩
    have HW := Lib.hid (HW.out.trans hw5)
    have HVR := Lib.hid (HVR.out.wr hw5 (by simp; omega))
    have HC := Lib.hid hc5
    clear hc5 hw5
    have e0 := HVR.out.cell (k := 0) (by simp)
    have e1 := HVR.out.cell (k := 1) (by simp)
    have e2 := HVR.out.cell (k := 2) (by simp)
    have e3 := HVR.out.cell (k := 3) (by simp)
    have e4 := HVR.out.cell (k := 4) (by simp)
    have e5 := HVR.out.cell (k := 5) (by simp)
    have e6 := HVR.out.cell (k := 6) (by simp)
    have f0 := HVR.out.frozen 0
    have f1 := HVR.out.frozen 1
    have f2 := HVR.out.frozen 2
    have f3 := HVR.out.frozen 3
    have f4 := HVR.out.frozen 4
    have f5 := HVR.out.frozen 5
    have f6 := HVR.out.frozen 6
    have ze := blk e0
    go_wp2_with fail
    refine (l4Const_any _ _ _).mono ?_
    rintro e w' ⟨rfl, x6, rfl⟩
    go_wp2_with fail
    clear e0 e1 e2 e3 e4 e5 e6 f0 f1 f2 f3 f4 f5 f6 ze
    generalize hF : ((((((((W5.setCell ⟨w.heap.size, 0, none⟩ (.int .i64 1)).setCell ⟨w.heap.size, 1, none⟩ (.int .i64 x5)).setCell ⟨w.heap.size, 2, none⟩ (.int .i64 0)).setCell ⟨w.heap.size, 3, none⟩ (.int .i64 3)).setCell ⟨w.heap.size, 4, none⟩ (.string ⟨#[]⟩)).setCell ⟨w.heap.size, 5, none⟩ (.string ⟨#[]⟩)).setCell ⟨w.heap.size, 6, none⟩ (.slice none 0 0))).ext x6 = WF
    have vF : VRow WF w.heap.size 157 [.int .i64 1, .int .i64 x5, .int .i64 0, .int .i64 3, .string ⟨#[]⟩, .string ⟨#[]⟩, .slice none 0 0] := by rw [← hF]; exact (VRow.put7 HVR.out _ _ _ _ _ _ _).gr (Gr.ext (Gr.refl _) _)
    have wF : Wr [b] w WF := by rw [← hF]; exact (HW.out.more2 (Wr.put7 _ _ _ _ _ _ _ _ _) (fun x hx => .inr (by rw [List.mem_singleton.1 hx]; exact Nat.le_refl _))).gr (Gr.ext (Gr.refl _) _)
    have cF : CurR WF b := by rw [← hF]; exact (HC.out.wr (Wr.put7 _ _ _ _ _ _ _ _ _) (fun x hx => by rw [List.mem_singleton.1 hx]; exact hbl)).gr (Gr.ext (Gr.refl _) _)
    have r0 := vF.cell (k := 0) (by simp)
    have r1 := vF.cell (k := 1) (by simp)
    have r2 := vF.cell (k := 2) (by simp)
    have r3 := vF.cell (k := 3) (by simp)
    have r4 := vF.cell (k := 4) (by simp)
    have r5 := vF.cell (k := 5) (by simp)
    have r6 := vF.cell (k := 6) (by simp)
    clear hF vF
    exact bodyPost_ret (v := .agg #[.int .i64 1, .int .i64 x5, .int .i64 0, .int .i64 3, .string ⟨#[]⟩, .string ⟨#[]⟩, .slice none 0 0]) (by simp [results, Try.results106, go_sem, r0, r1, r2, r3, r4, r5, r6]) rfl ⟨_, [], _, rfl, leaf_rd d _ 1 x5 0 3 ⟨#[]⟩ ⟨#[]⟩ (by decide) (wf_small hx0 (by omega)) (by decide) (by decide) (by decide) (by decide), by show 0 + 0 + wtL _ [] ≤ 64; simp [wtL], by simp, cF, wF⟩
   ·have n3 : (kind == 3) = false := by simpa using hk3
    by_cases hk2 : kind = 2
    ·subst hk2
     go_wp2_with fail
     refine (l1Below_any b 12 _ HC.out (by omega) (by omega)).mono ?_
     rintro e W5 ⟨x5, rfl, hx0, hx1, hc5, hw5⟩
     obtain ⟨m, rfl⟩ : ∃ m : Nat, x5 = m := ⟨x5.toNat, by omega⟩
     have hm : m < 12 := by omega
     have HW := Lib.hid (HW.out.trans hw5)
     have HVR := Lib.hid (HVR.out.wr hw5 (by simp; omega))
     have HC := Lib.hid hc5
     clear hc5 hw5
     have e0 := HVR.out.cell (k := 0) (by simp)
     have e1 := HVR.out.cell (k := 1) (by simp)
     have e2 := HVR.out.cell (k := 2) (by simp)
     have e3 := HVR.out.cell (k := 3) (by simp)
     have e4 := HVR.out.cell (k := 4) (by simp)
     have e5 := HVR.out.cell (k := 5) (by simp)
     have e6 := HVR.out.cell (k := 6) (by simp)
     have f0 := HVR.out.frozen 0
     have f1 := HVR.out.frozen 1
     have f2 := HVR.out.frozen 2
     have f3 := HVR.out.frozen 3
     have f4 := HVR.out.frozen 4
     have f5 := HVR.out.frozen 5
     have f6 := HVR.out.frozen 6
     have ze := blk e0
     go_wp2_with fail
     refine (l4Const_any _ _ _).mono ?_
     rintro e w' ⟨rfl, x6, rfl⟩
     go_wp2_with fail
     clear e0 e1 e2 e3 e4 e5 e6 f0 f1 f2 f3 f4 f5 f6 ze
     generalize hF : ((((((((W5.setCell ⟨w.heap.size, 0, none⟩ (.int .i64 1)).setCell ⟨w.heap.size, 1, none⟩ (.int .i64 (wrap64 (2 ^ m)))).setCell ⟨w.heap.size, 2, none⟩ (.int .i64 0)).setCell ⟨w.heap.size, 3, none⟩ (.int .i64 2)).setCell ⟨w.heap.size, 4, none⟩ (.string ⟨#[]⟩)).setCell ⟨w.heap.size, 5, none⟩ (.string ⟨#[]⟩)).setCell ⟨w.heap.size, 6, none⟩ (.slice none 0 0))).ext x6 = WF
     have vF : VRow WF w.heap.size 157 [.int .i64 1, .int .i64 (wrap64 (2 ^ m)), .int .i64 0, .int .i64 2, .string ⟨#[]⟩, .string ⟨#[]⟩, .slice none 0 0] := by rw [← hF]; exact (VRow.put7 HVR.out _ _ _ _ _ _ _).gr (Gr.ext (Gr.refl _) _)
     have wF : Wr [b] w WF := by rw [← hF]; exact (HW.out.more2 (Wr.put7 _ _ _ _ _ _ _ _ _) (fun x hx => .inr (by rw [List.mem_singleton.1 hx]; exact Nat.le_refl _))).gr (Gr.ext (Gr.refl _) _)
     have cF : CurR WF b := by rw [← hF]; exact (HC.out.wr (Wr.put7 _ _ _ _ _ _ _ _ _) (fun x hx => by rw [List.mem_singleton.1 hx]; exact hbl)).gr (Gr.ext (Gr.refl _) _)
     have r0 := vF.cell (k := 0) (by simp)
     have r1 := vF.cell (k := 1) (by simp)
     have r2 := vF.cell (k := 2) (by simp)
     have r3 := vF.cell (k := 3) (by simp)
     have r4 := vF.cell (k := 4) (by simp)
     have r5 := vF.cell (k := 5) (by simp)
     have r6 := vF.cell (k := 6) (by simp)
     clear hF vF
     exact bodyPost_ret (v := .agg #[.int .i64 1, .int .i64 (wrap64 (2 ^ m)), .int .i64 0, .int .i64 2, .string ⟨#[]⟩, .string ⟨#[]⟩, .slice none 0 0]) (by simp [results, Try.results106, go_sem, r0, r1, r2, r3, r4, r5, r6]) rfl ⟨_, [], _, rfl, leaf_rd d _ 1 (wrap64 (2 ^ m)) 0 2 ⟨#[]⟩ ⟨#[]⟩ (by decide) (wf_in (wrap64_bd _).1 (wrap64_bd _).2) (by decide) (by decide) (by decide) (by decide), by show 0 + 0 + wtL _ [] ≤ 64; simp [wtL], by simp, cF, wF⟩
    ·have n2 : (kind == 2) = false := by simpa using hk2
     go_wp2_with fail
     refine (l1Below_any b 9 _ HC.out (by omega) (by omega)).mono ?_
     rintro e W5 ⟨x5, rfl, hx0, hx1, hc5, hw5⟩
     have HW := Lib.hid (HW.out.trans hw5)
     have HVR := Lib.hid (HVR.out.wr hw5 (by simp; omega))
     have HC := Lib.hid hc5
     clear hc5 hw5
     have e0 := HVR.out.cell (k := 0) (by simp)
     have e1 := HVR.out.cell (k := 1) (by simp)
     have e2 := HVR.out.cell (k := 2) (by simp)
     have e3 := HVR.out.cell (k := 3) (by simp)
     have e4 := HVR.out.cell (k := 4) (by simp)
     have e5 := HVR.out.cell (k := 5) (by simp)
     have e6 := HVR.out.cell (k := 6) (by simp)
     have f0 := HVR.out.frozen 0
     have f1 := HVR.out.frozen 1
     have f2 := HVR.out.frozen 2
     have f3 := HVR.out.frozen 3
     have f4 := HVR.out.frozen 4
     have f5 := HVR.out.frozen 5
     have f6 := HVR.out.frozen 6
     have ze := blk e0
     go_wp2_with fail
     refine (l4Const_any _ _ _).mono ?_
     rintro e w' ⟨rfl, x6, rfl⟩
     go_wp2_with fail
     clear e0 e1 e2 e3 e4 e5 e6 f0 f1 f2 f3 f4 f5 f6 ze
     generalize hF : ((((((((W5.setCell ⟨w.heap.size, 0, none⟩ (.int .i64 1)).setCell ⟨w.heap.size, 1, none⟩ (.int .i64 x5)).setCell ⟨w.heap.size, 2, none⟩ (.int .i64 0)).setCell ⟨w.heap.size, 3, none⟩ (.int .i64 1)).setCell ⟨w.heap.size, 4, none⟩ (.string ⟨#[]⟩)).setCell ⟨w.heap.size, 5, none⟩ (.string ⟨#[]⟩)).setCell ⟨w.heap.size, 6, none⟩ (.slice none 0 0))).ext x6 = WF
     have vF : VRow WF w.heap.size 157 [.int .i64 1, .int .i64 x5, .int .i64 0, .int .i64 1, .string ⟨#[]⟩, .string ⟨#[]⟩, .slice none 0 0] := by rw [← hF]; exact (VRow.put7 HVR.out _ _ _ _ _ _ _).gr (Gr.ext (Gr.refl _) _)
     have wF : Wr [b] w WF := by rw [← hF]; exact (HW.out.more2 (Wr.put7 _ _ _ _ _ _ _ _ _) (fun x hx => .inr (by rw [List.mem_singleton.1 hx]; exact Nat.le_refl _))).gr (Gr.ext (Gr.refl _) _)
     have cF : CurR WF b := by rw [← hF]; exact (HC.out.wr (Wr.put7 _ _ _ _ _ _ _ _ _) (fun x hx => by rw [List.mem_singleton.1 hx]; exact hbl)).gr (Gr.ext (Gr.refl _) _)
     have r0 := vF.cell (k := 0) (by simp)
     have r1 := vF.cell (k := 1) (by simp)
     have r2 := vF.cell (k := 2) (by simp)
     have r3 := vF.cell (k := 3) (by simp)
     have r4 := vF.cell (k := 4) (by simp)
     have r5 := vF.cell (k := 5) (by simp)
     have r6 := vF.cell (k := 6) (by simp)
     clear hF vF
     exact bodyPost_ret (v := .agg #[.int .i64 1, .int .i64 x5, .int .i64 0, .int .i64 1, .string ⟨#[]⟩, .string ⟨#[]⟩, .slice none 0 0]) (by simp [results, Try.results106, go_sem, r0, r1, r2, r3, r4, r5, r6]) rfl ⟨_, [], _, rfl, leaf_rd d _ 1 x5 0 1 ⟨#[]⟩ ⟨#[]⟩ (by decide) (wf_small hx0 (by omega)) (by decide) (by decide) (by decide) (by decide), by show 0 + 0 + wtL _ [] ≤ 64; simp [wtL], by simp, cF, wF⟩
end Go.Proofs.Ytmfcagcanhmdbaa
