/- Contracts of the functions that measure, compare and copy: Cell, Cell*, Store. Made by mk_fam.py. One's own row of cells whose children lead to blocks of one's own. The heights of a grammar's symbols: the reference's. No condition. -/
import Derived.Test.YtmfcagcanhmdbaaE02
import Derived.Test.YtmfcagcanhmdbaaE15
import Derived.Test.YtmfcagcanhmdbaaE17
import Derived.Test.YtmfcagcanhmdbaaE22
namespace Go.Proofs.Ytmfcagcanhmdbaa
open Go.RowKit

abbrev GCell := ByteArray × Int × List Int
def wtCell (x : GCell) : Nat := x.1.size + x.2.2.length
instance decCell : DecidableEq GCell := @instDecidableEqProd _ _ _ (@instDecidableEqProd _ _ _ (inferInstance))

theorem rdCell_inv {fp : List Nat} {w : World} {cs : Array Value} (q0 : ByteArray) (q1 : Int) (q2 : List Int) (h : Rd.rd (α := GCell) fp w cs.toList (q0, q1, q2)) :
  ∃ vq2 fq2, cs = #[.string q0, .int .i64 q1, vq2] ∧ fp = ([] ++ ([] ++ fq2)) ∧ q0.size ≤ maxLen ∧ (Lit.int .i64 q1).wf = true ∧ SlR fq2 w vq2 q2 := by
 generalize hcs : cs.toList = l at h
 obtain ⟨_, _, _, _, rfl, rfl, ⟨rfl, rfl, hq0⟩, ⟨_, _, _, _, rfl, rfl, ⟨rfl, rfl, hq1⟩, ⟨vq2, rfl, hq2⟩⟩⟩ := h
 exact ⟨_, _, Array.toList_inj.1 (by simpa using hcs), rfl, hq0, hq1, hq2⟩

theorem rdCell_shape {fp : List Nat} {w : World} {cs : Array Value} {x : GCell} (h : Rd.rd (α := GCell) fp w cs.toList x) :
  ∃ q0 q1 aq2 lq2 cq2, cs = #[.string q0, .int .i64 q1, .slice aq2 lq2 cq2] := by
 obtain ⟨q0, q1, q2⟩ := x
 obtain ⟨vq2, fq2, rfl, -, -, -, hq2⟩ := rdCell_inv q0 q1 q2 h
 obtain ⟨aq2, cq2, rfl, -, -, -⟩ := hq2.open
 exact ⟨_, _, _, _, _, rfl⟩

theorem rdCell_mk {w : World} (q0 : ByteArray) (q1 : Int) (q2 : List Int) {vq2 : Value} {fq2 : List Nat} (hq0 : q0.size ≤ maxLen) (hq1 : (Lit.int .i64 q1).wf = true) (hq2 : SlR fq2 w vq2 q2) :
  Rd.rd (α := GCell) (([] ++ ([] ++ fq2))) w [.string q0, .int .i64 q1, vq2] (q0, q1, q2) := ⟨_, _, _, _, rfl, rfl, ⟨rfl, rfl, hq0⟩, ⟨_, _, _, _, rfl, rfl, ⟨rfl, rfl, hq1⟩, ⟨_, rfl, hq2⟩⟩⟩

theorem Cell_ext (q0 : ByteArray) (q1 : Int) (q2 : List Int) (p0 : ByteArray) (p1 : Int) (p2 : List Int) (e0 : q0 = p0) (e1 : q1 = p1) (e2 : q2 = p2) : ((q0, q1, q2) : GCell) = (p0, p1, p2) := by
 exact Prod.ext_iff.2 ⟨e0, Prod.ext_iff.2 ⟨e1, e2⟩⟩

def wtCellS (xs : List GCell) : Nat := wtL wtCell xs

theorem Try.infoCell : (Try.prog.info? 78).map (fun i => (i.zero, i.size, i.bytes)) = some (some (.agg #[.string ByteArray.empty, .int .i64 0, .slice none 0 0]), 3, 48) := by kernel_rfl

abbrev GStore := List GCell
def wtStore (x : GStore) : Nat := wtCellS x

theorem rdStore_inv {fp : List Nat} {w : World} {cs : Array Value} (q0 : List GCell) (h : Rd.rd (α := GStore) fp w cs.toList q0) :
  ∃ vq0 fq0, cs = #[vq0] ∧ fp = fq0 ∧ SlR fq0 w vq0 q0 := by
 generalize hcs : cs.toList = l at h
 obtain ⟨vq0, rfl, hq0⟩ := h
 exact ⟨_, _, Array.toList_inj.1 (by simpa using hcs), rfl, hq0⟩

theorem rdStore_mk {w : World} (q0 : List GCell) {vq0 : Value} {fq0 : List Nat} (hq0 : SlR fq0 w vq0 q0) :
  Rd.rd (α := GStore) (fq0) w [vq0] q0 := ⟨_, rfl, hq0⟩

end Go.Proofs.Ytmfcagcanhmdbaa

namespace Go.Proofs.Ytmfcagcanhmdbaa
open Go.RowKit
set_option linter.unusedVariables false

def OwnC (w0 w : World) (v : Value) (F : List Nat) (xs : List GCell) : Prop :=
 ∃ fps : List (List Nat), OwnR (α := GCell) w0 78 w v fps xs ∧ fps.flatten.Nodup ∧ (∀ b ∈ fps.flatten, w0.heap.size ≤ b) ∧ F = v.ownBlock.toList ++ fps.flatten

theorem OwnC.nil (w0 w : World) : OwnC w0 w (.slice none 0 0) [] [] := ⟨[], OwnR.nil w0 w _, by simp, by simp, rfl⟩
theorem OwnC.gr {w0 w w' : World} {v : Value} {F : List Nat} {xs : List GCell} (h : OwnC w0 w v F xs) (hg : Gr w w') : OwnC w0 w' v F xs := by
 obtain ⟨fps, h1, h2, h3, h4⟩ := h
 exact ⟨fps, h1.gr hg, h2, h3, h4⟩
theorem OwnC.wr {w0 w w' : World} {v : Value} {F fq : List Nat} {xs : List GCell} (h : OwnC w0 w v F xs) (hw : Wr fq w w') (hd : ∀ b ∈ F, b ∉ fq) : OwnC w0 w' v F xs := by
 obtain ⟨fps, h1, h2, h3, rfl⟩ := h
 exact ⟨fps, h1.wr hw (fun b hb => hd b (List.mem_append_right _ hb)) (fun b hb => hd b (List.mem_append_left _ (by rw [hb]; simp))), h2, h3, rfl⟩
theorem OwnC.form {w0 w : World} {v : Value} {F : List Nat} {xs : List GCell} (h : OwnC w0 w v F xs) : ∃ a c, v = .slice a xs.length c := by
 obtain ⟨fps, h1, -⟩ := h
 exact h1.form
theorem OwnC.lt {w0 w : World} {v : Value} {F : List Nat} {xs : List GCell} (h : OwnC w0 w v F xs) : ∀ b ∈ F, b < w.heap.size := by
 obtain ⟨fps, h1, h2, h3, rfl⟩ := h
 intro b hb
 rcases List.mem_append.1 hb with hb | hb
 ·exact (h1.base b (by simpa using hb)).2
 ·exact h1.lt b hb
theorem OwnC.ge {w0 w : World} {v : Value} {F : List Nat} {xs : List GCell} (h : OwnC w0 w v F xs) : ∀ b ∈ F, w0.heap.size ≤ b := by
 obtain ⟨fps, h1, h2, h3, rfl⟩ := h
 intro b hb
 rcases List.mem_append.1 hb with hb | hb
 ·exact (h1.base b (by simpa using hb)).1
 ·exact h3 b hb
theorem OwnC.lower {w0 w1 w : World} {v : Value} {F : List Nat} {xs : List GCell} (h : OwnC w1 w v F xs) (hs : w0.heap.size ≤ w1.heap.size) : OwnC w0 w v F xs := by
 obtain ⟨fps, h1, h2, h3, rfl⟩ := h
 exact ⟨fps, h1.base_eq hs, h2, fun b hb => Nat.le_trans hs (h3 b hb), rfl⟩
theorem OwnC.of_append {w0 w9 : World} {v9 : Value} {fps : List (List Nat)} {fq : List Nat} {xs : List GCell} {x : GCell} (h : OwnR (α := GCell) w0 78 w9 v9 (fps ++ [fq]) (xs ++ [x])) (hnd : fps.flatten.Nodup) (hge : ∀ b ∈ fps.flatten, w0.heap.size ≤ b) (hq : fq.Nodup) (hq2 : ∀ b ∈ fq, w0.heap.size ≤ b ∧ b ∉ fps.flatten) : OwnC w0 w9 v9 (v9.ownBlock.toList ++ (fps.flatten ++ fq)) (xs ++ [x]) := by
 refine ⟨fps ++ [fq], h, ?_, ?_, by simp⟩
 ·rw [List.flatten_append]
  refine List.nodup_append.2 ⟨hnd, by simpa using hq, fun a ha b hb e => ?_⟩
  subst e
  exact (hq2 a (by simpa using hb)).2 ha
 ·intro b hb
  rw [List.flatten_append] at hb
  rcases List.mem_append.1 hb with hb | hb
  ·exact hge b hb
  ·exact (hq2 b (by simpa using hb)).1
theorem OwnC.read {w0 w : World} {v : Value} {F : List Nat} {xs : List GCell} (h : OwnC w0 w v F xs) (hl : xs.length ≤ reachLen) : ∃ fq, SlR fq w v xs ∧ Fresh w0 fq ∧ ∀ b ∈ fq, b ∈ F := by
 obtain ⟨fps, h1, h2, h3, rfl⟩ := h
 obtain ⟨fp, hs, ⟨rfl, rfl⟩ | ⟨b, hb, rfl⟩⟩ := h1.slR hl
 ·exact ⟨[], hs, Fresh.nil _, by simp⟩
 ·refine ⟨_, hs, ⟨List.nodup_cons.2 ⟨h1.apart b hb, h2⟩, fun c hc => ?_⟩, fun c hc => ?_⟩
  ·rcases List.mem_cons.1 hc with rfl | hc
   ·exact (h1.base _ hb).1
   ·exact h3 c hc
  ·rcases List.mem_cons.1 hc with rfl | hc
   ·exact List.mem_append_left _ (by rw [hb]; simp)
   ·exact List.mem_append_right _ hc

theorem SrcR.wr {α : Type} [Rd α] {w w' : World} {x : Value} {gps : List (List Nat)} {ys : List α} {fq : List Nat} (h : SrcR w x gps ys) (k : Wr fq w w') (hb : ∀ b, x.ownBlock = some b → b ∉ fq) (hg : ∀ c ∈ gps.flatten, c ∉ fq) : SrcR w' x gps ys := by
 rcases h with h | ⟨b, off, c, css, rfl, hE, hc⟩
 ·exact .inl h
 ·exact .inr ⟨b, off, c, css, rfl, hE.mono (k.sameOn hE.lt hg), fun j u hj => k.keepC (hc j u hj) (hb b rfl)⟩

def DRow (rest : List Value) (w : World) (b : Nat) (xs : List Int) : Prop := VRow w b 3 (xs.map (Value.int .i64) ++ rest)
theorem DRow.lt {rest : List Value} {w : World} {b : Nat} {xs : List Int} (h : DRow rest w b xs) : b < w.heap.size := VRow.lt h
theorem DRow.cell {rest : List Value} {w : World} {b : Nat} {xs : List Int} (h : DRow rest w b xs) {k : Nat} (hk : k < xs.length) : w.cell? ⟨b, k, none⟩ = some (.int .i64 xs[k]) := by
 have h1 := VRow.cell h (k := k) (by simp; omega)
 rw [h1]
 simp [List.getElem_append_left, hk]
theorem DRow.set {rest : List Value} {w : World} {b : Nat} {xs : List Int} (h : DRow rest w b xs) {k : Nat} (hk : k < xs.length) (y : Int) : DRow rest (w.setCell ⟨b, k, none⟩ (.int .i64 y)) b (xs.set k y) := by
 have h1 := VRow.set h k (.int .i64 y)
 unfold DRow
 rw [List.map_set]
 rw [List.set_append_left _ _ (by simpa using hk)] at h1
 exact h1
theorem DRow.of_own {w0 w : World} {v : Value} {fps : List (List Nat)} {xs : List Int} (h : OwnR (α := Int) w0 3 w v fps xs) (hn : xs ≠ []) : ∃ g cap rest, v = .slice (some ⟨g, 0, none⟩) xs.length cap ∧ w0.heap.size ≤ g ∧ g < w.heap.size ∧ DRow rest w g xs := by
 have hb := h.base
 obtain ⟨v', e1, ho, -, -⟩ := h.toORow
 obtain rfl : v = v' := by simpa using e1
 rcases ho.2 with ⟨-, h0⟩ | ⟨g, cap, cur, rfl, h1, h2, h3, h4, h5, h6⟩
 ·exact absurd (List.eq_nil_of_length_eq_zero h0) hn
 ·have h7 := hb g rfl
  refine ⟨g, cap, cur.toList.drop xs.length, rfl, h7.1, h7.2, ?_⟩
  unfold DRow VRow
  rw [h2]
  have h8 : cur.toList.take xs.length = xs.map (Value.int .i64) := by
   have h9 : cur.toList.take (xs.length * 1) = xs.map (Value.int .i64) := h6
   rwa [Nat.mul_one] at h9
  rw [← h8, List.take_append_drop]

def CopiedS (w : World) (xs : List GCell) (e : Ending) (w' : World) : Prop := ∃ v F, e = .returned (.agg #[v]) ∧ OwnC w w' v F xs ∧ Gr w w'
end Go.Proofs.Ytmfcagcanhmdbaa

namespace Go.Proofs.Ytmfcagcanhmdbaa
open Go.RowKit
set_option linter.unusedVariables false
set_option linter.unusedSimpArgs false
variable {d : Nat}

def hStep (g : GGrammar d) (out : List Int) (r : Int) (nx : List Int) (i : Nat) : List Int :=
 if out.getD i 0 = 0 ∧ reachS g out ((g.1.getD i (⟨#[]⟩, [])).1) = true then nx.set i r else nx
def hRow (g : GGrammar d) (out : List Int) (r : Int) (k : Nat) : List Int := (List.range k).foldl (hStep g out r) out
def hts (g : GGrammar d) (k : Nat) : List Int := (List.range k).foldl (fun out (j : Nat) => hRow g out ((j : Int) + 1) g.1.length) (List.replicate g.1.length 0)
theorem hRow_succ (g : GGrammar d) (out : List Int) (r : Int) (k : Nat) : hRow g out r (k + 1) = hStep g out r (hRow g out r k) k := by
 unfold hRow
 rw [List.range_succ, List.foldl_append]
 rfl
theorem hts_succ (g : GGrammar d) (k : Nat) : hts g (k + 1) = hRow g (hts g k) ((k : Int) + 1) g.1.length := by
 unfold hts
 rw [List.range_succ, List.foldl_append]
 rfl
theorem hStep_ok {g : GGrammar d} {out : List Int} {r M : Int} (hr : 0 ≤ r ∧ r ≤ M) {nx : List Int} {i : Nat} (h : ∀ y ∈ nx, 0 ≤ y ∧ y ≤ M) : (hStep g out r nx i).length = nx.length ∧ ∀ y ∈ hStep g out r nx i, 0 ≤ y ∧ y ≤ M := by
 unfold hStep
 split
 ·refine ⟨by simp, fun y hy => ?_⟩
  rcases List.mem_or_eq_of_mem_set hy with hy | rfl
  ·exact h y hy
  ·exact hr
 ·exact ⟨rfl, h⟩
theorem hRow_ok {g : GGrammar d} {out : List Int} {r M : Int} (hr : 0 ≤ r ∧ r ≤ M) (h : ∀ y ∈ out, 0 ≤ y ∧ y ≤ M) : ∀ k, (hRow g out r k).length = out.length ∧ ∀ y ∈ hRow g out r k, 0 ≤ y ∧ y ≤ M := by
 intro k
 induction k with
 | zero => exact ⟨rfl, h⟩
 | succ k ih =>
  rw [hRow_succ]
  have := hStep_ok (g := g) (out := out) hr (i := k) ih.2
  exact ⟨this.1.trans ih.1, this.2⟩
theorem hts_ok (g : GGrammar d) : ∀ k, k ≤ g.1.length → (hts g k).length = g.1.length ∧ ∀ y ∈ hts g k, 0 ≤ y ∧ y ≤ (g.1.length : Int) := by
 intro k
 induction k with
 | zero => exact fun _ => ⟨by simp [hts], fun y hy => by have := (List.mem_replicate.1 hy).2; omega⟩
 | succ k ih =>
  intro hk
  have h1 := ih (by omega)
  rw [hts_succ]
  have h2 := hRow_ok (g := g) (out := hts g k) (r := (k : Int) + 1) (M := g.1.length) (by omega) h1.2 g.1.length
  exact ⟨h2.1.trans h1.1, h2.2⟩

theorem DRow.slR {rest : List Value} {w : World} {b : Nat} {xs : List Int} (h : DRow rest w b xs) (hw : ∀ y ∈ xs, 0 ≤ y ∧ y ≤ 140737488351232) (hr : xs.length ≤ 1048576) {cap : Nat} (hc : xs.length ≤ cap) : ∃ fq, SlR fq w (.slice (some ⟨b, 0, none⟩) xs.length cap) xs ∧ ∀ c ∈ fq, c = b := by
 by_cases h0 : xs = []
 ·subst h0
  exact ⟨[], ⟨_, cap, rfl, hc, by simp, .inl ⟨rfl, rfl⟩⟩, by simp⟩
 ·refine ⟨[b], ⟨_, cap, rfl, hc, by unfold reachLen; omega, .inr ⟨b, 0, List.replicate xs.length [], h0, rfl, by simp, by simp, fun j hj => VRow.frozen h _, fun i hi hi' => ?_⟩⟩, by simp⟩
  refine ⟨[.int .i64 xs[i]], fun j v hj => ?_, by have := hw _ (List.getElem_mem hi); simpa using intRd (wf_small this.1 this.2) w⟩
  cases j with
  | zero => simp at hj; subst hj; simpa [Rd.n] using h.cell hi
  | succ j => simp at hj

def HtsAt (g : GGrammar d) (w : World) (e : Ending) (w' : World) : Prop := ∃ v fq, e = .returned v ∧ SlR fq w' v (hts g g.1.length) ∧ (∀ c ∈ fq, w.heap.size ≤ c) ∧ Gr w w'
theorem DRow.of_own2 {w0 w : World} {v : Value} {fps : List (List Nat)} {xs : List Int} (h : OwnR (α := Int) w0 3 w v fps xs) (hn : xs ≠ []) (hr : xs.length ≤ 1048576) : ∃ g cap rest, v = .slice (some ⟨g, 0, none⟩) xs.length cap ∧ w0.heap.size ≤ g ∧ xs.length ≤ cap ∧ DRow rest w g xs := by
 obtain ⟨g, cap, rest, rfl, h1, -, h2⟩ := DRow.of_own h hn
 obtain ⟨fp, hs, -⟩ := h.slR (by unfold reachLen; omega)
 obtain ⟨a, c, he, hc, -⟩ := hs
 injection he with _ _ e3
 exact ⟨g, cap, rest, rfl, h1, by omega, h2⟩

set_option maxRecDepth 10000 in
set_option maxHeartbeats 8000000 in
theorem l12Heights_any {fg : List Nat} {cg : Array Value} (g : GGrammar d) (w : World) (hg : Rd.rd fg w cg.toList g) (hn : 0 < g.1.length) (hn2 : g.1.length ≤ 1000) :
  Calls Try.prog 117 #[.agg cg] w (HtsAt g w) := by
 obtain ⟨i0, hi, hz0, hz1, hz2⟩ := info_parts Try.infoIntC
 have hmi := fun (W : World) => run_make (P := Try.prog) W 59 3 i0 (.int .i64 0) Try.underlying59 hi hz0 .i64 .i64 g.1.length g.1.length (by omega) (by omega) (by rw [hz2]; omega) (by omega)
 have HZ := Lib.hid (And.intro hi (And.intro hz0 (And.intro hz1 hz2)))
 rw [hz1] at hmi
 clear hi hz0 hz1 hz2
 simp only [Int.toNat_natCast, Nat.mul_one] at hmi
 have HI0 := Lib.hid (fun W : World => IRow.made W g.1.length 3)
 have hci : (Value.int .i64 0).cells = #[.int .i64 0] := rfl
 rw [hci] at hmi
 generalize madeCells #[.int .i64 0] g.1.length = C1 at hmi HI0
 clear hci
 have HG := Lib.hid hg
 obtain ⟨g0, g1⟩ := g
 obtain ⟨vg0, fg0, vg1, fg1, rfl, hfpg, hg0, hg1⟩ := rdGrammar_inv g0 g1 hg
 have FPg := Lib.hid hfpg
 clear hfpg
 obtain ⟨ag0, kg0, rfl, og01, og02, og03⟩ := hg0.open
 obtain ⟨ag1, kg1, rfl, og11, og12, og13⟩ := hg1.open
 clear hg
 have hn' : 0 < g0.length := hn
 have hn2' : g0.length ≤ 1000 := hn2
 change Hid (∀ W : World, IRow (W.alloc (.cells C1 3)) W.heap.size 3 (List.replicate g0.length 0)) at HI0
 change ∀ W : World, _ = Result.ok (Value.slice _ g0.length g0.length) _ at hmi
 clear hn hn2
 go_enter Try.func117, Try.ntmps117
 go_wp2_with fail
 generalize hB : (w.alloc (.cells #[.slice ag0 g0.length kg0, .slice ag1 g1.length kg1] 114)).alloc (.cells C1 3) = B
 have gB : Gr w B := by rw [← hB]; exact gd
 have sB : B.heap.size = w.heap.size + 2 := by rw [← hB]; simp
 have b0 : B.cell? ⟨w.heap.size, 0, none⟩ = some (.slice ag0 g0.length kg0) := by rw [← hB]; exact Gr.keep gd (box_cell (A := w) rfl rfl)
 have b1 : B.cell? ⟨w.heap.size, 1, none⟩ = some (.slice ag1 g1.length kg1) := by rw [← hB]; exact Gr.keep gd (box_cell (A := w) rfl rfl)
 have d0 : DRow [] B (w.heap.size + 1) (hts (g0, g1) 0) := by
  rw [← hB]
  have h := HI0.out (w.alloc (.cells #[.slice ag0 g0.length kg0, .slice ag1 g1.length kg1] 114))
  rw [show (w.alloc (.cells #[.slice ag0 g0.length kg0, .slice ag1 g1.length kg1] 114)).heap.size = w.heap.size + 1 by simp] at h
  unfold DRow
  rw [List.append_nil]
  exact h
 have HGB := Lib.hid gB
 have HB0 := Lib.hid b0
 have HB1 := Lib.hid b1
 have HD0 := Lib.hid d0
 clear hB gB b0 b1 d0 hmi HI0
 go_loopw [4, 3] (fun s4 s3 wr => ∃ (k b cap : Nat) (rest : List Value), k ≤ g0.length ∧ Hid (Gr B wr) ∧ Hid (DRow rest wr b (hts (g0, g1) k)) ∧ w.heap.size < b ∧ g0.length ≤ cap ∧ s4 = .int .i64 ((k : Int) + 1) ∧ s3 = .slice (some ⟨b, 0, none⟩) g0.length cap) (fun s4 _ _ => g0.length + 1 - (intOf s4).toNat)
 case atStart => exact ⟨0, w.heap.size + 1, g0.length, [], by omega, Lib.hid (Gr.refl _), HD0, by omega, Nat.le_refl _, rfl, rfl⟩
 case round =>
  obtain ⟨k, bo, cap, rest, hk, HG1, HD1, hwb, hcap, rfl, rfl⟩ := hrel
  rename World => W1
  have y0 := HG1.out.keep HB0.out
  have zy0 := blk y0
  have hok := hts_ok (g0, g1) k hk
  have hlo : (hts (g0, g1) k).length = g0.length := hok.1
  have hvo : ∀ y ∈ hts (g0, g1) k, 0 ≤ y ∧ y ≤ (g0.length : Int) := hok.2
  obtain ⟨OUT, hOUT⟩ : ∃ O, O = hts (g0, g1) k := ⟨_, rfl⟩
  rw [← hOUT] at HD1 hlo hvo
  have HOUT := Lib.hid hOUT
  have HVO := Lib.hid hvo
  have HLO := Lib.hid hlo
  obtain ⟨fo, hso, hfo⟩ := HD1.out.slR (fun y hy => by have := hvo y hy; omega) (by omega) (cap := cap) (by omega)
  rw [hlo] at hso
  have hbl := HD1.out.lt
  have HSO := Lib.hid hso
  have HFO := Lib.hid hfo
  clear hok hOUT hvo hso hfo
  by_cases hlt : k < g0.length
  ·have hk1 : (k : Int) + 1 ≤ (g0.length : Int) := by omega
   have iwk : IntKind.i64.wrap ((k : Int) + 1 + 1) = (k : Int) + 1 + 1 := IntWalk.i64_in _ (by omega)
   obtain ⟨gps, hsrc, -, -⟩ := SrcR.of_slR HSO.out
   have hfl := hsrc.flat flatInt
   have HSRC := Lib.hid hsrc
   have HFL := Lib.hid hfl
   have hne : OUT ≠ [] := fun e => by have := HLO.out; rw [e] at this; simp at this; omega
   have HNE := Lib.hid hne
   clear hsrc hfl hne hlo
   go_wp2_with (first | (at_builtin; refine wpList_append_RB (α := Int) (wg := W1) (w0 := W1) (Gr.alloc (Gr.refl _) _) (Nat.le_refl _) (by simp) rfl _ _ 59 rfl 3 i0 (.int .i64 0) 8 Try.underlying59 HZ.out.1 HZ.out.2.1 HZ.out.2.2.1 HZ.out.2.2.2 rfl _ [] [] (by rfl) (OwnR.lit0 (α := Int) (w0 := W1) (w := W1) 3 (Nat.le_refl _) rfl) _ gps OUT (by rfl) (HSRC.out.gr gd) (fun b _ => by rw [HFL.out]; simp) (by rw [HLO.out]; unfold maxLen; simp; omega) (by rw [HLO.out]; simp; omega) ?_; intro v3 w3 h1 h2 h3 h4; rw [List.nil_append, List.nil_append] at h1; obtain ⟨g3, cp3, rest3, hv3, hg3, hc3, hd3⟩ := DRow.of_own2 h1 HNE.out (by rw [HLO.out]; omega); rw [HLO.out] at hv3 hc3; subst hv3; have HD3 := Lib.hid hd3; have HG3 := Lib.hid h4; clear h1 h2 h3 h4 hd3))
   have hg1s := HG1.out.size
   have hg3s := HG3.out.size
   clear y0 zy0
   go_loopw [6] (fun s6 wr => ∃ i : Nat, i ≤ g0.length ∧ Hid (Wr [g3] w3 wr) ∧ Hid (DRow rest3 wr g3 (hRow (g0, g1) OUT ((k : Int) + 1) i)) ∧ s6 = .int .i64 i) (fun s6 _ => g0.length - (intOf s6).toNat)
   case atStart => exact ⟨0, by omega, Lib.hid (Wr.refl _ _), HD3, rfl⟩
   case round =>
    obtain ⟨i, hi, HW4, HD4, rfl⟩ := hrel
    rename World => W4
    have HG4 := Lib.hid (Gr.wr (HG1.out.trans HG3.out) HW4.out (fun c hc => by rw [List.mem_singleton.1 hc]; omega))
    have HGW4 := Lib.hid (HGB.out.trans HG4.out)
    have y0 := HG4.out.keep HB0.out
    have y1 := HG4.out.keep HB1.out
    have zy0 := blk y0
    have HSO4 := Lib.hid ((HSO.out.gr HG3.out).wr HW4.out (fun c hc hm => by have h1 := HFO.out c hc; have h2 := List.mem_singleton.1 hm; omega))
    have hrl : (hRow (g0, g1) OUT ((k : Int) + 1) i).length = g0.length := by
     rw [(hRow_ok (g := (g0, g1)) (out := OUT) (r := (k : Int) + 1) (M := (g0.length : Int)) (by omega) HVO.out i).1, HLO.out]
    have HRL := Lib.hid hrl
    clear hrl
    by_cases hlt : i < g0.length
    ·have hgw := HGW4.out
     have hio : i < OUT.length := by rw [HLO.out]; exact hlt
     have cO : W4.cell? ⟨bo, i, none⟩ = some (.int .i64 OUT[i]) := HW4.out.keepC (HG3.out.keep (HD1.out.cell hio)) (by simp; omega)
     have zO := blk cO
     have i0' : (0 : Int) ≤ (i : Int) := by omega
     have i1' : (i : Int) < (g0.length : Int) := by omega
     have iwi : IntKind.i64.wrap ((i : Int) + 1) = (i : Int) + 1 := IntWalk.i64_in _ (by omega)
     obtain ⟨b, off, rfl, hbb⟩ := og03 i hlt
     obtain ⟨csq, feq, hcq, hrq, -⟩ := hg0.at hlt
     obtain ⟨yq, hyq⟩ : ∃ y, y = g0[i] := ⟨_, rfl⟩
     rw [← hyq] at hrq
     have HYq := Lib.hid hyq
     have HRq := Lib.hid hrq
     obtain ⟨q0, q1⟩ := yq
     obtain ⟨vq1, fq1, hcsq, -, hq0, hq1⟩ := rdSymbol_inv (cs := csq.toArray) q0 q1 (by simpa using hrq)
     obtain rfl : csq = [.string q0, vq1] := by have := congrArg Array.toList hcsq; simpa using this
     obtain ⟨aq1, kq1, rfl, oq11, oq12, oq13⟩ := hq1.open
     have qz0 := hgw.keep (show w.cell? ⟨b, off + i * 2, none⟩ = some (.string q0) from by simpa [Rd.n] using hcq 0 _ rfl)
     have qz1 := hgw.keep (show w.cell? ⟨b, off + i * 2 + 1, none⟩ = some (.slice aq1 q1.length kq1) from hcq 1 _ rfl)
     have qzb := blk qz0
     clear hcsq hcq hrq hyq
     have HST : Hid (hRow (g0, g1) OUT ((k : Int) + 1) (i + 1) = if OUT[i] = 0 ∧ reachS (g0, g1) OUT q0 = true then (hRow (g0, g1) OUT ((k : Int) + 1) i).set i ((k : Int) + 1) else hRow (g0, g1) OUT ((k : Int) + 1) i) := Lib.hid (by
      rw [hRow_succ]
      unfold hStep
      have e1 : OUT.getD i 0 = OUT[i] := by simp [List.getD_eq_getElem?_getD, List.getElem?_eq_getElem hio]
      have e2 : ((g0, g1) : GGrammar d).1.getD i (⟨#[]⟩, []) = g0[i] := by simp [List.getD_eq_getElem?_getD, List.getElem?_eq_getElem hlt]
      rw [e1, e2, ← HYq.out])
     obtain ⟨oi, hoi⟩ : ∃ o, o = OUT[i] := ⟨_, rfl⟩
     rw [← hoi] at cO HST
     obtain ⟨rb, hrb⟩ : ∃ r, r = reachS (g0, g1) OUT q0 := ⟨_, rfl⟩
     have HC : Hid (∀ x : Ext, Calls Try.prog 121 #[.agg #[.slice (some ⟨b, off, none⟩) g0.length kg0, .slice ag1 g1.length kg1], .string q0, .slice (some ⟨bo, 0, none⟩) g0.length cap] (W4.ext x) fun e w' => e = .returned (.bool rb) ∧ Gr (W4.ext x) w') := Lib.hid (fun x => by
      rw [hrb]
      exact l12Reached_any (g0, g1) q0 OUT _ (Rd.gr HG.out (HGW4.out.trans gd)) (HSO4.out.gr gd) HLO.out)
     rw [← hrb] at HST
     clear hoi hrb hio hgw
     have d4 := HD4.out.cell (k := i) (by rw [HRL.out]; exact hlt)
     have zd4 := blk d4
     have fd4 := VRow.frozen HD4.out i
     by_cases h0 : oi = 0
     ·have e0 : (oi == 0) = true := by simp [h0]
      go_wp2_with fail
      refine wp_region_grown (by kernel_rfl) (by kernel_rfl) ?_
      repeat (go_big_quiet_step (first | (go_at_call 121; exact grown_call (HC.out _))))
      refine wpQuiet_nil ?_
      intro _ hw'
      obtain ⟨nx, hw''⟩ := hw'
      subst hw''
      cases rb with
      | true =>
       have HST2 := Lib.hid (HST.out.trans (if_pos ⟨h0, rfl⟩))
       go_wp2_with fail
       exact ⟨⟨i + 1, by omega, Lib.hid ((HW4.out.setCell (List.mem_singleton.2 rfl) _).gr (Gr.ext (Gr.refl _) _)), Lib.hid (by rw [HST2.out]; exact VRow.gr (DRow.set HD4.out (by rw [HRL.out]; exact hlt) _) (Gr.ext (Gr.refl _) _)), by go_num⟩, by simp [intOf]; omega⟩
      | false =>
       have HST2 := Lib.hid (HST.out.trans (if_neg (fun h => by cases h.2)))
       go_wp2_with fail
       exact ⟨⟨i + 1, by omega, Lib.hid (HW4.out.gr (Gr.ext (Gr.refl _) _)), Lib.hid (by rw [HST2.out]; exact VRow.gr HD4.out (Gr.ext (Gr.refl _) _)), by go_num⟩, by simp [intOf]; omega⟩
     ·have e0 : (oi == 0) = false := by simpa using h0
      have HST2 := Lib.hid (HST.out.trans (if_neg (fun h => h0 h.1)))
      clear h0
      go_wp2_with fail
      refine wp_region_grown (by kernel_rfl) (by kernel_rfl) ?_
      repeat (go_big_quiet_step (fail))
      refine wpQuiet_nil ?_
      intro _ hw'
      obtain ⟨nx, hw''⟩ := hw'
      subst hw''
      go_wp2_with fail
      exact ⟨⟨i + 1, by omega, Lib.hid (HW4.out.gr (Gr.ext (Gr.refl _) _)), Lib.hid (by rw [HST2.out]; exact VRow.gr HD4.out (Gr.ext (Gr.refl _) _)), by go_num⟩, by simp [intOf]; omega⟩
    ·have hi2 : i = g0.length := by omega
     subst hi2
     have hnx : hts (g0, g1) (k + 1) = hRow (g0, g1) OUT ((k : Int) + 1) g0.length := by rw [hts_succ, ← HOUT.out]
     have HNX := Lib.hid hnx
     clear hnx
     go_wp2_with fail
     refine ⟨⟨k + 1, g3, cp3, rest3, by omega, HG4, Lib.hid (by rw [HNX.out]; exact HD4.out), by omega, hc3, ?_, rfl⟩, by simp [intOf]; omega⟩
     go_num
  ·have hk2 : k = g0.length := by omega
   subst hk2
   have hk1 : ¬ ((g0.length : Int) + 1 ≤ (g0.length : Int)) := by omega
   go_wp2_with fail
   go_ret
   refine ⟨_, fo, rfl, ?_, fun c hc => by have := HFO.out c hc; omega, HGB.out.trans HG1.out⟩
   rw [← HOUT.out]
   exact HSO.out
end Go.Proofs.Ytmfcagcanhmdbaa
