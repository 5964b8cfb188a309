/- The names of a symbol's rules: the reference's. A region that draws its order, by what is known of each operation's value; what is known of all may name the act and the operations done. No condition. -/
import Derived.Test.YtmfcagcanhmdbaaH28
import Derived.Test.YtmfcagcanhmdbaaH24
import Derived.Test.YtmfcagcanhmdbaaH29
namespace Go.Proofs.Ytmfcagcanhmdbaa
open Go.RowKit
set_option linter.unusedVariables false
set_option linter.unusedSimpArgs false
variable {d : Nat}

theorem Try.infoTextC : (Try.prog.info? 9).map (fun i => (i.zero, i.size, i.bytes)) = some (some (.string ByteArray.empty), 1, 16) := by kernel_rfl
def rulesN (rs : List (GRule d)) (n : ByteArray) : List ByteArray := (rs.filter fun r => decide (r.2.1 = n)).map Prod.fst
def StrsAt (xs : List ByteArray) (w : World) (e : Ending) (w' : World) : Prop := ∃ v fq, e = .returned v ∧ SlR fq w' v xs ∧ Fresh w fq ∧ Gr w w'
theorem rulesN_len (rs : List (GRule d)) (n : ByteArray) : (rulesN rs n).length ≤ rs.length := by
 unfold rulesN
 rw [List.length_map]
 exact List.length_filter_le _ _

set_option maxRecDepth 10000 in
set_option maxHeartbeats 4000000 in
theorem rulesOf_any {fg : List Nat} {cg : Array Value} (g : GGrammar d) (n : ByteArray) (w : World) (hg : Rd.rd fg w cg.toList g) (hl : wtGrammar g ≤ 1048576) :
  Calls Try.prog 116 #[.agg cg, .string n] w (StrsAt (rulesN g.2 n) w) := by
 obtain ⟨i0, hi, hz0, hz1, hz2⟩ := info_parts Try.infoTextC
 have HZ := Lib.hid (And.intro hi (And.intro hz0 (And.intro hz1 hz2)))
 clear hi hz0 hz1 hz2
 have hgl : g.2.length ≤ 1048576 := by
  have h1 : wtSymbolS g.1 + wtRuleS g.2 ≤ 1048576 := hl
  have h2 := wtL_len wtRule g.2
  have h3 : wtRuleS g.2 = wtL wtRule g.2 := rfl
  omega
 clear hl
 have HG := Lib.hid hg
 obtain ⟨g0, g1⟩ := g
 obtain ⟨vg0, fg0, vg1, fg1, rfl, hfpg, hg0, hg1⟩ := rdGrammar_inv g0 g1 hg
 have FPg := Lib.hid hfpg
 clear hfpg
 obtain ⟨ag0, kg0, rfl, og01, og02, og03⟩ := hg0.open
 obtain ⟨ag1, kg1, rfl, og11, og12, og13⟩ := hg1.open
 clear hg
 have hgl' : g1.length ≤ 1048576 := hgl
 clear hgl
 go_enter Try.func116, Try.ntmps116
 go_wp2_with fail
 generalize hB : (w.alloc (.cells #[.slice ag0 g0.length kg0, .slice ag1 g1.length kg1] 114)) = B
 have gB : Gr w B := by rw [← hB]; exact gd
 have bB0 : ∀ w' : World, Gr B w' → w'.cell? ⟨w.heap.size, 0, none⟩ = some (.slice ag0 g0.length kg0) := fun w' hg => hg.keep (by rw [← hB]; repeat (first | ((with_reducible refine box_cell ?_ ?_) <;> first | omega | (simp; done) | (simp; omega) | rfl) | (with_reducible refine Gr.keep (Gr.alloc (Gr.refl _) _) ?_) | (with_reducible refine Gr.keep (Gr.ext (Gr.refl _) _) ?_) | (with_reducible refine Gr.keep (Gr.drew (Gr.refl _)) ?_)))
 have bB1 : ∀ w' : World, Gr B w' → w'.cell? ⟨w.heap.size, 1, none⟩ = some (.slice ag1 g1.length kg1) := fun w' hg => hg.keep (by rw [← hB]; repeat (first | ((with_reducible refine box_cell ?_ ?_) <;> first | omega | (simp; done) | (simp; omega) | rfl) | (with_reducible refine Gr.keep (Gr.alloc (Gr.refl _) _) ?_) | (with_reducible refine Gr.keep (Gr.ext (Gr.refl _) _) ?_) | (with_reducible refine Gr.keep (Gr.drew (Gr.refl _)) ?_)))
 have sB : B.heap.size = w.heap.size + 1 := by rw [← hB]; first | (simp; done) | (simp; omega)
 have EB := Lib.hid hB
 clear hB
 go_loopw [6, 5] (fun s6 s5 wr => ∃ (k : Nat) (fps : List (List Nat)), k ≤ g1.length ∧ Hid (fps.flatten = []) ∧ Gr B wr ∧ OwnR (α := ByteArray) B 9 wr s5 fps (rulesN (g1.take k) n) ∧ s6 = .int .i64 k) (fun s6 _ _ => g1.length - (intOf s6).toNat)
 case atStart => exact ⟨0, [], by omega, Lib.hid rfl, gd, OwnR.lit0 (α := ByteArray) (w0 := B) (w := B) 9 (Nat.le_refl _) (by omega), rfl⟩
 case round =>
  obtain ⟨k, fps, hk, HF, hg1', hown, rfl⟩ := hrel
  rename World => W1
  have HGR := Lib.hid hg1'
  have HO := Lib.hid hown
  obtain ⟨L, hL⟩ : ∃ L, L = rulesN (g1.take k) n := ⟨_, rfl⟩
  have hLl : L.length ≤ 1048576 := by
   have h1 := rulesN_len (g1.take k) n
   rw [← hL, List.length_take] at h1
   omega
  obtain ⟨ra, rc, hform⟩ := hown.form
  rw [← hL] at hform
  subst hform
  have HL := Lib.hid hL
  have y1 := bB1 _ hg1'
  have zy1 := blk y1
  have hgw := gB.trans hg1'
  have HGW := Lib.hid hgw
  clear hg1' hown hL
  by_cases hlt : k < g1.length
  ·skip
   obtain ⟨b, off, rfl, hbb⟩ := og13 k hlt
   obtain ⟨csq, feq, hcq, hrq, -⟩ := hg1.at hlt
   obtain ⟨yq, hyq⟩ : ∃ y, y = g1[k] := ⟨_, rfl⟩
   rw [← hyq] at hrq
   have HYq := Lib.hid hyq
   have HRq := Lib.hid hrq
   obtain ⟨q0, q1, q2, q3, q4, q5⟩ := yq
   obtain ⟨vq2, fq2, vq4, fq4, vq5, fq5, hcsq, -, hq0, hq1, hq2, hq4, hq5⟩ := rdRule_inv (cs := csq.toArray) q0 q1 q2 q3 q4 q5 (by simpa using hrq)
   obtain rfl : csq = [.string q0, .string q1, vq2, .bool q3, vq4, vq5] := by have := congrArg Array.toList hcsq; simpa using this
   obtain ⟨aq2, kq2, rfl, oq21, oq22, oq23⟩ := hq2.open
   obtain ⟨aq4, kq4, rfl, oq41, oq42, oq43⟩ := hq4.open
   obtain ⟨aq5, kq5, rfl, oq51, oq52, oq53⟩ := hq5.open
   have qz0 := hgw.keep (show w.cell? ⟨b, off + k * 6, none⟩ = some (.string q0) from by simpa [Rd.n] using hcq 0 _ rfl)
   have qz1 := hgw.keep (show w.cell? ⟨b, off + k * 6 + 1, none⟩ = some (.string q1) from hcq 1 _ rfl)
   have qz2 := hgw.keep (show w.cell? ⟨b, off + k * 6 + 2, none⟩ = some (.slice aq2 q2.length kq2) from hcq 2 _ rfl)
   have qz3 := hgw.keep (show w.cell? ⟨b, off + k * 6 + 3, none⟩ = some (.bool q3) from hcq 3 _ rfl)
   have qz4 := hgw.keep (show w.cell? ⟨b, off + k * 6 + 4, none⟩ = some (.slice aq4 q4.length kq4) from hcq 4 _ rfl)
   have qz5 := hgw.keep (show w.cell? ⟨b, off + k * 6 + 5, none⟩ = some (.slice aq5 q5.length kq5) from hcq 5 _ rfl)
   have qzb := blk qz0
   clear hcsq hcq hrq hyq
   have k0 : (0 : Int) ≤ (k : Int) := by omega
   have k1 : (k : Int) < (g1.length : Int) := by omega
   have iw : IntKind.i64.wrap ((k : Int) + 1) = (k : Int) + 1 := IntWalk.i64_in _ (by omega)
   have HQ := Lib.hid hq0
   have HTK := Lib.hid (show rulesN (g1.take (k + 1)) n = L ++ (if q1 = n then [q0] else []) by
    unfold rulesN
    rw [List.take_succ_eq_append_getElem hlt, List.filter_append, List.map_append, HL.out, ← HYq.out]
    unfold rulesN
    by_cases h : q1 = n <;> simp [h])
   clear hgw
   by_cases hkey : q1 = n
   ·have HTK2 := Lib.hid (show rulesN (g1.take (k + 1)) n = L ++ [q0] by rw [HTK.out, if_pos hkey])
    subst hkey
    go_wp2_with (first | (at_builtin; refine wpList_append_R (α := ByteArray) (w0 := B) (HGR.out.trans gd) rfl _ _ 130 rfl 9 i0 (.string ByteArray.empty) 16 Try.underlying130 HZ.out.1 HZ.out.2.1 HZ.out.2.2.1 HZ.out.2.2.2 rfl _ fps _ (by rfl) (HO.out.gr gd) _ [[]] [q0] (by rfl) (SrcR.one (by simp) ⟨rfl, rfl, HQ.out⟩) (fun b _ => by simp) (by rw [← HL.out]; unfold maxLen; simp; omega) (by rw [← HL.out]; simp; omega) ?_; intro v3 w3 h1 h2 h3 h4; replace h1 := Lib.hid h1; replace h4 := Lib.hid h4; clear h2 h3))
    refine ⟨⟨k + 1, fps ++ [[]], by omega, Lib.hid (by rw [List.flatten_append, HF.out]; rfl), h4.out, ?_, by go_num⟩, by simp [intOf]; omega⟩
    rw [HTK2.out, HL.out]
    exact h1.out
   ·have e : (q1.toList == n.toList) = false := by simpa using fun e => hkey (str_inj e)
    have HTK2 := Lib.hid (show rulesN (g1.take (k + 1)) n = L by rw [HTK.out, if_neg hkey, List.append_nil])
    clear hkey
    go_wp2_with fail
    refine ⟨⟨k + 1, fps, by omega, HF, HGR.out, ?_, by go_num⟩, by simp [intOf]; omega⟩
    rw [HTK2.out, HL.out]
    have h1 := HO.out
    rw [← HL.out] at h1 ⊢
    exact h1
  ·have hk2 : k = g1.length := by omega
   subst hk2
   obtain ⟨fq, h1, h2⟩ := HO.out.fresh (by rw [← HL.out]; unfold reachLen; omega) (by rw [HF.out]; exact Fresh.nil _)
   rw [List.take_length] at h1
   have H1 := Lib.hid h1
   have H2 := Lib.hid (h2.of_le gB.size)
   have HLL := Lib.hid (show L.length = (rulesN g1 n).length by rw [HL.out, List.take_length])
   clear h1 h2
   go_wp2_with fail
   go_ret
   exact ⟨_, fq, rfl, by have := H1.out; exact this, H2.out, HGW.out⟩
end Go.Proofs.Ytmfcagcanhmdbaa

namespace Go.Proofs.Ytmfcagcanhmdbaa
open Go.RowKit

section
variable {P : Program} {ops : Array Oper} {Q : Exit → Act → World → Prop}

def okJ (z n : Nat) (ops : Array Oper) : Bool :=
 ((List.range ops.size).all fun i => ((ops[i]?).map fun o => o.guard.isNone && o.after.all (fun e => !(Region.binds .any e) || decide (e.on < i)) && o.dst.all (fun d => decide (d < n))).getD false) && decide ((dstsI ops).Nodup) && decide (z < ops.size)
theorem okJ_at {z n : Nat} (h : okJ z n ops = true) {i : Nat} {o : Oper} (ho : ops[i]? = some o) : o.guard = none ∧ (∀ e ∈ o.after, Region.binds .any e = true → e.on < i) ∧ ∀ d, o.dst = some d → d < n := by
 unfold okJ at h
 simp only [Bool.and_eq_true, List.all_eq_true, List.mem_range] at h
 have hi : i < ops.size := (Array.getElem?_eq_some_iff.1 ho).1
 have h1 := h.1.1 i hi
 rw [ho] at h1
 simp only [Option.map_some, Option.getD_some, Bool.and_eq_true, Array.all_eq_true_iff_forall_mem, Option.isNone_iff_eq_none] at h1
 refine ⟨h1.1.1, fun e he hb => (by have h9 := h1.1.2 e he; rw [hb] at h9; simpa using h9), fun d hd => ?_⟩
 have := h1.2
 rw [hd] at this
 simpa using this
theorem okJ_inj {z n : Nat} (h : okJ z n ops = true) {i j : Nat} {o p : Oper} {d : Nat} (ho : ops[i]? = some o) (hp : ops[j]? = some p) (hd : o.dst = some d) (hd' : p.dst = some d) : i = j := by
 unfold okJ at h
 simp only [Bool.and_eq_true, decide_eq_true_eq] at h
 have hn := h.1.2
 unfold dstsI at hn
 rw [← Array.getElem?_toList] at ho hp
 generalize ops.toList = xs at hn ho hp
 clear h
 induction xs generalizing i j with
 | nil => simp at ho
 | cons x xs ih =>
  have mem : ∀ {k : Nat} {q : Oper}, xs[k]? = some q → q.dst = some d → d ∈ xs.filterMap (·.dst) := fun hq hd => List.mem_filterMap.2 ⟨_, List.mem_of_getElem? hq, hd⟩
  cases i with
  | zero =>
   cases j with
   | zero => rfl
   | succ j =>
    simp at ho hp
    subst ho
    rw [List.filterMap_cons, hd] at hn
    exact absurd (mem hp hd') (List.nodup_cons.1 hn).1
  | succ i =>
   cases j with
   | zero =>
    simp at ho hp
    subst hp
    rw [List.filterMap_cons, hd'] at hn
    exact absurd (mem ho hd) (List.nodup_cons.1 hn).1
   | succ j =>
    simp at ho hp
    have : (xs.filterMap (·.dst)).Nodup := by
     rw [List.filterMap_cons] at hn
     split at hn
     ·exact hn
     ·exact (List.nodup_cons.1 hn).2
    rw [ih this ho hp]

def onsK (o : Oper) : List Nat := o.after.toList.filterMap fun e => if Region.binds .any e then some e.on else none
def StepK (P : Program) (ops : Array Oper) (Q : Exit → Act → World → Prop) (S : (Nat → Bool) → Act → World → Prop) (V : Bool → Nat → Value → World → Prop) (z : Nat) (a0 : Act) (i : Nat) (o : Oper) : Prop :=
 ∀ (D : Nat → Bool) (f : Bool) (a : Act) (w : World), D z = f → a.tmps.size = a0.tmps.size → D i = false → (∀ j, (onsK o).contains j = true → D j = true) → (i = z ∨ waits .any ops z i = true → f = false) → S D a w → (∀ k, (dstsI ops).contains k = false → a.tmps[k]?.getD undef = a0.tmps[k]?.getD undef) →
  (∀ d, (predsI ops o).contains d = true → V f d (a.tmps[d]?.getD undef) w) →
  ∀ K : Act → World → Prop, Shut (∀ v u, S (fun j => decide (j = i) || D j) (a.put o.dst v) u → (∀ d, V f d (a.tmps[d]?.getD undef) w → V (f || decide (i = z)) d (a.tmps[d]?.getD undef) u) → (∀ d, o.dst = some d → V (f || decide (i = z)) d v u) → K (a.put o.dst v) u) → Oper.wp P o a w K Q

structure InvK (P : Program) (ops : Array Oper) (S : (Nat → Bool) → Act → World → Prop) (V : Bool → Nat → Value → World → Prop) (z : Nat) (a0 : Act) (l : Array Bool) (a : Act) (w : World) : Prop where
 size : l.size = ops.size
 fr : FrI a0 (dstsI ops) a
 s : S (fun j => l.getD j false) a w
 v : ∀ j o d, ops[j]? = some o → l.getD j false = true → o.dst = some d → V (l.getD z false) d (a.eval (.tmp d)) w
 z : l.getD z false = true → ∀ o, ops[z]? = some o → ∀ e ∈ o.after, Region.binds .any e = true → l.getD e.on false = true

theorem invK_any {S : (Nat → Bool) → Act → World → Prop} {V : Bool → Nat → Value → World → Prop} {z : Nat} {a0 : Act} (hok : okJ z a0.tmps.size ops = true) (step : AllI (StepK P ops Q S V z a0) 0 ops.toList)
  (hend : ∀ (D : Nat → Bool) (t : Nat → Value) (w : World), (∀ k, k < ops.size → D k = true) → (∀ d, (dstsI ops).contains d = true → (layI (dstsI ops) t a0).tmps[d]?.getD undef = t d) → S D (layI (dstsI ops) t a0) w → (∀ d, (dstsI ops).contains d = true → V true d (t d) w) → Q .normal (layI (dstsI ops) t a0) w) :
  ∀ (n : Nat) (l : Array Bool) (a : Act) (w : World), InvK P ops S V z a0 l a w → l.toList.count false ≤ n → wpAny P .any ops Q n l a w := by
 have hzs : z < ops.size := by unfold okJ at hok; simp only [Bool.and_eq_true, decide_eq_true_eq] at hok; exact hok.2
 have fin : ∀ (l : Array Bool) (a : Act) (w : World), InvK P ops S V z a0 l a w → Region.ready .any ops l = [] → Q .normal a w := by
  intro l a w hI hr
  have all : ∀ k, k < ops.size → l.getD k false = true := by
   intro k
   induction k using Nat.strongRecOn with
   | ind k ih =>
    intro hk
    rcases hlk : l.getD k false with _ | _
    ·have ho : ops[k]? = some ops[k] := Array.getElem?_eq_getElem hk
     have hm : k ∈ Region.ready .any ops l := mem_ready.2 ⟨by
      have hks : k < l.size := by rw [hI.size]; exact hk
      simpa [Array.getD, hks] using hlk, _, ho, fun e he hbb => ih e.on ((okJ_at hok ho).2.1 e he hbb) (by have := (okJ_at hok ho).2.1 e he hbb; omega)⟩
     rw [hr] at hm; cases hm
    ·rfl
  have hz := all z hzs
  have hlay := hI.fr.lay
  have hs := hI.s
  rw [hlay] at hs ⊢
  refine hend _ _ w all (fun d hd => ?_) hs fun d hd => ?_
  ·have hd : d ∈ dstsI ops := by simpa using hd
   obtain ⟨o, ho, hod⟩ := List.mem_filterMap.1 hd
   obtain ⟨j, hj⟩ := List.mem_iff_getElem?.1 ho
   rw [Array.getElem?_toList] at hj
   rw [← eval_tmp, (layI_get _ (dstsI ops) a0).2.2 d ((okJ_at hok hj).2.2 d hod), if_pos hd]
  have hd : d ∈ dstsI ops := by simpa using hd
  obtain ⟨o, ho, hod⟩ := List.mem_filterMap.1 hd
  obtain ⟨j, hj⟩ := List.mem_iff_getElem?.1 ho
  rw [Array.getElem?_toList] at hj
  have := hI.v j o d hj (all j (Array.getElem?_eq_some_iff.1 hj).1) hod
  rwa [hz] at this
 intro n
 induction n with
 | zero =>
  intro l a w hI hc
  have hr : Region.ready .any ops l = [] := by
   rw [List.eq_nil_iff_forall_not_mem]
   intro i hi
   obtain ⟨h0, o, ho, -⟩ := mem_ready.1 hi
   have hil : i < l.size := by rw [hI.size]; exact (Array.getElem?_eq_some_iff.1 ho).1
   have : false ∈ l.toList := by
    simp [Array.getD, hil] at h0
    rw [← h0]
    exact Array.getElem_mem_toList hil
   have := List.count_pos_iff.2 this
   omega
  exact ⟨hr, fin l a w hI hr⟩
 | succ n ih =>
  intro l a w hI hc
  refine ⟨fin l a w hI, fun i hi => ?_⟩
  obtain ⟨h0, o, ho, hall⟩ := mem_ready.1 hi
  have his : i < ops.size := (Array.getElem?_eq_some_iff.1 ho).1
  have hil : i < l.size := by rw [hI.size]; exact his
  have hli : l.getD i false = false := by simpa [Array.getD, hil] using h0
  refine wpOp_step ho fun K' hK => ?_
  rw [if_pos (by simp [Region.wanted, (okJ_at hok ho).1])]
  have step' : StepK P ops Q S V z a0 i o := by have := step.at (i := i) (o := o) (by rw [Array.getElem?_toList]; exact ho); rwa [Nat.zero_add] at this
  refine step' (fun j => l.getD j false) (l.getD z false) a w rfl hI.fr.2.1 hli (fun j hj => ?_) (fun hor => ?_) hI.s (fun k hk => by rw [← eval_tmp, ← eval_tmp]; exact hI.fr.2.2 k (by simpa using hk)) (fun d hd => ?_) K' (fun v u hS hst hV => hK _ _ (ih _ _ _ ⟨?_, ?_, ?_, ?_, ?_⟩ ?_))
  ·have hj : j ∈ onsK o := by simpa using hj
   obtain ⟨e, he, hed⟩ := List.mem_filterMap.1 hj
   have he : e ∈ o.after := by simpa using he
   split at hed
   ·rename_i hb
    cases hed
    exact hall e he hb
   ·cases hed
  ·rcases hz : l.getD z false with _ | _
   ·rfl
   ·exfalso
    rcases hor with e | hw
    ·rw [← e, hli] at hz; cases hz
    ·obtain ⟨q, hq⟩ : ∃ q, ops[z]? = some q := ⟨_, Array.getElem?_eq_getElem hzs⟩
     unfold waits at hw
     rw [hq] at hw
     simp only [Option.map_some, Option.getD_some] at hw
     obtain ⟨x, hx, h2⟩ := Array.any_eq_true'.1 hw
     simp only [Bool.and_eq_true, beq_iff_eq] at h2
     have := hI.z hz q hq x hx h2.1
     rw [h2.2, hli] at this
     cases this
  ·rw [← eval_tmp]
   have hd : d ∈ predsI ops o := by simpa using hd
   obtain ⟨e, he, hed⟩ := List.mem_filterMap.1 hd
   have he : e ∈ o.after := by simpa using he
   split at hed
   ·rename_i hb
    cases hp : ops[e.on]? with
    | none => rw [hp] at hed; cases hed
    | some p =>
     rw [hp] at hed
     exact hI.v e.on p d hp (hall e he hb) hed
   ·cases hed
  ·simp [hI.size]
  ·refine ⟨?_, ?_, fun k hk => ?_⟩
   ·cases o.dst <;> exact hI.fr.1
   ·cases o.dst
    ·exact hI.fr.2.1
    ·exact (show (Array.setIfInBounds _ _ _).size = _ by simp).trans hI.fr.2.1
   ·cases hd : o.dst with
    | none => exact hI.fr.2.2 k hk
    | some d => rw [eval_put_ne (fun e => hk (by rw [e]; exact mem_dstsI ho hd))]; exact hI.fr.2.2 k hk
  ·have e : (fun j => (l.setIfInBounds i true).getD j false) = fun j => decide (j = i) || l.getD j false := by
    funext j
    rw [getD_setTrue hil]
    by_cases e : j = i
    ·simp [e]
    ·simp [e]
   rw [e]
   exact hS
  ·intro j p d hj hdj hd
   have hfz : (l.setIfInBounds i true).getD z false = (l.getD z false || decide (i = z)) := by
    rw [getD_setTrue hil]
    by_cases e : i = z
    ·subst e; simp
    ·rw [if_neg (Ne.symm e)]; simp [e]
   rw [hfz]
   rw [getD_setTrue hil] at hdj
   by_cases e : j = i
   ·subst e
    rw [ho] at hj
    cases hj
    rw [hd, eval_put_self (by rw [hI.fr.2.1]; exact (okJ_at hok ho).2.2 d hd)]
    exact hV d hd
   ·rw [if_neg e] at hdj
    have hvj := hst d (by rw [← eval_tmp]; exact hI.v j p d hj hdj hd)
    rw [← eval_tmp] at hvj
    cases hod : o.dst with
    | none => exact hvj
    | some d' =>
     rw [eval_put_ne (fun h => e (okJ_inj hok hj ho hd (by rw [hod, h])))]
     exact hvj
  ·intro hz q hq e he hb
   rw [getD_setTrue hil]
   split
   ·rfl
   ·rename_i hne
    rw [getD_setTrue hil] at hz
    by_cases hzi : z = i
    ·subst hzi
     rw [ho] at hq
     cases hq
     exact hall e he hb
    ·rw [if_neg hzi] at hz
     exact hI.z hz q hq e he hb
  ·have hgl : l.toList[i]'(by simpa using hil) = false := by simpa [Array.getD, hil] using h0
   rw [Array.toList_setIfInBounds, List.count_set (by simpa using hil)]
   have hpos : 0 < l.toList.count false := List.count_pos_iff.2 (by rw [← hgl]; exact List.getElem_mem _)
   rw [hgl]
   have e1 : (if (true == false) = true then 1 else 0) = 0 := rfl
   simp only [beq_self_eq_true, if_true, e1]
   omega

theorem wp_region_K {id : Nat} {a0 : Act} {w0 : World} (S : (Nat → Bool) → Act → World → Prop) (V : Bool → Nat → Value → World → Prop) (z : Nat) (ds : List Nat) (hds : dstsI ops = ds) (hm : P.follows .mixedOrders = true) (hok : okJ z a0.tmps.size ops = true) (hS : S (fun _ => false) a0 w0.drew)
  (step : AllI (StepK P ops Q S V z a0) 0 ops.toList)
  (hend : ∀ (D : Nat → Bool) (t : Nat → Value) (w : World), (∀ k, k < ops.size → D k = true) → (∀ d, ds.contains d = true → (layI ds t a0).tmps[d]?.getD undef = t d) → S D (layI ds t a0) w → (∀ d, ds.contains d = true → V true d (t d) w) → Q .normal (layI ds t a0) w) : (Code.region id ops true).wp P Q a0 w0 := by
 subst hds
 refine wp_region_any hm (invK_any hok step hend _ _ _ _ ⟨by simp, ⟨rfl, rfl, fun _ _ => rfl⟩, ?_, fun j o d hj h => ?_, fun h => ?_⟩ ?_)
 ·have : (fun j => (Array.replicate ops.size false).getD j false) = fun _ => false := by funext j; simp [Array.getD]
  rw [this]; exact hS
 ·simp [Array.getD] at h
 ·simp [Array.getD] at h
 ·simp
end
end Go.Proofs.Ytmfcagcanhmdbaa
