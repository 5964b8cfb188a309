/- A region that draws its order, with a condition on the world that every operation but the last keeps. An expression, and a symbol, in new memory: the reference's. 'append' to a row of one's own, in a world that has grown. No condition. -/
import Derived.Test.YtmfcagcanhmdbaaE00
import Derived.Deep.RegionHeld3
import Derived.Test.YtmfcagcanhmdbaaE11
import Derived.Test.YtmfcagcanhmdbaaE12
import Derived.Test.YtmfcagcanhmdbaaE02
namespace Go.Proofs.Ytmfcagcanhmdbaa
open Go.RowKit

section
variable {P : Program} {ops : Array Oper} {Q : Exit → Act → World → Prop} {md : Region.Mode} {S : World → Prop} {z : Nat}

def waits (md : Region.Mode) (ops : Array Oper) (z i : Nat) : Bool := ((ops[z]?).map fun p => p.after.any fun e => Region.binds md e && e.on == i).getD false

def anyU (P : Program) (md : Region.Mode) (ops : Array Oper) (Q : Exit → Act → World → Prop) (S : World → Prop) (z : Nat) : Nat → Array Bool → Act → World → Prop
 | 0, l, a, w => Region.ready md ops l = [] ∧ Q .normal a w
 | n + 1, l, a, w => (Region.ready md ops l = [] → Q .normal a w) ∧
   ∀ i ∈ Region.ready md ops l, wpOp P ops Q i (fun b u => (i ≠ z → S u) ∧ anyU P md ops Q S z n (l.setIfInBounds i true) b u) a w

theorem anyU_any : ∀ (n : Nat) (l : Array Bool) (a : Act) (w : World), anyU P md ops Q S z n l a w → wpAny P md ops Q n l a w
 | 0, _, _, _, h => h
 | n + 1, _, _, _, h => ⟨h.1, fun i hi => wpOp_mono (fun b u k => anyU_any n _ b u k.2) (h.2 i hi)⟩

theorem ready_fresh {i j : Nat} {l : Array Bool} (hr : i ∈ Region.ready md ops l) (hl : l.getD i false = true) : j = i → False := by
 intro _
 have k0 := (mem_ready.1 hr).1
 by_cases h : i < l.size
 ·simp [h] at k0 hl; rw [k0] at hl; cases hl
 ·simp [Array.getElem?_eq_none (Nat.le_of_not_lt h)] at hl

theorem anyU_first {i : Nat} {o : Oper} {v : Value} (hi : ops[i]? = some o) (hz : waits md ops z i = true) (hs : ∀ (j : Nat) (p : Oper) cs b, ops[j]? = some p → p.op ≠ .select cs b)
  (hq : ∀ c a w, Q (.panic c) (a.put o.dst v) w → Q (.panic c) a w) (n : Nat) :
  ∀ (l : Array Bool) (a : Act) (w : World),
   (∀ j p, ops[j]? = some p → j ≠ i → l.getD j true = false → (∀ e ∈ p.after, Region.binds md e = true → e.on ≠ i) → o.apart ops p = true) →
   i ∈ Region.ready md ops l → YieldsIf P ops S o v a → S w → anyU P md ops Q S z n (l.setIfInBounds i true) (a.put o.dst v) w → anyU P md ops Q S z (n + 1) l a w := by
 induction n with
 | zero =>
  intro l a w _ hr hy hw hu
  constructor
  ·intro h0; rw [h0] at hr; cases hr
  ·intro j hj
   by_cases e : j = i
   ·subst e; exact hy.wpOp hi hw ⟨fun _ => hw, hu⟩
   ·have hm := ready_mono hj e
    rw [hu.1] at hm; cases hm
 | succ n ih =>
  intro l a w hf hr hy hw hu
  constructor
  ·intro h0; rw [h0] at hr; cases hr
  ·intro j hj
   by_cases e : j = i
   ·subst e; exact hy.wpOp hi hw ⟨fun _ => hw, hu⟩
   ·have step := hu.2 j (ready_mono hj e)
    obtain ⟨hj0, p, hp, hall⟩ := mem_ready.1 hj
    have hno : ∀ x ∈ p.after, Region.binds md x = true → x.on ≠ i := fun x hx hb he => by
     have k1 := hall x hx hb
     rw [he] at k1
     exact ready_fresh (j := i) hr k1 rfl
    have hjz : j ≠ z := by
     intro c
     subst c
     simp only [waits, hp, Option.map_some, Option.getD_some] at hz
     obtain ⟨x, hx, h2⟩ := Array.any_eq_true'.1 hz
     simp only [Bool.and_eq_true, beq_iff_eq] at h2
     exact hno x hx h2.1 h2.2
    have moved := wpOp_putIf hp (hf j p hp e hj0 hno) (fun cs b => hs i o cs b hi) (fun cs b => hs j p cs b hp) hq hy step
    have hf2 : ∀ k q, ops[k]? = some q → k ≠ i → (l.setIfInBounds j true).getD k true = false → (∀ x ∈ q.after, Region.binds md x = true → x.on ≠ i) → o.apart ops q = true := by
     intro k q hk hki hun hn
     refine hf k q hk hki ?_ hn
     by_cases c : j = k
     ·subst c; exact hj0
     ·rwa [getD_set_ne true c] at hun
    refine wpOp_mono ?_ moved
    rintro b u ⟨hyb, hSu, hU⟩
    refine ⟨hSu, ih _ b u hf2 (ready_mono hr (Ne.symm e)) hyb (hSu hjz) ?_⟩
    rw [Array.setIfInBounds_comm _ _ e]; exact hU

theorem anyU_take {i : Nat} {o : Oper} {v : Value} {n : Nat} {l : Array Bool} {a : Act} {w : World} (hi : ops[i]? = some o) (hz : waits md ops z i = true)
  (hs : Region.noSelect ops = true) (hf : Region.free md ops l i = true) (hr : (Region.ready md ops l).contains i = true)
  (hq : ∀ c a w, Q (.panic c) (a.put o.dst v) w → Q (.panic c) a w) (hy : YieldsIf P ops S o v a) (hw : S w)
  (h : anyU P md ops Q S z n (l.setIfInBounds i true) (a.put o.dst v) w) : anyU P md ops Q S z (n + 1) l a w :=
 anyU_first hi hz (Region.noSelect_spec hs) hq n l a w (Region.free_spec hi hf) (by simpa using hr) hy hw h

theorem anyU_q (i : Nat) {o : Oper} {v : Value} {n : Nat} {l : Array Bool} {a : Act} {w : World} (h : anyU P md ops Q S z n (l.setIfInBounds i true) (a.put o.dst v) w) (hi : ops[i]? = some o := by rfl) (hz : waits md ops z i = true := by kernel_rfl)
  (hs : Region.noSelect ops = true := by kernel_rfl) (hf : Region.free md ops l i = true := by kernel_rfl) (hr : (Region.ready md ops l).contains i = true := by kernel_rfl)
  (hq : ∀ c a w, Q (.panic c) (a.put o.dst v) w → Q (.panic c) a w := by exact fun _ _ _ h => h) (hy : YieldsIf P ops S o v a := by refine Or.inl ⟨by rfl, ?_⟩; intro w hSw; (try dsimp only at hSw); go_simp; all_goals with_reducible rfl) (hw : S w := by assumption) :
  anyU P md ops Q S z (n + 1) l a w := anyU_take hi hz hs hf hr hq hy hw h
theorem uq1 {α : Type} (l : List α) (i : Nat) (a : α) : l.toArray.setIfInBounds i a = (l.set i a).toArray := List.setIfInBounds_toArray l i a
theorem uq2 {α : Type} {x : α} {xs : List α} {a : α} : (x :: xs).set 0 a = a :: xs := rfl
theorem uq3 {α : Type} {x : α} {xs : List α} {n : Nat} {a : α} : (x :: xs).set (n + 1) a = x :: xs.set n a := rfl

def ReadyU (P : Program) (md : Region.Mode) (ops : Array Oper) (Q : Exit → Act → World → Prop) (S : World → Prop) (z : Nat) (n : Nat) (l : Array Bool) (a : Act) (w : World) (rs : List Nat) : Prop :=
 ∀ i ∈ rs, wpOp P ops Q i (fun b u => (i ≠ z → S u) ∧ anyU P md ops Q S z n (l.setIfInBounds i true) b u) a w

theorem ReadyU.nil {n : Nat} {l : Array Bool} {a : Act} {w : World} : ReadyU P md ops Q S z n l a w [] := fun _ h => by cases h
theorem ReadyU.cons {n : Nat} {l : Array Bool} {a : Act} {w : World} {i : Nat} {o : Oper} {rs : List Nat} (ho : ops[i]? = some o)
  (h : ∀ K' : Act → World → Prop, Shut (∀ a w, S w → (S w → anyU P md ops Q S z n (l.setIfInBounds i true) a w) → K' a w) → if Region.wanted o (yielded ops a.tmps) = true then Oper.wp P o a w K' Q else K' (a.put o.dst undef) w)
  (hs : ReadyU P md ops Q S z n l a w rs) : ReadyU P md ops Q S z n l a w (i :: rs) := fun j hj => by
 rcases List.mem_cons.1 hj with rfl | hj
 ·exact wpOp_step ho (fun K' hK => h K' (fun a w hS hW => hK a w ⟨fun _ => hS, hW hS⟩))
 ·exact hs j hj
theorem ReadyU.last {n : Nat} {l : Array Bool} {a : Act} {w : World} {o : Oper} (ho : ops[z]? = some o)
  (h : ∀ K' : Act → World → Prop, Shut (∀ a w, anyU P md ops Q S z n (l.setIfInBounds z true) a w → K' a w) → if Region.wanted o (yielded ops a.tmps) = true then Oper.wp P o a w K' Q else K' (a.put o.dst undef) w) :
  ReadyU P md ops Q S z n l a w [z] := fun j hj => by
 obtain rfl : j = z := by simpa using hj
 exact wpOp_step ho (fun K' hK => h K' (fun a w hW => hK a w ⟨fun c => absurd rfl c, hW⟩))

theorem anyU_ready {rs : List Nat} {n : Nat} {l : Array Bool} {a : Act} {w : World} (hr : Region.ready md ops l = rs) (hne : rs ≠ [])
  (h : ReadyU P md ops Q S z n l a w rs) : anyU P md ops Q S z (n + 1) l a w := ⟨fun h0 => absurd (hr ▸ h0) hne, hr ▸ h⟩
theorem anyU_done {l : Array Bool} {a : Act} {w : World} (hr : Region.ready md ops l = []) (h : Q .normal a w) : ∀ n, anyU P md ops Q S z n l a w
 | 0 => ⟨hr, h⟩
 | _ + 1 => ⟨fun _ => h, by rw [hr]; simp⟩

theorem wp_region_U {id : Nat} {a : Act} {w : World} (S : World → Prop) (z : Nat) (hm : P.follows .mixedOrders = true) (hS : S w.drew)
  (h : S w.drew → anyU P .any ops Q S z ops.size (Array.replicate ops.size false) a w.drew) : (Code.region id ops true).wp P Q a w :=
 wp_region_any hm (anyU_any _ _ _ _ (h hS))
end
end Go.Proofs.Ytmfcagcanhmdbaa

namespace Go.Proofs.Ytmfcagcanhmdbaa
open Go.RowKit
variable {d : Nat}
set_option linter.unusedVariables false

theorem Try.infoExprC : (Try.prog.info? 157).map (fun i => (i.zero, i.size, i.bytes)) = some (some (.agg #[.int .i64 0, .int .i64 0, .int .i64 0, .int .i64 0, .string ByteArray.empty, .string ByteArray.empty, .slice none 0 0]), 7, 88) := by kernel_rfl

theorem own_apart {α : Type} [Rd α] {w0 w : World} {e : TypeId} {v : Value} {fps : List (List Nat)} {xs : List α} (h : OwnR w0 e w v fps xs) {fq : List Nat} (hf : Fresh w fq) : ∀ b, v.ownBlock = some b → b ∉ [fq].flatten := by
 intro b hb hm
 have h1 := (h.base b hb).2
 have h2 := hf.2 b (by simpa using hm)
 omega

theorem fresh_snoc {w0 w : World} {fps : List (List Nat)} {fq : List Nat} (h : Fresh w0 fps.flatten) (hl : ∀ b ∈ fps.flatten, b < w.heap.size) (hw : w0.heap.size ≤ w.heap.size) (k : Fresh w fq) : Fresh w0 (fps ++ [fq]).flatten := by
 have := h.append hw hl k
 simpa using this

set_option maxRecDepth 10000 in
set_option maxHeartbeats 4000000 in
theorem l4Copy_of (hE : ∀ (fp : List Nat) (cs : Array Value) (x : GE d) (w : World) (hx : Rd.rd fp w cs.toList x) (hl : wtE d x ≤ 1048576), Calls Try.prog 126 #[.agg cs] w (Made w x))
  (fp : List Nat) (cs : Array Value) (x : GExpr d) (w : World) (hx : Rd.rd fp w cs.toList x) (hl : wtExpr x ≤ 1048576) :
  Calls Try.prog 126 #[.agg cs] w (Made w x) := by
 obtain ⟨q0, q1, q2, q3, q4, q5, q6⟩ := x
 obtain ⟨vq6, fq6, rfl, -, hq0, hq1, hq2, hq3, hq4, hq5, hq6⟩ := rdExpr_inv q0 q1 q2 q3 q4 q5 q6 hx
 obtain ⟨aq6, kq6, rfl, oq61, oq62, oq63⟩ := hq6.open
 have hw6 : wtExprS q6 ≤ 1048576 := by
  have h : q4.size + q5.size + wtExprS q6 ≤ 1048576 := hl
  omega
 have hll : q6.length ≤ 1048576 := Nat.le_trans (wtL_len (wtE _) q6) hw6
 have HW := Lib.hid hw6
 have H0 := Lib.hid (And.intro hq0 (And.intro hq1 (And.intro hq2 (And.intro hq3 (And.intro hq4 hq5)))))
 obtain ⟨i0, hi, hz0, hz1, hz2⟩ := info_parts Try.infoExprC
 have HZ := Lib.hid (And.intro hi (And.intro hz0 (And.intro hz1 hz2)))
 clear hi hz0 hz1 hz2 hx hl hw6 hq0 hq1 hq2 hq3 hq4 hq5
 go_enter Try.func126, Try.ntmps126
 go_wp2_with fail
 generalize hB : ((w.alloc (.cells #[.int .i64 q0, .int .i64 q1, .int .i64 q2, .int .i64 q3, .string q4, .string q5, .slice aq6 q6.length kq6] 157)).alloc (.cells #[.int .i64 0, .int .i64 0, .int .i64 0, .int .i64 0, .string ⟨#[]⟩, .string ⟨#[]⟩, .slice none 0 0] 157)) = B
 have gB : Gr w B := by rw [← hB]; exact gd
 have bB0 : ∀ w' : World, Gr B w' → w'.cell? ⟨w.heap.size, 0, none⟩ = some (.int .i64 q0) := fun w' hg => hg.keep (by rw [← hB]; repeat (first | exact box_cell (by first | rfl | (simp; done) | (simp; omega)) rfl | refine Gr.keep (Gr.alloc (Gr.refl _) _) ?_ | refine Gr.keep (Gr.ext (Gr.refl _) _) ?_ | refine Gr.keep (Gr.drew (Gr.refl _)) ?_))
 have bB1 : ∀ w' : World, Gr B w' → w'.cell? ⟨w.heap.size, 1, none⟩ = some (.int .i64 q1) := fun w' hg => hg.keep (by rw [← hB]; repeat (first | exact box_cell (by first | rfl | (simp; done) | (simp; omega)) rfl | refine Gr.keep (Gr.alloc (Gr.refl _) _) ?_ | refine Gr.keep (Gr.ext (Gr.refl _) _) ?_ | refine Gr.keep (Gr.drew (Gr.refl _)) ?_))
 have bB2 : ∀ w' : World, Gr B w' → w'.cell? ⟨w.heap.size, 2, none⟩ = some (.int .i64 q2) := fun w' hg => hg.keep (by rw [← hB]; repeat (first | exact box_cell (by first | rfl | (simp; done) | (simp; omega)) rfl | refine Gr.keep (Gr.alloc (Gr.refl _) _) ?_ | refine Gr.keep (Gr.ext (Gr.refl _) _) ?_ | refine Gr.keep (Gr.drew (Gr.refl _)) ?_))
 have bB3 : ∀ w' : World, Gr B w' → w'.cell? ⟨w.heap.size, 3, none⟩ = some (.int .i64 q3) := fun w' hg => hg.keep (by rw [← hB]; repeat (first | exact box_cell (by first | rfl | (simp; done) | (simp; omega)) rfl | refine Gr.keep (Gr.alloc (Gr.refl _) _) ?_ | refine Gr.keep (Gr.ext (Gr.refl _) _) ?_ | refine Gr.keep (Gr.drew (Gr.refl _)) ?_))
 have bB4 : ∀ w' : World, Gr B w' → w'.cell? ⟨w.heap.size, 4, none⟩ = some (.string q4) := fun w' hg => hg.keep (by rw [← hB]; repeat (first | exact box_cell (by first | rfl | (simp; done) | (simp; omega)) rfl | refine Gr.keep (Gr.alloc (Gr.refl _) _) ?_ | refine Gr.keep (Gr.ext (Gr.refl _) _) ?_ | refine Gr.keep (Gr.drew (Gr.refl _)) ?_))
 have bB5 : ∀ w' : World, Gr B w' → w'.cell? ⟨w.heap.size, 5, none⟩ = some (.string q5) := fun w' hg => hg.keep (by rw [← hB]; repeat (first | exact box_cell (by first | rfl | (simp; done) | (simp; omega)) rfl | refine Gr.keep (Gr.alloc (Gr.refl _) _) ?_ | refine Gr.keep (Gr.ext (Gr.refl _) _) ?_ | refine Gr.keep (Gr.drew (Gr.refl _)) ?_))
 have bB6 : ∀ w' : World, Gr B w' → w'.cell? ⟨w.heap.size, 6, none⟩ = some (.slice aq6 q6.length kq6) := fun w' hg => hg.keep (by rw [← hB]; repeat (first | exact box_cell (by first | rfl | (simp; done) | (simp; omega)) rfl | refine Gr.keep (Gr.alloc (Gr.refl _) _) ?_ | refine Gr.keep (Gr.ext (Gr.refl _) _) ?_ | refine Gr.keep (Gr.drew (Gr.refl _)) ?_))
 have sB : B.heap.size = w.heap.size + 2 := by rw [← hB]; first | (simp; done) | (simp; omega)
 have EB := Lib.hid hB
 clear hB
 go_loopw [4, 3] (fun s4 s3 wr => ∃ (k : Nat) (fps : List (List Nat)), k ≤ q6.length ∧ Hid (Fresh B fps.flatten) ∧ Gr B wr ∧ OwnR B 157 wr s3 fps (q6.take k) ∧ s4 = .int .i64 k) (fun s4 _ _ => q6.length - (intOf s4).toNat)
 case atStart => exact ⟨0, [], by omega, Lib.hid (by simpa using Fresh.nil B), gd, OwnR.lit0 (α := GE d) (w0 := B) (w := B) 157 (Nat.le_refl _) (by omega), rfl⟩
 case round =>
  obtain ⟨k, fps, hk, HF, hg, hown, rfl⟩ := hrel
  rename World => W1
  have HG := Lib.hid hg
  have HO := Lib.hid hown
  obtain ⟨ra, rc, hform⟩ := hown.form
  have y6 := bB6 _ hg
  have hLl : (q6.take k).length = k := by simp; omega
  rw [hLl] at hform
  have HL := Lib.hid hLl
  have zx := blk y6
  have hgw := gB.trans hg
  have HGW := Lib.hid hgw
  subst hform
  clear hg hown hLl hgw
  by_cases hlt : k < q6.length
  ·obtain ⟨d1, rfl⟩ : ∃ e, d = e + 1 := by
    cases d with
    | zero => exact PEmpty.elim (q6[k])
    | succ e => exact ⟨e, rfl⟩
   have hwk : wtE (d1 + 1) q6[k] ≤ 1048576 := Nat.le_trans (wtL_at (wtE _) q6 hlt) HW.out
   have HWK := Lib.hid hwk
   obtain ⟨b, off, rfl, hb⟩ := oq63 k hlt
   obtain ⟨csp, fep, hcp, hrp, -⟩ := hq6.at hlt
   obtain ⟨yp, hyp⟩ : ∃ y, y = q6[k] := ⟨_, rfl⟩
   rw [← hyp] at hrp
   have HYp := Lib.hid hyp
   have HRp := Lib.hid hrp
   obtain ⟨p0, p1, p2, p3, p4, p5, p6⟩ := yp
   obtain ⟨vp6, fp6, hcsp, -, hp0, hp1, hp2, hp3, hp4, hp5, hp6⟩ := rdExpr_inv (cs := csp.toArray) p0 p1 p2 p3 p4 p5 p6 (show Rd.rd (α := GExpr d1) fep w csp.toArray.toList _ from hrp)
   obtain rfl : csp = [.int .i64 p0, .int .i64 p1, .int .i64 p2, .int .i64 p3, .string p4, .string p5, vp6] := by have := congrArg Array.toList hcsp; simpa using this
   obtain ⟨ap6, kp6, rfl, -, -, -⟩ := hp6.open
   have z0 := HGW.out.keep (show w.cell? ⟨b, off + k * 7, none⟩ = some (.int .i64 p0) from hcp 0 _ rfl)
   have z1 := HGW.out.keep (show w.cell? ⟨b, off + k * 7 + 1, none⟩ = some (.int .i64 p1) from hcp 1 _ rfl)
   have z2 := HGW.out.keep (show w.cell? ⟨b, off + k * 7 + 2, none⟩ = some (.int .i64 p2) from hcp 2 _ rfl)
   have z3 := HGW.out.keep (show w.cell? ⟨b, off + k * 7 + 3, none⟩ = some (.int .i64 p3) from hcp 3 _ rfl)
   have z4 := HGW.out.keep (show w.cell? ⟨b, off + k * 7 + 4, none⟩ = some (.string p4) from hcp 4 _ rfl)
   have z5 := HGW.out.keep (show w.cell? ⟨b, off + k * 7 + 5, none⟩ = some (.string p5) from hcp 5 _ rfl)
   have z6 := HGW.out.keep (show w.cell? ⟨b, off + k * 7 + 6, none⟩ = some (.slice ap6 p6.length kp6) from hcp 6 _ rfl)
   have zb := blk z0
   clear hcsp hcp hrp hyp oq63 hp0 hp1 hp2 hp3 hp4 hp5 hp6 hwk
   go_wp2_with fail
   refine (hE _ _ q6[k] _ (Rd.gr (by rw [← HYp.out]; exact HRp.out) (HGW.out.trans gd)) HWK.out).mono ?_
   rintro e w1 ⟨ds, fq, rfl, hs, hf, y, rfl⟩
   have HS := Lib.hid hs
   have HF1 := Lib.hid hf
   obtain ⟨r0, r1, r2, r3, r4, r5, ar6, lr6, kr6, rfl⟩ := rdExpr_shape (show Rd.rd (α := GExpr d1) fq _ ds.toList _ from hs)
   clear hs hf
   go_wp2_with (first | (at_builtin; refine wpList_append_R (α := GE (d1 + 1)) (w0 := B) (HG.out.trans gd) rfl _ _ 155 rfl 157 i0 (.agg #[.int .i64 0, .int .i64 0, .int .i64 0, .int .i64 0, .string ByteArray.empty, .string ByteArray.empty, .slice none 0 0]) 88 Try.underlying155 HZ.out.1 HZ.out.2.1 HZ.out.2.2.1 HZ.out.2.2.2 rfl _ fps _ (by rfl) (HO.out.gr gd) _ [fq] [q6[k]] (by rfl) (SrcR.one (by simp) (Rd.gr HS.out gd)) (own_apart HO.out HF1.out) (by rw [HL.out]; unfold maxLen; simp; omega) (by rw [HL.out]; simp; omega) ?_; intro v3 w3 h1 h2 h3 h4; replace h1 := Lib.hid h1; replace h4 := Lib.hid h4; clear h2 h3))
   refine ⟨⟨k + 1, fps ++ [fq], by omega, Lib.hid (fresh_snoc HF.out (OwnR.lt HO.out) (HG.out.size) HF1.out), h4.out, ?_, by go_num⟩, by simp [intOf]; omega⟩
   have e : q6.take (k + 1) = q6.take k ++ [q6[k]] := List.take_succ_eq_append_getElem hlt
   rw [e]; exact h1.out
  ·have hk2 : k = q6.length := by omega
   subst hk2
   obtain ⟨y, rfl⟩ := HG.out
   obtain ⟨fr, hs, hfr⟩ := HO.out.fresh (by rw [HL.out]; unfold reachLen; omega) HF.out
   rw [List.take_length] at hs
   have HS := Lib.hid hs
   have HFR := Lib.hid hfr
   clear hs hfr
   obtain rfl := EB.out
   obtain ⟨h0, h1, h2, h3, h4, h5⟩ := H0.out
   go_wp2_with fail
   exact bodyPost_ret (v := .agg #[.int .i64 q0, .int .i64 q1, .int .i64 q2, .int .i64 q3, .string q4, .string q5, .slice ra q6.length rc])
    (by simp [results, Try.results126, go_sem]) rfl ⟨_, _, rfl, rdExpr_mk q0 q1 q2 q3 q4 q5 q6 h0 h1 h2 h3 h4 h5 (SlR.moved HS.out HFR.out gd (by simp)), HFR.out.of_le (by simp <;> omega), gd⟩

theorem l4Copy_all : (d : Nat) → ∀ (fp : List Nat) (cs : Array Value) (x : GE d) (w : World) (hx : Rd.rd fp w cs.toList x) (hl : wtE d x ≤ 1048576), Calls Try.prog 126 #[.agg cs] w (Made w x)
 | 0 => by intro fp cs x; exact PEmpty.elim x
 | d + 1 => l4Copy_of (l4Copy_all d)
theorem l4Copy_any (fp : List Nat) (cs : Array Value) (x : GExpr d) (w : World) (hx : Rd.rd fp w cs.toList x) (hl : wtExpr x ≤ 1048576) :
  Calls Try.prog 126 #[.agg cs] w (Made w x) := l4Copy_of (l4Copy_all d) fp cs x w hx hl
end Go.Proofs.Ytmfcagcanhmdbaa

namespace Go.Proofs.Ytmfcagcanhmdbaa
open Go.RowKit

section
variable {P : Program}
end

theorem ownsFlat {α : Type} [Rd α] (hn1 : Rd.n α = 1) (enc : α → Value) {w : World} {base n : Nat} {v : Value} {xs : List α} {e : TypeId} (h : w.ownsRow base e 1 v n (xs.map enc))
  (hw : ∀ y ∈ xs, Rd.rd [] w [enc y] y) (hlen : xs.length ≤ reachLen) : ∃ fq, SlR fq w v xs ∧ (∀ b ∈ fq, base ≤ b ∧ b < w.heap.size) ∧ fq.Nodup ∧ n = xs.length := by
 have hn : n = xs.length := by have := h.1; simpa using this.symm
 subst hn
 rcases h.2 with ⟨rfl, h0⟩ | ⟨g, cap, cur, rfl, hbg, hg, hnc, hcm, hcs, htake⟩
 ·have : xs = [] := List.eq_nil_of_length_eq_zero h0
  subst this
  exact ⟨[], SlR.nil w, by simp, by simp, rfl⟩
 ·have hgl : g < w.heap.size := by
   rcases Nat.lt_or_ge g w.heap.size with hlt | hge
   ·exact hlt
   ·rw [Array.getElem?_eq_none hge] at hg; cases hg
  have hx : ∀ i (h : i < xs.length), ∃ c, cur[i]? = some c ∧ Rd.rd [] w [c] xs[i] := fun i hi => by
   refine ⟨enc xs[i], ?_, hw _ (List.getElem_mem hi)⟩
   have h2 : (cur.toList.take (xs.length * 1))[i]? = (xs.map enc)[i]? := by rw [htake]
   rw [List.getElem?_take_of_lt (by omega), List.getElem?_map, List.getElem?_eq_getElem hi] at h2
   simpa using h2
  obtain ⟨fp, hs, hfp⟩ := SlR.flat (xs := xs) (cap := cap) hg hn1 hx hnc hlen
  refine ⟨fp, hs, ?_, ?_, rfl⟩
  ·rcases hfp with rfl | rfl
   ·simp
   ·intro b hb
    obtain rfl : b = g := by simpa using hb
    exact ⟨hbg, hgl⟩
  ·rcases hfp with rfl | rfl <;> simp
end Go.Proofs.Ytmfcagcanhmdbaa
