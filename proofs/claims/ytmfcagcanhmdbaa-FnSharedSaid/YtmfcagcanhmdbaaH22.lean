/- Plain functions: symbols and rules by name, nodes, attributes, the check of a tree, its instances, definitions and sources. What was looked for, and what was found; the empty symbol, rule and attribute. What looks for symbols, rules, attributes and nodes by their names and Ids. Made by mk_look.py. An expression, and a symbol, in new memory: the reference's. A symbol in new memory: the reference's. No condition. -/
import Derived.Test.YtmfcagcanhmdbaaH17
import Derived.Test.YtmfcagcanhmdbaaH02
import Derived.Test.YtmfcagcanhmdbaaH21
import Derived.Test.YtmfcagcanhmdbaaH03
import Derived.Test.YtmfcagcanhmdbaaH06
import Derived.Test.YtmfcagcanhmdbaaH08
namespace Go.Proofs.Ytmfcagcanhmdbaa
open Go.RowKit
variable {d : Nat}

def lookS (ss : List GSymbol) (n : ByteArray) : Option GSymbol := ss.find? fun s => decide (s.1 = n)
def lookR (rs : List (GRule d)) (n : ByteArray) : Option (GRule d) := rs.find? fun r => decide (r.1 = n)
def lookA (xs : List GAttribute) (n : ByteArray) : Option GAttribute := xs.find? fun a => decide (a.1 = n)
def zeroS : GSymbol := (ByteArray.empty, [])
def zeroR : GRule d := (ByteArray.empty, ByteArray.empty, [], false, [], [])
def zeroA : GAttribute := (ByteArray.empty, 0, 0, false)

end Go.Proofs.Ytmfcagcanhmdbaa

namespace Go.Proofs.Ytmfcagcanhmdbaa
open Go.RowKit
variable {d : Nat}

def Found {α : Type} [Rd α] (fp : List Nat) (w : World) (o : Option α) (z : α) (e : Ending) (w' : World) : Prop :=
 ∃ es fq, e = .returned (.tuple #[.agg es, .bool o.isSome]) ∧ Rd.rd fq w' es.toList (o.getD z) ∧ (∀ c ∈ fq, c ∈ fp ∨ w.heap.size ≤ c) ∧ Gr w w'

def Made {α : Type} [Rd α] (w : World) (x : α) (e : Ending) (w' : World) : Prop :=
 ∃ ds fq, e = .returned (.agg ds) ∧ Rd.rd fq w' ds.toList x ∧ Fresh w fq ∧ Gr w w'

theorem zeroS_rd (w : World) : Rd.rd (α := GSymbol) ([] ++ []) w [.string ByteArray.empty, .slice none 0 0] zeroS := rdSymbol_mk _ _ (by decide) (SlR.nil w)
theorem zeroR_rd (w : World) : Rd.rd (α := GRule d) ([] ++ ([] ++ ([] ++ ([] ++ ([] ++ []))))) w [.string ByteArray.empty, .string ByteArray.empty, .slice none 0 0, .bool false, .slice none 0 0, .slice none 0 0] zeroR :=
 rdRule_mk _ _ _ _ _ _ (by decide) (by decide) (SlR.nil w) (SlR.nil w) (SlR.nil w)
theorem zeroA_rd (w : World) : Rd.rd (α := GAttribute) ([] ++ ([] ++ ([] ++ []))) w [.string ByteArray.empty, .int .i64 0, .int .i64 0, .bool false] zeroA := rdAttribute_mk _ _ _ _ (by decide) (by decide) (by decide)
end Go.Proofs.Ytmfcagcanhmdbaa

namespace Go.Proofs.Ytmfcagcanhmdbaa
open Go.RowKit
variable {d : Nat}

set_option maxRecDepth 10000 in
set_option maxHeartbeats 4000000 in
theorem specFindAttr_any {fx : List Nat} {cx : Array Value} (x : GSymbol) (n : ByteArray) (w : World) (hx : Rd.rd fx w cx.toList x) :
  Calls Try.prog 103 #[.agg cx, .string n] w (Found fx w (lookA x.2 n) zeroA) := by
 have HX := Lib.hid hx
 obtain ⟨x0, x1⟩ := x
 obtain ⟨vx1, fx1, rfl, hfpx, hx0, hx1⟩ := rdSymbol_inv x0 x1 hx
 have FPx := Lib.hid hfpx
 clear hfpx
 obtain ⟨ax1, kx1, rfl, ox11, ox12, ox13⟩ := hx1.open
 clear hx
 go_enter Try.func103, Try.ntmps103
 go_wp2_with fail
 go_loopw [6] (fun s6 wr => ∃ k : Nat, k ≤ x1.length ∧ Hid (∀ j (h : j < x1.length), j < k → decide (x1[j].1 = n) = false) ∧ Gr ((w.alloc (.cells #[.string x0, .slice ax1 x1.length kx1] 133)).alloc (.cells #[.string ByteArray.empty, .int .i64 0, .int .i64 0, .bool false] 145)) wr ∧ s6 = .int .i64 k) (fun s6 _ => x1.length - (intOf s6).toNat)
 case atStart => exact ⟨0, by omega, Lib.hid (by omega), Gr.refl _, rfl⟩
 case round =>
  obtain ⟨k, hk, ht, ⟨y, rfl⟩, rfl⟩ := hrel
  by_cases hlt : k < x1.length
  ·have hlt2 := hlt
   obtain ⟨b, off, rfl, hbb⟩ := ox13 k hlt
   obtain ⟨csq, feq, hcq, hrq, hsb⟩ := hx1.at hlt
   obtain ⟨yq, hyq⟩ : ∃ y, y = x1[k] := ⟨_, rfl⟩
   rw [← hyq] at hrq
   have HYq := Lib.hid hyq
   have HRq := Lib.hid hrq
   obtain ⟨q0, q1, q2, q3⟩ := yq
   obtain ⟨hcsq, -, hq0, hq1, hq2⟩ := rdAttribute_inv (cs := csq.toArray) q0 q1 q2 q3 (by simpa using hrq)
   obtain rfl : csq = [.string q0, .int .i64 q1, .int .i64 q2, .bool q3] := by have := congrArg Array.toList hcsq; simpa using this
   have qz0 : w.cell? ⟨b, off + k * 4, none⟩ = some (.string q0) := by simpa [Rd.n] using hcq 0 _ rfl
   have qz1 : w.cell? ⟨b, off + k * 4 + 1, none⟩ = some (.int .i64 q1) := hcq 1 _ rfl
   have qz2 : w.cell? ⟨b, off + k * 4 + 2, none⟩ = some (.int .i64 q2) := hcq 2 _ rfl
   have qz3 : w.cell? ⟨b, off + k * 4 + 3, none⟩ = some (.bool q3) := hcq 3 _ rfl
   have qzb := blk qz0
   clear hcsq hcq hrq hyq
   have HSB := Lib.hid hsb
   clear hsb
   by_cases hkey : q0 = n
   ·skip
    obtain rfl := hkey
    have hl : lookA x1 q0 = some x1[k] := find_at hlt (by rw [← HYq.out]; simp) ht.out
    have HL := Lib.hid hl
    clear hl
    go_wp2_with fail
    exact bodyPost_ret (v := .tuple #[.agg #[.string q0, .int .i64 q1, .int .i64 q2, .bool q3], .bool true])
     (by simp [results, Try.results103, go_sem]) rfl ⟨_, feq, by rw [HL.out]; rfl, by rw [HL.out, Option.getD_some, ← HYq.out]; exact Rd.gr HRq.out gd, fun c hc => .inl (by rw [FPx.out]; simp only [List.mem_append]; have := HSB.out c hc; simp [this]), gd⟩
   ·have E := Lib.hid hkey
    have e : (q0.toList == n.toList) = false := by simpa using fun e => hkey (str_inj e)
    clear hkey
    go_wp2_with fail
    refine ⟨⟨k + 1, by omega, Lib.hid fun j hj hjk => ?_, gd, by go_num⟩, by simp [intOf]; omega⟩
    by_cases hjk2 : j < k
    ·exact ht.out j hj hjk2
    ·obtain rfl : j = k := by omega
     rw [← HYq.out]
     exact decide_eq_false E.out
  ·have hn : lookA x1 n = none := find_none fun j hj => ht.out j hj (by omega)
   have HL := Lib.hid hn
   clear hn
   go_wp2_with fail
   exact bodyPost_ret (v := .tuple #[.agg #[.string ⟨#[]⟩, .int .i64 0, .int .i64 0, .bool false], .bool false])
    (by simp [results, Try.results103, go_sem]) rfl ⟨_, _, by rw [HL.out]; rfl, by rw [HL.out]; exact zeroA_rd _, by simp, gd⟩

end Go.Proofs.Ytmfcagcanhmdbaa

namespace Go.Proofs.Ytmfcagcanhmdbaa
open Go.RowKit
variable {d : Nat}
set_option linter.unusedVariables false

theorem Try.infoExprC : (Try.prog.info? 157).map (fun i => (i.zero, i.size, i.bytes)) = some (some (.agg #[.int .i64 0, .int .i64 0, .int .i64 0, .int .i64 0, .string ByteArray.empty, .string ByteArray.empty, .slice none 0 0]), 7, 88) := by kernel_rfl

theorem own_apart {α : Type} [Rd α] {w0 w : World} {e : TypeId} {v : Value} {fps : List (List Nat)} {xs : List α} (h : OwnR w0 e w v fps xs) {fq : List Nat} (hf : Fresh w fq) : ∀ b, v.ownBlock = some b → b ∉ [fq].flatten := by
 intro b hb hm
 have h1 := (h.base b hb).2
 have h2 := hf.2 b (by simpa using hm)
 omega

theorem fresh_snoc {w0 w : World} {fps : List (List Nat)} {fq : List Nat} (h : Fresh w0 fps.flatten) (hl : ∀ b ∈ fps.flatten, b < w.heap.size) (hw : w0.heap.size ≤ w.heap.size) (k : Fresh w fq) : Fresh w0 (fps ++ [fq]).flatten := by
 have := h.append hw hl k
 simpa using this

set_option maxRecDepth 10000 in
set_option maxHeartbeats 4000000 in
theorem l4Copy_of (hE : ∀ (fp : List Nat) (cs : Array Value) (x : GE d) (w : World) (hx : Rd.rd fp w cs.toList x) (hl : wtE d x ≤ 1048576), Calls Try.prog 126 #[.agg cs] w (Made w x))
  (fp : List Nat) (cs : Array Value) (x : GExpr d) (w : World) (hx : Rd.rd fp w cs.toList x) (hl : wtExpr x ≤ 1048576) :
  Calls Try.prog 126 #[.agg cs] w (Made w x) := by
 obtain ⟨q0, q1, q2, q3, q4, q5, q6⟩ := x
 obtain ⟨vq6, fq6, rfl, -, hq0, hq1, hq2, hq3, hq4, hq5, hq6⟩ := rdExpr_inv q0 q1 q2 q3 q4 q5 q6 hx
 obtain ⟨aq6, kq6, rfl, oq61, oq62, oq63⟩ := hq6.open
 have hw6 : wtExprS q6 ≤ 1048576 := by
  have h : q4.size + q5.size + wtExprS q6 ≤ 1048576 := hl
  omega
 have hll : q6.length ≤ 1048576 := Nat.le_trans (wtL_len (wtE _) q6) hw6
 have HW := Lib.hid hw6
 have H0 := Lib.hid (And.intro hq0 (And.intro hq1 (And.intro hq2 (And.intro hq3 (And.intro hq4 hq5)))))
 obtain ⟨i0, hi, hz0, hz1, hz2⟩ := info_parts Try.infoExprC
 have HZ := Lib.hid (And.intro hi (And.intro hz0 (And.intro hz1 hz2)))
 clear hi hz0 hz1 hz2 hx hl hw6 hq0 hq1 hq2 hq3 hq4 hq5
 go_enter Try.func126, Try.ntmps126
 go_wp2_with fail
 generalize hB : ((w.alloc (.cells #[.int .i64 q0, .int .i64 q1, .int .i64 q2, .int .i64 q3, .string q4, .string q5, .slice aq6 q6.length kq6] 157)).alloc (.cells #[.int .i64 0, .int .i64 0, .int .i64 0, .int .i64 0, .string ⟨#[]⟩, .string ⟨#[]⟩, .slice none 0 0] 157)) = B
 have gB : Gr w B := by rw [← hB]; exact gd
 have bB0 : ∀ w' : World, Gr B w' → w'.cell? ⟨w.heap.size, 0, none⟩ = some (.int .i64 q0) := fun w' hg => hg.keep (by rw [← hB]; repeat (first | exact box_cell (by first | rfl | (simp; done) | (simp; omega)) rfl | refine Gr.keep (Gr.alloc (Gr.refl _) _) ?_ | refine Gr.keep (Gr.ext (Gr.refl _) _) ?_ | refine Gr.keep (Gr.drew (Gr.refl _)) ?_))
 have bB1 : ∀ w' : World, Gr B w' → w'.cell? ⟨w.heap.size, 1, none⟩ = some (.int .i64 q1) := fun w' hg => hg.keep (by rw [← hB]; repeat (first | exact box_cell (by first | rfl | (simp; done) | (simp; omega)) rfl | refine Gr.keep (Gr.alloc (Gr.refl _) _) ?_ | refine Gr.keep (Gr.ext (Gr.refl _) _) ?_ | refine Gr.keep (Gr.drew (Gr.refl _)) ?_))
 have bB2 : ∀ w' : World, Gr B w' → w'.cell? ⟨w.heap.size, 2, none⟩ = some (.int .i64 q2) := fun w' hg => hg.keep (by rw [← hB]; repeat (first | exact box_cell (by first | rfl | (simp; done) | (simp; omega)) rfl | refine Gr.keep (Gr.alloc (Gr.refl _) _) ?_ | refine Gr.keep (Gr.ext (Gr.refl _) _) ?_ | refine Gr.keep (Gr.drew (Gr.refl _)) ?_))
 have bB3 : ∀ w' : World, Gr B w' → w'.cell? ⟨w.heap.size, 3, none⟩ = some (.int .i64 q3) := fun w' hg => hg.keep (by rw [← hB]; repeat (first | exact box_cell (by first | rfl | (simp; done) | (simp; omega)) rfl | refine Gr.keep (Gr.alloc (Gr.refl _) _) ?_ | refine Gr.keep (Gr.ext (Gr.refl _) _) ?_ | refine Gr.keep (Gr.drew (Gr.refl _)) ?_))
 have bB4 : ∀ w' : World, Gr B w' → w'.cell? ⟨w.heap.size, 4, none⟩ = some (.string q4) := fun w' hg => hg.keep (by rw [← hB]; repeat (first | exact box_cell (by first | rfl | (simp; done) | (simp; omega)) rfl | refine Gr.keep (Gr.alloc (Gr.refl _) _) ?_ | refine Gr.keep (Gr.ext (Gr.refl _) _) ?_ | refine Gr.keep (Gr.drew (Gr.refl _)) ?_))
 have bB5 : ∀ w' : World, Gr B w' → w'.cell? ⟨w.heap.size, 5, none⟩ = some (.string q5) := fun w' hg => hg.keep (by rw [← hB]; repeat (first | exact box_cell (by first | rfl | (simp; done) | (simp; omega)) rfl | refine Gr.keep (Gr.alloc (Gr.refl _) _) ?_ | refine Gr.keep (Gr.ext (Gr.refl _) _) ?_ | refine Gr.keep (Gr.drew (Gr.refl _)) ?_))
 have bB6 : ∀ w' : World, Gr B w' → w'.cell? ⟨w.heap.size, 6, none⟩ = some (.slice aq6 q6.length kq6) := fun w' hg => hg.keep (by rw [← hB]; repeat (first | exact box_cell (by first | rfl | (simp; done) | (simp; omega)) rfl | refine Gr.keep (Gr.alloc (Gr.refl _) _) ?_ | refine Gr.keep (Gr.ext (Gr.refl _) _) ?_ | refine Gr.keep (Gr.drew (Gr.refl _)) ?_))
 have sB : B.heap.size = w.heap.size + 2 := by rw [← hB]; first | (simp; done) | (simp; omega)
 have EB := Lib.hid hB
 clear hB
 go_loopw [4, 3] (fun s4 s3 wr => ∃ (k : Nat) (fps : List (List Nat)), k ≤ q6.length ∧ Hid (Fresh B fps.flatten) ∧ Gr B wr ∧ OwnR B 157 wr s3 fps (q6.take k) ∧ s4 = .int .i64 k) (fun s4 _ _ => q6.length - (intOf s4).toNat)
 case atStart => exact ⟨0, [], by omega, Lib.hid (by simpa using Fresh.nil B), gd, OwnR.lit0 (α := GE d) (w0 := B) (w := B) 157 (Nat.le_refl _) (by omega), rfl⟩
 case round =>
  obtain ⟨k, fps, hk, HF, hg, hown, rfl⟩ := hrel
  rename World => W1
  have HG := Lib.hid hg
  have HO := Lib.hid hown
  obtain ⟨ra, rc, hform⟩ := hown.form
  have y6 := bB6 _ hg
  have hLl : (q6.take k).length = k := by simp; omega
  rw [hLl] at hform
  have HL := Lib.hid hLl
  have zx := blk y6
  have hgw := gB.trans hg
  have HGW := Lib.hid hgw
  subst hform
  clear hg hown hLl hgw
  by_cases hlt : k < q6.length
  ·obtain ⟨d1, rfl⟩ : ∃ e, d = e + 1 := by
    cases d with
    | zero => exact PEmpty.elim (q6[k])
    | succ e => exact ⟨e, rfl⟩
   have hwk : wtE (d1 + 1) q6[k] ≤ 1048576 := Nat.le_trans (wtL_at (wtE _) q6 hlt) HW.out
   have HWK := Lib.hid hwk
   obtain ⟨b, off, rfl, hb⟩ := oq63 k hlt
   obtain ⟨csp, fep, hcp, hrp, -⟩ := hq6.at hlt
   obtain ⟨yp, hyp⟩ : ∃ y, y = q6[k] := ⟨_, rfl⟩
   rw [← hyp] at hrp
   have HYp := Lib.hid hyp
   have HRp := Lib.hid hrp
   obtain ⟨p0, p1, p2, p3, p4, p5, p6⟩ := yp
   obtain ⟨vp6, fp6, hcsp, -, hp0, hp1, hp2, hp3, hp4, hp5, hp6⟩ := rdExpr_inv (cs := csp.toArray) p0 p1 p2 p3 p4 p5 p6 (show Rd.rd (α := GExpr d1) fep w csp.toArray.toList _ from hrp)
   obtain rfl : csp = [.int .i64 p0, .int .i64 p1, .int .i64 p2, .int .i64 p3, .string p4, .string p5, vp6] := by have := congrArg Array.toList hcsp; simpa using this
   obtain ⟨ap6, kp6, rfl, -, -, -⟩ := hp6.open
   have z0 := HGW.out.keep (show w.cell? ⟨b, off + k * 7, none⟩ = some (.int .i64 p0) from hcp 0 _ rfl)
   have z1 := HGW.out.keep (show w.cell? ⟨b, off + k * 7 + 1, none⟩ = some (.int .i64 p1) from hcp 1 _ rfl)
   have z2 := HGW.out.keep (show w.cell? ⟨b, off + k * 7 + 2, none⟩ = some (.int .i64 p2) from hcp 2 _ rfl)
   have z3 := HGW.out.keep (show w.cell? ⟨b, off + k * 7 + 3, none⟩ = some (.int .i64 p3) from hcp 3 _ rfl)
   have z4 := HGW.out.keep (show w.cell? ⟨b, off + k * 7 + 4, none⟩ = some (.string p4) from hcp 4 _ rfl)
   have z5 := HGW.out.keep (show w.cell? ⟨b, off + k * 7 + 5, none⟩ = some (.string p5) from hcp 5 _ rfl)
   have z6 := HGW.out.keep (show w.cell? ⟨b, off + k * 7 + 6, none⟩ = some (.slice ap6 p6.length kp6) from hcp 6 _ rfl)
   have zb := blk z0
   clear hcsp hcp hrp hyp oq63 hp0 hp1 hp2 hp3 hp4 hp5 hp6 hwk
   go_wp2_with fail
   refine (hE _ _ q6[k] _ (Rd.gr (by rw [← HYp.out]; exact HRp.out) (HGW.out.trans gd)) HWK.out).mono ?_
   rintro e w1 ⟨ds, fq, rfl, hs, hf, y, rfl⟩
   have HS := Lib.hid hs
   have HF1 := Lib.hid hf
   obtain ⟨r0, r1, r2, r3, r4, r5, ar6, lr6, kr6, rfl⟩ := rdExpr_shape (show Rd.rd (α := GExpr d1) fq _ ds.toList _ from hs)
   clear hs hf
   go_wp2_with (first | (at_builtin; refine wpList_append_R (α := GE (d1 + 1)) (w0 := B) (HG.out.trans gd) rfl _ _ 155 rfl 157 i0 (.agg #[.int .i64 0, .int .i64 0, .int .i64 0, .int .i64 0, .string ByteArray.empty, .string ByteArray.empty, .slice none 0 0]) 88 Try.underlying155 HZ.out.1 HZ.out.2.1 HZ.out.2.2.1 HZ.out.2.2.2 rfl _ fps _ (by rfl) (HO.out.gr gd) _ [fq] [q6[k]] (by rfl) (SrcR.one (by simp) (Rd.gr HS.out gd)) (own_apart HO.out HF1.out) (by rw [HL.out]; unfold maxLen; simp; omega) (by rw [HL.out]; simp; omega) ?_; intro v3 w3 h1 h2 h3 h4; replace h1 := Lib.hid h1; replace h4 := Lib.hid h4; clear h2 h3))
   refine ⟨⟨k + 1, fps ++ [fq], by omega, Lib.hid (fresh_snoc HF.out (OwnR.lt HO.out) (HG.out.size) HF1.out), h4.out, ?_, by go_num⟩, by simp [intOf]; omega⟩
   have e : q6.take (k + 1) = q6.take k ++ [q6[k]] := List.take_succ_eq_append_getElem hlt
   rw [e]; exact h1.out
  ·have hk2 : k = q6.length := by omega
   subst hk2
   obtain ⟨y, rfl⟩ := HG.out
   obtain ⟨fr, hs, hfr⟩ := HO.out.fresh (by rw [HL.out]; unfold reachLen; omega) HF.out
   rw [List.take_length] at hs
   have HS := Lib.hid hs
   have HFR := Lib.hid hfr
   clear hs hfr
   obtain rfl := EB.out
   obtain ⟨h0, h1, h2, h3, h4, h5⟩ := H0.out
   go_wp2_with fail
   exact bodyPost_ret (v := .agg #[.int .i64 q0, .int .i64 q1, .int .i64 q2, .int .i64 q3, .string q4, .string q5, .slice ra q6.length rc])
    (by simp [results, Try.results126, go_sem]) rfl ⟨_, _, rfl, rdExpr_mk q0 q1 q2 q3 q4 q5 q6 h0 h1 h2 h3 h4 h5 (SlR.moved HS.out HFR.out gd (by simp)), HFR.out.of_le (by simp <;> omega), gd⟩

theorem l4Copy_all : (d : Nat) → ∀ (fp : List Nat) (cs : Array Value) (x : GE d) (w : World) (hx : Rd.rd fp w cs.toList x) (hl : wtE d x ≤ 1048576), Calls Try.prog 126 #[.agg cs] w (Made w x)
 | 0 => by intro fp cs x; exact PEmpty.elim x
 | d + 1 => l4Copy_of (l4Copy_all d)
theorem l4Copy_any (fp : List Nat) (cs : Array Value) (x : GExpr d) (w : World) (hx : Rd.rd fp w cs.toList x) (hl : wtExpr x ≤ 1048576) :
  Calls Try.prog 126 #[.agg cs] w (Made w x) := l4Copy_of (l4Copy_all d) fp cs x w hx hl
end Go.Proofs.Ytmfcagcanhmdbaa

namespace Go.Proofs.Ytmfcagcanhmdbaa
open Go.RowKit
variable {d : Nat}
set_option linter.unusedVariables false
set_option linter.unusedSimpArgs false

theorem Try.infoAttrC : (Try.prog.info? 145).map (fun i => (i.zero, i.size, i.bytes)) = some (some (.agg #[.string ByteArray.empty, .int .i64 0, .int .i64 0, .bool false]), 4, 40) := by kernel_rfl
theorem flatBool : FlatT Bool := fun _ _ _ _ h => h.1
theorem flatAttr : FlatT GAttribute := flatProd flatStr (flatProd flatInt (flatProd flatInt flatBool))

set_option maxRecDepth 10000 in
set_option maxHeartbeats 4000000 in
theorem l10Symbol_any {fx : List Nat} {cx : Array Value} (x : GSymbol) (w : World) (hx : Rd.rd fx w cx.toList x) (hl : wtSymbol x ≤ 1048576) :
  Calls Try.prog 109 #[.agg cx] w (Made w x) := by
 have HX := Lib.hid hx
 obtain ⟨x0, x1⟩ := x
 obtain ⟨vx1, fx1, rfl, hfpx, hx0, hx1⟩ := rdSymbol_inv x0 x1 hx
 have FPx := Lib.hid hfpx
 clear hfpx
 obtain ⟨ax1, kx1, rfl, ox11, ox12, ox13⟩ := hx1.open
 clear hx
 have hw1 : wtAttributeS x1 ≤ 1048576 := by
  have h : x0.size + wtAttributeS x1 ≤ 1048576 := hl
  omega
 have hll : x1.length ≤ 1048576 := Nat.le_trans (wtL_len wtAttribute x1) hw1
 obtain ⟨i0, hi, hz0, hz1, hz2⟩ := info_parts Try.infoAttrC
 have HZ := Lib.hid (And.intro hi (And.intro hz0 (And.intro hz1 hz2)))
 clear hi hz0 hz1 hz2 hl hw1
 go_enter Try.func109, Try.ntmps109
 go_wp2_with fail
 generalize hB : ((w.alloc (.cells #[.string x0, .slice ax1 x1.length kx1] 133)).alloc (.cells #[.string ⟨#[]⟩, .slice none 0 0] 133)) = B
 have gB : Gr w B := by rw [← hB]; exact gd
 have bB0 : ∀ w' : World, Gr B w' → w'.cell? ⟨w.heap.size, 0, none⟩ = some (.string x0) := fun w' hg => hg.keep (by rw [← hB]; repeat (first | exact box_cell (by first | rfl | (simp; done) | (simp; omega)) rfl | refine Gr.keep (Gr.alloc (Gr.refl _) _) ?_ | refine Gr.keep (Gr.ext (Gr.refl _) _) ?_ | refine Gr.keep (Gr.drew (Gr.refl _)) ?_))
 have bB1 : ∀ w' : World, Gr B w' → w'.cell? ⟨w.heap.size, 1, none⟩ = some (.slice ax1 x1.length kx1) := fun w' hg => hg.keep (by rw [← hB]; repeat (first | exact box_cell (by first | rfl | (simp; done) | (simp; omega)) rfl | refine Gr.keep (Gr.alloc (Gr.refl _) _) ?_ | refine Gr.keep (Gr.ext (Gr.refl _) _) ?_ | refine Gr.keep (Gr.drew (Gr.refl _)) ?_))
 have sB : B.heap.size = w.heap.size + 2 := by rw [← hB]; first | (simp; done) | (simp; omega)
 have EB := Lib.hid hB
 clear hB
 refine wp_region_U (fun w' => Gr B w') 7 (by kernel_rfl) (Gr.drew (Gr.refl _)) (fun hU => ?_)
 refine anyU_q 0 ?_
 try simp only [Act.put, uq1, uq2, uq3]
 refine anyU_q 3 ?_
 try simp only [Act.put, uq1, uq2, uq3]
 refine anyU_q 1 ?_
 try simp only [Act.put, uq1, uq2, uq3]
 refine anyU_q 4 ?_
 try simp only [Act.put, uq1, uq2, uq3]
 refine anyU_ready (rs := [2]) (by kernel_rfl) (by simp) ?_
 refine (ReadyU.cons rfl (fun K hK => ?_) ReadyU.nil)
 go_simp
 refine hK.out _ _ gd (fun hU2 => ?_)
 clear hK K
 try simp only [Act.put, uq1, uq2, uq3]
 refine anyU_ready (rs := [5]) (by kernel_rfl) (by simp) ?_
 refine (ReadyU.cons rfl (fun K hK => ?_) ReadyU.nil)
 refine step_clone (w := B) flatAttr gd (by rfl) _ _ _ (by rfl) 145 i0 (.agg #[.string ByteArray.empty, .int .i64 0, .int .i64 0, .bool false]) 40 Try.underlying131 HZ.out.1 HZ.out.2.1 HZ.out.2.2.1 HZ.out.2.2.2 rfl _ (by rfl) (OwnR.lit0 (w0 := B) (w := B.drew) 145 (Nat.le_refl _) (by show _ = B.heap.size; omega)) (by intro h; cases h) _ x1 (by rfl) (hx1.gr (gB.trans gd)) hll (by omega) ?_
 intro b c fq y hs hf hg hb _ _
 have HS := Lib.hid hs
 have HF := Lib.hid hf
 clear hs hf
 refine hK.out _ _ hg (fun hU3 => ?_)
 clear hK K
 try simp only [Act.put, uq1, uq2, uq3]
 refine anyU_q 6 ?_
 try simp only [Act.put, uq1, uq2, uq3]
 refine anyU_ready (rs := [7]) (by kernel_rfl) (by simp) ?_
 refine ReadyU.last rfl (fun K hK => ?_)
 obtain rfl := EB.out
 go_simp
 refine hK.out _ _ ?_
 clear hK K
 try simp only [Act.put, uq1, uq2, uq3]
 refine anyU_done (by kernel_rfl) ?_ _
 go_wp2_with fail
 exact bodyPost_ret (v := .agg #[.string x0, .slice (some ⟨b, 0, none⟩) x1.length c])
  (by simp [results, Try.results109, go_sem]) rfl ⟨_, _, rfl, rdSymbol_mk x0 x1 hx0 (SlR.moved HS.out HF.out gd (by simp)), HF.out.of_le (by simp <;> omega), gd⟩
end Go.Proofs.Ytmfcagcanhmdbaa
