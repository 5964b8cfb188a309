/- Expressions looked at by the reference: some answer comes. All cells of a block of one's own written, one after the other. Made by mk_put.py. No condition. -/
import Derived.Test.YtmfcagcanhmdbaaE17
import Derived.Test.YtmfcagcanhmdbaaE15
namespace Go.Proofs.Ytmfcagcanhmdbaa
open Go.RowKit
set_option linter.unusedVariables false
set_option linter.unusedSimpArgs false
variable {d : Nat}

set_option maxRecDepth 10000 in
set_option maxHeartbeats 4000000 in
theorem l4Left_of (hE : ∀ (fp : List Nat) (cs : Array Value) (x : GE d) (n : Int) (w : World) (hx : Rd.rd fp w cs.toList x) (h0 : 0 ≤ n) (h1 : n ≤ 1048576), Calls Try.prog 112 #[.agg cs, .int .i64 n] w (SomeI (-1) n w))
  (fp : List Nat) (cs : Array Value) (x : GExpr d) (n : Int) (w : World) (hx : Rd.rd fp w cs.toList x) (h0 : 0 ≤ n) (h1 : n ≤ 1048576) : Calls Try.prog 112 #[.agg cs, .int .i64 n] w (SomeI (-1) n w) := by
 obtain ⟨q0, q1, q2, q3, q4, q5, q6⟩ := x
 obtain ⟨vq6, fq6, rfl, -, hq0, hq1, hq2, hq3, hq4, hq5, hq6⟩ := rdExpr_inv q0 q1 q2 q3 q4 q5 q6 hx
 obtain ⟨aq6, kq6, rfl, oq61, oq62, oq63⟩ := hq6.open
 have HX := Lib.hid hx
 have HQ6 := Lib.hid hq6
 clear hx
 have iw0 : IntKind.i64.wrap (n - 1) = n - 1 := IntWalk.i64_in _ (by omega)
 go_enter Try.func112, Try.ntmps112
 go_wp2_with fail
 generalize hB : w.alloc (.cells #[.int .i64 q0, .int .i64 q1, .int .i64 q2, .int .i64 q3, .string q4, .string q5, .slice aq6 q6.length kq6] 157) = B
 have gB : Gr w B := by rw [← hB]; exact gd
 have b0 : B.cell? ⟨w.heap.size, 0, none⟩ = some (.int .i64 q0) := by rw [← hB]; exact box_cell rfl rfl
 have b1 : B.cell? ⟨w.heap.size, 1, none⟩ = some (.int .i64 q1) := by rw [← hB]; exact box_cell rfl rfl
 have b2 : B.cell? ⟨w.heap.size, 2, none⟩ = some (.int .i64 q2) := by rw [← hB]; exact box_cell rfl rfl
 have b3 : B.cell? ⟨w.heap.size, 3, none⟩ = some (.int .i64 q3) := by rw [← hB]; exact box_cell rfl rfl
 have b4 : B.cell? ⟨w.heap.size, 4, none⟩ = some (.string q4) := by rw [← hB]; exact box_cell rfl rfl
 have b5 : B.cell? ⟨w.heap.size, 5, none⟩ = some (.string q5) := by rw [← hB]; exact box_cell rfl rfl
 have b6 : B.cell? ⟨w.heap.size, 6, none⟩ = some (.slice aq6 q6.length kq6) := by rw [← hB]; exact box_cell rfl rfl
 have HGB := Lib.hid gB
 have HB := Lib.hid (And.intro b0 (And.intro b1 (And.intro b2 (And.intro b3 (And.intro b4 (And.intro b5 b6))))))
 clear hB gB b0 b1 b2 b3 b4 b5 b6
 go_loopw [5, 1] (fun s5 s1 wr => ∃ (k : Nat) (m : Int), k ≤ q6.length ∧ -1 ≤ m ∧ m ≤ n ∧ Hid (Gr B wr) ∧ s5 = .int .i64 k ∧ s1 = .int .i64 m) (fun s5 _ _ => q6.length - (intOf s5).toNat)
 case atStart => exact ⟨0, n - 1, by omega, by omega, by omega, Lib.hid (Gr.refl _), rfl, rfl⟩
 case round =>
  obtain ⟨k, m, hk, hm0, hm1, HG, rfl, rfl⟩ := hrel
  rename World => W1
  have y0 := HG.out.keep HB.out.1
  have y1 := HG.out.keep HB.out.2.1
  have y2 := HG.out.keep HB.out.2.2.1
  have y3 := HG.out.keep HB.out.2.2.2.1
  have y4 := HG.out.keep HB.out.2.2.2.2.1
  have y5 := HG.out.keep HB.out.2.2.2.2.2.1
  have y6 := HG.out.keep HB.out.2.2.2.2.2.2
  have zy := blk y0
  have HGW := Lib.hid (HGB.out.trans HG.out)
  by_cases hlt : k < q6.length
  ·by_cases hm : 0 ≤ m
   ·skip
    obtain ⟨d1, rfl⟩ : ∃ e, d = e + 1 := by
     cases d with
     | zero => exact PEmpty.elim (q6[k])
     | succ e => exact ⟨e, rfl⟩
    obtain ⟨b, off, rfl, hb⟩ := oq63 k hlt
    obtain ⟨csp, fep, hcp, hrp, -⟩ := HQ6.out.at hlt
    obtain ⟨yp, hyp⟩ : ∃ y, y = q6[k] := ⟨_, rfl⟩
    rw [← hyp] at hrp
    have HYp := Lib.hid hyp
    have HRp := Lib.hid hrp
    obtain ⟨p0, p1, p2, p3, p4, p5, p6⟩ := yp
    obtain ⟨vp6, fp6, hcsp, -, hp0, hp1, hp2, hp3, hp4, hp5, hp6⟩ := rdExpr_inv (cs := csp.toArray) p0 p1 p2 p3 p4 p5 p6 (show Rd.rd (α := GExpr d1) fep w csp.toArray.toList _ from hrp)
    obtain rfl : csp = [.int .i64 p0, .int .i64 p1, .int .i64 p2, .int .i64 p3, .string p4, .string p5, vp6] := by have := congrArg Array.toList hcsp; simpa using this
    obtain ⟨ap6, kp6, rfl, -, -, -⟩ := hp6.open
    have z0 := HGW.out.keep (show w.cell? ⟨b, off + k * 7, none⟩ = some (.int .i64 p0) from hcp 0 _ rfl)
    have z1 := HGW.out.keep (show w.cell? ⟨b, off + k * 7 + 1, none⟩ = some (.int .i64 p1) from hcp 1 _ rfl)
    have z2 := HGW.out.keep (show w.cell? ⟨b, off + k * 7 + 2, none⟩ = some (.int .i64 p2) from hcp 2 _ rfl)
    have z3 := HGW.out.keep (show w.cell? ⟨b, off + k * 7 + 3, none⟩ = some (.int .i64 p3) from hcp 3 _ rfl)
    have z4 := HGW.out.keep (show w.cell? ⟨b, off + k * 7 + 4, none⟩ = some (.string p4) from hcp 4 _ rfl)
    have z5 := HGW.out.keep (show w.cell? ⟨b, off + k * 7 + 5, none⟩ = some (.string p5) from hcp 5 _ rfl)
    have z6 := HGW.out.keep (show w.cell? ⟨b, off + k * 7 + 6, none⟩ = some (.slice ap6 p6.length kp6) from hcp 6 _ rfl)
    have zb := blk z0
    have k0 : (0 : Int) ≤ (k : Int) := by omega
    have k1 : (k : Int) < (q6.length : Int) := by omega
    have iw : IntKind.i64.wrap ((k : Int) + 1) = (k : Int) + 1 := IntWalk.i64_in _ (by omega)
    clear hcsp hcp hrp hyp oq63 hp0 hp1 hp2 hp3 hp4 hp5 hp6
    go_wp2_with fail
    refine (hE _ _ q6[k] m _ (Rd.gr (by rw [← HYp.out]; exact HRp.out) HGW.out) hm (by omega)).mono ?_
    rintro e w' ⟨r, rfl, hr0, hr1, g2⟩
    have HG2 := Lib.hid g2
    clear g2
    go_wp2_with fail
    exact ⟨⟨k + 1, r, by omega, by omega, by omega, Lib.hid (HG.out.trans HG2.out), by go_num, rfl⟩, by simp [intOf]; omega⟩
   ·go_wp2_with fail
    go_ret
    exact ⟨m, rfl, hm0, hm1, HGW.out⟩
  ·go_wp2_with fail
   all_goals
    go_ret
    exact ⟨m, rfl, hm0, hm1, HGW.out⟩
theorem l4Left_all : (d : Nat) → ∀ (fp : List Nat) (cs : Array Value) (x : GE d) (n : Int) (w : World) (hx : Rd.rd fp w cs.toList x) (h0 : 0 ≤ n) (h1 : n ≤ 1048576), Calls Try.prog 112 #[.agg cs, .int .i64 n] w (SomeI (-1) n w)
 | 0 => by intro fp cs x; exact PEmpty.elim x
 | d + 1 => l4Left_of (l4Left_all d)

set_option maxRecDepth 10000 in
set_option maxHeartbeats 4000000 in
theorem depth_of (hd : d ≤ 100000) (hE : ∀ (fp : List Nat) (cs : Array Value) (x : GE d) (w : World) (hx : Rd.rd fp w cs.toList x), Calls Try.prog 113 #[.agg cs] w (SomeI 1 d w))
  (fp : List Nat) (cs : Array Value) (x : GExpr d) (w : World) (hx : Rd.rd fp w cs.toList x) : Calls Try.prog 113 #[.agg cs] w (SomeI 1 ((d + 1 : Nat) : Int) w) := by
 obtain ⟨q0, q1, q2, q3, q4, q5, q6⟩ := x
 obtain ⟨vq6, fq6, rfl, -, hq0, hq1, hq2, hq3, hq4, hq5, hq6⟩ := rdExpr_inv q0 q1 q2 q3 q4 q5 q6 hx
 obtain ⟨aq6, kq6, rfl, oq61, oq62, oq63⟩ := hq6.open
 have HX := Lib.hid hx
 have HQ6 := Lib.hid hq6
 clear hx
 go_enter Try.func113, Try.ntmps113
 go_wp2_with fail
 generalize hB : w.alloc (.cells #[.int .i64 q0, .int .i64 q1, .int .i64 q2, .int .i64 q3, .string q4, .string q5, .slice aq6 q6.length kq6] 157) = B
 have gB : Gr w B := by rw [← hB]; exact gd
 have b0 : B.cell? ⟨w.heap.size, 0, none⟩ = some (.int .i64 q0) := by rw [← hB]; exact box_cell rfl rfl
 have b1 : B.cell? ⟨w.heap.size, 1, none⟩ = some (.int .i64 q1) := by rw [← hB]; exact box_cell rfl rfl
 have b2 : B.cell? ⟨w.heap.size, 2, none⟩ = some (.int .i64 q2) := by rw [← hB]; exact box_cell rfl rfl
 have b3 : B.cell? ⟨w.heap.size, 3, none⟩ = some (.int .i64 q3) := by rw [← hB]; exact box_cell rfl rfl
 have b4 : B.cell? ⟨w.heap.size, 4, none⟩ = some (.string q4) := by rw [← hB]; exact box_cell rfl rfl
 have b5 : B.cell? ⟨w.heap.size, 5, none⟩ = some (.string q5) := by rw [← hB]; exact box_cell rfl rfl
 have b6 : B.cell? ⟨w.heap.size, 6, none⟩ = some (.slice aq6 q6.length kq6) := by rw [← hB]; exact box_cell rfl rfl
 have HGB := Lib.hid gB
 have HB := Lib.hid (And.intro b0 (And.intro b1 (And.intro b2 (And.intro b3 (And.intro b4 (And.intro b5 b6))))))
 clear hB gB b0 b1 b2 b3 b4 b5 b6
 go_loopw [4, 3] (fun s4 s3 wr => ∃ (k : Nat) (m : Int), k ≤ q6.length ∧ 0 ≤ m ∧ m ≤ d ∧ Hid (Gr B wr) ∧ s4 = .int .i64 k ∧ s3 = .int .i64 m) (fun s4 _ _ => q6.length - (intOf s4).toNat)
 case atStart => exact ⟨0, 0, by omega, by omega, by omega, Lib.hid (Gr.refl _), rfl, rfl⟩
 case round =>
  obtain ⟨k, m, hk, hm0, hm1, HG, rfl, rfl⟩ := hrel
  rename World => W1
  have y0 := HG.out.keep HB.out.1
  have y1 := HG.out.keep HB.out.2.1
  have y2 := HG.out.keep HB.out.2.2.1
  have y3 := HG.out.keep HB.out.2.2.2.1
  have y4 := HG.out.keep HB.out.2.2.2.2.1
  have y5 := HG.out.keep HB.out.2.2.2.2.2.1
  have y6 := HG.out.keep HB.out.2.2.2.2.2.2
  have zy := blk y0
  have HGW := Lib.hid (HGB.out.trans HG.out)
  by_cases hlt : k < q6.length
  ·skip
   obtain ⟨d1, rfl⟩ : ∃ e, d = e + 1 := by
    cases d with
    | zero => exact PEmpty.elim (q6[k])
    | succ e => exact ⟨e, rfl⟩
   obtain ⟨b, off, rfl, hb⟩ := oq63 k hlt
   obtain ⟨csp, fep, hcp, hrp, -⟩ := HQ6.out.at hlt
   obtain ⟨yp, hyp⟩ : ∃ y, y = q6[k] := ⟨_, rfl⟩
   rw [← hyp] at hrp
   have HYp := Lib.hid hyp
   have HRp := Lib.hid hrp
   obtain ⟨p0, p1, p2, p3, p4, p5, p6⟩ := yp
   obtain ⟨vp6, fp6, hcsp, -, hp0, hp1, hp2, hp3, hp4, hp5, hp6⟩ := rdExpr_inv (cs := csp.toArray) p0 p1 p2 p3 p4 p5 p6 (show Rd.rd (α := GExpr d1) fep w csp.toArray.toList _ from hrp)
   obtain rfl : csp = [.int .i64 p0, .int .i64 p1, .int .i64 p2, .int .i64 p3, .string p4, .string p5, vp6] := by have := congrArg Array.toList hcsp; simpa using this
   obtain ⟨ap6, kp6, rfl, -, -, -⟩ := hp6.open
   have z0 := HGW.out.keep (show w.cell? ⟨b, off + k * 7, none⟩ = some (.int .i64 p0) from hcp 0 _ rfl)
   have z1 := HGW.out.keep (show w.cell? ⟨b, off + k * 7 + 1, none⟩ = some (.int .i64 p1) from hcp 1 _ rfl)
   have z2 := HGW.out.keep (show w.cell? ⟨b, off + k * 7 + 2, none⟩ = some (.int .i64 p2) from hcp 2 _ rfl)
   have z3 := HGW.out.keep (show w.cell? ⟨b, off + k * 7 + 3, none⟩ = some (.int .i64 p3) from hcp 3 _ rfl)
   have z4 := HGW.out.keep (show w.cell? ⟨b, off + k * 7 + 4, none⟩ = some (.string p4) from hcp 4 _ rfl)
   have z5 := HGW.out.keep (show w.cell? ⟨b, off + k * 7 + 5, none⟩ = some (.string p5) from hcp 5 _ rfl)
   have z6 := HGW.out.keep (show w.cell? ⟨b, off + k * 7 + 6, none⟩ = some (.slice ap6 p6.length kp6) from hcp 6 _ rfl)
   have zb := blk z0
   have k0 : (0 : Int) ≤ (k : Int) := by omega
   have k1 : (k : Int) < (q6.length : Int) := by omega
   have iw : IntKind.i64.wrap ((k : Int) + 1) = (k : Int) + 1 := IntWalk.i64_in _ (by omega)
   clear hcsp hcp hrp hyp oq63 hp0 hp1 hp2 hp3 hp4 hp5 hp6
   go_wp2_with fail
   refine (hE _ _ q6[k] _ (Rd.gr (by rw [← HYp.out]; exact HRp.out) HGW.out)).mono ?_
   rintro e w' ⟨r, rfl, hr0, hr1, g2⟩
   have HG2 := Lib.hid g2
   clear g2
   go_wp2_with fail
   refine (l1Max_any _ _ _).mono ?_
   rintro e w' ⟨rfl, rfl⟩
   go_wp2_with fail
   refine ⟨⟨k + 1, max m r, by omega, by omega, by omega, Lib.hid (HG.out.trans HG2.out), by go_num, ?_⟩, by simp [intOf]; omega⟩
   rfl
  ·have iw0 : IntKind.i64.wrap (m + 1) = m + 1 := IntWalk.i64_in _ (by omega)
   go_wp2_with fail
   go_ret
   exact ⟨m + 1, rfl, by omega, by omega, HGW.out⟩
theorem depth_all : (d : Nat) → (hd : d ≤ 100000) → ∀ (fp : List Nat) (cs : Array Value) (x : GE d) (w : World) (hx : Rd.rd fp w cs.toList x), Calls Try.prog 113 #[.agg cs] w (SomeI 1 d w)
 | 0, _ => by intro fp cs x; exact PEmpty.elim x
 | d + 1, hd => depth_of (by omega) (depth_all d (by omega))

def SomeN (w : World) (e : Ending) (w' : World) : Prop := ∃ r : Int, e = .returned (.int .i64 r) ∧ w = w'
theorem l3Truth_some (b : Bool) (w : World) : Calls Try.prog 131 #[.bool b] w (SomeN w) := by
 cases b <;>
 ·skip
  go_enter Try.func131, Try.ntmps131
  go_wp2_with fail
  go_ret
  exact ⟨_, rfl, rfl⟩
set_option maxHeartbeats 4000000 in
theorem coerce_some (n t : Int) (w : World) : Calls Try.prog 127 #[.int .i64 n, .int .i64 t] w (SomeN w) := by
 go_enter Try.func127, Try.ntmps127
 go_wp2_with (first | (go_at_call 130; refine (specSat_any _ _).mono ?_; rintro e w' ⟨rfl, rfl⟩) | (go_at_call 131; refine (l3Truth_some _ _).mono ?_; rintro e w' ⟨r, rfl, rfl⟩) | (go_at_call 31; refine (l1In_any _ _ _ _).mono ?_; rintro e w' ⟨rfl, rfl⟩))
 go_ways
 all_goals
  go_ret
  exact ⟨_, rfl, rfl⟩

set_option maxRecDepth 10000 in
set_option maxHeartbeats 4000000 in
theorem isOfType_some (n t : Int) (w : World) : Calls Try.prog 124 #[.int .i64 n, .int .i64 t] w (SomeB w) := by
 by_cases ht : 1 ≤ t ∧ t ≤ 4
 ·skip
  go_enter Try.func124, Try.ntmps124
  go_wp2_with fail
  refine (l1In_yes _ _ _ _ ht.1 ht.2).mono ?_
  rintro e w' ⟨rfl, x1, rfl⟩
  go_wp2_with fail
  refine (coerce_some n t _).mono ?_
  rintro e w' ⟨r, rfl, rfl⟩
  go_wp2_with fail
  go_ret
  exact ⟨_, rfl, gd⟩
 ·have hor : t < 1 ∨ 4 < t := by omega
  have HT := Lib.hid hor
  clear hor ht
  go_enter Try.func124, Try.ntmps124
  go_wp2_with fail
  refine (l1In_no _ _ _ _ HT.out).mono ?_
  rintro e w' ⟨rfl, x1, rfl⟩
  go_wp2_with fail
  go_ret
  exact ⟨_, rfl, gd⟩

set_option maxRecDepth 10000 in
set_option maxHeartbeats 4000000 in
theorem isValidName_some (s : ByteArray) (hs : s.size ≤ 1048576) (w : World) : Calls Try.prog 125 #[.string s] w (SomeB w) := by
 go_enter Try.func125, Try.ntmps125
 go_wp2_with fail
 refine (l2Shape_some s hs _).mono ?_
 rintro e w' ⟨r, rfl, g2⟩
 have HG2 := Lib.hid g2
 clear g2
 cases r with
 | false =>
  go_wp2_with fail
  go_ret
  exact ⟨_, rfl, HG2.out⟩
 | true =>
  by_cases h8 : s.size ≤ 8
  ·have h8' : (s.size : Int) ≤ 8 := by omega
   go_wp2_with fail
   refine (isReserved_some s _).mono ?_
   rintro e w' ⟨r, rfl, g3⟩
   have HG3 := Lib.hid g3
   clear g3
   go_wp2_with fail
   go_ret
   exact ⟨_, rfl, HG2.out.trans HG3.out⟩
  ·have h8' : ¬ (s.size : Int) ≤ 8 := by omega
   go_wp2_with fail
   go_ret
   exact ⟨_, rfl, HG2.out⟩
end Go.Proofs.Ytmfcagcanhmdbaa

namespace Go.Proofs.Ytmfcagcanhmdbaa
open Go.RowKit

theorem VRow.new {A : World} {n : Nat} {t : TypeId} {vs : List Value} (h : n = A.heap.size) : VRow (A.alloc (.cells vs.toArray t)) n t vs := by subst h; exact heap_alloc_new A _

theorem VRow.put1 {w : World} {b : Nat} {t : TypeId} {a0 : Value} (h : VRow w b t [a0]) (v0 : Value) : VRow (w.setCell ⟨b, 0, none⟩ v0) b t [v0] := (VRow.set h 0 v0)
theorem Gr.put1 {w0 w : World} {b : Nat} (h : Gr w0 w) (hb : w0.heap.size ≤ b) (v0 : Value) : Gr w0 (w.setCell ⟨b, 0, none⟩ v0) := (Gr.setCell (p := ⟨b, 0, none⟩) h hb v0)
theorem Wr.put1 (w : World) (b : Nat) (v0 : Value) : Wr [b] w (w.setCell ⟨b, 0, none⟩ v0) := (Wr.setCell (Wr.refl [b] w) (List.mem_singleton.2 rfl) v0)

theorem VRow.put2 {w : World} {b : Nat} {t : TypeId} {a0 a1 : Value} (h : VRow w b t [a0, a1]) (v0 v1 : Value) : VRow ((w.setCell ⟨b, 0, none⟩ v0).setCell ⟨b, 1, none⟩ v1) b t [v0, v1] := (VRow.set (VRow.set h 0 v0) 1 v1)
theorem Gr.put2 {w0 w : World} {b : Nat} (h : Gr w0 w) (hb : w0.heap.size ≤ b) (v0 v1 : Value) : Gr w0 ((w.setCell ⟨b, 0, none⟩ v0).setCell ⟨b, 1, none⟩ v1) := (Gr.setCell (p := ⟨b, 1, none⟩) (Gr.setCell (p := ⟨b, 0, none⟩) h hb v0) hb v1)
theorem Wr.put2 (w : World) (b : Nat) (v0 v1 : Value) : Wr [b] w ((w.setCell ⟨b, 0, none⟩ v0).setCell ⟨b, 1, none⟩ v1) := (Wr.setCell (Wr.setCell (Wr.refl [b] w) (List.mem_singleton.2 rfl) v0) (List.mem_singleton.2 rfl) v1)

theorem VRow.put4 {w : World} {b : Nat} {t : TypeId} {a0 a1 a2 a3 : Value} (h : VRow w b t [a0, a1, a2, a3]) (v0 v1 v2 v3 : Value) : VRow ((((w.setCell ⟨b, 0, none⟩ v0).setCell ⟨b, 1, none⟩ v1).setCell ⟨b, 2, none⟩ v2).setCell ⟨b, 3, none⟩ v3) b t [v0, v1, v2, v3] := (VRow.set (VRow.set (VRow.set (VRow.set h 0 v0) 1 v1) 2 v2) 3 v3)
theorem Gr.put4 {w0 w : World} {b : Nat} (h : Gr w0 w) (hb : w0.heap.size ≤ b) (v0 v1 v2 v3 : Value) : Gr w0 ((((w.setCell ⟨b, 0, none⟩ v0).setCell ⟨b, 1, none⟩ v1).setCell ⟨b, 2, none⟩ v2).setCell ⟨b, 3, none⟩ v3) := (Gr.setCell (p := ⟨b, 3, none⟩) (Gr.setCell (p := ⟨b, 2, none⟩) (Gr.setCell (p := ⟨b, 1, none⟩) (Gr.setCell (p := ⟨b, 0, none⟩) h hb v0) hb v1) hb v2) hb v3)
theorem Wr.put4 (w : World) (b : Nat) (v0 v1 v2 v3 : Value) : Wr [b] w ((((w.setCell ⟨b, 0, none⟩ v0).setCell ⟨b, 1, none⟩ v1).setCell ⟨b, 2, none⟩ v2).setCell ⟨b, 3, none⟩ v3) := (Wr.setCell (Wr.setCell (Wr.setCell (Wr.setCell (Wr.refl [b] w) (List.mem_singleton.2 rfl) v0) (List.mem_singleton.2 rfl) v1) (List.mem_singleton.2 rfl) v2) (List.mem_singleton.2 rfl) v3)

theorem VRow.put6 {w : World} {b : Nat} {t : TypeId} {a0 a1 a2 a3 a4 a5 : Value} (h : VRow w b t [a0, a1, a2, a3, a4, a5]) (v0 v1 v2 v3 v4 v5 : Value) : VRow ((((((w.setCell ⟨b, 0, none⟩ v0).setCell ⟨b, 1, none⟩ v1).setCell ⟨b, 2, none⟩ v2).setCell ⟨b, 3, none⟩ v3).setCell ⟨b, 4, none⟩ v4).setCell ⟨b, 5, none⟩ v5) b t [v0, v1, v2, v3, v4, v5] := (VRow.set (VRow.set (VRow.set (VRow.set (VRow.set (VRow.set h 0 v0) 1 v1) 2 v2) 3 v3) 4 v4) 5 v5)
theorem Gr.put6 {w0 w : World} {b : Nat} (h : Gr w0 w) (hb : w0.heap.size ≤ b) (v0 v1 v2 v3 v4 v5 : Value) : Gr w0 ((((((w.setCell ⟨b, 0, none⟩ v0).setCell ⟨b, 1, none⟩ v1).setCell ⟨b, 2, none⟩ v2).setCell ⟨b, 3, none⟩ v3).setCell ⟨b, 4, none⟩ v4).setCell ⟨b, 5, none⟩ v5) := (Gr.setCell (p := ⟨b, 5, none⟩) (Gr.setCell (p := ⟨b, 4, none⟩) (Gr.setCell (p := ⟨b, 3, none⟩) (Gr.setCell (p := ⟨b, 2, none⟩) (Gr.setCell (p := ⟨b, 1, none⟩) (Gr.setCell (p := ⟨b, 0, none⟩) h hb v0) hb v1) hb v2) hb v3) hb v4) hb v5)
theorem Wr.put6 (w : World) (b : Nat) (v0 v1 v2 v3 v4 v5 : Value) : Wr [b] w ((((((w.setCell ⟨b, 0, none⟩ v0).setCell ⟨b, 1, none⟩ v1).setCell ⟨b, 2, none⟩ v2).setCell ⟨b, 3, none⟩ v3).setCell ⟨b, 4, none⟩ v4).setCell ⟨b, 5, none⟩ v5) := (Wr.setCell (Wr.setCell (Wr.setCell (Wr.setCell (Wr.setCell (Wr.setCell (Wr.refl [b] w) (List.mem_singleton.2 rfl) v0) (List.mem_singleton.2 rfl) v1) (List.mem_singleton.2 rfl) v2) (List.mem_singleton.2 rfl) v3) (List.mem_singleton.2 rfl) v4) (List.mem_singleton.2 rfl) v5)

theorem VRow.put7 {w : World} {b : Nat} {t : TypeId} {a0 a1 a2 a3 a4 a5 a6 : Value} (h : VRow w b t [a0, a1, a2, a3, a4, a5, a6]) (v0 v1 v2 v3 v4 v5 v6 : Value) : VRow (((((((w.setCell ⟨b, 0, none⟩ v0).setCell ⟨b, 1, none⟩ v1).setCell ⟨b, 2, none⟩ v2).setCell ⟨b, 3, none⟩ v3).setCell ⟨b, 4, none⟩ v4).setCell ⟨b, 5, none⟩ v5).setCell ⟨b, 6, none⟩ v6) b t [v0, v1, v2, v3, v4, v5, v6] := (VRow.set (VRow.set (VRow.set (VRow.set (VRow.set (VRow.set (VRow.set h 0 v0) 1 v1) 2 v2) 3 v3) 4 v4) 5 v5) 6 v6)
theorem Gr.put7 {w0 w : World} {b : Nat} (h : Gr w0 w) (hb : w0.heap.size ≤ b) (v0 v1 v2 v3 v4 v5 v6 : Value) : Gr w0 (((((((w.setCell ⟨b, 0, none⟩ v0).setCell ⟨b, 1, none⟩ v1).setCell ⟨b, 2, none⟩ v2).setCell ⟨b, 3, none⟩ v3).setCell ⟨b, 4, none⟩ v4).setCell ⟨b, 5, none⟩ v5).setCell ⟨b, 6, none⟩ v6) := (Gr.setCell (p := ⟨b, 6, none⟩) (Gr.setCell (p := ⟨b, 5, none⟩) (Gr.setCell (p := ⟨b, 4, none⟩) (Gr.setCell (p := ⟨b, 3, none⟩) (Gr.setCell (p := ⟨b, 2, none⟩) (Gr.setCell (p := ⟨b, 1, none⟩) (Gr.setCell (p := ⟨b, 0, none⟩) h hb v0) hb v1) hb v2) hb v3) hb v4) hb v5) hb v6)
theorem Wr.put7 (w : World) (b : Nat) (v0 v1 v2 v3 v4 v5 v6 : Value) : Wr [b] w (((((((w.setCell ⟨b, 0, none⟩ v0).setCell ⟨b, 1, none⟩ v1).setCell ⟨b, 2, none⟩ v2).setCell ⟨b, 3, none⟩ v3).setCell ⟨b, 4, none⟩ v4).setCell ⟨b, 5, none⟩ v5).setCell ⟨b, 6, none⟩ v6) := (Wr.setCell (Wr.setCell (Wr.setCell (Wr.setCell (Wr.setCell (Wr.setCell (Wr.setCell (Wr.refl [b] w) (List.mem_singleton.2 rfl) v0) (List.mem_singleton.2 rfl) v1) (List.mem_singleton.2 rfl) v2) (List.mem_singleton.2 rfl) v3) (List.mem_singleton.2 rfl) v4) (List.mem_singleton.2 rfl) v5) (List.mem_singleton.2 rfl) v6)

end Go.Proofs.Ytmfcagcanhmdbaa
