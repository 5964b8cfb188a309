/- Clones of slices of readings; an entry in new memory. An entry in new memory, in the reference and in the program. copyEntry: an entry in new memory, in the program. MemoValues of the program and of the reference. FindEntry of the reference and of the program. SameSource of the program and of the reference. slices.IndexFunc and slices.ContainsFunc at Reading. Made by mk_func.py. No condition. -/
import Derived.Test.YtbfmeiooeaaibaaGreatMemF
import Derived.Test.YtbfmeiooeaaibaaGreatCloneI
import Derived.Deep.DrawnRows
import Derived.Deep.RegionWith
import Derived.Test.YtbfmeiooeaaibaaGreatFamEntryA
import Derived.Test.YtbfmeiooeaaibaaGreatFamRead
import Derived.Laws.EntriesVeiled
namespace Go.Proofs.YtbfmeiooeaaibaaGreat
open Go.RowKit

theorem flatReading : FlatT GReading := flatProd (flatProd flatInt flatStr) (flatProd flatInt flatStr)

theorem Tryz.infoReadC : (Tryz.prog.info? 119).map (fun i => (i.zero, i.size, i.bytes)) = some (some (.agg #[.int .i64 0, .string ByteArray.empty, .int .i64 0, .string ByteArray.empty]), 4, 48) := by kernel_rfl

end Go.Proofs.YtbfmeiooeaaibaaGreat

namespace Go.Proofs.YtbfmeiooeaaibaaGreat
open Go.RowKit

set_option maxRecDepth 10000 in
set_option maxHeartbeats 4000000 in
theorem l36Entry_any (fp : List Nat) (cs : Array Value) (x : GEntry) (w : World) (hx : Rd.rd fp w cs.toList x) (hl : wtEntry x ≤ 1048576) :
    Calls Tryz.prog 106 #[.agg cs] w fun e w' => ∃ ds fq, e = .returned (.agg ds) ∧ Rd.rd fq w' ds.toList x ∧ Fresh w fq ∧ Gr w w' := by
  obtain ⟨⟨q00, q01⟩, q1, q2, q3, q4, q5, q6, q7⟩ := x
  obtain ⟨vq5, fq5, vq6, fq6, vq7, fq7, rfl, -, hq00, hq01, hq1, hq2, hq3, hq4, hq5, hq6, hq7⟩ := rdEntry_inv q00 q01 q1 q2 q3 q4 q5 q6 q7 hx
  have S5 := Lib.hid hq5
  have S6 := Lib.hid hq6
  have S7 := Lib.hid hq7
  obtain ⟨a5, c5, rfl, -, -, -⟩ := hq5.open
  obtain ⟨a6, c6, rfl, -, -, -⟩ := hq6.open
  obtain ⟨a7, c7, rfl, -, -, -⟩ := hq7.open
  have hw : wtInstance (q00, q01) + q4.size + q5.length + q6.length + wtReadingS q7 ≤ 1048576 := hl
  have l5 : q5.length ≤ 1048576 := by omega
  have l6 : q6.length ≤ 1048576 := by omega
  have l7 : q7.length ≤ 1048576 := Nat.le_trans (wtL_len wtReading q7) (show wtReadingS q7 ≤ _ by omega)
  obtain ⟨i0, hi, hz0, hz1, hz2⟩ := info_parts Tryz.infoIntC
  have HZ := Lib.hid (And.intro hi (And.intro hz0 (And.intro hz1 hz2)))
  clear hi hz0 hz1 hz2
  obtain ⟨i1, hi, hz0, hz1, hz2⟩ := info_parts Tryz.infoReadC
  have HY := Lib.hid (And.intro hi (And.intro hz0 (And.intro hz1 hz2)))
  have H0 := Lib.hid (And.intro hq00 (And.intro hq01 (And.intro hq1 (And.intro hq2 (And.intro hq3 hq4)))))
  clear hi hz0 hz1 hz2 hx hl hw hq5 hq6 hq7 hq00 hq01 hq1 hq2 hq3 hq4
  go_enter Tryz.func106, Tryz.ntmps106
  go_wp2_with (first
    | (at_builtin; refine wpList_clone (o := ⟨some 6, _, _, _, _, _⟩) flatInt rfl _ _ 35 rfl 3 i0 (.int .i64 0) 8 Tryz.underlying35 HZ.out.1 HZ.out.2.1 HZ.out.2.2.1 HZ.out.2.2.2 rfl (by rfl) (by simp) (by rfl) (S5.out.gr (by repeat (first | exact Gr.refl _ | apply Gr.ext | apply Gr.alloc | apply Gr.drew))) l5 (by omega) ?_; intro b5 d5 f5 y5 s5 r5; replace s5 := Lib.hid s5; replace r5 := Lib.hid r5)
    | (at_builtin; refine wpList_clone (o := ⟨some 11, _, _, _, _, _⟩) flatInt rfl _ _ 35 rfl 3 i0 (.int .i64 0) 8 Tryz.underlying35 HZ.out.1 HZ.out.2.1 HZ.out.2.2.1 HZ.out.2.2.2 rfl (by rfl) (by simp) (by rfl) (S6.out.gr (by repeat (first | exact Gr.refl _ | apply Gr.ext | apply Gr.alloc | apply Gr.drew))) l6 (by omega) ?_; intro b6 d6 f6 y6 s6 r6; replace s6 := Lib.hid s6; replace r6 := Lib.hid r6)
    | (at_builtin; refine wpList_clone (o := ⟨some 16, _, _, _, _, _⟩) flatReading rfl _ _ 36 rfl 119 i1 (.agg #[.int .i64 0, .string ByteArray.empty, .int .i64 0, .string ByteArray.empty]) 48 Tryz.underlying36 HY.out.1 HY.out.2.1 HY.out.2.2.1 HY.out.2.2.2 rfl (by rfl) (by simp) (by rfl) (S7.out.gr (by repeat (first | exact Gr.refl _ | apply Gr.ext | apply Gr.alloc | apply Gr.drew))) l7 (by omega) ?_; intro b7 d7 f7 y7 s7 r7; replace s7 := Lib.hid s7; replace r7 := Lib.hid r7))
  obtain ⟨h00, h01, h1, h2, h3, h4⟩ := H0.out
  have hfresh : Fresh w (f5 ++ (f6 ++ f7)) := Fresh.app (Fresh.of_le r5.out (by simp <;> omega)) (SlR.lt s5.out) (Fresh.app r6.out (SlR.lt s6.out) r7.out (by simp <;> omega) (by simp <;> omega)) (by simp <;> omega) (by simp <;> omega)
  exact bodyPost_ret (v := .agg #[.int .i64 q00, .string q01, .int .i64 q1, .int .i64 q2, .int .i64 q3, .string q4, .slice (some ⟨b5, 0, none⟩) q5.length d5, .slice (some ⟨b6, 0, none⟩) q6.length d6, .slice (some ⟨b7, 0, none⟩) q7.length d7])
    (by simp [results, Tryz.results106, go_sem]) rfl
    ⟨_, _, rfl, rdEntry_mk q00 q01 q1 q2 q3 q4 q5 q6 q7 h00 h01 h1 h2 h3 h4 (SlR.moved s5.out r5.out (by repeat (first | exact Gr.refl _ | apply Gr.ext | apply Gr.alloc | apply Gr.drew)) (by simp)) (SlR.moved s6.out r6.out (by repeat (first | exact Gr.refl _ | apply Gr.ext | apply Gr.alloc | apply Gr.drew)) (by simp)) (SlR.moved s7.out r7.out (by repeat (first | exact Gr.refl _ | apply Gr.ext | apply Gr.alloc | apply Gr.drew)) (by simp)), hfresh, (by repeat (first | exact Gr.refl _ | apply Gr.ext | apply Gr.alloc | apply Gr.drew))⟩
end Go.Proofs.YtbfmeiooeaaibaaGreat

namespace Go.Proofs.YtbfmeiooeaaibaaGreat
open Go.RowKit

attribute [local go_sem ↓] Go.wp_at_zero Go.wp_at_succ

end Go.Proofs.YtbfmeiooeaaibaaGreat

namespace Go.Proofs.YtbfmeiooeaaibaaGreat
open Go.RowKit

def allFound (es : List GEntry) (l : List GInstance) : Bool := l.all fun x => (lookE es x).isSome
def valOf (es : List GEntry) (x : GInstance) : Int := ((lookE es x).getD zeroE).2.1
def valsOf (es : List GEntry) (l : List GInstance) : List Int := if allFound es l then l.map (valOf es) else []

theorem allFound_no {es : List GEntry} {l : List GInstance} {k : Nat} (hk : k < l.length) (h : (lookE es l[k]).isSome = false) : allFound es l = false := by
  unfold allFound
  rw [List.all_eq_false]
  exact ⟨l[k], List.getElem_mem hk, by rw [h]; simp⟩
theorem allFound_yes {es : List GEntry} {l : List GInstance} (h : ∀ k (hk : k < l.length), (lookE es l[k]).isSome = true) : allFound es l = true := by
  unfold allFound
  rw [List.all_eq_true]
  intro x hx
  obtain ⟨k, hk, rfl⟩ := List.mem_iff_getElem.1 hx
  exact h k hk

theorem ret_tup {v v' : Value} {a b : Bool} (h : v = v') (k : a = b) : Ending.returned (.tuple #[v, .bool a]) = Ending.returned (.tuple #[v', .bool b]) := by rw [h, k]

def ValsAt (w : World) (es : List GEntry) (l : List GInstance) (e : Ending) (w' : World) : Prop :=
  ∃ v fq, e = .returned (.tuple #[v, .bool (allFound es l)]) ∧ SlR fq w' v (valsOf es l) ∧ Fresh w fq ∧ Gr w w'

theorem valWf {fq : List Nat} {w : World} {cs : List Value} {e : GEntry} (h : Rd.rd fq w cs e) : (Lit.int .i64 e.2.1).wf = true := by
  obtain ⟨_, _, _, _, _, _, _, _, _, _, _, _, _, ⟨_, _, h⟩, _⟩ := h
  exact h

end Go.Proofs.YtbfmeiooeaaibaaGreat

namespace Go.Proofs.YtbfmeiooeaaibaaGreat
open Go.RowKit

def FoundNew (w : World) (o : Option GEntry) (e : Ending) (w' : World) : Prop :=
  ∃ es fq, e = .returned (.tuple #[.agg es, .bool o.isSome]) ∧ Rd.rd fq w' es.toList (o.getD zeroE) ∧ Fresh w fq ∧ Gr w w'

theorem wtEntryS_at {xs : List GEntry} {x2 : List GInstance} (hl : wtMemo (xs, x2) ≤ 1048576) {k : Nat} (hk : k < xs.length) : wtEntry xs[k] ≤ 1048576 := by
  have h1 : wtEntryS xs + wtInstanceS x2 ≤ 1048576 := hl
  have h2 := wtL_at wtEntry xs hk
  have h3 : wtEntryS xs = wtL wtEntry xs := rfl
  omega

theorem wtLook {xs : List GEntry} {x2 : List GInstance} (hl : wtMemo (xs, x2) ≤ 1048576) (x : GInstance) : wtEntry ((lookE xs x).getD zeroE) ≤ 1048576 := by
  cases h : lookE xs x with
  | none => show wtEntry zeroE ≤ _; decide
  | some y =>
    have hm := List.mem_of_find?_eq_some h
    obtain ⟨k, hk, rfl⟩ := List.mem_iff_getElem.1 hm
    exact wtEntryS_at hl hk

set_option maxRecDepth 10000 in
set_option maxHeartbeats 4000000 in
theorem specFind_any (fp fi : List Nat) (cs ds : Array Value) (m : GMemo) (x : GInstance) (w : World) (hx : Rd.rd fp w cs.toList m) (hi : Rd.rd fi w ds.toList x) (hl : wtMemo m ≤ 1048576) :
    Calls Tryz.prog 62 #[.agg cs, .agg ds] w (FoundNew w (lookE m.1 x)) := by
  obtain ⟨xs, x2⟩ := m
  obtain ⟨p0, p1⟩ := x
  obtain ⟨v0, f0, v1, f1, rfl, hfp, hu0, hu1⟩ := rdMemo_inv xs x2 hx
  obtain ⟨rfl, -, hp0, hp1⟩ := rdInstance_inv p0 p1 hi
  obtain ⟨a0, c0, rfl, op1, op2, op3⟩ := hu0.open
  obtain ⟨a1, c1, rfl, -, -, -⟩ := hu1.open
  have HL := Lib.hid hl
  clear hx hi hfp hl
  go_enter Tryz.func62, Tryz.ntmps62
  go_wp2_with fail
  go_loopw [6] (fun s6 wr => ∃ k : Nat, k ≤ xs.length ∧ Hid (∀ j (h : j < xs.length), j < k → decide (xs[j].1 = (p0, p1)) = false) ∧ Gr (((w.alloc (.cells #[.slice a0 xs.length c0, .slice a1 x2.length c1] 66)).alloc (.cells #[.int .i64 p0, .string p1] 34)).alloc (.cells #[.int .i64 0, .string ByteArray.empty, .int .i64 0, .int .i64 0, .int .i64 0, .string ByteArray.empty, .slice none 0 0, .slice none 0 0, .slice none 0 0] 38)) wr ∧ s6 = .int .i64 k) (fun s6 _ => xs.length - (intOf s6).toNat)
  case atStart => exact ⟨0, by omega, Lib.hid (by omega), Gr.refl _, rfl⟩
  case round =>
    obtain ⟨k, hk, ht, ⟨y, rfl⟩, rfl⟩ := hrel
    by_cases hlt : k < xs.length
    · obtain ⟨b, off, rfl, hb⟩ := op3 k hlt
      obtain ⟨csq, feq, hcq, hrq, hsq⟩ := hu0.at hlt
      have hrdq := hrq
      obtain ⟨yq, hyq⟩ : ∃ y, y = xs[k] := ⟨_, rfl⟩
      rw [← hyq] at hrq
      have HY := Lib.hid hyq
      obtain ⟨⟨q00, q01⟩, q1, q2, q3, q4, q5, q6, q7⟩ := yq
      obtain ⟨vq5, fq5, vq6, fq6, vq7, fq7, hcsq, -, -, -, -, -, -, -, hq5, hq6, hq7⟩ := rdEntry_inv (cs := csq.toArray) q00 q01 q1 q2 q3 q4 q5 q6 q7 (by simpa using hrq)
      obtain rfl : csq = [.int .i64 q00, .string q01, .int .i64 q1, .int .i64 q2, .int .i64 q3, .string q4, vq5, vq6, vq7] := by have := congrArg Array.toList hcsq; simpa using this
      obtain ⟨aq5, cq5, rfl, -, -, -⟩ := hq5.open
      obtain ⟨aq6, cq6, rfl, -, -, -⟩ := hq6.open
      obtain ⟨aq7, cq7, rfl, -, -, -⟩ := hq7.open
      have qz0 : w.cell? ⟨b, off + k * 9, none⟩ = some (.int .i64 q00) := by simpa [Rd.n] using hcq 0 _ rfl
      have qz1 : w.cell? ⟨b, off + k * 9 + 1, none⟩ = some (.string q01) := hcq 1 _ rfl
      have qz2 : w.cell? ⟨b, off + k * 9 + 2, none⟩ = some (.int .i64 q1) := hcq 2 _ rfl
      have qz3 : w.cell? ⟨b, off + k * 9 + 3, none⟩ = some (.int .i64 q2) := hcq 3 _ rfl
      have qz4 : w.cell? ⟨b, off + k * 9 + 4, none⟩ = some (.int .i64 q3) := hcq 4 _ rfl
      have qz5 : w.cell? ⟨b, off + k * 9 + 5, none⟩ = some (.string q4) := hcq 5 _ rfl
      have qz6 : w.cell? ⟨b, off + k * 9 + 6, none⟩ = some (.slice aq5 q5.length cq5) := hcq 6 _ rfl
      have qz7 : w.cell? ⟨b, off + k * 9 + 7, none⟩ = some (.slice aq6 q6.length cq6) := hcq 7 _ rfl
      have qz8 : w.cell? ⟨b, off + k * 9 + 8, none⟩ = some (.slice aq7 q7.length cq7) := hcq 8 _ rfl
      have HR := Lib.hid hrdq
      have HW := Lib.hid (wtEntryS_at HL.out hlt)
      clear op3 hcq hrq hcsq hq5 hq6 hq7 hyq hsq hrdq
      have hcase : (q00 = p0 ∧ q01 = p1) ∨ (q00 ≠ p0) ∨ (q00 = p0 ∧ q01.toList ≠ p1.toList) :=
        (Classical.em (q00 = p0)).elim (fun t0 => (Classical.em (q01 = p1)).elim (fun t1 => .inl ⟨t0, t1⟩) (fun t1 => .inr (.inr ⟨t0, fun e => t1 (str_inj e)⟩))) (fun t0 => .inr (.inl t0))
      rcases hcase with ⟨rfl, rfl⟩ | e | ⟨rfl, e⟩
      · have hl : lookE xs (q00, q01) = some xs[k] := find_at hlt (by rw [← HY.out]; simp) ht.out
        have HLL := Lib.hid hl
        clear hl
        go_wp2_with fail
        refine wp_region_grown (by kernel_rfl) (by kernel_rfl) ?_
        repeat (go_big_quiet_step (fail))
        refine wpQuiet_nil ?_
        intro _ hw'
        obtain ⟨nx, hw''⟩ := hw'
        subst hw''
        go_wp2_with fail
        refine (l36Entry_any _ _ xs[k] _ (Rd.gr HR.out (by repeat (first | exact Gr.refl _ | apply Gr.ext | apply Gr.alloc | apply Gr.drew))) HW.out).mono ?_
        rintro e w' ⟨es, fq, rfl, hr, hf, x1, rfl⟩
        obtain ⟨a, b2, c, d, e2, f, g1, l1, m1, g2, l2, m2, g3, l3, m3, rfl⟩ := rdEntry_shape hr
        have HR2 := Lib.hid hr
        clear hr
        go_wp2_with fail
        exact bodyPost_ret (v := .tuple #[.agg #[.int .i64 a, .string b2, .int .i64 c, .int .i64 d, .int .i64 e2, .string f, .slice g1 l1 m1, .slice g2 l2 m2, .slice g3 l3 m3], .bool true])
          (by simp [results, Tryz.results62, go_sem]) rfl ⟨_, fq, by rw [HLL.out]; rfl, by rw [HLL.out]; exact Rd.moved HR2.out hf (by repeat (first | exact Gr.refl _ | apply Gr.ext | apply Gr.alloc | apply Gr.drew)) (by simp), hf.of_le (by simp <;> omega), (by repeat (first | exact Gr.refl _ | apply Gr.ext | apply Gr.alloc | apply Gr.drew))⟩
      all_goals
      · have E := Lib.hid e
        go_wp2_with fail
        refine wp_region_grown (by kernel_rfl) (by kernel_rfl) ?_
        repeat (go_big_quiet_step (fail))
        refine wpQuiet_nil ?_
        intro _ hw'
        obtain ⟨nx, hw''⟩ := hw'
        subst hw''
        go_wp2_with fail
        refine ⟨⟨k + 1, by omega, Lib.hid fun j hj hjk => ?_, (by repeat (first | exact Gr.refl _ | apply Gr.ext | apply Gr.alloc | apply Gr.drew)), by go_num⟩, by simp [intOf]; omega⟩
        by_cases hjk2 : j < k
        · exact ht.out j hj hjk2
        · obtain rfl : j = k := by omega
          rw [← HY.out]
          refine decide_eq_false fun h => E.out ?_
          simp only [Prod.mk.injEq, true_and] at h
          simp [h]
    · have hn : lookE xs (p0, p1) = none := find_none fun j hj => ht.out j hj (by omega)
      have HLL := Lib.hid hn
      clear hn
      go_wp2_with fail
      exact bodyPost_ret (v := .tuple #[.agg #[.int .i64 0, .string ⟨#[]⟩, .int .i64 0, .int .i64 0, .int .i64 0, .string ⟨#[]⟩, .slice none 0 0, .slice none 0 0, .slice none 0 0], .bool false])
        (by simp [results, Tryz.results62, go_sem]) rfl ⟨_, _, by rw [HLL.out]; rfl, by rw [HLL.out]; exact zeroE_rd _, Fresh.nil _, (by repeat (first | exact Gr.refl _ | apply Gr.ext | apply Gr.alloc | apply Gr.drew))⟩

end Go.Proofs.YtbfmeiooeaaibaaGreat

namespace Go.Proofs.YtbfmeiooeaaibaaGreat
open Go.RowKit

/-- What SameSource answers. -/
def sameSrc (x y : GEntry) : Bool := decide (x.1 = y.1 ∧ x.2.2.1 = y.2.2.1 ∧ x.2.2.2.1 = y.2.2.2.1 ∧ x.2.2.2.2.1 = y.2.2.2.2.1 ∧ x.2.2.2.2.2.1 = y.2.2.2.2.2.1 ∧ x.2.2.2.2.2.2.1 = y.2.2.2.2.2.2.1)


set_option maxRecDepth 10000 in
set_option maxHeartbeats 4000000 in
theorem specSame_any (fp fq : List Nat) (cs ds : Array Value) (x y : GEntry) (w : World) (hx : Rd.rd fp w cs.toList x) (hy : Rd.rd fq w ds.toList y) :
    Calls Tryz.prog 63 #[.agg cs, .agg ds] w fun e w' => e = .returned (.bool (sameSrc x y)) ∧ Gr w w' := by
  obtain ⟨⟨q00, q01⟩, q1, q2, q3, q4, q5, q6, q7⟩ := x
  obtain ⟨⟨p00, p01⟩, p1, p2, p3, p4, p5, p6, p7⟩ := y
  obtain ⟨vq5, fq5, vq6, fq6, vq7, fq7, rfl, -, -, -, -, -, -, -, hq5, hq6, hq7⟩ := rdEntry_inv q00 q01 q1 q2 q3 q4 q5 q6 q7 hx
  obtain ⟨vp5, fp5, vp6, fp6, vp7, fp7, rfl, -, -, -, -, -, -, -, hp5, hp6, hp7⟩ := rdEntry_inv p00 p01 p1 p2 p3 p4 p5 p6 p7 hy
  clear hx hy
  go_enter Tryz.func63, Tryz.ntmps63
  go_wp2_with fail
  · have t0 : q00 = p00 := by assumption
    have t1 : q01.toList = p01.toList := by assumption
    have t2 : q2 = p2 := by assumption
    have t3 : q3 = p3 := by assumption
    have t4 : q4.toList = p4.toList := by assumption
    have T1 := Lib.hid (str_inj t1)
    have T4 := Lib.hid (str_inj t4)
    have T0 := Lib.hid (And.intro t0 (And.intro t2 t3))
    refine (l1Ints_any fq5 fp5 _ _ q5 p5 _ (hq5.gr (by repeat (first | exact Gr.refl _ | apply Gr.ext | apply Gr.alloc | apply Gr.drew))) (hp5.gr (by repeat (first | exact Gr.refl _ | apply Gr.ext | apply Gr.alloc | apply Gr.drew)))).mono ?_
    rintro e w5 ⟨rfl, x5, rfl⟩
    by_cases e5 : q5 = p5
    · rw [decide_eq_true e5]
      have E5 := Lib.hid e5
      clear e5
      go_wp2_with fail
      refine (l1Ints_any fq6 fp6 _ _ q6 p6 _ (hq6.gr (by repeat (first | exact Gr.refl _ | apply Gr.ext | apply Gr.alloc | apply Gr.drew))) (hp6.gr (by repeat (first | exact Gr.refl _ | apply Gr.ext | apply Gr.alloc | apply Gr.drew)))).mono ?_
      rintro e w6 ⟨rfl, x6, rfl⟩
      by_cases e6 : q6 = p6
      · rw [decide_eq_true e6]
        have E6 := Lib.hid e6
        clear e6
        go_wp2_with fail
        go_ret
        refine ⟨ret_bool ?_, (by repeat (first | exact Gr.refl _ | apply Gr.ext | apply Gr.alloc | apply Gr.drew))⟩
        unfold sameSrc
        symm
        rw [decide_eq_true_eq]
        obtain ⟨u0, u2, u3⟩ := T0.out
        exact ⟨Prod.ext_iff.2 ⟨u0, T1.out⟩, u2, u3, T4.out, E5.out, E6.out⟩
      · rw [decide_eq_false e6]
        have E6 := Lib.hid e6
        clear e6
        go_wp2_with fail
        go_ret
        refine ⟨ret_bool ?_, (by repeat (first | exact Gr.refl _ | apply Gr.ext | apply Gr.alloc | apply Gr.drew))⟩
        unfold sameSrc
        symm
        rw [decide_eq_false_iff_not]
        rintro ⟨-, -, -, -, -, e6⟩
        exact E6.out e6
    · rw [decide_eq_false e5]
      have E5 := Lib.hid e5
      clear e5
      go_wp2_with fail
      go_ret
      refine ⟨ret_bool ?_, (by repeat (first | exact Gr.refl _ | apply Gr.ext | apply Gr.alloc | apply Gr.drew))⟩
      unfold sameSrc
      symm
      rw [decide_eq_false_iff_not]
      rintro ⟨-, -, -, -, e5, -⟩
      exact E5.out e5
  all_goals
    go_ret
    refine ⟨ret_bool ?_, (by repeat (first | exact Gr.refl _ | apply Gr.ext | apply Gr.alloc | apply Gr.drew))⟩
    unfold sameSrc
    symm
    rw [decide_eq_false_iff_not]
    rintro ⟨e1, e2, e3, e4, -, -⟩
    have ea := congrArg Prod.fst e1
    have eb := congrArg ByteArray.toList (congrArg Prod.snd e1)
    have ed := congrArg ByteArray.toList e4
    first
      | exact absurd ea (by assumption)
      | exact absurd eb (by assumption)
      | exact absurd e2 (by assumption)
      | exact absurd e3 (by assumption)
      | exact absurd ed (by assumption)

set_option maxRecDepth 10000 in
set_option maxHeartbeats 4000000 in
theorem implSame_any (fp fq : List Nat) (cs ds : Array Value) (x y : GEntry) (w : World) (hx : Rd.rd fp w cs.toList x) (hy : Rd.rd fq w ds.toList y) :
    Calls Tryz.prog 69 #[.agg cs, .agg ds] w fun e w' => e = .returned (.bool (sameSrc x y)) ∧ Gr w w' := by
  obtain ⟨⟨q00, q01⟩, q1, q2, q3, q4, q5, q6, q7⟩ := x
  obtain ⟨⟨p00, p01⟩, p1, p2, p3, p4, p5, p6, p7⟩ := y
  obtain ⟨vq5, fq5, vq6, fq6, vq7, fq7, rfl, -, -, -, -, -, -, -, hq5, hq6, hq7⟩ := rdEntry_inv q00 q01 q1 q2 q3 q4 q5 q6 q7 hx
  obtain ⟨vp5, fp5, vp6, fp6, vp7, fp7, rfl, -, -, -, -, -, -, -, hp5, hp6, hp7⟩ := rdEntry_inv p00 p01 p1 p2 p3 p4 p5 p6 p7 hy
  clear hx hy
  go_enter Tryz.func69, Tryz.ntmps69
  go_wp2_with fail
  · have t0 : q00 = p00 := by assumption
    have t1 : q01.toList = p01.toList := by assumption
    have t2 : q2 = p2 := by assumption
    have t3 : q3 = p3 := by assumption
    have t4 : q4.toList = p4.toList := by assumption
    have T1 := Lib.hid (str_inj t1)
    have T4 := Lib.hid (str_inj t4)
    have T0 := Lib.hid (And.intro t0 (And.intro t2 t3))
    refine (slicesEqualI_any fq5 fp5 _ _ q5 p5 _ (hq5.gr (by repeat (first | exact Gr.refl _ | apply Gr.ext | apply Gr.alloc | apply Gr.drew))) (hp5.gr (by repeat (first | exact Gr.refl _ | apply Gr.ext | apply Gr.alloc | apply Gr.drew)))).mono ?_
    rintro e w5 ⟨rfl, x5, rfl⟩
    by_cases e5 : q5 = p5
    · rw [decide_eq_true e5]
      have E5 := Lib.hid e5
      clear e5
      go_wp2_with fail
      refine (slicesEqualI_any fq6 fp6 _ _ q6 p6 _ (hq6.gr (by repeat (first | exact Gr.refl _ | apply Gr.ext | apply Gr.alloc | apply Gr.drew))) (hp6.gr (by repeat (first | exact Gr.refl _ | apply Gr.ext | apply Gr.alloc | apply Gr.drew)))).mono ?_
      rintro e w6 ⟨rfl, x6, rfl⟩
      by_cases e6 : q6 = p6
      · rw [decide_eq_true e6]
        have E6 := Lib.hid e6
        clear e6
        go_wp2_with fail
        go_ret
        refine ⟨ret_bool ?_, (by repeat (first | exact Gr.refl _ | apply Gr.ext | apply Gr.alloc | apply Gr.drew))⟩
        unfold sameSrc
        symm
        rw [decide_eq_true_eq]
        obtain ⟨u0, u2, u3⟩ := T0.out
        exact ⟨Prod.ext_iff.2 ⟨u0, T1.out⟩, u2, u3, T4.out, E5.out, E6.out⟩
      · rw [decide_eq_false e6]
        have E6 := Lib.hid e6
        clear e6
        go_wp2_with fail
        go_ret
        refine ⟨ret_bool ?_, (by repeat (first | exact Gr.refl _ | apply Gr.ext | apply Gr.alloc | apply Gr.drew))⟩
        unfold sameSrc
        symm
        rw [decide_eq_false_iff_not]
        rintro ⟨-, -, -, -, -, e6⟩
        exact E6.out e6
    · rw [decide_eq_false e5]
      have E5 := Lib.hid e5
      clear e5
      go_wp2_with fail
      go_ret
      refine ⟨ret_bool ?_, (by repeat (first | exact Gr.refl _ | apply Gr.ext | apply Gr.alloc | apply Gr.drew))⟩
      unfold sameSrc
      symm
      rw [decide_eq_false_iff_not]
      rintro ⟨-, -, -, -, e5, -⟩
      exact E5.out e5
  all_goals
    go_ret
    refine ⟨ret_bool ?_, (by repeat (first | exact Gr.refl _ | apply Gr.ext | apply Gr.alloc | apply Gr.drew))⟩
    unfold sameSrc
    symm
    rw [decide_eq_false_iff_not]
    rintro ⟨e1, e2, e3, e4, -, -⟩
    have ea := congrArg Prod.fst e1
    have eb := congrArg ByteArray.toList (congrArg Prod.snd e1)
    have ed := congrArg ByteArray.toList e4
    first
      | exact absurd ea (by assumption)
      | exact absurd eb (by assumption)
      | exact absurd e2 (by assumption)
      | exact absurd e3 (by assumption)
      | exact absurd ed (by assumption)
end Go.Proofs.YtbfmeiooeaaibaaGreat

namespace Go.Proofs.YtbfmeiooeaaibaaGreat
open Go.RowKit
variable {d : Nat}

/-- A function value whose body is a function of the text answers a test on elements. -/
structure TestReading (w : World) (fid : Nat) (cap : Array Value) (p : GReading → Bool) (xs : List GReading) : Prop where
  fn : ∀ args W, (callFunc fid args).run Tryz.prog W = .ok (.enter fid args) W
  calls : ∀ y ∈ xs, ∀ (x : Ext) (fp : List Nat) (cs : Array Value), Rd.rd fp (w.ext x) cs.toList y → Calls Tryz.prog fid (#[.agg cs] ++ cap) (w.ext x) fun e w' => e = .returned (.bool (p y)) ∧ Gr (w.ext x) w'

set_option maxHeartbeats 1000000 in
theorem indexFuncReading_any (fp : List Nat) (u : Value) (xs : List GReading) (fid : Nat) (cap : Array Value) (p : GReading → Bool) (w : World) (hu : SlR fp w u xs) (hf : TestReading w fid cap p xs) :
    Calls Tryz.prog 110 #[u, .func (.func fid) #[] cap] w fun e w' => e = .returned (.int .i64 (idxOf p xs)) ∧ Gr w w' := by
  obtain ⟨a, ca, rfl, h1, h2, h3⟩ := hu.open
  obtain ⟨hfn, hcalls⟩ := hf
  have HC := Lib.hid hcalls
  clear hcalls
  go_enter Tryz.func110, Tryz.ntmps110
  go_wp2
  go_loopw [8, 5] (fun s8 s5 wr => ∃ k : Nat, k ≤ xs.length ∧ (∀ j (h : j < xs.length), j < k → p xs[j] = false) ∧ Gr w wr ∧ s8 = .int .i64 k) (fun s8 s5 _ => xs.length - (intOf s8).toNat)
  case atStart => exact ⟨0, by omega, by omega, Gr.refl w, rfl⟩
  case round =>
    obtain ⟨k, hk, ht, ⟨x, rfl⟩, rfl⟩ := hrel
    have hT := Lib.hid ht
    clear ht
    by_cases hlt : k < xs.length
    · obtain ⟨b, off, rfl, hb⟩ := h3 k hlt
      obtain ⟨csq, feq, hcq, hrq, -⟩ := hu.at hlt
      have hrdq := hrq
      generalize xs[k] = yq at hrq
      obtain ⟨⟨q00, q01⟩, q1, q2⟩ := yq
      obtain ⟨hcsq, -, -, -, -, -⟩ := rdReading_inv (cs := csq.toArray) q00 q01 q1 q2 (by simpa using hrq)
      obtain rfl : csq = [.int .i64 q00, .string q01, .int .i64 q1, .string q2] := by have := congrArg Array.toList hcsq; simpa using this
      have z0 : w.cell? ⟨b, off + k * 4, none⟩ = some (.int .i64 q00) := by simpa [Rd.n] using hcq 0 _ rfl
      have z1 : w.cell? ⟨b, off + k * 4 + 1, none⟩ = some (.string q01) := hcq 1 _ rfl
      have z2 : w.cell? ⟨b, off + k * 4 + 2, none⟩ = some (.int .i64 q1) := hcq 2 _ rfl
      have z3 : w.cell? ⟨b, off + k * 4 + 3, none⟩ = some (.string q2) := hcq 3 _ rfl
      clear h3 hcsq hcq hrq
      go_wp2_with fail
      refine (HC.out _ (List.getElem_mem hlt) _ _ _ (Rd.gr hrdq (by repeat (first | exact Gr.refl _ | apply Gr.ext | apply Gr.alloc | apply Gr.drew)))).mono ?_
      rintro e w2 ⟨rfl, x2, rfl⟩
      go_wp2
      · have hx : p xs[k] = true := by assumption
        go_ret
        exact ⟨ret_int (idxOf_at hlt hx hT.out).symm, (by repeat (first | exact Gr.refl _ | apply Gr.ext | apply Gr.alloc | apply Gr.drew))⟩
      · have hx : p xs[k] = false := by assumption
        refine ⟨⟨k + 1, by omega, fun j hj hjk => ?_, (by repeat (first | exact Gr.refl _ | apply Gr.ext | apply Gr.alloc | apply Gr.drew)), by go_num⟩, by simp [intOf]; omega⟩
        by_cases hjk' : j < k
        · exact hT.out j hj hjk'
        · obtain rfl : j = k := by omega
          exact hx
    · go_wp2
      go_ret
      exact ⟨ret_int (idxOf_none fun j hj => hT.out j hj (by omega)).symm, (by repeat (first | exact Gr.refl _ | apply Gr.ext | apply Gr.alloc | apply Gr.drew))⟩

theorem containsFuncReading_any (fp : List Nat) (u : Value) (xs : List GReading) (fid : Nat) (cap : Array Value) (p : GReading → Bool) (w : World) (hu : SlR fp w u xs) (hf : TestReading w fid cap p xs) :
    Calls Tryz.prog 70 #[u, .func (.func fid) #[] cap] w fun e w' => e = .returned (.bool (xs.any p)) ∧ Gr w w' := by
  go_enter Tryz.func70, Tryz.ntmps70
  go_wp2_with (go_at_call 110; refine (indexFuncReading_any fp _ _ _ _ _ _ hu hf).mono ?_; rintro e w1 ⟨rfl, g1⟩)
  go_ret
  refine ⟨ret_bool ?_, by assumption⟩
  rw [Bool.eq_iff_iff, decide_eq_true_iff]
  exact idxOf_nonneg

end Go.Proofs.YtbfmeiooeaaibaaGreat
