/- SameSource of the program and of the reference. No condition. -/
import Derived.Test.YtmdiabjaggadjaaGreatFamEntryA
namespace Go.Proofs.YtmdiabjaggadjaaGreat
open Go.RowKit

/-- What SameSource answers. -/
def sameSrc (x y : GEntry) : Bool := decide (x.1 = y.1 ∧ x.2.2.1 = y.2.2.1 ∧ x.2.2.2.1 = y.2.2.2.1 ∧ x.2.2.2.2.1 = y.2.2.2.2.1 ∧ x.2.2.2.2.2.1 = y.2.2.2.2.2.1 ∧ x.2.2.2.2.2.2.1 = y.2.2.2.2.2.2.1)


set_option maxRecDepth 10000 in
set_option maxHeartbeats 4000000 in
theorem specSame_any (fp fq : List Nat) (cs ds : Array Value) (x y : GEntry) (w : World) (hx : Rd.rd fp w cs.toList x) (hy : Rd.rd fq w ds.toList y) :
    Calls Tryz.prog 59 #[.agg cs, .agg ds] w fun e w' => e = .returned (.bool (sameSrc x y)) ∧ Gr w w' := by
  obtain ⟨⟨q00, q01⟩, q1, q2, q3, q4, q5, q6, q7⟩ := x
  obtain ⟨⟨p00, p01⟩, p1, p2, p3, p4, p5, p6, p7⟩ := y
  obtain ⟨vq5, fq5, vq6, fq6, vq7, fq7, rfl, -, -, -, -, -, -, -, hq5, hq6, hq7⟩ := rdEntry_inv q00 q01 q1 q2 q3 q4 q5 q6 q7 hx
  obtain ⟨vp5, fp5, vp6, fp6, vp7, fp7, rfl, -, -, -, -, -, -, -, hp5, hp6, hp7⟩ := rdEntry_inv p00 p01 p1 p2 p3 p4 p5 p6 p7 hy
  clear hx hy
  go_enter Tryz.func59, Tryz.ntmps59
  go_wp2_with fail
  · have t0 : q00 = p00 := by assumption
    have t1 : q01.toList = p01.toList := by assumption
    have t2 : q2 = p2 := by assumption
    have t3 : q3 = p3 := by assumption
    have t4 : q4.toList = p4.toList := by assumption
    have T1 := Lib.hid (str_inj t1)
    have T4 := Lib.hid (str_inj t4)
    have T0 := Lib.hid (And.intro t0 (And.intro t2 t3))
    refine (l1Ints_any fq5 fp5 _ _ q5 p5 _ (hq5.gr (by repeat (first | exact Gr.refl _ | apply Gr.ext | apply Gr.alloc | apply Gr.drew))) (hp5.gr (by repeat (first | exact Gr.refl _ | apply Gr.ext | apply Gr.alloc | apply Gr.drew)))).mono ?_
    rintro e w5 ⟨rfl, x5, rfl⟩
    by_cases e5 : q5 = p5
    · rw [decide_eq_true e5]
      have E5 := Lib.hid e5
      clear e5
      go_wp2_with fail
      refine (l1Ints_any fq6 fp6 _ _ q6 p6 _ (hq6.gr (by repeat (first | exact Gr.refl _ | apply Gr.ext | apply Gr.alloc | apply Gr.drew))) (hp6.gr (by repeat (first | exact Gr.refl _ | apply Gr.ext | apply Gr.alloc | apply Gr.drew)))).mono ?_
      rintro e w6 ⟨rfl, x6, rfl⟩
      by_cases e6 : q6 = p6
      · rw [decide_eq_true e6]
        have E6 := Lib.hid e6
        clear e6
        go_wp2_with fail
        go_ret
        refine ⟨ret_bool ?_, (by repeat (first | exact Gr.refl _ | apply Gr.ext | apply Gr.alloc | apply Gr.drew))⟩
        unfold sameSrc
        symm
        rw [decide_eq_true_eq]
        obtain ⟨u0, u2, u3⟩ := T0.out
        exact ⟨Prod.ext_iff.2 ⟨u0, T1.out⟩, u2, u3, T4.out, E5.out, E6.out⟩
      · rw [decide_eq_false e6]
        have E6 := Lib.hid e6
        clear e6
        go_wp2_with fail
        go_ret
        refine ⟨ret_bool ?_, (by repeat (first | exact Gr.refl _ | apply Gr.ext | apply Gr.alloc | apply Gr.drew))⟩
        unfold sameSrc
        symm
        rw [decide_eq_false_iff_not]
        rintro ⟨-, -, -, -, -, e6⟩
        exact E6.out e6
    · rw [decide_eq_false e5]
      have E5 := Lib.hid e5
      clear e5
      go_wp2_with fail
      go_ret
      refine ⟨ret_bool ?_, (by repeat (first | exact Gr.refl _ | apply Gr.ext | apply Gr.alloc | apply Gr.drew))⟩
      unfold sameSrc
      symm
      rw [decide_eq_false_iff_not]
      rintro ⟨-, -, -, -, e5, -⟩
      exact E5.out e5
  all_goals
    go_ret
    refine ⟨ret_bool ?_, (by repeat (first | exact Gr.refl _ | apply Gr.ext | apply Gr.alloc | apply Gr.drew))⟩
    unfold sameSrc
    symm
    rw [decide_eq_false_iff_not]
    rintro ⟨e1, e2, e3, e4, -, -⟩
    have ea := congrArg Prod.fst e1
    have eb := congrArg ByteArray.toList (congrArg Prod.snd e1)
    have ed := congrArg ByteArray.toList e4
    first
      | exact absurd ea (by assumption)
      | exact absurd eb (by assumption)
      | exact absurd e2 (by assumption)
      | exact absurd e3 (by assumption)
      | exact absurd ed (by assumption)

set_option maxRecDepth 10000 in
set_option maxHeartbeats 4000000 in
theorem implSame_any (fp fq : List Nat) (cs ds : Array Value) (x y : GEntry) (w : World) (hx : Rd.rd fp w cs.toList x) (hy : Rd.rd fq w ds.toList y) :
    Calls Tryz.prog 77 #[.agg cs, .agg ds] w fun e w' => e = .returned (.bool (sameSrc x y)) ∧ Gr w w' := by
  obtain ⟨⟨q00, q01⟩, q1, q2, q3, q4, q5, q6, q7⟩ := x
  obtain ⟨⟨p00, p01⟩, p1, p2, p3, p4, p5, p6, p7⟩ := y
  obtain ⟨vq5, fq5, vq6, fq6, vq7, fq7, rfl, -, -, -, -, -, -, -, hq5, hq6, hq7⟩ := rdEntry_inv q00 q01 q1 q2 q3 q4 q5 q6 q7 hx
  obtain ⟨vp5, fp5, vp6, fp6, vp7, fp7, rfl, -, -, -, -, -, -, -, hp5, hp6, hp7⟩ := rdEntry_inv p00 p01 p1 p2 p3 p4 p5 p6 p7 hy
  clear hx hy
  go_enter Tryz.func77, Tryz.ntmps77
  go_wp2_with fail
  · have t0 : q00 = p00 := by assumption
    have t1 : q01.toList = p01.toList := by assumption
    have t2 : q2 = p2 := by assumption
    have t3 : q3 = p3 := by assumption
    have t4 : q4.toList = p4.toList := by assumption
    have T1 := Lib.hid (str_inj t1)
    have T4 := Lib.hid (str_inj t4)
    have T0 := Lib.hid (And.intro t0 (And.intro t2 t3))
    refine (slicesEqualI_any fq5 fp5 _ _ q5 p5 _ (hq5.gr (by repeat (first | exact Gr.refl _ | apply Gr.ext | apply Gr.alloc | apply Gr.drew))) (hp5.gr (by repeat (first | exact Gr.refl _ | apply Gr.ext | apply Gr.alloc | apply Gr.drew)))).mono ?_
    rintro e w5 ⟨rfl, x5, rfl⟩
    by_cases e5 : q5 = p5
    · rw [decide_eq_true e5]
      have E5 := Lib.hid e5
      clear e5
      go_wp2_with fail
      refine (slicesEqualI_any fq6 fp6 _ _ q6 p6 _ (hq6.gr (by repeat (first | exact Gr.refl _ | apply Gr.ext | apply Gr.alloc | apply Gr.drew))) (hp6.gr (by repeat (first | exact Gr.refl _ | apply Gr.ext | apply Gr.alloc | apply Gr.drew)))).mono ?_
      rintro e w6 ⟨rfl, x6, rfl⟩
      by_cases e6 : q6 = p6
      · rw [decide_eq_true e6]
        have E6 := Lib.hid e6
        clear e6
        go_wp2_with fail
        go_ret
        refine ⟨ret_bool ?_, (by repeat (first | exact Gr.refl _ | apply Gr.ext | apply Gr.alloc | apply Gr.drew))⟩
        unfold sameSrc
        symm
        rw [decide_eq_true_eq]
        obtain ⟨u0, u2, u3⟩ := T0.out
        exact ⟨Prod.ext_iff.2 ⟨u0, T1.out⟩, u2, u3, T4.out, E5.out, E6.out⟩
      · rw [decide_eq_false e6]
        have E6 := Lib.hid e6
        clear e6
        go_wp2_with fail
        go_ret
        refine ⟨ret_bool ?_, (by repeat (first | exact Gr.refl _ | apply Gr.ext | apply Gr.alloc | apply Gr.drew))⟩
        unfold sameSrc
        symm
        rw [decide_eq_false_iff_not]
        rintro ⟨-, -, -, -, -, e6⟩
        exact E6.out e6
    · rw [decide_eq_false e5]
      have E5 := Lib.hid e5
      clear e5
      go_wp2_with fail
      go_ret
      refine ⟨ret_bool ?_, (by repeat (first | exact Gr.refl _ | apply Gr.ext | apply Gr.alloc | apply Gr.drew))⟩
      unfold sameSrc
      symm
      rw [decide_eq_false_iff_not]
      rintro ⟨-, -, -, -, e5, -⟩
      exact E5.out e5
  all_goals
    go_ret
    refine ⟨ret_bool ?_, (by repeat (first | exact Gr.refl _ | apply Gr.ext | apply Gr.alloc | apply Gr.drew))⟩
    unfold sameSrc
    symm
    rw [decide_eq_false_iff_not]
    rintro ⟨e1, e2, e3, e4, -, -⟩
    have ea := congrArg Prod.fst e1
    have eb := congrArg ByteArray.toList (congrArg Prod.snd e1)
    have ed := congrArg ByteArray.toList e4
    first
      | exact absurd ea (by assumption)
      | exact absurd eb (by assumption)
      | exact absurd e2 (by assumption)
      | exact absurd e3 (by assumption)
      | exact absurd ed (by assumption)
end Go.Proofs.YtmdiabjaggadjaaGreat
