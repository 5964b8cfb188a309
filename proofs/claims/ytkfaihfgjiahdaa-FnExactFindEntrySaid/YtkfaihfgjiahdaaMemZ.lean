/- FindEntry of the reference and of the program. No condition. -/
import Derived.Test.YtkfaihfgjiahdaaMemW
import Derived.Test.YtkfaihfgjiahdaaMemX
import Derived.Test.YtkfaihfgjiahdaaMemY
namespace Go.Proofs.Ytkfaihfgjiahdaa
open Go.RowKit

def FoundNew (w : World) (o : Option GEntry) (e : Ending) (w' : World) : Prop :=
  ∃ es fq, e = .returned (.tuple #[.agg es, .bool o.isSome]) ∧ Rd.rd fq w' es.toList (o.getD zeroE) ∧ Fresh w fq ∧ Gr w w'

theorem wtEntryS_at {xs : List GEntry} {x2 : List GInstance} (hl : wtMemo (xs, x2) ≤ 1048576) {k : Nat} (hk : k < xs.length) : wtEntry xs[k] ≤ 1048576 := by
  have h1 : wtEntryS xs + wtInstanceS x2 ≤ 1048576 := hl
  have h2 := wtL_at wtEntry xs hk
  have h3 : wtEntryS xs = wtL wtEntry xs := rfl
  omega

theorem wtLook {xs : List GEntry} {x2 : List GInstance} (hl : wtMemo (xs, x2) ≤ 1048576) (x : GInstance) : wtEntry ((lookE xs x).getD zeroE) ≤ 1048576 := by
  cases h : lookE xs x with
  | none => show wtEntry zeroE ≤ _; decide
  | some y =>
    have hm := List.mem_of_find?_eq_some h
    obtain ⟨k, hk, rfl⟩ := List.mem_iff_getElem.1 hm
    exact wtEntryS_at hl hk

set_option maxRecDepth 10000 in
set_option maxHeartbeats 4000000 in
theorem specFind_any (fp fi : List Nat) (cs ds : Array Value) (m : GMemo) (x : GInstance) (w : World) (hx : Rd.rd fp w cs.toList m) (hi : Rd.rd fi w ds.toList x) (hl : wtMemo m ≤ 1048576) :
    Calls Try.prog 43 #[.agg cs, .agg ds] w (FoundNew w (lookE m.1 x)) := by
  obtain ⟨xs, x2⟩ := m
  obtain ⟨p0, p1⟩ := x
  obtain ⟨v0, f0, v1, f1, rfl, hfp, hu0, hu1⟩ := rdMemo_inv xs x2 hx
  obtain ⟨rfl, -, hp0, hp1⟩ := rdInstance_inv p0 p1 hi
  obtain ⟨a0, c0, rfl, op1, op2, op3⟩ := hu0.open
  obtain ⟨a1, c1, rfl, -, -, -⟩ := hu1.open
  have HL := Lib.hid hl
  clear hx hi hfp hl
  go_enter Try.func43, Try.ntmps43
  go_wp2_with fail
  go_loopw [6] (fun s6 wr => ∃ k : Nat, k ≤ xs.length ∧ Hid (∀ j (h : j < xs.length), j < k → decide (xs[j].1 = (p0, p1)) = false) ∧ Gr (((w.alloc (.cells #[.slice a0 xs.length c0, .slice a1 x2.length c1] 58)).alloc (.cells #[.int .i64 p0, .string p1] 70)).alloc (.cells #[.int .i64 0, .string ByteArray.empty, .int .i64 0, .int .i64 0, .int .i64 0, .string ByteArray.empty, .slice none 0 0, .slice none 0 0, .slice none 0 0] 73)) wr ∧ s6 = .int .i64 k) (fun s6 _ => xs.length - (intOf s6).toNat)
  case atStart => exact ⟨0, by omega, Lib.hid (by omega), Gr.refl _, rfl⟩
  case round =>
    obtain ⟨k, hk, ht, ⟨y, rfl⟩, rfl⟩ := hrel
    by_cases hlt : k < xs.length
    · obtain ⟨b, off, rfl, hb⟩ := op3 k hlt
      obtain ⟨csq, feq, hcq, hrq, hsq⟩ := hu0.at hlt
      have hrdq := hrq
      obtain ⟨yq, hyq⟩ : ∃ y, y = xs[k] := ⟨_, rfl⟩
      rw [← hyq] at hrq
      have HY := Lib.hid hyq
      obtain ⟨⟨q00, q01⟩, q1, q2, q3, q4, q5, q6, q7⟩ := yq
      obtain ⟨vq5, fq5, vq6, fq6, vq7, fq7, hcsq, -, -, -, -, -, -, -, hq5, hq6, hq7⟩ := rdEntry_inv (cs := csq.toArray) q00 q01 q1 q2 q3 q4 q5 q6 q7 (by simpa using hrq)
      obtain rfl : csq = [.int .i64 q00, .string q01, .int .i64 q1, .int .i64 q2, .int .i64 q3, .string q4, vq5, vq6, vq7] := by have := congrArg Array.toList hcsq; simpa using this
      obtain ⟨aq5, cq5, rfl, -, -, -⟩ := hq5.open
      obtain ⟨aq6, cq6, rfl, -, -, -⟩ := hq6.open
      obtain ⟨aq7, cq7, rfl, -, -, -⟩ := hq7.open
      have qz0 : w.cell? ⟨b, off + k * 9, none⟩ = some (.int .i64 q00) := by simpa [Rd.n] using hcq 0 _ rfl
      have qz1 : w.cell? ⟨b, off + k * 9 + 1, none⟩ = some (.string q01) := hcq 1 _ rfl
      have qz2 : w.cell? ⟨b, off + k * 9 + 2, none⟩ = some (.int .i64 q1) := hcq 2 _ rfl
      have qz3 : w.cell? ⟨b, off + k * 9 + 3, none⟩ = some (.int .i64 q2) := hcq 3 _ rfl
      have qz4 : w.cell? ⟨b, off + k * 9 + 4, none⟩ = some (.int .i64 q3) := hcq 4 _ rfl
      have qz5 : w.cell? ⟨b, off + k * 9 + 5, none⟩ = some (.string q4) := hcq 5 _ rfl
      have qz6 : w.cell? ⟨b, off + k * 9 + 6, none⟩ = some (.slice aq5 q5.length cq5) := hcq 6 _ rfl
      have qz7 : w.cell? ⟨b, off + k * 9 + 7, none⟩ = some (.slice aq6 q6.length cq6) := hcq 7 _ rfl
      have qz8 : w.cell? ⟨b, off + k * 9 + 8, none⟩ = some (.slice aq7 q7.length cq7) := hcq 8 _ rfl
      have HR := Lib.hid hrdq
      have HW := Lib.hid (wtEntryS_at HL.out hlt)
      clear op3 hcq hrq hcsq hq5 hq6 hq7 hyq hsq hrdq
      have hcase : (q00 = p0 ∧ q01 = p1) ∨ (q00 ≠ p0) ∨ (q00 = p0 ∧ q01.toList ≠ p1.toList) :=
        (Classical.em (q00 = p0)).elim (fun t0 => (Classical.em (q01 = p1)).elim (fun t1 => .inl ⟨t0, t1⟩) (fun t1 => .inr (.inr ⟨t0, fun e => t1 (str_inj e)⟩))) (fun t0 => .inr (.inl t0))
      rcases hcase with ⟨rfl, rfl⟩ | e | ⟨rfl, e⟩
      · have hl : lookE xs (q00, q01) = some xs[k] := find_at hlt (by rw [← HY.out]; simp) ht.out
        have HLL := Lib.hid hl
        clear hl
        go_wp2_with fail
        refine wp_region_grown (by kernel_rfl) (by kernel_rfl) ?_
        repeat (go_big_quiet_step (fail))
        refine wpQuiet_nil ?_
        intro _ hw'
        obtain ⟨nx, hw''⟩ := hw'
        subst hw''
        go_wp2_with fail
        refine (l36Entry_any _ _ xs[k] _ (Rd.gr HR.out (by repeat (first | exact Gr.refl _ | apply Gr.ext | apply Gr.alloc | apply Gr.drew))) HW.out).mono ?_
        rintro e w' ⟨es, fq, rfl, hr, hf, x1, rfl⟩
        obtain ⟨a, b2, c, d, e2, f, g1, l1, m1, g2, l2, m2, g3, l3, m3, rfl⟩ := rdEntry_shape hr
        have HR2 := Lib.hid hr
        clear hr
        go_wp2_with fail
        exact bodyPost_ret (v := .tuple #[.agg #[.int .i64 a, .string b2, .int .i64 c, .int .i64 d, .int .i64 e2, .string f, .slice g1 l1 m1, .slice g2 l2 m2, .slice g3 l3 m3], .bool true])
          (by simp [results, Try.results43, go_sem]) rfl ⟨_, fq, by rw [HLL.out]; rfl, by rw [HLL.out]; exact Rd.moved HR2.out hf (by repeat (first | exact Gr.refl _ | apply Gr.ext | apply Gr.alloc | apply Gr.drew)) (by simp), hf.of_le (by simp <;> omega), (by repeat (first | exact Gr.refl _ | apply Gr.ext | apply Gr.alloc | apply Gr.drew))⟩
      all_goals
      · have E := Lib.hid e
        go_wp2_with fail
        refine wp_region_grown (by kernel_rfl) (by kernel_rfl) ?_
        repeat (go_big_quiet_step (fail))
        refine wpQuiet_nil ?_
        intro _ hw'
        obtain ⟨nx, hw''⟩ := hw'
        subst hw''
        go_wp2_with fail
        refine ⟨⟨k + 1, by omega, Lib.hid fun j hj hjk => ?_, (by repeat (first | exact Gr.refl _ | apply Gr.ext | apply Gr.alloc | apply Gr.drew)), by go_num⟩, by simp [intOf]; omega⟩
        by_cases hjk2 : j < k
        · exact ht.out j hj hjk2
        · obtain rfl : j = k := by omega
          rw [← HY.out]
          refine decide_eq_false fun h => E.out ?_
          simp only [Prod.mk.injEq, true_and] at h
          simp [h]
    · have hn : lookE xs (p0, p1) = none := find_none fun j hj => ht.out j hj (by omega)
      have HLL := Lib.hid hn
      clear hn
      go_wp2_with fail
      exact bodyPost_ret (v := .tuple #[.agg #[.int .i64 0, .string ⟨#[]⟩, .int .i64 0, .int .i64 0, .int .i64 0, .string ⟨#[]⟩, .slice none 0 0, .slice none 0 0, .slice none 0 0], .bool false])
        (by simp [results, Try.results43, go_sem]) rfl ⟨_, _, by rw [HLL.out]; rfl, by rw [HLL.out]; exact zeroE_rd _, Fresh.nil _, (by repeat (first | exact Gr.refl _ | apply Gr.ext | apply Gr.alloc | apply Gr.drew))⟩

set_option maxRecDepth 10000 in
set_option maxHeartbeats 4000000 in
theorem implFind_any (fp fi : List Nat) (cs ds : Array Value) (m : GMemo) (x : GInstance) (w : World) (hx : Rd.rd fp w cs.toList m) (hi : Rd.rd fi w ds.toList x) (hl : wtMemo m ≤ 1048576) :
    Calls Try.prog 45 #[.agg cs, .agg ds] w (FoundNew w (lookE m.1 x)) := by
  have hrx := hx
  have hri := hi
  obtain ⟨xs, x2⟩ := m
  obtain ⟨p0, p1⟩ := x
  obtain ⟨v0, f0, v1, f1, rfl, hfp, hu0, hu1⟩ := rdMemo_inv xs x2 hx
  obtain ⟨rfl, -, hp0, hp1⟩ := rdInstance_inv p0 p1 hi
  obtain ⟨a0, c0, rfl, op1, op2, op3⟩ := hu0.open
  obtain ⟨a1, c1, rfl, -, -, -⟩ := hu1.open
  have HL := Lib.hid hl
  have HX := Lib.hid hrx
  have HI := Lib.hid hri
  clear hx hi hfp hl hrx hri op3 hu0 hu1 hp0 hp1
  go_enter Try.func45, Try.ntmps45
  go_wp2_with fail
  refine (findEntry_any _ _ _ _ (xs, x2) (p0, p1) _ (Rd.gr HX.out (by repeat (first | exact Gr.refl _ | apply Gr.ext | apply Gr.alloc | apply Gr.drew))) (Rd.gr HI.out (by repeat (first | exact Gr.refl _ | apply Gr.ext | apply Gr.alloc | apply Gr.drew)))).mono ?_
  rintro e w' ⟨es, fq, rfl, hr, -, x1, rfl⟩
  have HR := Lib.hid hr
  obtain ⟨a, b2, c, d, e2, f, g1, l1, m1, g2, l2, m2, g3, l3, m3, rfl⟩ := rdEntry_shape hr
  clear hr
  obtain ⟨bb, hbb⟩ : ∃ bb : Bool, bb = (lookE xs (p0, p1)).isSome := ⟨_, rfl⟩
  rw [← hbb]
  have HB := Lib.hid hbb
  clear hbb
  go_wp2_with fail
  refine (copyEntry_any _ _ ((lookE xs (p0, p1)).getD zeroE) _ (Rd.gr HR.out (by repeat (first | exact Gr.refl _ | apply Gr.ext | apply Gr.alloc | apply Gr.drew))) (wtLook HL.out _)).mono ?_
  rintro e w' ⟨es, fq, rfl, hr, hf, x2, rfl⟩
  obtain ⟨a, b2, c, d, e2, f, g1, l1, m1, g2, l2, m2, g3, l3, m3, rfl⟩ := rdEntry_shape hr
  have HR2 := Lib.hid hr
  clear hr
  go_wp2_with fail
  exact bodyPost_ret (v := .tuple #[.agg #[.int .i64 a, .string b2, .int .i64 c, .int .i64 d, .int .i64 e2, .string f, .slice g1 l1 m1, .slice g2 l2 m2, .slice g3 l3 m3], .bool bb])
    (by simp [results, Try.results45, go_sem]) rfl ⟨_, fq, ret_tup rfl HB.out, Rd.moved HR2.out hf (by repeat (first | exact Gr.refl _ | apply Gr.ext | apply Gr.alloc | apply Gr.drew)) (by simp), hf.of_le (by simp <;> omega), (by repeat (first | exact Gr.refl _ | apply Gr.ext | apply Gr.alloc | apply Gr.drew))⟩
end Go.Proofs.Ytkfaihfgjiahdaa
