/- slices.EqualFunc at struct elements. Made by mk_equal.py. No condition. -/
import Derived.Test.YtmdiabjaggadjaaGreatEqFunc
import Derived.Deep.DeepCutAuto
import Derived.Deep.CutRange
namespace Go.Proofs.YtmdiabjaggadjaaGreat
open Go.RowKit
variable {d : Nat}

/-- A box of one's own that holds these cells. -/
def HeldBox (w wr : World) (cells : List Value) (s : Value) : Prop := ∃ n, s = .pointer (some ⟨n, 0, none⟩) ∧ Gr w wr ∧ ∀ i v, cells[i]? = some v → wr.cell? ⟨n, i, none⟩ = some v

set_option maxRecDepth 1000000 in
set_option maxHeartbeats 4000000 in
theorem equalFuncContribution_any (fp fq : List Nat) (u v : Value) (xs ys : List (GContribution d)) (fid : Nat) (w : World) (hu : SlR fp w u xs) (hv : SlR fq w v ys) (hf : TestEq w fid xs ys) :
    Calls Tryz.prog 70 #[u, v, .func (.func fid) #[] #[]] w fun e w' => e = .returned (.bool (decide (xs = ys))) ∧ Gr w w' := by
  obtain ⟨hfn, hcalls⟩ := hf
  have HC := Lib.hid hcalls
  clear hcalls
  obtain ⟨a, ca, rfl, h1, h2, h3⟩ := hu.open
  obtain ⟨c, cc, rfl, g1, g2, g3⟩ := hv.open
  by_cases hl : xs.length = ys.length
  · have hl' := Lib.hid hl
    have hne : ((xs.length : Int) != (ys.length : Int)) = false := by simp [hl]
    clear hl
    go_enter Tryz.func70, Tryz.ntmps70
    go_wp2
    go_loopw [17, 7] (fun s17 s7 wr => ∃ k : Nat, k ≤ xs.length ∧ xs.take k = ys.take k ∧ Gr w wr ∧ s17 = .int .i64 k) (fun s17 s7 _ => xs.length - (intOf s17).toNat)
    case atStart => exact ⟨0, by omega, rfl, Gr.refl w, rfl⟩
    case round =>
      obtain ⟨k, hk, ht, ⟨x, rfl⟩, rfl⟩ := hrel
      by_cases hlt : k < xs.length
      · have hlt2 : k < ys.length := by have := hl'.out; omega
        obtain ⟨b, off, rfl, hb⟩ := h3 k hlt
        obtain ⟨b', off', rfl, hb'⟩ := g3 k hlt2
        obtain ⟨csq, feq, hcq, hrq, -⟩ := hu.at hlt
        have hrdq := hrq
        generalize xs[k] = yq at hrq
        obtain ⟨q0, q1, ⟨q20, q21, q22, q23, q24, q25, q26⟩, ⟨q30, q31, q32, q33, q34, q35, q36⟩⟩ := yq
        obtain ⟨vq26, fq26, vq36, fq36, hcsq, -, hq0, hq1, hq20, hq21, hq22, hq23, hq24, hq25, hq26, hq30, hq31, hq32, hq33, hq34, hq35, hq36⟩ := rdContribution_inv (cs := csq.toArray) q0 q1 q20 q21 q22 q23 q24 q25 q26 q30 q31 q32 q33 q34 q35 q36 (by simpa using hrq)
        obtain rfl : csq = [.string q0, .string q1, .int .i64 q20, .int .i64 q21, .int .i64 q22, .int .i64 q23, .string q24, .string q25, vq26, .int .i64 q30, .int .i64 q31, .int .i64 q32, .int .i64 q33, .string q34, .string q35, vq36] := by have := congrArg Array.toList hcsq; simpa using this
        obtain ⟨csp, fep, hcp, hrp, -⟩ := hv.at hlt2
        have hrdp := hrp
        generalize ys[k] = yp at hrp
        obtain ⟨p0, p1, ⟨p20, p21, p22, p23, p24, p25, p26⟩, ⟨p30, p31, p32, p33, p34, p35, p36⟩⟩ := yp
        obtain ⟨vp26, fp26, vp36, fp36, hcsp, -, hp0, hp1, hp20, hp21, hp22, hp23, hp24, hp25, hp26, hp30, hp31, hp32, hp33, hp34, hp35, hp36⟩ := rdContribution_inv (cs := csp.toArray) p0 p1 p20 p21 p22 p23 p24 p25 p26 p30 p31 p32 p33 p34 p35 p36 (by simpa using hrp)
        obtain rfl : csp = [.string p0, .string p1, .int .i64 p20, .int .i64 p21, .int .i64 p22, .int .i64 p23, .string p24, .string p25, vp26, .int .i64 p30, .int .i64 p31, .int .i64 p32, .int .i64 p33, .string p34, .string p35, vp36] := by have := congrArg Array.toList hcsp; simpa using this
        obtain ⟨aq26, cq26, rfl, -, -, -⟩ := hq26.open
        obtain ⟨aq36, cq36, rfl, -, -, -⟩ := hq36.open
        obtain ⟨ap26, cp26, rfl, -, -, -⟩ := hp26.open
        obtain ⟨ap36, cp36, rfl, -, -, -⟩ := hp36.open
        have z0 : w.cell? ⟨b, off + k * 16, none⟩ = some (.string q0) := by simpa [Rd.n] using hcq 0 _ rfl
        have z1 : w.cell? ⟨b, off + k * 16 + 1, none⟩ = some (.string q1) := hcq 1 _ rfl
        have z2 : w.cell? ⟨b, off + k * 16 + 2, none⟩ = some (.int .i64 q20) := hcq 2 _ rfl
        have z3 : w.cell? ⟨b, off + k * 16 + 3, none⟩ = some (.int .i64 q21) := hcq 3 _ rfl
        have z4 : w.cell? ⟨b, off + k * 16 + 4, none⟩ = some (.int .i64 q22) := hcq 4 _ rfl
        have z5 : w.cell? ⟨b, off + k * 16 + 5, none⟩ = some (.int .i64 q23) := hcq 5 _ rfl
        have z6 : w.cell? ⟨b, off + k * 16 + 6, none⟩ = some (.string q24) := hcq 6 _ rfl
        have z7 : w.cell? ⟨b, off + k * 16 + 7, none⟩ = some (.string q25) := hcq 7 _ rfl
        have z8 : w.cell? ⟨b, off + k * 16 + 8, none⟩ = some (.slice aq26 q26.length cq26) := hcq 8 _ rfl
        have z9 : w.cell? ⟨b, off + k * 16 + 9, none⟩ = some (.int .i64 q30) := hcq 9 _ rfl
        have z10 : w.cell? ⟨b, off + k * 16 + 10, none⟩ = some (.int .i64 q31) := hcq 10 _ rfl
        have z11 : w.cell? ⟨b, off + k * 16 + 11, none⟩ = some (.int .i64 q32) := hcq 11 _ rfl
        have z12 : w.cell? ⟨b, off + k * 16 + 12, none⟩ = some (.int .i64 q33) := hcq 12 _ rfl
        have z13 : w.cell? ⟨b, off + k * 16 + 13, none⟩ = some (.string q34) := hcq 13 _ rfl
        have z14 : w.cell? ⟨b, off + k * 16 + 14, none⟩ = some (.string q35) := hcq 14 _ rfl
        have z15 : w.cell? ⟨b, off + k * 16 + 15, none⟩ = some (.slice aq36 q36.length cq36) := hcq 15 _ rfl
        have zz0 : w.cell? ⟨b', off' + k * 16, none⟩ = some (.string p0) := by simpa [Rd.n] using hcp 0 _ rfl
        have zz1 : w.cell? ⟨b', off' + k * 16 + 1, none⟩ = some (.string p1) := hcp 1 _ rfl
        have zz2 : w.cell? ⟨b', off' + k * 16 + 2, none⟩ = some (.int .i64 p20) := hcp 2 _ rfl
        have zz3 : w.cell? ⟨b', off' + k * 16 + 3, none⟩ = some (.int .i64 p21) := hcp 3 _ rfl
        have zz4 : w.cell? ⟨b', off' + k * 16 + 4, none⟩ = some (.int .i64 p22) := hcp 4 _ rfl
        have zz5 : w.cell? ⟨b', off' + k * 16 + 5, none⟩ = some (.int .i64 p23) := hcp 5 _ rfl
        have zz6 : w.cell? ⟨b', off' + k * 16 + 6, none⟩ = some (.string p24) := hcp 6 _ rfl
        have zz7 : w.cell? ⟨b', off' + k * 16 + 7, none⟩ = some (.string p25) := hcp 7 _ rfl
        have zz8 : w.cell? ⟨b', off' + k * 16 + 8, none⟩ = some (.slice ap26 p26.length cp26) := hcp 8 _ rfl
        have zz9 : w.cell? ⟨b', off' + k * 16 + 9, none⟩ = some (.int .i64 p30) := hcp 9 _ rfl
        have zz10 : w.cell? ⟨b', off' + k * 16 + 10, none⟩ = some (.int .i64 p31) := hcp 10 _ rfl
        have zz11 : w.cell? ⟨b', off' + k * 16 + 11, none⟩ = some (.int .i64 p32) := hcp 11 _ rfl
        have zz12 : w.cell? ⟨b', off' + k * 16 + 12, none⟩ = some (.int .i64 p33) := hcp 12 _ rfl
        have zz13 : w.cell? ⟨b', off' + k * 16 + 13, none⟩ = some (.string p34) := hcp 13 _ rfl
        have zz14 : w.cell? ⟨b', off' + k * 16 + 14, none⟩ = some (.string p35) := hcp 14 _ rfl
        have zz15 : w.cell? ⟨b', off' + k * 16 + 15, none⟩ = some (.slice ap36 p36.length cp36) := hcp 15 _ rfl
        have hT := Lib.hid ht
        clear h3 g3 ht hcsq hcsp hcq hcp hrq hrp
        go_upto_region 5 with fail
        go_cut [17, 7, 8] from 17 to 31 (fun s17 s7 s8 wr => HeldBox w wr [.string q0, .string q1, .int .i64 q20, .int .i64 q21, .int .i64 q22, .int .i64 q23, .string q24, .string q25, .slice aq26 q26.length cq26, .int .i64 q30, .int .i64 q31, .int .i64 q32, .int .i64 q33, .string q34, .string q35, .slice aq36 q36.length cq36] s8 ∧ s17 = .int .i64 k ∧ s7 = .int .i64 k)
        case first => as_aux_lemma =>
          go_wp2_with fail
          go_meet
          exact ⟨⟨_, rfl, (by repeat (first | exact Gr.refl _ | apply Gr.ext | apply Gr.alloc | apply Gr.drew)), fun i v h => box_cell (by simp) (by simpa using h)⟩, rfl, rfl⟩
        obtain ⟨⟨n8, rfl, ⟨y8, rfl⟩, hn8⟩, rfl, rfl⟩ := hcut
        go_upto_region 6 with fail
        go_cut [17, 8, 9] from 17 to 31 (fun s17 s8 s9 wr => HeldBox (w.ext y8) wr [.string p0, .string p1, .int .i64 p20, .int .i64 p21, .int .i64 p22, .int .i64 p23, .string p24, .string p25, .slice ap26 p26.length cp26, .int .i64 p30, .int .i64 p31, .int .i64 p32, .int .i64 p33, .string p34, .string p35, .slice ap36 p36.length cp36] s9 ∧ s17 = .int .i64 k ∧ s8 = .pointer (some ⟨n8, 0, none⟩))
        case first => as_aux_lemma =>
          go_wp2_with fail
          go_meet
          exact ⟨⟨_, rfl, (by repeat (first | exact Gr.refl _ | apply Gr.ext | apply Gr.alloc | apply Gr.drew)), fun i v h => box_cell (by simp) (by simpa using h)⟩, rfl, rfl⟩
        obtain ⟨⟨n9, rfl, g9, hn9⟩, rfl, rfl⟩ := hcut
        have hm8 : ∀ i v, ([.string q0, .string q1, .int .i64 q20, .int .i64 q21, .int .i64 q22, .int .i64 q23, .string q24, .string q25, .slice aq26 q26.length cq26, .int .i64 q30, .int .i64 q31, .int .i64 q32, .int .i64 q33, .string q34, .string q35, .slice aq36 q36.length cq36] : List Value)[i]? = some v → _ := fun i v h => g9.keep (hn8 i v h)
        obtain ⟨y9, rfl⟩ := g9
        have u0 : ((w.ext y8).ext y9).cell? ⟨n8, 0, none⟩ = some (.string q0) := hm8 0 _ rfl
        have u1 : ((w.ext y8).ext y9).cell? ⟨n8, 1, none⟩ = some (.string q1) := hm8 1 _ rfl
        have u2 : ((w.ext y8).ext y9).cell? ⟨n8, 2, none⟩ = some (.int .i64 q20) := hm8 2 _ rfl
        have u3 : ((w.ext y8).ext y9).cell? ⟨n8, 3, none⟩ = some (.int .i64 q21) := hm8 3 _ rfl
        have u4 : ((w.ext y8).ext y9).cell? ⟨n8, 4, none⟩ = some (.int .i64 q22) := hm8 4 _ rfl
        have u5 : ((w.ext y8).ext y9).cell? ⟨n8, 5, none⟩ = some (.int .i64 q23) := hm8 5 _ rfl
        have u6 : ((w.ext y8).ext y9).cell? ⟨n8, 6, none⟩ = some (.string q24) := hm8 6 _ rfl
        have u7 : ((w.ext y8).ext y9).cell? ⟨n8, 7, none⟩ = some (.string q25) := hm8 7 _ rfl
        have u8 : ((w.ext y8).ext y9).cell? ⟨n8, 8, none⟩ = some (.slice aq26 q26.length cq26) := hm8 8 _ rfl
        have u9 : ((w.ext y8).ext y9).cell? ⟨n8, 9, none⟩ = some (.int .i64 q30) := hm8 9 _ rfl
        have u10 : ((w.ext y8).ext y9).cell? ⟨n8, 10, none⟩ = some (.int .i64 q31) := hm8 10 _ rfl
        have u11 : ((w.ext y8).ext y9).cell? ⟨n8, 11, none⟩ = some (.int .i64 q32) := hm8 11 _ rfl
        have u12 : ((w.ext y8).ext y9).cell? ⟨n8, 12, none⟩ = some (.int .i64 q33) := hm8 12 _ rfl
        have u13 : ((w.ext y8).ext y9).cell? ⟨n8, 13, none⟩ = some (.string q34) := hm8 13 _ rfl
        have u14 : ((w.ext y8).ext y9).cell? ⟨n8, 14, none⟩ = some (.string q35) := hm8 14 _ rfl
        have u15 : ((w.ext y8).ext y9).cell? ⟨n8, 15, none⟩ = some (.slice aq36 q36.length cq36) := hm8 15 _ rfl
        have v0 : ((w.ext y8).ext y9).cell? ⟨n9, 0, none⟩ = some (.string p0) := hn9 0 _ rfl
        have v1 : ((w.ext y8).ext y9).cell? ⟨n9, 1, none⟩ = some (.string p1) := hn9 1 _ rfl
        have v2 : ((w.ext y8).ext y9).cell? ⟨n9, 2, none⟩ = some (.int .i64 p20) := hn9 2 _ rfl
        have v3 : ((w.ext y8).ext y9).cell? ⟨n9, 3, none⟩ = some (.int .i64 p21) := hn9 3 _ rfl
        have v4 : ((w.ext y8).ext y9).cell? ⟨n9, 4, none⟩ = some (.int .i64 p22) := hn9 4 _ rfl
        have v5 : ((w.ext y8).ext y9).cell? ⟨n9, 5, none⟩ = some (.int .i64 p23) := hn9 5 _ rfl
        have v6 : ((w.ext y8).ext y9).cell? ⟨n9, 6, none⟩ = some (.string p24) := hn9 6 _ rfl
        have v7 : ((w.ext y8).ext y9).cell? ⟨n9, 7, none⟩ = some (.string p25) := hn9 7 _ rfl
        have v8 : ((w.ext y8).ext y9).cell? ⟨n9, 8, none⟩ = some (.slice ap26 p26.length cp26) := hn9 8 _ rfl
        have v9 : ((w.ext y8).ext y9).cell? ⟨n9, 9, none⟩ = some (.int .i64 p30) := hn9 9 _ rfl
        have v10 : ((w.ext y8).ext y9).cell? ⟨n9, 10, none⟩ = some (.int .i64 p31) := hn9 10 _ rfl
        have v11 : ((w.ext y8).ext y9).cell? ⟨n9, 11, none⟩ = some (.int .i64 p32) := hn9 11 _ rfl
        have v12 : ((w.ext y8).ext y9).cell? ⟨n9, 12, none⟩ = some (.int .i64 p33) := hn9 12 _ rfl
        have v13 : ((w.ext y8).ext y9).cell? ⟨n9, 13, none⟩ = some (.string p34) := hn9 13 _ rfl
        have v14 : ((w.ext y8).ext y9).cell? ⟨n9, 14, none⟩ = some (.string p35) := hn9 14 _ rfl
        have v15 : ((w.ext y8).ext y9).cell? ⟨n9, 15, none⟩ = some (.slice ap36 p36.length cp36) := hn9 15 _ rfl
        clear hn8 hm8 hn9 z0 zz0 z1 zz1 z2 zz2 z3 zz3 z4 zz4 z5 zz5 z6 zz6 z7 zz7 z8 zz8 z9 zz9 z10 zz10 z11 zz11 z12 zz12 z13 zz13 z14 zz14 z15 zz15
        go_wp2_with fail
        refine (HC.out _ (List.getElem_mem hlt) _ (List.getElem_mem hlt2) _ _ _ _ _ (by repeat (first | exact Gr.refl _ | apply Gr.ext | apply Gr.alloc | apply Gr.drew)) (Rd.gr hrdq (by repeat (first | exact Gr.refl _ | apply Gr.ext | apply Gr.alloc | apply Gr.drew))) (Rd.gr hrdp (by repeat (first | exact Gr.refl _ | apply Gr.ext | apply Gr.alloc | apply Gr.drew)))).mono ?_
        rintro e w3 ⟨rfl, x3, rfl⟩
        go_wp2
        · have ht : (!decide (xs[k] = ys[k])) = true := by assumption
          go_ret
          have E : xs ≠ ys := fun e => dec_ne ht (by subst e; rfl)
          exact ⟨ret_bool (decide_eq_false E).symm, (by repeat (first | exact Gr.refl _ | apply Gr.ext | apply Gr.alloc | apply Gr.drew))⟩
        · have ht : (!decide (xs[k] = ys[k])) = false := by assumption
          have e2 := dec_eq ht
          refine ⟨⟨k + 1, by omega, ?_, (by repeat (first | exact Gr.refl _ | apply Gr.ext | apply Gr.alloc | apply Gr.drew)), by go_num⟩, by simp [intOf]; omega⟩
          rw [List.take_succ_eq_append_getElem hlt, List.take_succ_eq_append_getElem hlt2, hT.out, e2]
      · have hk2 : k = xs.length := by omega
        subst hk2
        have e : xs = ys := by
          have h := ht
          have h' := hl'.out
          rw [List.take_length, h', List.take_length] at h
          exact h
        have E := Lib.hid e
        clear e ht
        go_wp2
        go_ret
        exact ⟨ret_bool (decide_eq_true E.out).symm, (by repeat (first | exact Gr.refl _ | apply Gr.ext | apply Gr.alloc | apply Gr.drew))⟩
  · have hne : ((xs.length : Int) != (ys.length : Int)) = true := by simp; omega
    have e : xs ≠ ys := fun e => hl (by rw [e])
    have E := Lib.hid e
    clear e hl
    go_enter Tryz.func70, Tryz.ntmps70
    go_wp2
    go_ret
    exact ⟨ret_bool (decide_eq_false E.out).symm, Gr.refl w⟩

end Go.Proofs.YtmdiabjaggadjaaGreat
