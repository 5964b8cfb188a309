/- The function values of Components of the program. No condition. -/
import Derived.Test.YtcphimmkkfpohaaCompP
import Derived.Test.YtcphimmkkfpohaaInsB
import Derived.Test.YtcphimmkkfpohaaOwnBox
namespace Go.Proofs.Ytcphimmkkfpohaa
open Go.RowKit
variable {T : List (List Int)}

/-- What the function values read. -/
structure REnv (T : List (List Int)) (ofs : List Int) (fl : List Bool) (bo bx bp bb bf bd : Nat) (W : World) : Prop where
  own : ∃ v f, W.cell? ⟨bo, 0, none⟩ = some v ∧ SlR f W v (insAll T)
  ofb : W.cell? ⟨bx, 0, none⟩ = some (.slice (some ⟨bf, 0, none⟩) T.length T.length)
  ofr : IRow W bf 3 ofs
  par : ∃ v f, W.cell? ⟨bp, 0, none⟩ = some v ∧ SlR f W v (parts T)
  dnb : W.cell? ⟨bb, 0, none⟩ = some (.slice (some ⟨bd, 0, none⟩) (parts T).length (parts T).length)
  dnr : BRow W bd 4 fl
theorem REnv.gr {ofs : List Int} {fl : List Bool} {bo bx bp bb bf bd : Nat} {W W' : World} (h : REnv T ofs fl bo bx bp bb bf bd W) (hg : Gr W W') : REnv T ofs fl bo bx bp bb bf bd W' := by
  obtain ⟨⟨v, f, h1, h2⟩, h3, h4, ⟨v2, f2, h5, h6⟩, h7, h8⟩ := h
  exact ⟨⟨v, f, hg.keep h1, h2.gr hg⟩, hg.keep h3, VRow.gr h4 hg, ⟨v2, f2, hg.keep h5, h6.gr hg⟩, hg.keep h7, h8.gr hg⟩

set_option maxRecDepth 10000 in
set_option maxHeartbeats 2000000 in
theorem ready3_any (ofs : List Int) (fl : List Bool) (bo bx bp bb bf bd bq : Nat) (p k q : Nat) (W : World) (hE : REnv T ofs fl bo bx bp bb bf bd W) (hp : W.cell? ⟨bq, 0, none⟩ = some (.int .i64 (p : Int)))
    (_hlen : T.length ≤ 1048576) (hk : k < T.length) (ho : ofs[k]? = some (q : Int)) (hq : q < fl.length) (hm : fl.length = (parts T).length) :
    Calls Try.prog 27 #[.int .i64 (k : Int), .pointer (some ⟨bx, 0, none⟩), .pointer (some ⟨bq, 0, none⟩), .pointer (some ⟨bb, 0, none⟩)] W fun e w' => e = .returned (.bool (((q : Int) != (p : Int)) && !fl[q])) ∧ Gr W w' := by
  obtain ⟨-, h2, h3, -, h5, h6⟩ := hE
  obtain ⟨hkl, hkv⟩ := List.getElem?_eq_some_iff.1 ho
  have c1 := h3.cell hkl
  rw [hkv] at c1
  have c2 := h6.cell hq
  have hqm : (q : Int) < ((parts T).length : Int) := by omega
  have z1 := blk h2
  have z2 := blk hp
  have z3 := blk h5
  have z4 := blk c1
  have z5 := blk c2
  have hkT : (k : Int) < (T.length : Int) := by omega
  clear h3 h6 ho hkv hm
  generalize fl[q] = b at c2
  by_cases hqp : q = p
  · have hne : ((q : Int) != (p : Int)) = false := by simp [hqp]
    have HQ := Lib.hid hqp
    clear hqp
    go_enter Try.func27, Try.ntmps27
    go_wp2_with fail
    refine wp_region_grown (by kernel_rfl) (by kernel_rfl) ?_
    repeat (go_big_quiet_step (fail))
    refine wpQuiet_nil ?_
    intro _ hw'
    obtain ⟨nx, hw''⟩ := hw'
    subst hw''
    go_wp2_with fail
    go_ret
    exact ⟨ret_bool (by simp [HQ.out]), (by repeat (first | exact Gr.refl _ | apply Gr.ext | apply Gr.alloc | apply Gr.drew))⟩
  · have hne : ((q : Int) != (p : Int)) = true := by simp; omega
    have HQ := Lib.hid hqp
    clear hqp
    go_enter Try.func27, Try.ntmps27
    go_wp2_with fail
    refine wp_region_grown (by kernel_rfl) (by kernel_rfl) ?_
    repeat (go_big_quiet_step (fail))
    refine wpQuiet_nil ?_
    intro _ hw'
    obtain ⟨nx, hw''⟩ := hw'
    subst hw''
    go_wp2_with fail
    go_ret
    exact ⟨ret_bool (by simp; intro _; have := HQ.out; omega), (by repeat (first | exact Gr.refl _ | apply Gr.ext | apply Gr.alloc | apply Gr.drew))⟩

set_option maxRecDepth 10000 in
set_option maxHeartbeats 2000000 in
theorem ready2_any (ofs : List Int) (fl : List Bool) (bo bx bp bb bf bd bq : Nat) (p i : Nat) (W : World) (hE : REnv T ofs fl bo bx bp bb bf bd W) (hp : W.cell? ⟨bq, 0, none⟩ = some (.int .i64 (p : Int)))
    (hlen : T.length ≤ 1048576) (hi : i < T.length) (hO : OfK T T.length ofs) (hm : fl.length = (parts T).length) :
    Calls Try.prog 26 #[.int .i64 (i : Int), .pointer (some ⟨bo, 0, none⟩), .pointer (some ⟨bx, 0, none⟩), .pointer (some ⟨bq, 0, none⟩), .pointer (some ⟨bb, 0, none⟩)] W fun e w' => e = .returned (.bool (notYetB T ofs fl p (i : Int))) ∧ Gr W w' := by
  have HE := Lib.hid hE
  obtain ⟨⟨v, f, h1, h2⟩, -, -, -, -, -⟩ := hE
  have hil : (insAll T).length = T.length := insAll_len T
  obtain ⟨aT, cT, hv, q1, q2, q3⟩ := h2.open
  rw [hil] at hv q1 q2 q3
  subst hv
  obtain ⟨b0, o0, rfl, hb0⟩ := q3 i hi
  obtain ⟨r1, f1, x1, hr1, _⟩ := h2.sl_at (i := i) (by rw [hil]; exact hi)
  rw [insAll_at] at hr1
  obtain ⟨ar, cr, rfl, -, -, -⟩ := hr1.open
  have z1 := blk h1
  have z2 := blk x1
  have hT : ∀ w' : World, Gr W w' → TestI w' 27 #[.pointer (some ⟨bx, 0, none⟩), .pointer (some ⟨bq, 0, none⟩), .pointer (some ⟨bb, 0, none⟩)] (notYet ofs fl p) (insOf T i) := fun w' hg =>
    ⟨Try.call27, fun y hy x => by
      have hyr := mem_insOf.1 hy
      obtain ⟨k, rfl⟩ : ∃ k : Nat, y = k := ⟨y.toNat, by omega⟩
      have hk : k < T.length := by omega
      obtain ⟨q, hq, hq1, hq2⟩ := hO.2 k hk
      have hqm : q < fl.length := by rw [hm, partsI_len]; exact hq
      have e : notYet ofs fl p (k : Int) = (((q : Int) != (p : Int)) && !fl[q]) := by
        unfold notYet
        rw [Int.toNat_natCast, List.getD_eq_getElem?_getD, hq1]
        simp only [Option.getD_some, Int.toNat_natCast]
        rw [List.getD_eq_getElem?_getD, List.getElem?_eq_getElem hqm]
        rfl
      rw [e]
      exact ready3_any ofs fl bo bx bp bb bf bd bq p k q _ (HE.out.gr (hg.ext x)) ((hg.ext x).keep hp) hlen hk hq1 hqm hm⟩
  have HT := Lib.hid hT
  have HR := Lib.hid hr1
  have hiT : (i : Int) < (T.length : Int) := by omega
  clear hT hr1 h2 hil q3 hO hm
  go_enter Try.func26, Try.ntmps26
  go_wp2_with fail
  refine (slicesContainsFuncI_any _ _ (insOf T i) _ _ _ _ (HR.out.gr (by repeat (first | exact Gr.refl _ | apply Gr.ext | apply Gr.alloc | apply Gr.drew))) (HT.out _ (by repeat (first | exact Gr.refl _ | apply Gr.ext | apply Gr.alloc | apply Gr.drew)))).mono ?_
  rintro e w1 ⟨rfl, y1, rfl⟩
  go_wp2_with fail
  go_ret
  exact ⟨ret_bool (by unfold notYetB; rw [Int.toNat_natCast]), (by repeat (first | exact Gr.refl _ | apply Gr.ext | apply Gr.alloc | apply Gr.drew))⟩

/-- What 'ready' answers. -/
noncomputable def readyB (T : List (List Int)) (ofs : List Int) (fl : List Bool) (p : Nat) : Bool := !fl.getD p false && !((parts T).getD p []).any (notYetB T ofs fl p)

set_option maxRecDepth 10000 in
set_option maxHeartbeats 2000000 in
theorem ready1_any (ofs : List Int) (fl : List Bool) (bo bx bp bb bf bd : Nat) (p : Nat) (W : World) (hE : REnv T ofs fl bo bx bp bb bf bd W)
    (hlen : T.length ≤ 1048576) (hp : p < (parts T).length) (hO : OfK T T.length ofs) (hm : fl.length = (parts T).length) :
    Calls Try.prog 24 #[.int .i64 (p : Int), .pointer (some ⟨bb, 0, none⟩), .pointer (some ⟨bp, 0, none⟩), .pointer (some ⟨bo, 0, none⟩), .pointer (some ⟨bx, 0, none⟩)] W fun e w' => e = .returned (.bool (readyB T ofs fl p)) ∧ Gr W w' := by
  have HE := Lib.hid hE
  have hpf : p < fl.length := by rw [hm]; exact hp
  obtain ⟨-, -, -, ⟨v, f, h1, h2⟩, h3, h4⟩ := hE
  have c1 := h4.cell hpf
  have hgd : fl.getD p false = fl[p] := by rw [List.getD_eq_getElem?_getD, List.getElem?_eq_getElem hpf]; rfl
  have z0 := blk h1
  have z1 := blk h3
  have z2 := blk c1
  have hpm : (p : Int) < ((parts T).length : Int) := by omega
  have hmT := parts_le (T := T)
  cases hfp : fl[p] with
  | true =>
    rw [hfp] at c1 hgd
    have hR : readyB T ofs fl p = false := by unfold readyB; rw [hgd]; rfl
    have HR := Lib.hid hR
    clear hR hgd hfp h4 h2 hm hO
    go_enter Try.func24, Try.ntmps24
    go_wp2_with fail
    go_ret
    exact ⟨ret_bool HR.out.symm, (by repeat (first | exact Gr.refl _ | apply Gr.ext | apply Gr.alloc | apply Gr.drew))⟩
  | false =>
    rw [hfp] at c1 hgd
    obtain ⟨aP, cP, rfl, q1, q2, q3⟩ := h2.open
    obtain ⟨b0, o0, rfl, hb0⟩ := q3 p hp
    obtain ⟨r1, f1, x1, hr1, _⟩ := h2.sl_at (i := p) hp
    obtain ⟨ar, cr, rfl, -, -, -⟩ := hr1.open
    have z3 := blk x1
    have hR : readyB T ofs fl p = !(parts T)[p].any (notYetB T ofs fl p) := by unfold readyB; rw [hgd, parts_getD hp]; rfl
    have HR := Lib.hid hR
    have HP := Lib.hid hr1
    have hT : TestI (W.alloc (.cells #[.int .i64 (p : Int)] 3)) 26 #[.pointer (some ⟨bo, 0, none⟩), .pointer (some ⟨bx, 0, none⟩), .pointer (some ⟨W.heap.size, 0, none⟩), .pointer (some ⟨bb, 0, none⟩)] (notYetB T ofs fl p) (parts T)[p] :=
      ⟨Try.call26, fun y hy x => by
        obtain ⟨i, rfl, hi, _⟩ := (mem_parts hp).1 hy
        exact ready2_any ofs fl bo bx bp bb bf bd W.heap.size p i _ (HE.out.gr (by repeat (first | exact Gr.refl _ | apply Gr.ext | apply Gr.alloc | apply Gr.drew))) (Gr.keep (Gr.ext (Gr.refl _) x) (box_cell rfl rfl)) hlen hi hO hm⟩
    have HT := Lib.hid hT
    clear hT hR hgd hfp h4 h2 hm hO hr1 q3
    go_enter Try.func24, Try.ntmps24
    go_wp2_with fail
    refine (slicesContainsFuncI_any _ _ (parts T)[p] _ _ _ _ (HP.out.gr (by repeat (first | exact Gr.refl _ | apply Gr.ext | apply Gr.alloc | apply Gr.drew))) HT.out).mono ?_
    rintro e w1 ⟨rfl, y1, rfl⟩
    go_wp2_with fail
    go_ret
    exact ⟨ret_bool (by rw [HR.out]), (by repeat (first | exact Gr.refl _ | apply Gr.ext | apply Gr.alloc | apply Gr.drew))⟩
end Go.Proofs.Ytcphimmkkfpohaa
