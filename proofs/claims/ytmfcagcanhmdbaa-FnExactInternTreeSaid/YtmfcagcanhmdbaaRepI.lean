/- slices.Repeat at one number: as many of it as wanted, in a new block that is known whole. No condition. -/
import Derived.Test.YtmfcagcanhmdbaaIntsD
import Derived.Test.YtmfcagcanhmdbaaOwnBox
import Derived.Test.YtmfcagcanhmdbaaRegU
import Derived.Test.YtmfcagcanhmdbaaCloneI
import Derived.Laws.CopyOwn
import Derived.Laws.Bits64b
namespace Go.Proofs.Ytmfcagcanhmdbaa
open Go.RowKit
set_option linter.unusedVariables false
set_option linter.unusedSimpArgs false

theorem and32 (a : Nat) (ha : a < 4294967296) : bits .and .u64 (a : Int) 4294967295 = (a : Int) := by
  have h := bits_and_u64_nat a 4294967295 (by omega) (by omega)
  rw [show a &&& 4294967295 = a % 4294967296 from Nat.and_two_pow_sub_one_eq_mod a 32, Nat.mod_eq_of_lt ha] at h
  exact h
theorem wrapU (a : Nat) (ha : a < 4294967296) : IntKind.u64.wrap (a : Int) = (a : Int) := by rw [IntKind.wrap_u64]; omega

set_option maxHeartbeats 1000000 in
theorem mul64One_any (n : Nat) (hn : n ≤ 1048576) (w : World) :
    Calls Try.prog 91 #[.int .u64 1, .int .u64 (n : Int)] w fun e w' => e = .returned (.tuple #[.int .u64 0, .int .u64 (n : Int)]) ∧ w = w' := by
  have e1 : bits .and .u64 1 4294967295 = 1 := and32 1 (by omega)
  have e2 := and32 n (by omega)
  have e3 : (n : Int) / 4294967296 = 0 := by omega
  have e4 := wrapU n (by omega)
  have e5 : bits .and .u64 0 4294967295 = 0 := and32 0 (by omega)
  go_enter Try.func91, Try.ntmps91
  go_wp2
  go_ret2
  exact ⟨rfl, rfl⟩

set_option maxHeartbeats 1000000 in
theorem mulOne_any (n : Nat) (hn : n ≤ 1048576) (w : World) :
    Calls Try.prog 72 #[.int .u64 1, .int .u64 (n : Int)] w fun e w' => e = .returned (.tuple #[.int .u64 0, .int .u64 (n : Int)]) ∧ w = w' := by
  go_enter Try.func72, Try.ntmps72
  go_wp2_with fail
  refine (mul64One_any n hn _).mono ?_
  rintro e w' ⟨rfl, rfl⟩
  go_wp2_with fail
  go_ret2
  exact ⟨rfl, rfl⟩

section
variable {P : Program}
/-- 'copy' inside a drawn region: into a row that is known whole. -/
theorem step_copy {W : World} {ops : Array Oper} {o : Oper} {a : Act} {K : Act → World → Prop} {Q : Exit → Act → World → Prop} {E : Prop} (hgd : o.guard = none) (d s : Operand) (dT sT : TypeId)
    (ho : o.op = .call { callee := .builtin .copy, args := #[d, s], argTypes := #[dT, sT] }) (elem : TypeId) (hu : P.underlying dT = some (.slice elem)) (hsz : (P.info? elem).map (·.size) = some 1)
    (g off dLen dCap : Nat) (ad : Addr) (sLen sCap : Nat) (hd : a.eval d = .slice (some ⟨g, off, none⟩) dLen dCap) (hs : a.eval s = .slice (some ad) sLen sCap)
    (cur : Array Value) (t : TypeId) (hg : W.heap[g]? = some (.cells cur t (0, 0))) (cs : List Value) (hn : cs.length = Nat.min sLen dLen)
    (hsrc : ∀ j v, cs[j]? = some v → W.cell? (ad.add j) = some v) (hfit : off + cs.length ≤ cur.size) (h1 : ∀ v ∈ cs, v.oneCell' = true)
    (h : K (a.put o.dst (goInt cs.length)) (W.setRow g (cur.toList.take off ++ cs ++ cur.toList.drop (off + cs.length)).toArray)) :
    if Region.wanted o (yielded ops a.tmps) = true then Oper.wp P o a W K Q else E := by
  have hw : Region.wanted o (yielded ops a.tmps) = true := by simp [Region.wanted, hgd]
  rw [if_pos hw]
  have hrun := run_copy_row (P := P) W dT sT o.type elem g off dLen dCap ad sLen sCap cur t cs hu hsz hg hn hsrc hfit h1
  unfold Oper.wp
  simp only [execOp, ho, resolve, invoke, builtin, Sem.run_bind, Sem.run_pure, Result.andThen_ok, List.map_toArray, List.map_cons, List.map_nil, hd, hs, hrun]
  exact h
end

theorem setRow_wr (W : World) (g : Nat) (cs : Array Value) : Wr [g] W (W.setRow g cs) :=
  ⟨rfl, rfl, rfl, by simp [World.setRow], Nat.le_refl _, fun k hk hn => setRow_other W g k cs (by simpa using hn)⟩

/-- c times y, and zeros behind. -/
def repV (n c : Nat) (y : Int) : List Value := (List.replicate c y ++ List.replicate (n - c) 0).map (Value.int .i64)
theorem repV_len {n c : Nat} (y : Int) (h : c ≤ n) : (repV n c y).length = n := by simp [repV]; omega
theorem repV_copy {n c k : Nat} (y : Int) (h : c + k ≤ n) : (repV n c y).take c ++ (List.replicate k (Value.int .i64 y)) ++ (repV n c y).drop (c + k) = repV n (c + k) y := by
  unfold repV
  simp only [List.map_append, List.map_replicate]
  rw [List.take_append_of_le_length (by simp), List.take_of_length_le (by simp), List.drop_append, List.drop_of_length_le (by simp), List.length_replicate, List.drop_replicate]
  have e1 : c + k - c = k := by omega
  have e2 : n - c - k = n - (c + k) := by omega
  rw [e1, e2, List.nil_append, ← List.replicate_append_replicate]

set_option maxRecDepth 10000 in
set_option maxHeartbeats 4000000 in
theorem repeatOne_any (y : Int) (hy : (Lit.int .i64 y).wf = true) (n : Nat) (hn : n ≤ 1048576) (ab ao cap : Nat) (w : World) (hc : w.cell? ⟨ab, ao, none⟩ = some (.int .i64 y)) :
    Calls Try.prog 40 #[.slice (some ⟨ab, ao, none⟩) 1 cap, .int .i64 (n : Int)] w fun e w' => ∃ b cp, e = .returned (.slice (some ⟨b, 0, none⟩) n cp) ∧ n ≤ cp ∧ VRow w' b 3 (repV n n y) ∧ w.heap.size ≤ b ∧ Gr w w' := by
  have hal := blk hc
  obtain ⟨i0, hi, hz0, hz1, hz2⟩ := info_parts Try.infoIntC
  have hmi := fun (W : World) => run_make (P := Try.prog) W 59 3 i0 (.int .i64 0) Try.underlying59 hi hz0 .i64 .i64 n n (by omega) (by omega) (by rw [hz2]; omega) (by omega)
  have HSZ := Lib.hid (show (Try.prog.info? 3).map (·.size) = some 1 by rw [hi, Option.map_some, hz1])
  rw [hz1] at hmi
  clear hi hz0 hz1 hz2
  simp only [Int.toNat_natCast, Nat.mul_one] at hmi
  have HI0 := Lib.hid (fun W : World => IRow.made W n 3)
  have hci : (Value.int .i64 0).cells = #[.int .i64 0] := rfl
  rw [hci] at hmi
  generalize madeCells #[.int .i64 0] n = C1 at hmi HI0
  clear hci
  go_enter Try.func40, Try.ntmps40
  go_wp2_with fail
  refine (mulOne_any n hn _).mono ?_
  rintro e w' ⟨rfl, rfl⟩
  have hn0 : (0 : Int) ≤ (n : Int) := by omega
  have hn1 : (n : Int) ≤ 9223372036854775807 := by omega
  go_wp2_with fail
  by_cases h0 : n = 0
  · subst h0
    have hcp := run_copy_none (P := Try.prog) (w.alloc (.cells C1 3)) 59 59 3 3 (some ⟨w.heap.size, 0, none⟩) (some ⟨ab, ao, none⟩) 0 0 1 cap Try.underlying59 HSZ.out rfl
    rw [hcp]
    clear hcp
    go_wp2_with fail
    have HI := Lib.hid (HI0.out w)
    go_loopw [8] (fun s8 wr => s8 = .int .i64 0 ∧ wr = w.alloc (.cells C1 3)) (fun _ _ => 0)
    case atStart => exact ⟨rfl, rfl⟩
    case round =>
      obtain ⟨rfl, rfl⟩ := hrel
      go_wp2_with fail
      go_ret
      exact ⟨w.heap.size, 0, rfl, Nat.le_refl _, by have := HI.out; exact this, Nat.le_refl _, (by repeat (first | exact Gr.refl _ | apply Gr.ext | apply Gr.alloc | apply Gr.drew))⟩
  · have hpos : 0 < n := by omega
    have hC1 : C1 = ((List.replicate n (0 : Int)).map (Value.int .i64)).toArray := by
      have h1 := HI0.out w
      have h2 : (w.alloc (.cells C1 3)).heap[w.heap.size]? = _ := h1
      rw [heap_alloc_new] at h2
      simpa using h2
    have hcp := run_copy_row (P := Try.prog) (w.alloc (.cells C1 3)) 59 59 3 3 w.heap.size 0 n n ⟨ab, ao, none⟩ 1 cap C1 3 [.int .i64 y] Try.underlying59 HSZ.out (heap_alloc_new w _) (by show 1 = Nat.min 1 n; exact (Nat.min_eq_left hpos).symm) (fun j v hj => by
      cases j with
      | zero => obtain rfl := Option.some.inj hj; exact Gr.keep (by repeat (first | exact Gr.refl _ | apply Gr.ext | apply Gr.alloc | apply Gr.drew)) hc
      | succ j => simp at hj) (by rw [hC1]; simp; omega) (fun v hv => by simp at hv; subst hv; rfl)
    generalize hW2 : World.setRow _ _ _ = W2 at hcp
    have w2 : Wr [w.heap.size] (w.alloc (.cells C1 3)) W2 := by rw [← hW2]; exact setRow_wr _ _ _
    have v2 : VRow W2 w.heap.size 3 (repV n 1 y) := by
      rw [← hW2]
      have h1 := repV_copy (n := n) (c := 0) (k := 1) y (by omega)
      have h2 := setRow_heap (w.alloc (.cells C1 3)) w.heap.size C1 (C1.toList.take 0 ++ [Value.int .i64 y] ++ C1.toList.drop (0 + [Value.int .i64 y].length)).toArray 3 (0, 0) (heap_alloc_new w _)
      show (World.setRow _ _ _).heap[w.heap.size]? = _
      rw [h2]
      have e : C1.toList = repV n 0 y := by rw [hC1]; simp [repV]
      rw [e]
      have h3 : [Value.int .i64 y] = List.replicate 1 (Value.int .i64 y) := rfl
      rw [h3]
      rw [List.length_replicate, h1]
    have g2 : Gr w W2 := Gr.wr ((by repeat (first | exact Gr.refl _ | apply Gr.ext | apply Gr.alloc | apply Gr.drew)) : Gr w (w.alloc (.cells C1 3))) w2 (fun b hb => by simp at hb; omega)
    have HV2 := Lib.hid v2
    have HG2 := Lib.hid g2
    rw [hcp]
    clear hW2 w2 v2 g2 hC1 hcp
    go_wp2_with fail
    go_loopw [8] (fun s8 wr => ∃ c : Nat, 0 < c ∧ c ≤ n ∧ Hid (Gr w wr) ∧ Hid (VRow wr w.heap.size 3 (repV n c y)) ∧ s8 = .int .i64 c) (fun s8 _ => n - (intOf s8).toNat)
    case atStart => exact ⟨1, by omega, by omega, HG2, HV2, rfl⟩
    case round =>
      obtain ⟨c, hc0, hcn, HG, HV, rfl⟩ := hrel
      rename World => W3
      by_cases hlt : c < n
      · obtain ⟨k, hk⟩ : ∃ k, k = Nat.min c (n - c) := ⟨_, rfl⟩
        have hk1 : k ≤ c := by rw [hk]; exact Nat.min_le_left _ _
        have hk2 : k ≤ n - c := by rw [hk]; exact Nat.min_le_right _ _
        have hk3 : 0 < k := by rw [hk]; exact Nat.lt_min.2 ⟨hc0, by omega⟩
        have HK := Lib.hid hk
        have hrl := repV_len (n := n) y hcn
        have hrep : (repV n c y).take k = List.replicate k (Value.int .i64 y) := by
          unfold repV
          rw [List.map_append, List.map_replicate, List.take_append_of_le_length (by simp; omega), List.take_replicate, Nat.min_eq_left hk1]
        have HREP := Lib.hid hrep
        have HRL := Lib.hid hrl
        have c0 : (0 : Int) ≤ (c : Int) := by omega
        have c1 : (c : Int) ≤ (n : Int) := by omega
        have c2 : (c : Int) < (n : Int) := by omega
        clear hk hrep hrl
        go_wp2_with fail
        refine wp_region_U (fun w' => Gr w w') 9 (by kernel_rfl) (HG.out.drew) (fun hU => ?_)
        refine anyU_take (i := 0) (v := ?_) rfl (by kernel_rfl) (by kernel_rfl) (by kernel_rfl) (by kernel_rfl) (fun _ _ _ h => h) (Or.inl ⟨by rfl, ?_⟩) (by assumption) ?_
        rotate_left 1
        · intro w hSw; (try dsimp only at hSw); go_simp; all_goals with_reducible rfl
        try simp only [Act.put, List.setIfInBounds_toArray, List.set_cons_zero, List.set_cons_succ]
        refine anyU_take (i := 1) (v := ?_) rfl (by kernel_rfl) (by kernel_rfl) (by kernel_rfl) (by kernel_rfl) (fun _ _ _ h => h) (Or.inl ⟨by rfl, ?_⟩) (by assumption) ?_
        rotate_left 1
        · intro w hSw; (try dsimp only at hSw); go_simp; all_goals with_reducible rfl
        try simp only [Act.put, List.setIfInBounds_toArray, List.set_cons_zero, List.set_cons_succ]
        refine anyU_take (i := 2) (v := ?_) rfl (by kernel_rfl) (by kernel_rfl) (by kernel_rfl) (by kernel_rfl) (fun _ _ _ h => h) (Or.inl ⟨by rfl, ?_⟩) (by assumption) ?_
        rotate_left 1
        · intro w hSw; (try dsimp only at hSw); go_simp; all_goals with_reducible rfl
        try simp only [Act.put, List.setIfInBounds_toArray, List.set_cons_zero, List.set_cons_succ]
        refine anyU_take (i := 4) (v := ?_) rfl (by kernel_rfl) (by kernel_rfl) (by kernel_rfl) (by kernel_rfl) (fun _ _ _ h => h) (Or.inl ⟨by rfl, ?_⟩) (by assumption) ?_
        rotate_left 1
        · intro w hSw; (try dsimp only at hSw); go_simp; all_goals with_reducible rfl
        try simp only [Act.put, List.setIfInBounds_toArray, List.set_cons_zero, List.set_cons_succ]
        refine anyU_take (i := 5) (v := ?_) rfl (by kernel_rfl) (by kernel_rfl) (by kernel_rfl) (by kernel_rfl) (fun _ _ _ h => h) (Or.inl ⟨by rfl, ?_⟩) (by assumption) ?_
        rotate_left 1
        · intro w hSw; (try dsimp only at hSw); go_simp; all_goals with_reducible rfl
        try simp only [Act.put, List.setIfInBounds_toArray, List.set_cons_zero, List.set_cons_succ]
        refine anyU_take (i := 3) (v := ?_) rfl (by kernel_rfl) (by kernel_rfl) (by kernel_rfl) (by kernel_rfl) (fun _ _ _ h => h) (Or.inl ⟨by rfl, ?_⟩) (by assumption) ?_
        rotate_left 1
        · intro w hSw; (try dsimp only at hSw); go_simp; all_goals with_reducible rfl
        try simp only [Act.put, List.setIfInBounds_toArray, List.set_cons_zero, List.set_cons_succ]
        refine anyU_take (i := 6) (v := ?_) rfl (by kernel_rfl) (by kernel_rfl) (by kernel_rfl) (by kernel_rfl) (fun _ _ _ h => h) (Or.inl ⟨by rfl, ?_⟩) (by assumption) ?_
        rotate_left 1
        · intro w hSw; (try dsimp only at hSw); go_simp; all_goals with_reducible rfl
        try simp only [Act.put, List.setIfInBounds_toArray, List.set_cons_zero, List.set_cons_succ]
        refine anyU_ready (rs := [7]) (by kernel_rfl) (by simp) ?_
        refine (ReadyU.cons rfl (fun K hK => ?_) ReadyU.nil)
        refine step_copy (by rfl) _ _ _ _ (by rfl) 3 Try.underlying59 HSZ.out w.heap.size c (n - c) (n - c) ⟨w.heap.size, 0, none⟩ c n (by go_simp; omega) (by go_simp) (repV n c y).toArray 3 (HV.out.gr (by repeat (first | exact Gr.refl _ | apply Gr.ext | apply Gr.alloc | apply Gr.drew))) (List.replicate k (Value.int .i64 y)) (by rw [List.length_replicate]; exact HK.out) (fun j v hj => by
          have hj1 : j < k := by have := (List.getElem?_eq_some_iff.1 hj).1; simpa using this
          have hj2 : (repV n c y)[j]? = some v := by rw [← List.getElem?_take_of_lt hj1, HREP.out]; exact hj
          obtain ⟨hj3, rfl⟩ := List.getElem?_eq_some_iff.1 hj2
          have e : (⟨w.heap.size, 0, none⟩ : Addr).add j = ⟨w.heap.size, j, none⟩ := by unfold Addr.add; split <;> simp_all
          rw [e]
          exact (HV.out.gr (by repeat (first | exact Gr.refl _ | apply Gr.ext | apply Gr.alloc | apply Gr.drew))).cell hj3) (by rw [List.length_replicate]; simp [HRL.out]; omega) (fun v hv => by rw [(List.mem_replicate.1 hv).2]; rfl) ?_
        generalize hW4 : World.setRow _ _ _ = W4
        have w4 : Wr [w.heap.size] W3 W4 := by rw [← hW4]; exact (((by repeat (first | exact Gr.refl _ | apply Gr.ext | apply Gr.alloc | apply Gr.drew)) : Gr W3 W3.drew).toWr _).trans (setRow_wr _ _ _)
        have v4 : VRow W4 w.heap.size 3 (repV n (c + k) y) := by
          rw [← hW4]
          show (World.setRow _ _ _).heap[w.heap.size]? = _
          have h1 := repV_copy (n := n) (c := c) (k := k) y (by omega)
          rw [setRow_heap _ w.heap.size (repV n c y).toArray _ 3 (0, 0) (HV.out.gr (by repeat (first | exact Gr.refl _ | apply Gr.ext | apply Gr.alloc | apply Gr.drew))), List.length_replicate]
          rw [← h1]
        have HV4 := Lib.hid v4
        have g4 : Gr w W4 := Gr.wr HG.out w4 (fun b hb => by simp at hb; omega)
        have HG4 := Lib.hid g4
        clear hW4 w4 v4
        refine hK.out _ _ g4 (fun hU1 => ?_)
        clear hK K g4
        try simp only [Act.put, List.setIfInBounds_toArray, List.set_cons_zero, List.set_cons_succ]
        refine anyU_take (i := 8) (v := ?_) rfl (by kernel_rfl) (by kernel_rfl) (by kernel_rfl) (by kernel_rfl) (fun _ _ _ h => h) (Or.inl ⟨by rfl, ?_⟩) (by assumption) ?_
        rotate_left 1
        · intro w hSw; (try dsimp only at hSw); go_simp; all_goals with_reducible rfl
        try simp only [Act.put, List.setIfInBounds_toArray, List.set_cons_zero, List.set_cons_succ]
        refine anyU_ready (rs := [9]) (by kernel_rfl) (by simp) ?_
        refine ReadyU.last rfl (fun K hK => ?_)
        go_simp
        refine hK.out _ _ ?_
        clear hK K
        try simp only [Act.put, List.setIfInBounds_toArray, List.set_cons_zero, List.set_cons_succ]
        refine anyU_done (by kernel_rfl) ?_ _
        go_wp2_with fail
        refine ⟨⟨c + k, by omega, by omega, HG4, HV4, ?_⟩, ?_⟩
        · have ew : IntKind.i64.wrap ((c : Int) + (k : Int)) = (c : Int) + (k : Int) := IntWalk.i64_in _ (by omega)
          rw [ew]
          exact congrArg _ (by omega)
        · simp only [intOf]
          have ew : IntKind.i64.wrap ((c : Int) + (k : Int)) = (c : Int) + (k : Int) := IntWalk.i64_in _ (by omega)
          rw [ew]
          omega
      · have hcn2 : c = n := by omega
        subst hcn2
        go_wp2_with fail
        go_ret
        exact ⟨w.heap.size, c, rfl, Nat.le_refl _, HV.out, Nat.le_refl _, HG.out⟩
end Go.Proofs.Ytmfcagcanhmdbaa
