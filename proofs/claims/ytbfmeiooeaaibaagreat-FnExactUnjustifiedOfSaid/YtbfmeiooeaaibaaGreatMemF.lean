/- findEntry: the first entry of an instance, in the memo's memory. No condition. -/
import Derived.Test.YtbfmeiooeaaibaaGreatFamEntry
import Derived.Test.YtbfmeiooeaaibaaGreatAppendGr
import Derived.Test.YtbfmeiooeaaibaaGreatFindA
namespace Go.Proofs.YtbfmeiooeaaibaaGreat
open Go.RowKit

/-- The first entry of an instance. -/
def lookE (es : List GEntry) (x : GInstance) : Option GEntry := es.find? (fun e => decide (e.1 = x))
/-- The empty entry. -/
def zeroE : GEntry := ((0, ByteArray.empty), 0, 0, 0, ByteArray.empty, [], [], [])

theorem zeroE_rd (w : World) : Rd.rd (α := GEntry) (([] ++ []) ++ ([] ++ ([] ++ ([] ++ ([] ++ ([] ++ ([] ++ []))))))) w [.int .i64 0, .string ByteArray.empty, .int .i64 0, .int .i64 0, .int .i64 0, .string ByteArray.empty, .slice none 0 0, .slice none 0 0, .slice none 0 0] zeroE :=
  rdEntry_mk 0 ByteArray.empty 0 0 0 ByteArray.empty [] [] [] (by decide) (by decide) (by decide) (by decide) (by decide) (by decide) (SlR.nil w) (SlR.nil w) (SlR.nil w)

def foundAt (w : World) (fp : List Nat) (o : Option GEntry) (e : Ending) (w' : World) : Prop :=
  ∃ es fq, e = .returned (.tuple #[.agg es, .bool o.isSome]) ∧ Rd.rd fq w' es.toList (o.getD zeroE) ∧ (∀ c ∈ fq, c ∈ fp) ∧ Gr w w'

set_option maxRecDepth 10000 in
set_option maxHeartbeats 4000000 in
theorem findEntry_any (fp fi : List Nat) (cs ds : Array Value) (m : GMemo) (x : GInstance) (w : World) (hx : Rd.rd fp w cs.toList m) (hi : Rd.rd fi w ds.toList x) :
    Calls Tryz.prog 68 #[.agg cs, .agg ds] w (foundAt w fp (lookE m.1 x)) := by
  obtain ⟨xs, x2⟩ := m
  obtain ⟨p0, p1⟩ := x
  obtain ⟨v0, f0, v1, f1, rfl, hfp, hu0, hu1⟩ := rdMemo_inv xs x2 hx
  obtain ⟨rfl, -, hp0, hp1⟩ := rdInstance_inv p0 p1 hi
  obtain ⟨a0, c0, rfl, op1, op2, op3⟩ := hu0.open
  obtain ⟨a1, c1, rfl, -, -, -⟩ := hu1.open
  have HFP := Lib.hid hfp
  clear hx hi hfp
  go_enter Tryz.func68, Tryz.ntmps68
  go_wp2_with fail
  go_loopw [11, 7] (fun s11 s7 wr => ∃ k : Nat, k ≤ xs.length ∧ Hid (∀ j (h : j < xs.length), j < k → decide (xs[j].1 = (p0, p1)) = false) ∧ Gr (((w.alloc (.cells #[.slice a0 xs.length c0, .slice a1 x2.length c1] 66)).alloc (.cells #[.int .i64 p0, .string p1] 34)).alloc (.cells #[.int .i64 0, .string ByteArray.empty, .int .i64 0, .int .i64 0, .int .i64 0, .string ByteArray.empty, .slice none 0 0, .slice none 0 0, .slice none 0 0] 38)) wr ∧ s11 = .int .i64 k) (fun s11 _ _ => xs.length - (intOf s11).toNat)
  case atStart => exact ⟨0, by omega, Lib.hid (by omega), Gr.refl _, rfl⟩
  case round =>
    obtain ⟨k, hk, ht, ⟨y, rfl⟩, rfl⟩ := hrel
    by_cases hlt : k < xs.length
    · obtain ⟨b, off, rfl, hb⟩ := op3 k hlt
      obtain ⟨csq, feq, hcq, hrq, hsq⟩ := hu0.at hlt
      have hrdq := hrq
      obtain ⟨yq, hyq⟩ : ∃ y, y = xs[k] := ⟨_, rfl⟩
      rw [← hyq] at hrq
      have HY := Lib.hid hyq
      obtain ⟨⟨q00, q01⟩, q1, q2, q3, q4, q5, q6, q7⟩ := yq
      obtain ⟨vq5, fq5, vq6, fq6, vq7, fq7, hcsq, -, -, -, -, -, -, -, hq5, hq6, hq7⟩ := rdEntry_inv (cs := csq.toArray) q00 q01 q1 q2 q3 q4 q5 q6 q7 (by simpa using hrq)
      obtain rfl : csq = [.int .i64 q00, .string q01, .int .i64 q1, .int .i64 q2, .int .i64 q3, .string q4, vq5, vq6, vq7] := by have := congrArg Array.toList hcsq; simpa using this
      obtain ⟨aq5, cq5, rfl, -, -, -⟩ := hq5.open
      obtain ⟨aq6, cq6, rfl, -, -, -⟩ := hq6.open
      obtain ⟨aq7, cq7, rfl, -, -, -⟩ := hq7.open
      have qz0 : w.cell? ⟨b, off + k * 9, none⟩ = some (.int .i64 q00) := by simpa [Rd.n] using hcq 0 _ rfl
      have qz1 : w.cell? ⟨b, off + k * 9 + 1, none⟩ = some (.string q01) := hcq 1 _ rfl
      have qz2 : w.cell? ⟨b, off + k * 9 + 2, none⟩ = some (.int .i64 q1) := hcq 2 _ rfl
      have qz3 : w.cell? ⟨b, off + k * 9 + 3, none⟩ = some (.int .i64 q2) := hcq 3 _ rfl
      have qz4 : w.cell? ⟨b, off + k * 9 + 4, none⟩ = some (.int .i64 q3) := hcq 4 _ rfl
      have qz5 : w.cell? ⟨b, off + k * 9 + 5, none⟩ = some (.string q4) := hcq 5 _ rfl
      have qz6 : w.cell? ⟨b, off + k * 9 + 6, none⟩ = some (.slice aq5 q5.length cq5) := hcq 6 _ rfl
      have qz7 : w.cell? ⟨b, off + k * 9 + 7, none⟩ = some (.slice aq6 q6.length cq6) := hcq 7 _ rfl
      have qz8 : w.cell? ⟨b, off + k * 9 + 8, none⟩ = some (.slice aq7 q7.length cq7) := hcq 8 _ rfl
      have HS := Lib.hid hsq
      have HR := Lib.hid hrdq
      clear op3 hcq hrq hcsq hq5 hq6 hq7 hyq hsq hrdq
      have hcase : (q00 = p0 ∧ q01 = p1) ∨ (q00 ≠ p0) ∨ (q00 = p0 ∧ q01.toList ≠ p1.toList) :=
        (Classical.em (q00 = p0)).elim (fun t0 => (Classical.em (q01 = p1)).elim (fun t1 => .inl ⟨t0, t1⟩) (fun t1 => .inr (.inr ⟨t0, fun e => t1 (str_inj e)⟩))) (fun t0 => .inr (.inl t0))
      rcases hcase with ⟨rfl, rfl⟩ | e | ⟨rfl, e⟩
      · have hl : lookE xs (q00, q01) = some xs[k] := find_at hlt (by rw [← HY.out]; simp) ht.out
        have HL := Lib.hid hl
        clear hl
        go_wp2_with fail
        exact bodyPost_ret (v := .tuple #[.agg #[.int .i64 q00, .string q01, .int .i64 q1, .int .i64 q2, .int .i64 q3, .string q4, .slice aq5 q5.length cq5, .slice aq6 q6.length cq6, .slice aq7 q7.length cq7], .bool true])
          (by simp [results, Tryz.results68, go_sem]) rfl ⟨_, feq, by rw [HL.out]; rfl, by rw [HL.out]; exact Rd.gr HR.out (by repeat (first | exact Gr.refl _ | apply Gr.ext | apply Gr.alloc | apply Gr.drew)), fun c hc => by rw [HFP.out]; exact List.mem_append_left _ (HS.out c hc), (by repeat (first | exact Gr.refl _ | apply Gr.ext | apply Gr.alloc | apply Gr.drew))⟩
      all_goals
      · have E := Lib.hid e
        go_wp2_with fail
        refine ⟨⟨k + 1, by omega, Lib.hid fun j hj hjk => ?_, (by repeat (first | exact Gr.refl _ | apply Gr.ext | apply Gr.alloc | apply Gr.drew)), by go_num⟩, by simp [intOf]; omega⟩
        by_cases hjk2 : j < k
        · exact ht.out j hj hjk2
        · obtain rfl : j = k := by omega
          rw [← HY.out]
          refine decide_eq_false fun h => E.out ?_
          simp only [Prod.mk.injEq, true_and] at h
          simp [h]
    · have hn : lookE xs (p0, p1) = none := find_none fun j hj => ht.out j hj (by omega)
      have HL := Lib.hid hn
      clear hn
      go_wp2_with fail
      exact bodyPost_ret (v := .tuple #[.agg #[.int .i64 0, .string ⟨#[]⟩, .int .i64 0, .int .i64 0, .int .i64 0, .string ⟨#[]⟩, .slice none 0 0, .slice none 0 0, .slice none 0 0], .bool false])
        (by simp [results, Tryz.results68, go_sem]) rfl ⟨_, _, by rw [HL.out]; rfl, by rw [HL.out]; exact zeroE_rd _, by simp, (by repeat (first | exact Gr.refl _ | apply Gr.ext | apply Gr.alloc | apply Gr.drew))⟩
end Go.Proofs.YtbfmeiooeaaibaaGreat
