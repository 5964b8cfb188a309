/- slices.IndexFunc and slices.ContainsFunc at Node. Made by mk_func.py. No condition. -/
import Derived.Test.YtbfmeiooeaaibaaGreatFamTree
import Derived.Laws.EntriesVeiled
namespace Go.Proofs.YtbfmeiooeaaibaaGreat
open Go.RowKit
variable {d : Nat}

/-- A function value whose body is a function of the text answers a test on elements. -/
structure TestNode (w : World) (fid : Nat) (cap : Array Value) (p : GNode → Bool) (xs : List GNode) : Prop where
  fn : ∀ args W, (callFunc fid args).run Tryz.prog W = .ok (.enter fid args) W
  calls : ∀ y ∈ xs, ∀ (x : Ext) (fp : List Nat) (cs : Array Value), Rd.rd fp (w.ext x) cs.toList y → Calls Tryz.prog fid (#[.agg cs] ++ cap) (w.ext x) fun e w' => e = .returned (.bool (p y)) ∧ Gr (w.ext x) w'

set_option maxHeartbeats 1000000 in
theorem indexFuncNode_any (fp : List Nat) (u : Value) (xs : List GNode) (fid : Nat) (cap : Array Value) (p : GNode → Bool) (w : World) (hu : SlR fp w u xs) (hf : TestNode w fid cap p xs) :
    Calls Tryz.prog 125 #[u, .func (.func fid) #[] cap] w fun e w' => e = .returned (.int .i64 (idxOf p xs)) ∧ Gr w w' := by
  obtain ⟨a, ca, rfl, h1, h2, h3⟩ := hu.open
  obtain ⟨hfn, hcalls⟩ := hf
  have HC := Lib.hid hcalls
  clear hcalls
  go_enter Tryz.func125, Tryz.ntmps125
  go_wp2
  go_loopw [8, 5] (fun s8 s5 wr => ∃ k : Nat, k ≤ xs.length ∧ (∀ j (h : j < xs.length), j < k → p xs[j] = false) ∧ Gr w wr ∧ s8 = .int .i64 k) (fun s8 s5 _ => xs.length - (intOf s8).toNat)
  case atStart => exact ⟨0, by omega, by omega, Gr.refl w, rfl⟩
  case round =>
    obtain ⟨k, hk, ht, ⟨x, rfl⟩, rfl⟩ := hrel
    have hT := Lib.hid ht
    clear ht
    by_cases hlt : k < xs.length
    · obtain ⟨b, off, rfl, hb⟩ := h3 k hlt
      obtain ⟨csq, feq, hcq, hrq, -⟩ := hu.at hlt
      have hrdq := hrq
      generalize xs[k] = yq at hrq
      obtain ⟨q0, q1, q2, q3, q4, q5⟩ := yq
      obtain ⟨vq5, fq5, hcsq, -, -, -, -, -, -, hq5⟩ := rdNode_inv (cs := csq.toArray) q0 q1 q2 q3 q4 q5 (by simpa using hrq)
      obtain rfl : csq = [.int .i64 q0, .int .i64 q1, .int .i64 q2, .int .i64 q3, .string q4, vq5] := by have := congrArg Array.toList hcsq; simpa using this
      have z0 : w.cell? ⟨b, off + k * 6, none⟩ = some (.int .i64 q0) := by simpa [Rd.n] using hcq 0 _ rfl
      have z1 : w.cell? ⟨b, off + k * 6 + 1, none⟩ = some (.int .i64 q1) := hcq 1 _ rfl
      have z2 : w.cell? ⟨b, off + k * 6 + 2, none⟩ = some (.int .i64 q2) := hcq 2 _ rfl
      have z3 : w.cell? ⟨b, off + k * 6 + 3, none⟩ = some (.int .i64 q3) := hcq 3 _ rfl
      have z4 : w.cell? ⟨b, off + k * 6 + 4, none⟩ = some (.string q4) := hcq 4 _ rfl
      have z5 : w.cell? ⟨b, off + k * 6 + 5, none⟩ = some (vq5) := hcq 5 _ rfl
      clear h3 hcsq hcq hrq
      go_wp2_with fail
      refine (HC.out _ (List.getElem_mem hlt) _ _ _ (Rd.gr hrdq (by repeat (first | exact Gr.refl _ | apply Gr.ext | apply Gr.alloc | apply Gr.drew)))).mono ?_
      rintro e w2 ⟨rfl, x2, rfl⟩
      go_wp2
      · have hx : p xs[k] = true := by assumption
        go_ret
        exact ⟨ret_int (idxOf_at hlt hx hT.out).symm, (by repeat (first | exact Gr.refl _ | apply Gr.ext | apply Gr.alloc | apply Gr.drew))⟩
      · have hx : p xs[k] = false := by assumption
        refine ⟨⟨k + 1, by omega, fun j hj hjk => ?_, (by repeat (first | exact Gr.refl _ | apply Gr.ext | apply Gr.alloc | apply Gr.drew)), by go_num⟩, by simp [intOf]; omega⟩
        by_cases hjk' : j < k
        · exact hT.out j hj hjk'
        · obtain rfl : j = k := by omega
          exact hx
    · go_wp2
      go_ret
      exact ⟨ret_int (idxOf_none fun j hj => hT.out j hj (by omega)).symm, (by repeat (first | exact Gr.refl _ | apply Gr.ext | apply Gr.alloc | apply Gr.drew))⟩

end Go.Proofs.YtbfmeiooeaaibaaGreat
