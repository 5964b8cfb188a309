/- The marks' texts. No condition. -/
import Derived.Test.YtmfcagcanhmdbaaMarkBase
import Derived.Test.YtmfcagcanhmdbaaIntsD
import Derived.Laws.IdiomStrings
namespace Go.Proofs.Ytmfcagcanhmdbaa
open Go.RowKit

/-- The digits of a number, none for zero. -/
def dig (n : Nat) : List UInt8 := if _h : n = 0 then [] else dig (n / 10) ++ [UInt8.ofNat (48 + n % 10)]
termination_by n
decreasing_by omega

theorem dig_zero : dig 0 = [] := by rw [dig]; rfl
theorem dig_pos {n : Nat} (h : 0 < n) : dig n = dig (n / 10) ++ [UInt8.ofNat (48 + n % 10)] := by rw [dig, dif_neg (by omega)]
theorem dig_len (n : Nat) : (dig n).length ≤ n := by
  induction n using Nat.strongRecOn with
  | _ n ih =>
    by_cases h : n = 0
    · subst h; simp [dig_zero]
    · rw [dig_pos (by omega)]
      have := ih (n / 10) (by omega)
      simp
      omega

/-- The text of a mark. -/
def mtx (k : Int) : ByteArray := if k ≤ 0 then ⟨#[109, 48]⟩ else ⟨(109 :: dig k.toNat).toArray⟩

theorem mtx_size (k : Int) (h : k ≤ 140737488351231) : (mtx k).size ≤ maxLen := by
  unfold mtx maxLen
  split
  · show 2 ≤ _; omega
  · have := dig_len k.toNat
    show (109 :: dig k.toNat).toArray.size ≤ _
    simp
    omega

set_option maxRecDepth 10000 in
set_option maxHeartbeats 1000000 in
theorem markText_any (k : Int) (w : World) (h0 : 0 < k) (h1 : k ≤ 4398046511104) :
    Calls Try.prog 75 #[.int .i64 k] w fun e w' => e = .returned (.string (mtx k)) ∧ Gr w w' := by
  obtain ⟨n0, rfl⟩ : ∃ n : Nat, k = n := ⟨k.toNat, by omega⟩
  go_enter Try.func75, Try.ntmps75
  go_wp2
  go_loopw [0, 3] (fun s0 s3 wr => ∃ (n : Nat) (o : List UInt8), n + o.length ≤ n0 ∧ dig n ++ o = dig n0 ∧ Gr w wr ∧ s0 = .int .i64 n ∧ s3 = .string ⟨o.toArray⟩) (fun s0 _ _ => (intOf s0).toNat)
  case atStart => exact ⟨n0, [], by simp, by simp, Gr.refl w, rfl, rfl⟩
  case round =>
    obtain ⟨n, o, hn, hd, ⟨x, rfl⟩, rfl, rfl⟩ := hrel
    have HD := Lib.hid hd
    clear hd
    by_cases hlt : 0 < n
    · have b1 : (n : Int) ≤ 4398046511104 := by omega
      have hb2 : ¬ 9223372036854775807 < 1 + o.length := by omega
      clear h1
      have kc := run_convert_bytes_back (P := Try.prog) ((w.ext x).alloc (.cells #[.int .u8 (48 + (n : Int) % 10)] 5)) 45 9 5 ⟨w.heap.size + x.objs.size, 0, none⟩ 1 [UInt8.ofNat (48 + n % 10)]
        Try.underlying45 Try.underlying5 Try.underlying9 (fun j hj => by
          obtain rfl : j = 0 := by simpa using hj
          rw [show (⟨w.heap.size + x.objs.size, 0, none⟩ : Addr).add 0 = ⟨w.heap.size + x.objs.size, 0, none⟩ by simp [Addr.add]]
          rw [box_cell (by simp) (v := .int .u8 (48 + (n : Int) % 10)) rfl]
          simp
          omega)
      simp only [List.length_cons, List.length_nil, Nat.zero_add] at kc
      obtain ⟨c, hc⟩ : ∃ c, UInt8.ofNat (48 + n % 10) = c := ⟨_, rfl⟩
      rw [hc] at kc
      have HC := Lib.hid hc
      clear hc
      have hs0 : (⟨#[c]⟩ : ByteArray).size = 1 := rfl
      have hs1 : (⟨o.toArray⟩ : ByteArray).size = o.length := by show o.toArray.size = _; simp
      go_wp2
      refine ⟨⟨n / 10, c :: o, by simp; omega, ?_, (by repeat (first | exact Gr.refl _ | apply Gr.ext | apply Gr.alloc | apply Gr.drew)), by go_num, ?_⟩, by simp [intOf]; omega⟩
      · rw [← HD.out, dig_pos hlt, HC.out]; simp
      · exact congrArg Value.string (ByteArray.ext (by simp))
    · have hs1 : (⟨o.toArray⟩ : ByteArray).size = o.length := by show o.toArray.size = _; simp
      have hn0 : n = 0 := by omega
      subst hn0
      go_wp2
      go_ret
      refine ⟨congrArg (fun s => Ending.returned (.string s)) ?_, (by repeat (first | exact Gr.refl _ | apply Gr.ext | apply Gr.alloc | apply Gr.drew))⟩
      have hd := HD.out
      rw [dig_zero, List.nil_append] at hd
      unfold mtx
      rw [if_neg (by omega), Int.toNat_natCast, hd]
      exact ByteArray.ext (by simp)
end Go.Proofs.Ytmfcagcanhmdbaa
