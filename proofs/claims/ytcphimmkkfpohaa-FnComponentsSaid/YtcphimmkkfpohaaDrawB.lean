/- A new cursor; a table drawn. No condition. -/
import Derived.Test.YtcphimmkkfpohaaDrawA
import Derived.Deep.LoopGhost
namespace Go.Proofs.Ytcphimmkkfpohaa
open Go.RowKit

theorem and_bd (n m : Int) : -9223372036854775808 ≤ bits .and .i64 n m ∧ bits .and .i64 n m ≤ 9223372036854775807 := by
  show -9223372036854775808 ≤ IntKind.i64.wrap _ ∧ IntKind.i64.wrap _ ≤ 9223372036854775807
  rw [IntKind.wrap_i64]
  omega

def In64 (h : Int) : Prop := -9223372036854775808 ≤ h ∧ h ≤ 9223372036854775807

def CurNew (w : World) (e : Ending) (w' : World) : Prop := ∃ b, e = .returned (.pointer (some ⟨b, 0, none⟩)) ∧ CurR w' b ∧ w.heap.size ≤ b ∧ Gr w w'

set_option maxRecDepth 10000 in
set_option maxHeartbeats 4000000 in
theorem l1New_any (fp : List Nat) (u : Value) (code : List U8) (w : World) (hu : SlR fp w u code) (hlen : code.length ≤ 1048576) : Calls Try.prog 32 #[u] w (CurNew w) := by
  have HU := Lib.hid hu
  obtain ⟨a, c, rfl, k1, k2, k3⟩ := hu.open
  clear hu
  go_enter Try.func32, Try.ntmps32
  go_wp2_with fail
  go_loopg [3, 4] code.length (fun gg s3 s4 wr => ∃ (k : Nat) (h : Int), wr = w ∧ s3 = .int .i64 h ∧ Hid (In64 h) ∧ s4 = .int .i64 k ∧ k ≤ code.length ∧ code.length - k ≤ gg)
  case atStart => exact ⟨0, 26583 + code.length, rfl, by first | rfl | go_num, Lib.hid (by unfold In64; omega), rfl, by omega, by omega⟩
  case round =>
    obtain ⟨k, h, rfl, rfl, HH, rfl, hk, hgg⟩ := hrel
    rename World => w
    by_cases hlt : k < code.length
    · by_cases h4 : (k : Int) < 4000
      · have h4d : decide ((k : Int) < 4000) = true := decide_eq_true h4
        clear h4
        obtain ⟨bc, oc, rfl, hbc⟩ := k3 k hlt
        obtain ⟨hc8, hc80, hc81⟩ := HU.out.u8_at hlt
        generalize code[k].val = y at hc8 hc80 hc81
        have z8 := blk hc8
        clear k3
        go_wp2_with fail
        go_roundg (code.length - (k + 1))
        case measure => omega
        case rel => exact ⟨k + 1, _, rfl, rfl, Lib.hid (and_bd _ _), by go_num, by omega, by omega⟩
      · have h4d : decide ((k : Int) < 4000) = false := decide_eq_false h4
        clear k3 h4
        go_wp2_with fail
        go_ret
        exact ⟨w.heap.size, rfl, ⟨a, c, code, 0, h, fp, heap_alloc_new w _, HU.out.gr (by repeat (first | exact Gr.refl _ | apply Gr.ext | apply Gr.alloc | apply Gr.drew)), fun x hx => HU.out.lt x hx, by omega, HH.out.1, HH.out.2⟩, Nat.le_refl _, (by repeat (first | exact Gr.refl _ | apply Gr.ext | apply Gr.alloc | apply Gr.drew))⟩
    · clear k3
      go_wp2_with fail
      go_ret
      exact ⟨w.heap.size, rfl, ⟨a, c, code, 0, h, fp, heap_alloc_new w _, HU.out.gr (by repeat (first | exact Gr.refl _ | apply Gr.ext | apply Gr.alloc | apply Gr.drew)), fun x hx => HU.out.lt x hx, by omega, HH.out.1, HH.out.2⟩, Nat.le_refl _, (by repeat (first | exact Gr.refl _ | apply Gr.ext | apply Gr.alloc | apply Gr.drew))⟩

theorem Wr.new {fp fq : List Nat} {a c d : World} (h : Wr fp a c) (k : Wr fq c d) (hn : ∀ x ∈ fq, a.heap.size ≤ x) : Wr fp a d :=
  ⟨k.os.trans h.os, k.tape.trans h.tape, k.output.trans h.output, Nat.le_trans h.size k.size, Nat.le_trans h.drawn k.drawn,
    fun x hx hm => (k.block x (Nat.lt_of_lt_of_le hx h.size) (fun e => by have := hn x e; omega)).trans (h.block x hx hm)⟩

/-- A world with its first n blocks alone. -/
def _root_.Go.World.first (w : World) (n : Nat) : World := { w with heap := w.heap.extract 0 n }
theorem size_first {w : World} {n : Nat} (h : n ≤ w.heap.size) : (w.first n).heap.size = n := by
  simp [World.first]; omega
theorem gr_first {w : World} {n : Nat} (h : n ≤ w.heap.size) : Gr (w.first n) w := by
  refine Gr.of_below ⟨rfl, rfl, rfl, by rw [size_first h]; exact h, fun b hb => ?_⟩ (Nat.le_refl _)
  rw [size_first h] at hb
  simp [World.first, Array.getElem?_extract]
  intro hn
  omega
end Go.Proofs.Ytcphimmkkfpohaa
