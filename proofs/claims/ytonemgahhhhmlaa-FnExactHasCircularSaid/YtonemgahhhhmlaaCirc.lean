/- HasCircular of the program and of the reference. No condition. -/
import Derived.Test.YtonemgahhhhmlaaFuncSym
import Derived.Test.YtonemgahhhhmlaaFamGram
namespace Go.Proofs.Ytonemgahhhhmlaa
open Go.RowKit
variable {d : Nat}

def circA (a : GAttribute) : Bool := a.2.2.2
def circS (s : GSymbol) : Bool := s.2.any circA
def circG (g : GGrammar d) : Bool := g.1.any circS

theorem isCircular_any (fp : List Nat) (cs : Array Value) (x : GAttribute) (w : World) (hx : Rd.rd fp w cs.toList x) :
    Calls Try.prog 14 #[.agg cs] w fun e w' => e = .returned (.bool (circA x)) ∧ Gr w w' := by
  obtain ⟨q0, q1, q2, q3⟩ := x
  obtain ⟨rfl, -, -, -, -⟩ := rdAttribute_inv q0 q1 q2 q3 hx
  clear hx
  go_enter Try.func14, Try.ntmps14
  go_wp2
  go_ret
  exact ⟨rfl, (by repeat (first | exact Gr.refl _ | apply Gr.ext | apply Gr.alloc | apply Gr.drew))⟩

theorem hasAttrTest_any (fp : List Nat) (cs : Array Value) (x : GSymbol) (b : Nat) (w : World) (hx : Rd.rd fp w cs.toList x) (hc : w.cell? ⟨b, 0, none⟩ = some (.func (.func 14) #[] #[])) :
    Calls Try.prog 22 #[.agg cs, .pointer (some ⟨b, 0, none⟩)] w fun e w' => e = .returned (.bool (circS x)) ∧ Gr w w' := by
  obtain ⟨q0, q1⟩ := x
  obtain ⟨v, f, rfl, -, -, hu⟩ := rdSymbol_inv q0 q1 hx
  have hb := blk hc
  have HU := Lib.hid hu
  obtain ⟨a, c, rfl, -, -, -⟩ := hu.open
  have hT : ∀ w' : World, TestAttribute w' 14 #[] circA q1 := fun w' =>
    ⟨Try.call14, fun y _ x fp cs hy => isCircular_any fp cs y _ hy⟩
  have HT := Lib.hid hT
  clear hx hu hT
  go_enter Try.func22, Try.ntmps22
  go_wp2_with fail
  refine (containsFuncAttribute_any _ _ q1 _ _ _ _ (HU.out.gr (by repeat (first | exact Gr.refl _ | apply Gr.ext | apply Gr.alloc | apply Gr.drew))) (HT.out _)).mono ?_
  rintro e w1 ⟨rfl, x1, rfl⟩
  go_wp2_with fail
  go_ret
  exact ⟨rfl, (by repeat (first | exact Gr.refl _ | apply Gr.ext | apply Gr.alloc | apply Gr.drew))⟩

set_option maxHeartbeats 1000000 in
theorem hasAttribute_any (fp : List Nat) (cs : Array Value) (x : GGrammar d) (w : World) (hx : Rd.rd fp w cs.toList x) :
    Calls Try.prog 13 #[.agg cs, .func (.func 14) #[] #[]] w fun e w' => e = .returned (.bool (circG x)) ∧ Gr w w' := by
  obtain ⟨x0, x1⟩ := x
  obtain ⟨v0, f0, v1, f1, rfl, -, hu, hv⟩ := rdGrammar_inv x0 x1 hx
  have HU := Lib.hid hu
  obtain ⟨a0, c0, rfl, -, -, -⟩ := hu.open
  obtain ⟨a1, c1, rfl, -, -, -⟩ := hv.open
  clear hx hu hv
  have hT : ∀ w' : World, TestSymbol ((w.alloc (.cells #[.slice a0 x0.length c0, .slice a1 x1.length c1] 31)).alloc (.cells #[.func (.func 14) #[] #[]] 45)) 22 #[.pointer (some ⟨w.heap.size + 1, 0, none⟩)] circS x0 := fun _ =>
    ⟨Try.call22, fun y _ x fp cs hy => hasAttrTest_any fp cs y (w.heap.size + 1) _ hy (Gr.keep (Gr.ext (Gr.refl _) x) (box_cell (by simp) rfl))⟩
  have HT := Lib.hid (hT w)
  clear hT
  go_enter Try.func13, Try.ntmps13
  go_wp2_with fail
  refine (containsFuncSymbol_any _ _ x0 _ _ _ _ (HU.out.gr (by repeat (first | exact Gr.refl _ | apply Gr.ext | apply Gr.alloc | apply Gr.drew))) HT.out).mono ?_
  rintro e w1 ⟨rfl, y1, rfl⟩
  go_wp2_with fail
  go_ret
  exact ⟨rfl, (by repeat (first | exact Gr.refl _ | apply Gr.ext | apply Gr.alloc | apply Gr.drew))⟩

theorem implCirc_any (fp : List Nat) (cs : Array Value) (x : GGrammar d) (w : World) (hx : Rd.rd fp w cs.toList x) :
    Calls Try.prog 7 #[.agg cs] w fun e w' => e = .returned (.bool (circG x)) ∧ Gr w w' := by
  have HX := Lib.hid hx
  obtain ⟨a0, l0, c0, a1, l1, c1, rfl⟩ := rdGrammar_shape hx
  clear hx
  go_enter Try.func7, Try.ntmps7
  go_wp2_with fail
  refine (hasAttribute_any _ _ x _ (Rd.gr HX.out (by repeat (first | exact Gr.refl _ | apply Gr.ext | apply Gr.alloc | apply Gr.drew)))).mono ?_
  rintro e w1 ⟨rfl, y1, rfl⟩
  go_wp2_with fail
  go_ret
  exact ⟨rfl, (by repeat (first | exact Gr.refl _ | apply Gr.ext | apply Gr.alloc | apply Gr.drew))⟩

theorem any_at {α : Type} {p : α → Bool} {xs : List α} {k : Nat} (hk : k < xs.length) (h : p xs[k] = true) : xs.any p = true := List.any_eq_true.2 ⟨_, List.getElem_mem hk, h⟩
theorem any_no {α : Type} {p : α → Bool} {xs : List α} (h : ∀ j (hj : j < xs.length), p xs[j] = false) : xs.any p = false := by
  rw [List.any_eq_false]
  intro y hy
  obtain ⟨j, hj, rfl⟩ := List.mem_iff_getElem.1 hy
  simp [h j hj]

set_option maxRecDepth 10000 in
set_option maxHeartbeats 4000000 in
theorem specCirc_any (fp : List Nat) (cs : Array Value) (x : GGrammar d) (w : World) (hx : Rd.rd fp w cs.toList x) :
    Calls Try.prog 5 #[.agg cs] w fun e w' => e = .returned (.bool (circG x)) ∧ Gr w w' := by
  obtain ⟨xs, x1⟩ := x
  obtain ⟨v0, f0, v1, f1, rfl, -, hu, hv⟩ := rdGrammar_inv xs x1 hx
  obtain ⟨a0, c0, rfl, h1, h2, h3⟩ := hu.open
  obtain ⟨a1, c1, rfl, -, -, -⟩ := hv.open
  clear hx hv
  go_enter Try.func5, Try.ntmps5
  go_wp2_with fail
  go_loopw [3] (fun s3 wr => ∃ i : Nat, i ≤ xs.length ∧ Hid (∀ j (h : j < xs.length), j < i → circS xs[j] = false) ∧ wr = w.alloc (.cells #[.slice a0 xs.length c0, .slice a1 x1.length c1] 31) ∧ s3 = .int .i64 i) (fun s3 _ => xs.length - (intOf s3).toNat)
  case atStart => exact ⟨0, by omega, Lib.hid (by omega), rfl, rfl⟩
  case round =>
    obtain ⟨i, hi, ht, rfl, rfl⟩ := hrel
    by_cases hlt : i < xs.length
    · obtain ⟨b, off, rfl, hb⟩ := h3 i hlt
      obtain ⟨csq, feq, hcq, hrq, -⟩ := hu.at hlt
      obtain ⟨y, hy⟩ : ∃ y, y = xs[i] := ⟨_, rfl⟩
      rw [← hy] at hrq
      have HY := Lib.hid hy
      obtain ⟨q0, q1⟩ := y
      obtain ⟨vq1, fq1, hcsq, -, -, hq1⟩ := rdSymbol_inv (cs := csq.toArray) q0 q1 (by simpa using hrq)
      obtain rfl : csq = [.string q0, vq1] := by have := congrArg Array.toList hcsq; simpa using this
      obtain ⟨aq, cq, rfl, k1, k2, k3⟩ := hq1.open
      have z1 : w.cell? ⟨b, off + i * 2 + 1, none⟩ = some (.slice aq q1.length cq) := hcq 1 _ rfl
      clear h3 hcsq hcq hrq hy
      go_wp2_with fail
      go_loopw [4] (fun s4 wr => ∃ k : Nat, k ≤ q1.length ∧ Hid (∀ j (h : j < q1.length), j < k → circA q1[j] = false) ∧ wr = w.alloc (.cells #[.slice (some ⟨b, off, none⟩) xs.length c0, .slice a1 x1.length c1] 31) ∧ s4 = .int .i64 k) (fun s4 _ => q1.length - (intOf s4).toNat)
      case atStart => exact ⟨0, by omega, Lib.hid (by omega), rfl, rfl⟩
      case round =>
        obtain ⟨k, hk, hk2, rfl, rfl⟩ := hrel
        by_cases hkl : k < q1.length
        · obtain ⟨bq, oq, rfl, hbq⟩ := k3 k hkl
          obtain ⟨csp, fep, hcp, hrp, -⟩ := hq1.at hkl
          obtain ⟨z, hz⟩ : ∃ z, z = q1[k] := ⟨_, rfl⟩
          rw [← hz] at hrp
          have HZ := Lib.hid hz
          obtain ⟨p0, p1, p2, p3⟩ := z
          obtain ⟨hcsp, -, -, -, -⟩ := rdAttribute_inv (cs := csp.toArray) p0 p1 p2 p3 (by simpa using hrp)
          obtain rfl : csp = [.string p0, .int .i64 p1, .int .i64 p2, .bool p3] := by have := congrArg Array.toList hcsp; simpa using this
          have y3 : w.cell? ⟨bq, oq + k * 4 + 3, none⟩ = some (.bool p3) := hcp 3 _ rfl
          clear k3 hcsp hcp hrp hz
          cases p3 with
          | true =>
            go_wp2_with fail
            go_ret
            refine ⟨ret_bool (any_at hlt ?_).symm, (by repeat (first | exact Gr.refl _ | apply Gr.ext | apply Gr.alloc | apply Gr.drew))⟩
            rw [← HY.out]
            exact any_at (p := circA) hkl (by rw [← HZ.out]; rfl)
          | false =>
            go_wp2_with fail
            refine ⟨⟨k + 1, by omega, Lib.hid fun j hj hjk => ?_, (by trivial), by go_num⟩, by simp [intOf]; omega⟩
            by_cases hjk2 : j < k
            · exact hk2.out j hj hjk2
            · obtain rfl : j = k := by omega
              rw [← HZ.out]; rfl
        · go_wp2_with fail
          refine ⟨⟨i + 1, by omega, Lib.hid fun j hj hji => ?_, (by trivial), by go_num⟩, by simp [intOf]; omega⟩
          by_cases hji2 : j < i
          · exact ht.out j hj hji2
          · obtain rfl : j = i := by omega
            rw [← HY.out]
            exact any_no (p := circA) (xs := q1) fun m hm => hk2.out m hm (by omega)
    · go_wp2_with fail
      go_ret
      exact ⟨ret_bool (any_no fun j hj => ht.out j hj (by omega)).symm, (by repeat (first | exact Gr.refl _ | apply Gr.ext | apply Gr.alloc | apply Gr.drew))⟩
end Go.Proofs.Ytonemgahhhhmlaa
