/- Symbols and rules by their names: the reference hands back copies. Made by mk_look.py. No condition. -/
import Derived.Test.YtbfmeiooeaaibaaGreatTreeL
import Derived.Test.YtbfmeiooeaaibaaGreatCopy9
namespace Go.Proofs.YtbfmeiooeaaibaaGreat
open Go.RowKit
variable {d : Nat}

set_option maxRecDepth 10000 in
set_option maxHeartbeats 4000000 in
theorem specFindSymbol_any {fx : List Nat} {cx : Array Value} (x : (GGrammar d)) (n : ByteArray) (w : World) (hx : Rd.rd fx w cx.toList x) (hl : wtGrammar x ≤ 1048576) :
    Calls Tryz.prog 82 #[.agg cx, .string n] w (Found fx w (lookS x.1 n) zeroS) := by
  have HX := Lib.hid hx
  obtain ⟨x0, x1⟩ := x
  obtain ⟨vx0, fx0, vx1, fx1, rfl, hfpx, hx0, hx1⟩ := rdGrammar_inv x0 x1 hx
  have FPx := Lib.hid hfpx
  clear hfpx
  obtain ⟨ax0, kx0, rfl, ox01, ox02, ox03⟩ := hx0.open
  obtain ⟨ax1, kx1, rfl, ox11, ox12, ox13⟩ := hx1.open
  clear hx
  have HWT := Lib.hid hl
  clear hl
  go_enter Tryz.func82, Tryz.ntmps82
  go_wp2_with fail
  go_loopw [6] (fun s6 wr => ∃ k : Nat, k ≤ x0.length ∧ Hid (∀ j (h : j < x0.length), j < k → decide (x0[j].1 = n) = false) ∧ Gr ((w.alloc (.cells #[.slice ax0 x0.length kx0, .slice ax1 x1.length kx1] 43)).alloc (.cells #[.string ByteArray.empty, .slice none 0 0] 144)) wr ∧ s6 = .int .i64 k) (fun s6 _ => x0.length - (intOf s6).toNat)
  case atStart => exact ⟨0, by omega, Lib.hid (by omega), Gr.refl _, rfl⟩
  case round =>
    obtain ⟨k, hk, ht, ⟨y, rfl⟩, rfl⟩ := hrel
    by_cases hlt : k < x0.length
    · have hlt2 := hlt
      obtain ⟨b, off, rfl, hbb⟩ := ox03 k hlt
      obtain ⟨csq, feq, hcq, hrq, hsb⟩ := hx0.at hlt
      obtain ⟨yq, hyq⟩ : ∃ y, y = x0[k] := ⟨_, rfl⟩
      rw [← hyq] at hrq
      have HYq := Lib.hid hyq
      have HRq := Lib.hid hrq
      obtain ⟨q0, q1⟩ := yq
      obtain ⟨vq1, fq1, hcsq, -, hq0, hq1⟩ := rdSymbol_inv (cs := csq.toArray) q0 q1 (by simpa using hrq)
      obtain rfl : csq = [.string q0, vq1] := by have := congrArg Array.toList hcsq; simpa using this
      obtain ⟨aq1, kq1, rfl, oq11, oq12, oq13⟩ := hq1.open
      have qz0 : w.cell? ⟨b, off + k * 2, none⟩ = some (.string q0) := by simpa [Rd.n] using hcq 0 _ rfl
      have qz1 : w.cell? ⟨b, off + k * 2 + 1, none⟩ = some (.slice aq1 q1.length kq1) := hcq 1 _ rfl
      have qzb := blk qz0
      clear hcsq hcq hrq hyq
      have HSB := Lib.hid hsb
      clear hsb
      by_cases hkey : q0 = n
      · skip
        obtain rfl := hkey
        have hl : lookS x0 q0 = some x0[k] := find_at hlt (by rw [← HYq.out]; simp) ht.out
        have HL := Lib.hid hl
        clear hl
        have hw : wtSymbol x0[k] ≤ 1048576 := Nat.le_trans (wtL_at wtSymbol x0 hlt) (by have h : wtSymbolS x0 + wtRuleS x1 ≤ 1048576 := HWT.out; exact Nat.le_trans (Nat.le_add_right _ _) h)
        rw [← HYq.out] at hw
        have HW := Lib.hid hw
        clear hw
        go_wp2_with fail
        refine (l10Symbol_any (q0, q1) _ (Rd.gr HRq.out (by repeat (first | exact Gr.refl _ | apply Gr.ext | apply Gr.alloc | apply Gr.drew))) HW.out).mono ?_
        rintro e w' ⟨es, fq, rfl, hr, hf, z1, rfl⟩
        have HR2 := Lib.hid hr
        have HF2 := Lib.hid hf
        obtain ⟨r0, ar1, lr1, kr1, rfl⟩ := rdSymbol_shape hr
        clear hr hf
        go_wp2_with fail
        exact bodyPost_ret (v := .tuple #[.agg #[.string r0, .slice ar1 lr1 kr1], .bool true])
          (by simp [results, Tryz.results82, go_sem]) rfl ⟨_, fq, by rw [HL.out]; rfl, by rw [HL.out, Option.getD_some, ← HYq.out]; exact Rd.moved HR2.out HF2.out (by repeat (first | exact Gr.refl _ | apply Gr.ext | apply Gr.alloc | apply Gr.drew)) (by simp), fun c hc => .inr (Nat.le_trans (by simp <;> omega) (HF2.out.2 c hc)), (by repeat (first | exact Gr.refl _ | apply Gr.ext | apply Gr.alloc | apply Gr.drew))⟩
      · have E := Lib.hid hkey
        have e : (q0.toList == n.toList) = false := by simpa using fun e => hkey (str_inj e)
        clear hkey
        go_wp2_with fail
        refine ⟨⟨k + 1, by omega, Lib.hid fun j hj hjk => ?_, (by repeat (first | exact Gr.refl _ | apply Gr.ext | apply Gr.alloc | apply Gr.drew)), by go_num⟩, by simp [intOf]; omega⟩
        by_cases hjk2 : j < k
        · exact ht.out j hj hjk2
        · obtain rfl : j = k := by omega
          rw [← HYq.out]
          exact decide_eq_false E.out
    · have hn : lookS x0 n = none := find_none fun j hj => ht.out j hj (by omega)
      have HL := Lib.hid hn
      clear hn
      go_wp2_with fail
      exact bodyPost_ret (v := .tuple #[.agg #[.string ⟨#[]⟩, .slice none 0 0], .bool false])
        (by simp [results, Tryz.results82, go_sem]) rfl ⟨_, _, by rw [HL.out]; rfl, by rw [HL.out]; exact zeroS_rd _, by simp, (by repeat (first | exact Gr.refl _ | apply Gr.ext | apply Gr.alloc | apply Gr.drew))⟩

set_option maxRecDepth 10000 in
set_option maxHeartbeats 4000000 in
theorem specFindRule_any {fx : List Nat} {cx : Array Value} (x : (GGrammar d)) (n : ByteArray) (w : World) (hx : Rd.rd fx w cx.toList x) (hl : wtGrammar x ≤ 1048576) :
    Calls Tryz.prog 85 #[.agg cx, .string n] w (Found fx w (lookR x.2 n) zeroR) := by
  have HX := Lib.hid hx
  obtain ⟨x0, x1⟩ := x
  obtain ⟨vx0, fx0, vx1, fx1, rfl, hfpx, hx0, hx1⟩ := rdGrammar_inv x0 x1 hx
  have FPx := Lib.hid hfpx
  clear hfpx
  obtain ⟨ax0, kx0, rfl, ox01, ox02, ox03⟩ := hx0.open
  obtain ⟨ax1, kx1, rfl, ox11, ox12, ox13⟩ := hx1.open
  clear hx
  have HWT := Lib.hid hl
  clear hl
  go_enter Tryz.func85, Tryz.ntmps85
  go_wp2_with fail
  go_loopw [6] (fun s6 wr => ∃ k : Nat, k ≤ x1.length ∧ Hid (∀ j (h : j < x1.length), j < k → decide (x1[j].1 = n) = false) ∧ Gr ((w.alloc (.cells #[.slice ax0 x0.length kx0, .slice ax1 x1.length kx1] 43)).alloc (.cells #[.string ByteArray.empty, .string ByteArray.empty, .slice none 0 0, .bool false, .slice none 0 0, .slice none 0 0] 101)) wr ∧ s6 = .int .i64 k) (fun s6 _ => x1.length - (intOf s6).toNat)
  case atStart => exact ⟨0, by omega, Lib.hid (by omega), Gr.refl _, rfl⟩
  case round =>
    obtain ⟨k, hk, ht, ⟨y, rfl⟩, rfl⟩ := hrel
    by_cases hlt : k < x1.length
    · have hlt2 := hlt
      obtain ⟨b, off, rfl, hbb⟩ := ox13 k hlt
      obtain ⟨csq, feq, hcq, hrq, hsb⟩ := hx1.at hlt
      obtain ⟨yq, hyq⟩ : ∃ y, y = x1[k] := ⟨_, rfl⟩
      rw [← hyq] at hrq
      have HYq := Lib.hid hyq
      have HRq := Lib.hid hrq
      obtain ⟨q0, q1, q2, q3, q4, q5⟩ := yq
      obtain ⟨vq2, fq2, vq4, fq4, vq5, fq5, hcsq, -, hq0, hq1, hq2, hq4, hq5⟩ := rdRule_inv (cs := csq.toArray) q0 q1 q2 q3 q4 q5 (by simpa using hrq)
      obtain rfl : csq = [.string q0, .string q1, vq2, .bool q3, vq4, vq5] := by have := congrArg Array.toList hcsq; simpa using this
      obtain ⟨aq2, kq2, rfl, oq21, oq22, oq23⟩ := hq2.open
      obtain ⟨aq4, kq4, rfl, oq41, oq42, oq43⟩ := hq4.open
      obtain ⟨aq5, kq5, rfl, oq51, oq52, oq53⟩ := hq5.open
      have qz0 : w.cell? ⟨b, off + k * 6, none⟩ = some (.string q0) := by simpa [Rd.n] using hcq 0 _ rfl
      have qz1 : w.cell? ⟨b, off + k * 6 + 1, none⟩ = some (.string q1) := hcq 1 _ rfl
      have qz2 : w.cell? ⟨b, off + k * 6 + 2, none⟩ = some (.slice aq2 q2.length kq2) := hcq 2 _ rfl
      have qz3 : w.cell? ⟨b, off + k * 6 + 3, none⟩ = some (.bool q3) := hcq 3 _ rfl
      have qz4 : w.cell? ⟨b, off + k * 6 + 4, none⟩ = some (.slice aq4 q4.length kq4) := hcq 4 _ rfl
      have qz5 : w.cell? ⟨b, off + k * 6 + 5, none⟩ = some (.slice aq5 q5.length kq5) := hcq 5 _ rfl
      have qzb := blk qz0
      clear hcsq hcq hrq hyq
      have HSB := Lib.hid hsb
      clear hsb
      by_cases hkey : q0 = n
      · skip
        obtain rfl := hkey
        have hl : lookR x1 q0 = some x1[k] := find_at hlt (by rw [← HYq.out]; simp) ht.out
        have HL := Lib.hid hl
        clear hl
        have hw : wtRule x1[k] ≤ 1048576 := Nat.le_trans (wtL_at wtRule x1 hlt) (by have h : wtSymbolS x0 + wtRuleS x1 ≤ 1048576 := HWT.out; exact Nat.le_trans (Nat.le_add_left _ _) h)
        rw [← HYq.out] at hw
        have HW := Lib.hid hw
        clear hw
        go_wp2_with fail
        refine (l9Copy_any (q0, q1, q2, q3, q4, q5) _ (Rd.gr HRq.out (by repeat (first | exact Gr.refl _ | apply Gr.ext | apply Gr.alloc | apply Gr.drew))) HW.out).mono ?_
        rintro e w' ⟨es, fq, rfl, hr, hf, z1, rfl⟩
        have HR2 := Lib.hid hr
        have HF2 := Lib.hid hf
        obtain ⟨r0, r1, ar2, lr2, kr2, r3, ar4, lr4, kr4, ar5, lr5, kr5, rfl⟩ := rdRule_shape hr
        clear hr hf
        go_wp2_with fail
        exact bodyPost_ret (v := .tuple #[.agg #[.string r0, .string r1, .slice ar2 lr2 kr2, .bool r3, .slice ar4 lr4 kr4, .slice ar5 lr5 kr5], .bool true])
          (by simp [results, Tryz.results85, go_sem]) rfl ⟨_, fq, by rw [HL.out]; rfl, by rw [HL.out, Option.getD_some, ← HYq.out]; exact Rd.moved HR2.out HF2.out (by repeat (first | exact Gr.refl _ | apply Gr.ext | apply Gr.alloc | apply Gr.drew)) (by simp), fun c hc => .inr (Nat.le_trans (by simp <;> omega) (HF2.out.2 c hc)), (by repeat (first | exact Gr.refl _ | apply Gr.ext | apply Gr.alloc | apply Gr.drew))⟩
      · have E := Lib.hid hkey
        have e : (q0.toList == n.toList) = false := by simpa using fun e => hkey (str_inj e)
        clear hkey
        go_wp2_with fail
        refine ⟨⟨k + 1, by omega, Lib.hid fun j hj hjk => ?_, (by repeat (first | exact Gr.refl _ | apply Gr.ext | apply Gr.alloc | apply Gr.drew)), by go_num⟩, by simp [intOf]; omega⟩
        by_cases hjk2 : j < k
        · exact ht.out j hj hjk2
        · obtain rfl : j = k := by omega
          rw [← HYq.out]
          exact decide_eq_false E.out
    · have hn : lookR x1 n = none := find_none fun j hj => ht.out j hj (by omega)
      have HL := Lib.hid hn
      clear hn
      go_wp2_with fail
      exact bodyPost_ret (v := .tuple #[.agg #[.string ⟨#[]⟩, .string ⟨#[]⟩, .slice none 0 0, .bool false, .slice none 0 0, .slice none 0 0], .bool false])
        (by simp [results, Tryz.results85, go_sem]) rfl ⟨_, _, by rw [HL.out]; rfl, by rw [HL.out]; exact zeroR_rd _, by simp, (by repeat (first | exact Gr.refl _ | apply Gr.ext | apply Gr.alloc | apply Gr.drew))⟩

end Go.Proofs.YtbfmeiooeaaibaaGreat
