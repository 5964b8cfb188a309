/- Plain functions: symbols and rules by name, nodes, attributes, the check of a tree, its instances, definitions and sources. The first element that passes a test. What was looked for, and what was found; the empty symbol, rule and attribute. What looks for symbols, rules, attributes and nodes by their names and Ids. Made by mk_look.py. No condition. -/
import Derived.Test.YtmfcagcanhmdbaaE07
import Derived.Test.YtmfcagcanhmdbaaE08
import Derived.Test.YtmfcagcanhmdbaaE10
import Derived.Test.YtmfcagcanhmdbaaE00
namespace Go.Proofs.Ytmfcagcanhmdbaa
open Go.RowKit
variable {d : Nat}

def lookS (ss : List GSymbol) (n : ByteArray) : Option GSymbol := ss.find? fun s => decide (s.1 = n)
def lookR (rs : List (GRule d)) (n : ByteArray) : Option (GRule d) := rs.find? fun r => decide (r.1 = n)
def lookA (xs : List GAttribute) (n : ByteArray) : Option GAttribute := xs.find? fun a => decide (a.1 = n)
def zeroS : GSymbol := (ByteArray.empty, [])
def zeroR : GRule d := (ByteArray.empty, ByteArray.empty, [], false, [], [])
def zeroA : GAttribute := (ByteArray.empty, 0, 0, false)

end Go.Proofs.Ytmfcagcanhmdbaa

namespace Go.Proofs.Ytmfcagcanhmdbaa
open Go.RowKit

theorem find_at {α : Type} {p : α → Bool} {xs : List α} {k : Nat} (hk : k < xs.length) (hp : p xs[k] = true) (h : ∀ j (h : j < xs.length), j < k → p xs[j] = false) : xs.find? p = some xs[k] := by
 induction xs generalizing k with
 | nil => simp at hk
 | cons x xs ih =>
  cases k with
  | zero => simp at hp; simp [hp]
  | succ k =>
   have h0 := h 0 (by simp) (by omega)
   simp at h0
   have := ih (k := k) (by simpa using hk) (by simpa using hp) (fun j hj hjk => by
    have h1 := h (j + 1) (by simp; omega) (by omega)
    rwa [List.getElem_cons_succ] at h1)
   simp [h0, this]

theorem find_none {α : Type} {p : α → Bool} {xs : List α} (h : ∀ j (h : j < xs.length), p xs[j] = false) : xs.find? p = none := by
 rw [List.find?_eq_none]
 intro x hx
 obtain ⟨j, hj, rfl⟩ := List.mem_iff_getElem.1 hx
 simp [h j hj]

theorem SlR.takeK {α : Type} [Rd α] {fp : List Nat} {w : World} {a : Option Addr} {len cap : Nat} {xs : List α} (h : SlR fp w (.slice a len cap) xs) {k : Nat} (hk : k ≤ xs.length) : ∃ fq, SlR fq w (.slice a k cap) (xs.take k) := by
 obtain ⟨a', cap', hv, h1, h2, h3⟩ := h
 injection hv with e1 e2 e3
 subst e1 e3
 have hl : (xs.take k).length = k := by simp; omega
 by_cases h0 : k = 0
 ·subst h0
  exact ⟨[], a, cap, by simp, by simp, by simp, .inl ⟨by simp, rfl⟩⟩
 ·rcases h3 with ⟨rfl, _⟩ | ⟨b, off, fps, hne, rfl, _, hlen, hfr, hx⟩
  ·simp at hk; omega
  ·refine ⟨b :: (fps.take k).flatten, some ⟨b, off, none⟩, cap, by rw [hl], by rw [hl]; omega, by rw [hl]; omega, .inr ⟨b, off, fps.take k, fun e => by rw [e] at hl; simp at hl; omega, rfl, rfl, by simp; omega, fun j hj => hfr j (Nat.lt_of_lt_of_le hj (Nat.mul_le_mul_right _ (by omega))), fun i hi hi' => ?_⟩⟩
   have hik : i < k := by omega
   obtain ⟨cs, hc, hr⟩ := hx i (by omega) (by omega)
   exact ⟨cs, hc, by simpa using hr⟩

end Go.Proofs.Ytmfcagcanhmdbaa

namespace Go.Proofs.Ytmfcagcanhmdbaa
open Go.RowKit
variable {d : Nat}

def Found {α : Type} [Rd α] (fp : List Nat) (w : World) (o : Option α) (z : α) (e : Ending) (w' : World) : Prop :=
 ∃ es fq, e = .returned (.tuple #[.agg es, .bool o.isSome]) ∧ Rd.rd fq w' es.toList (o.getD z) ∧ (∀ c ∈ fq, c ∈ fp ∨ w.heap.size ≤ c) ∧ Gr w w'

def Made {α : Type} [Rd α] (w : World) (x : α) (e : Ending) (w' : World) : Prop :=
 ∃ ds fq, e = .returned (.agg ds) ∧ Rd.rd fq w' ds.toList x ∧ Fresh w fq ∧ Gr w w'

theorem zeroS_rd (w : World) : Rd.rd (α := GSymbol) ([] ++ []) w [.string ByteArray.empty, .slice none 0 0] zeroS := rdSymbol_mk _ _ (by decide) (SlR.nil w)
theorem zeroR_rd (w : World) : Rd.rd (α := GRule d) ([] ++ ([] ++ ([] ++ ([] ++ ([] ++ []))))) w [.string ByteArray.empty, .string ByteArray.empty, .slice none 0 0, .bool false, .slice none 0 0, .slice none 0 0] zeroR :=
 rdRule_mk _ _ _ _ _ _ (by decide) (by decide) (SlR.nil w) (SlR.nil w) (SlR.nil w)
theorem zeroA_rd (w : World) : Rd.rd (α := GAttribute) ([] ++ ([] ++ ([] ++ []))) w [.string ByteArray.empty, .int .i64 0, .int .i64 0, .bool false] zeroA := rdAttribute_mk _ _ _ _ (by decide) (by decide) (by decide)
end Go.Proofs.Ytmfcagcanhmdbaa

namespace Go.Proofs.Ytmfcagcanhmdbaa
open Go.RowKit
variable {d : Nat}

set_option maxRecDepth 10000 in
set_option maxHeartbeats 4000000 in
theorem specFindAttr_any {fx : List Nat} {cx : Array Value} (x : GSymbol) (n : ByteArray) (w : World) (hx : Rd.rd fx w cx.toList x) :
  Calls Try.prog 103 #[.agg cx, .string n] w (Found fx w (lookA x.2 n) zeroA) := by
 have HX := Lib.hid hx
 obtain ⟨x0, x1⟩ := x
 obtain ⟨vx1, fx1, rfl, hfpx, hx0, hx1⟩ := rdSymbol_inv x0 x1 hx
 have FPx := Lib.hid hfpx
 clear hfpx
 obtain ⟨ax1, kx1, rfl, ox11, ox12, ox13⟩ := hx1.open
 clear hx
 go_enter Try.func103, Try.ntmps103
 go_wp2_with fail
 go_loopw [6] (fun s6 wr => ∃ k : Nat, k ≤ x1.length ∧ Hid (∀ j (h : j < x1.length), j < k → decide (x1[j].1 = n) = false) ∧ Gr ((w.alloc (.cells #[.string x0, .slice ax1 x1.length kx1] 133)).alloc (.cells #[.string ByteArray.empty, .int .i64 0, .int .i64 0, .bool false] 145)) wr ∧ s6 = .int .i64 k) (fun s6 _ => x1.length - (intOf s6).toNat)
 case atStart => exact ⟨0, by omega, Lib.hid (by omega), Gr.refl _, rfl⟩
 case round =>
  obtain ⟨k, hk, ht, ⟨y, rfl⟩, rfl⟩ := hrel
  by_cases hlt : k < x1.length
  ·have hlt2 := hlt
   obtain ⟨b, off, rfl, hbb⟩ := ox13 k hlt
   obtain ⟨csq, feq, hcq, hrq, hsb⟩ := hx1.at hlt
   obtain ⟨yq, hyq⟩ : ∃ y, y = x1[k] := ⟨_, rfl⟩
   rw [← hyq] at hrq
   have HYq := Lib.hid hyq
   have HRq := Lib.hid hrq
   obtain ⟨q0, q1, q2, q3⟩ := yq
   obtain ⟨hcsq, -, hq0, hq1, hq2⟩ := rdAttribute_inv (cs := csq.toArray) q0 q1 q2 q3 (by simpa using hrq)
   obtain rfl : csq = [.string q0, .int .i64 q1, .int .i64 q2, .bool q3] := by have := congrArg Array.toList hcsq; simpa using this
   have qz0 : w.cell? ⟨b, off + k * 4, none⟩ = some (.string q0) := by simpa [Rd.n] using hcq 0 _ rfl
   have qz1 : w.cell? ⟨b, off + k * 4 + 1, none⟩ = some (.int .i64 q1) := hcq 1 _ rfl
   have qz2 : w.cell? ⟨b, off + k * 4 + 2, none⟩ = some (.int .i64 q2) := hcq 2 _ rfl
   have qz3 : w.cell? ⟨b, off + k * 4 + 3, none⟩ = some (.bool q3) := hcq 3 _ rfl
   have qzb := blk qz0
   clear hcsq hcq hrq hyq
   have HSB := Lib.hid hsb
   clear hsb
   by_cases hkey : q0 = n
   ·skip
    obtain rfl := hkey
    have hl : lookA x1 q0 = some x1[k] := find_at hlt (by rw [← HYq.out]; simp) ht.out
    have HL := Lib.hid hl
    clear hl
    go_wp2_with fail
    exact bodyPost_ret (v := .tuple #[.agg #[.string q0, .int .i64 q1, .int .i64 q2, .bool q3], .bool true])
     (by simp [results, Try.results103, go_sem]) rfl ⟨_, feq, by rw [HL.out]; rfl, by rw [HL.out, Option.getD_some, ← HYq.out]; exact Rd.gr HRq.out gd, fun c hc => .inl (by rw [FPx.out]; simp only [List.mem_append]; have := HSB.out c hc; simp [this]), gd⟩
   ·have E := Lib.hid hkey
    have e : (q0.toList == n.toList) = false := by simpa using fun e => hkey (str_inj e)
    clear hkey
    go_wp2_with fail
    refine ⟨⟨k + 1, by omega, Lib.hid fun j hj hjk => ?_, gd, by go_num⟩, by simp [intOf]; omega⟩
    by_cases hjk2 : j < k
    ·exact ht.out j hj hjk2
    ·obtain rfl : j = k := by omega
     rw [← HYq.out]
     exact decide_eq_false E.out
  ·have hn : lookA x1 n = none := find_none fun j hj => ht.out j hj (by omega)
   have HL := Lib.hid hn
   clear hn
   go_wp2_with fail
   exact bodyPost_ret (v := .tuple #[.agg #[.string ⟨#[]⟩, .int .i64 0, .int .i64 0, .bool false], .bool false])
    (by simp [results, Try.results103, go_sem]) rfl ⟨_, _, by rw [HL.out]; rfl, by rw [HL.out]; exact zeroA_rd _, by simp, gd⟩

end Go.Proofs.Ytmfcagcanhmdbaa
