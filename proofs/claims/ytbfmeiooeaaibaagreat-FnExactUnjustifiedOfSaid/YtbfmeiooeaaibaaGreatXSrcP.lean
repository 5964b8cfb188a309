/- slices.IndexFunc and slices.ContainsFunc at Rule. Made by mk_func.py. Sources of instances, plainly; the test on rules. The index of a rule by its name: the reference. Made by mk_rulx.py. No condition. -/
import Derived.Test.YtbfmeiooeaaibaaGreatFamGram
import Derived.Laws.EntriesVeiled
import Derived.Test.YtbfmeiooeaaibaaGreatXNid
namespace Go.Proofs.YtbfmeiooeaaibaaGreat
open Go.RowKit
variable {d : Nat}

/-- A function value whose body is a function of the text answers a test on elements. -/
structure TestRule (w : World) (fid : Nat) (cap : Array Value) (p : (GRule d) → Bool) (xs : List (GRule d)) : Prop where
  fn : ∀ args W, (callFunc fid args).run Tryz.prog W = .ok (.enter fid args) W
  calls : ∀ y ∈ xs, ∀ (x : Ext) (fp : List Nat) (cs : Array Value), Rd.rd fp (w.ext x) cs.toList y → Calls Tryz.prog fid (#[.agg cs] ++ cap) (w.ext x) fun e w' => e = .returned (.bool (p y)) ∧ Gr (w.ext x) w'

set_option maxHeartbeats 1000000 in
theorem indexFuncRule_any (fp : List Nat) (u : Value) (xs : List (GRule d)) (fid : Nat) (cap : Array Value) (p : (GRule d) → Bool) (w : World) (hu : SlR fp w u xs) (hf : TestRule w fid cap p xs) :
    Calls Tryz.prog 43 #[u, .func (.func fid) #[] cap] w fun e w' => e = .returned (.int .i64 (idxOf p xs)) ∧ Gr w w' := by
  obtain ⟨a, ca, rfl, h1, h2, h3⟩ := hu.open
  obtain ⟨hfn, hcalls⟩ := hf
  have HC := Lib.hid hcalls
  clear hcalls
  go_enter Tryz.func43, Tryz.ntmps43
  go_wp2
  go_loopw [8, 5] (fun s8 s5 wr => ∃ k : Nat, k ≤ xs.length ∧ (∀ j (h : j < xs.length), j < k → p xs[j] = false) ∧ Gr w wr ∧ s8 = .int .i64 k) (fun s8 s5 _ => xs.length - (intOf s8).toNat)
  case atStart => exact ⟨0, by omega, by omega, Gr.refl w, rfl⟩
  case round =>
    obtain ⟨k, hk, ht, ⟨x, rfl⟩, rfl⟩ := hrel
    have hT := Lib.hid ht
    clear ht
    by_cases hlt : k < xs.length
    · obtain ⟨b, off, rfl, hb⟩ := h3 k hlt
      obtain ⟨csq, feq, hcq, hrq, -⟩ := hu.at hlt
      have hrdq := hrq
      generalize xs[k] = yq at hrq
      obtain ⟨q0, q1, q2, q3, q4, q5⟩ := yq
      obtain ⟨vq2, fq2, vq4, fq4, vq5, fq5, hcsq, -, -, -, hq2, hq4, hq5⟩ := rdRule_inv (cs := csq.toArray) q0 q1 q2 q3 q4 q5 (by simpa using hrq)
      obtain rfl : csq = [.string q0, .string q1, vq2, .bool q3, vq4, vq5] := by have := congrArg Array.toList hcsq; simpa using this
      have z0 : w.cell? ⟨b, off + k * 6, none⟩ = some (.string q0) := by simpa [Rd.n] using hcq 0 _ rfl
      have z1 : w.cell? ⟨b, off + k * 6 + 1, none⟩ = some (.string q1) := hcq 1 _ rfl
      have z2 : w.cell? ⟨b, off + k * 6 + 2, none⟩ = some (vq2) := hcq 2 _ rfl
      have z3 : w.cell? ⟨b, off + k * 6 + 3, none⟩ = some (.bool q3) := hcq 3 _ rfl
      have z4 : w.cell? ⟨b, off + k * 6 + 4, none⟩ = some (vq4) := hcq 4 _ rfl
      have z5 : w.cell? ⟨b, off + k * 6 + 5, none⟩ = some (vq5) := hcq 5 _ rfl
      clear h3 hcsq hcq hrq
      go_wp2_with fail
      refine (HC.out _ (List.getElem_mem hlt) _ _ _ (Rd.gr hrdq (by repeat (first | exact Gr.refl _ | apply Gr.ext | apply Gr.alloc | apply Gr.drew)))).mono ?_
      rintro e w2 ⟨rfl, x2, rfl⟩
      go_wp2
      · have hx : p xs[k] = true := by assumption
        go_ret
        exact ⟨ret_int (idxOf_at hlt hx hT.out).symm, (by repeat (first | exact Gr.refl _ | apply Gr.ext | apply Gr.alloc | apply Gr.drew))⟩
      · have hx : p xs[k] = false := by assumption
        refine ⟨⟨k + 1, by omega, fun j hj hjk => ?_, (by repeat (first | exact Gr.refl _ | apply Gr.ext | apply Gr.alloc | apply Gr.drew)), by go_num⟩, by simp [intOf]; omega⟩
        by_cases hjk' : j < k
        · exact hT.out j hj hjk'
        · obtain rfl : j = k := by omega
          exact hx
    · go_wp2
      go_ret
      exact ⟨ret_int (idxOf_none fun j hj => hT.out j hj (by omega)).symm, (by repeat (first | exact Gr.refl _ | apply Gr.ext | apply Gr.alloc | apply Gr.drew))⟩

end Go.Proofs.YtbfmeiooeaaibaaGreat

namespace Go.Proofs.YtbfmeiooeaaibaaGreat
open Go.RowKit
variable {d : Nat}
set_option linter.unusedVariables false

def ruleIx (g : GGrammar d) (n : ByteArray) : Int := idxOf (fun r => decide (r.1 = n)) g.2
def shapeN (g : GGrammar d) (n : GNode) : List Int := [n.1, ruleIx g n.2.2.2.2.1, n.2.2.2.1]
def shapeOf (g : GGrammar d) (t : List GNode) : List Int := t.flatMap (shapeN g)
def nilE (x : GInstance) : GEntry := (x, 0, 0, 0, ByteArray.empty, [], [], [])
def srcD (g : GGrammar d) (t : List GNode) (x : GInstance) : GEntry :=
  match defOf g t x with
  | none => nilE x
  | some e => match nth t e.1 with | none => nilE x | some n => (x, 0, n.1, n.2.2.2.1, n.2.2.2.2.1, nidsOf t e.1, [], [])
/-- The source of an instance. -/
def srcOf (g : GGrammar d) (t : List GNode) (x : GInstance) : GEntry :=
  if ((attrOf g t x).getD zeroA).2.2.1 = 3 then (x, 0, 0, 0, ByteArray.empty, [], shapeOf g t, []) else srcD g t x

theorem srcOf_coll {g : GGrammar d} {t : List GNode} {x : GInstance} {a : GAttribute} (h : a = (attrOf g t x).getD zeroA) (h3 : a.2.2.1 = 3) : srcOf g t x = (x, 0, 0, 0, ByteArray.empty, [], shapeOf g t, []) := by
  subst h; unfold srcOf; rw [if_pos h3]
theorem srcOf_def {g : GGrammar d} {t : List GNode} {x : GInstance} {a : GAttribute} (h : a = (attrOf g t x).getD zeroA) (h3 : ¬ a.2.2.1 = 3) : srcOf g t x = srcD g t x := by
  subst h; unfold srcOf; rw [if_neg h3]
theorem srcD_none {g : GGrammar d} {t : List GNode} {x : GInstance} (h : defOf g t x = none) : srcD g t x = nilE x := by unfold srcD; rw [h]
theorem srcD_some {g : GGrammar d} {t : List GNode} {x : GInstance} {o : Int} {e : GExpr d} (h : defOf g t x = some (o, e)) {m : Nat} (ho : o = m) (hm : m < t.length) : srcD g t x = (x, 0, t[m].1, t[m].2.2.2.1, t[m].2.2.2.2.1, nidsOf t o, [], []) := by
  subst ho; unfold srcD; rw [h]; simp only; rw [nth_in hm]
theorem defAt_owner {g : GGrammar d} {t : List GNode} {o p : Int} {n : ByteArray} {a : GDefinition d} (h : defAt g t o p n = some a) : a.1 = o ∧ ∃ m : Nat, o = m ∧ m < t.length := by
  unfold defAt at h
  split at h
  · cases h
  · rename_i m hm
    obtain ⟨e, he, rfl⟩ := Option.map_eq_some_iff.1 h
    refine ⟨rfl, ?_⟩
    unfold nth at hm
    split at hm
    · exact ⟨o.toNat, by omega, (List.getElem?_eq_some_iff.1 hm).1⟩
    · cases hm
theorem defOf_owner {g : GGrammar d} {t : List GNode} {x : GInstance} {o : Int} {e : GExpr d} (h : defOf g t x = some (o, e)) : ∃ m : Nat, o = m ∧ m < t.length := by
  unfold defOf at h
  split at h
  · cases h
  · split at h
    · cases h
    · split at h
      · split at h
        · cases h
        · obtain ⟨h1, h2⟩ := defAt_owner h
          simp only at h1
          rw [h1]; exact h2
      · obtain ⟨h1, h2⟩ := defAt_owner h
        simp only at h1
        rw [h1]; exact h2
theorem ruleIx_wf {g : GGrammar d} (hl : g.2.length ≤ 140737488351232) (n : ByteArray) : (Lit.int .i64 (ruleIx g n)).wf = true := by
  have h1 := idxOf_ge (fun r : GRule d => decide (r.1 = n)) g.2
  have h2 := idxOf_lt (fun r : GRule d => decide (r.1 = n)) g.2
  unfold ruleIx
  rcases (by omega : idxOf (fun r : GRule d => decide (r.1 = n)) g.2 = -1 ∨ 0 ≤ idxOf (fun r : GRule d => decide (r.1 = n)) g.2) with h | h
  · rw [h]; decide
  · exact wf_small h (by omega)
theorem shape_len (g : GGrammar d) (t : List GNode) : (t.flatMap (shapeN g)).length ≤ t.length * 3 := flatMap_len (shapeN g) 3 t fun _ _ => Nat.le_refl _
theorem nids_len {t : List GNode} (h : wtTree t ≤ 1048576) (i : Int) : (nidsOf t i).length ≤ 1048577 := by
  unfold nidsOf
  cases hn : nth t i with
  | none => simp
  | some n =>
    have hm : ∃ k, ∃ hk : k < t.length, t[k] = n := by
      unfold nth at hn
      split at hn
      · obtain ⟨hk, e⟩ := List.getElem?_eq_some_iff.1 hn
        exact ⟨_, hk, e⟩
      · cases hn
    obtain ⟨k, hk, rfl⟩ := hm
    have h1 := ids_len t (i :: t[k].2.2.2.2.2)
    have h2 := node_kids h hk
    rw [List.length_cons] at h1
    show ((i :: t[k].2.2.2.2.2).flatMap (idAt t)).length ≤ _
    omega

theorem ruleTest_any {fp : List Nat} {cs : Array Value} (x : GRule d) (n : ByteArray) (b : Nat) (w : World) (hx : Rd.rd fp w cs.toList x) (hc : w.cell? ⟨b, 4, none⟩ = some (.string n)) :
    Calls Tryz.prog 44 #[.agg cs, .pointer (some ⟨b, 0, none⟩)] w fun e w' => e = .returned (.bool (decide (x.1 = n))) ∧ Gr w w' := by
  have hb := blk hc
  obtain ⟨q0, q1, q2, q3, q4, q5⟩ := x
  obtain ⟨v2, f2, v4, f4, v5, f5, rfl, -, -, -, h2, h4, h5⟩ := rdRule_inv q0 q1 q2 q3 q4 q5 hx
  obtain ⟨a2, k2, rfl, -, -, -⟩ := h2.open
  obtain ⟨a4, k4, rfl, -, -, -⟩ := h4.open
  obtain ⟨a5, k5, rfl, -, -, -⟩ := h5.open
  clear hx h2 h4 h5
  have e : (q0.toList == n.toList) = decide (q0 = n) := by
    rw [Bool.eq_iff_iff, beq_iff_eq, decide_eq_true_iff]
    exact ⟨str_inj, fun h => by rw [h]⟩
  have HE := Lib.hid e
  clear e
  go_enter Tryz.func44, Tryz.ntmps44
  go_wp2_with fail
  go_ret
  exact ⟨ret_bool (by first | exact HE.out | (rw [← HE.out]; rfl) | simp [BEq.beq, HE.out]), (by repeat (first | exact Gr.refl _ | apply Gr.ext | apply Gr.alloc | apply Gr.drew))⟩

theorem wf0 : (Lit.int .i64 0).wf = true := by decide
theorem entry_rd {w : World} {x0 : Int} {x1 : ByteArray} {o l : Int} {r : ByteArray} {vi vs vr : Value} {fi fs fr : List Nat} {is ss : List Int} {rs : List GReading} (h0 : (Lit.int .i64 x0).wf = true) (h1 : x1.size ≤ maxLen) (ho : (Lit.int .i64 o).wf = true) (hl : (Lit.int .i64 l).wf = true) (hr : r.size ≤ maxLen)
    (hi : SlR fi w vi is) (hs : SlR fs w vs ss) (hrs : SlR fr w vr rs) : ∃ fq, Rd.rd (α := GEntry) fq w [.int .i64 x0, .string x1, .int .i64 0, .int .i64 o, .int .i64 l, .string r, vi, vs, vr] ((x0, x1), 0, o, l, r, is, ss, rs) ∧ (∀ c, c ∈ fq ↔ c ∈ fi ++ (fs ++ fr)) ∧ ((fi ++ (fs ++ fr)).Nodup → fq.Nodup) :=
  ⟨_, rdEntry_mk x0 x1 0 o l r is ss rs h0 h1 wf0 ho hl hr hi hs hrs, fun c => by simp, fun h => by simpa using h⟩
end Go.Proofs.YtbfmeiooeaaibaaGreat

namespace Go.Proofs.YtbfmeiooeaaibaaGreat
open Go.RowKit
variable {d : Nat}

def ruleIxL (rs : List (GRule d)) (n : ByteArray) : Int := idxOf (fun r => decide (r.1 = n)) rs

set_option maxRecDepth 10000 in
set_option maxHeartbeats 4000000 in
theorem l36Rule_any {fx : List Nat} {cx : Array Value} (x : (GGrammar d)) (n : ByteArray) (w : World) (hx : Rd.rd fx w cx.toList x) :
    Calls Tryz.prog 36 #[.agg cx, .string n] w fun e w' => e = .returned (.int .i64 (ruleIxL x.2 n)) ∧ Gr w w' := by
  have HX := Lib.hid hx
  obtain ⟨x0, x1⟩ := x
  obtain ⟨vx0, fx0, vx1, fx1, rfl, hfpx, hx0, hx1⟩ := rdGrammar_inv x0 x1 hx
  have FPx := Lib.hid hfpx
  clear hfpx
  obtain ⟨ax0, kx0, rfl, ox01, ox02, ox03⟩ := hx0.open
  obtain ⟨ax1, kx1, rfl, ox11, ox12, ox13⟩ := hx1.open
  clear hx
  go_enter Tryz.func36, Tryz.ntmps36
  go_wp2_with fail
  go_loopw [5] (fun s5 wr => ∃ k : Nat, k ≤ x1.length ∧ Hid (∀ j (h : j < x1.length), j < k → decide (x1[j].1 = n) = false) ∧ Gr (w.alloc (.cells #[.slice ax0 x0.length kx0, .slice ax1 x1.length kx1] 43)) wr ∧ s5 = .int .i64 k) (fun s5 _ => x1.length - (intOf s5).toNat)
  case atStart => exact ⟨0, by omega, Lib.hid (by omega), Gr.refl _, rfl⟩
  case round =>
    obtain ⟨k, hk, ht, ⟨y, rfl⟩, rfl⟩ := hrel
    by_cases hlt : k < x1.length
    · have hlt2 := hlt
      obtain ⟨b, off, rfl, hbb⟩ := ox13 k hlt
      obtain ⟨csq, feq, hcq, hrq, hsb⟩ := hx1.at hlt
      obtain ⟨yq, hyq⟩ : ∃ y, y = x1[k] := ⟨_, rfl⟩
      rw [← hyq] at hrq
      have HYq := Lib.hid hyq
      have HRq := Lib.hid hrq
      obtain ⟨q0, q1, q2, q3, q4, q5⟩ := yq
      obtain ⟨vq2, fq2, vq4, fq4, vq5, fq5, hcsq, -, hq0, hq1, hq2, hq4, hq5⟩ := rdRule_inv (cs := csq.toArray) q0 q1 q2 q3 q4 q5 (by simpa using hrq)
      obtain rfl : csq = [.string q0, .string q1, vq2, .bool q3, vq4, vq5] := by have := congrArg Array.toList hcsq; simpa using this
      obtain ⟨aq2, kq2, rfl, oq21, oq22, oq23⟩ := hq2.open
      obtain ⟨aq4, kq4, rfl, oq41, oq42, oq43⟩ := hq4.open
      obtain ⟨aq5, kq5, rfl, oq51, oq52, oq53⟩ := hq5.open
      have qz0 : w.cell? ⟨b, off + k * 6, none⟩ = some (.string q0) := by simpa [Rd.n] using hcq 0 _ rfl
      have qz1 : w.cell? ⟨b, off + k * 6 + 1, none⟩ = some (.string q1) := hcq 1 _ rfl
      have qz2 : w.cell? ⟨b, off + k * 6 + 2, none⟩ = some (.slice aq2 q2.length kq2) := hcq 2 _ rfl
      have qz3 : w.cell? ⟨b, off + k * 6 + 3, none⟩ = some (.bool q3) := hcq 3 _ rfl
      have qz4 : w.cell? ⟨b, off + k * 6 + 4, none⟩ = some (.slice aq4 q4.length kq4) := hcq 4 _ rfl
      have qz5 : w.cell? ⟨b, off + k * 6 + 5, none⟩ = some (.slice aq5 q5.length kq5) := hcq 5 _ rfl
      have qzb := blk qz0
      clear hcsq hcq hrq hyq
      have HSB := Lib.hid hsb
      clear hsb
      by_cases hkey : q0 = n
      · skip
        obtain rfl := hkey
        have hl : ruleIxL x1 q0 = (k : Int) := idxOf_at hlt (by rw [← HYq.out]; simp) ht.out
        have HL := Lib.hid hl
        clear hl
        go_wp2_with fail
        go_ret
        exact ⟨ret_int HL.out.symm, (by repeat (first | exact Gr.refl _ | apply Gr.ext | apply Gr.alloc | apply Gr.drew))⟩
      · have E := Lib.hid hkey
        have e : (q0.toList == n.toList) = false := by simpa using fun e => hkey (str_inj e)
        clear hkey
        go_wp2_with fail
        refine ⟨⟨k + 1, by omega, Lib.hid fun j hj hjk => ?_, (by repeat (first | exact Gr.refl _ | apply Gr.ext | apply Gr.alloc | apply Gr.drew)), by go_num⟩, by simp [intOf]; omega⟩
        by_cases hjk2 : j < k
        · exact ht.out j hj hjk2
        · obtain rfl : j = k := by omega
          rw [← HYq.out]
          exact decide_eq_false E.out
    · have hn : ruleIxL x1 n = -1 := idxOf_none fun j hj => ht.out j hj (by omega)
      have HL := Lib.hid hn
      clear hn
      go_wp2_with fail
      go_ret
      exact ⟨ret_int HL.out.symm, (by repeat (first | exact Gr.refl _ | apply Gr.ext | apply Gr.alloc | apply Gr.drew))⟩

end Go.Proofs.YtbfmeiooeaaibaaGreat
