/- MemoValues of the program and of the reference. No condition. -/
import Derived.Test.YtkfaihfgjiahdaaMemV
namespace Go.Proofs.Ytkfaihfgjiahdaa
open Go.RowKit

def allFound (es : List GEntry) (l : List GInstance) : Bool := l.all fun x => (lookE es x).isSome
def valOf (es : List GEntry) (x : GInstance) : Int := ((lookE es x).getD zeroE).2.1
def valsOf (es : List GEntry) (l : List GInstance) : List Int := if allFound es l then l.map (valOf es) else []

theorem allFound_no {es : List GEntry} {l : List GInstance} {k : Nat} (hk : k < l.length) (h : (lookE es l[k]).isSome = false) : allFound es l = false := by
  unfold allFound
  rw [List.all_eq_false]
  exact ⟨l[k], List.getElem_mem hk, by rw [h]; simp⟩
theorem allFound_yes {es : List GEntry} {l : List GInstance} (h : ∀ k (hk : k < l.length), (lookE es l[k]).isSome = true) : allFound es l = true := by
  unfold allFound
  rw [List.all_eq_true]
  intro x hx
  obtain ⟨k, hk, rfl⟩ := List.mem_iff_getElem.1 hx
  exact h k hk

theorem ret_tup {v v' : Value} {a b : Bool} (h : v = v') (k : a = b) : Ending.returned (.tuple #[v, .bool a]) = Ending.returned (.tuple #[v', .bool b]) := by rw [h, k]

def ValsAt (w : World) (es : List GEntry) (l : List GInstance) (e : Ending) (w' : World) : Prop :=
  ∃ v fq, e = .returned (.tuple #[v, .bool (allFound es l)]) ∧ SlR fq w' v (valsOf es l) ∧ Fresh w fq ∧ Gr w w'

theorem valWf {fq : List Nat} {w : World} {cs : List Value} {e : GEntry} (h : Rd.rd fq w cs e) : (Lit.int .i64 e.2.1).wf = true := by
  obtain ⟨_, _, _, _, _, _, _, _, _, _, _, _, _, ⟨_, _, h⟩, _⟩ := h
  exact h

set_option maxRecDepth 10000 in
set_option maxHeartbeats 8000000 in
theorem implVals_any (fp fi : List Nat) (cs : Array Value) (u : Value) (m : GMemo) (l : List GInstance) (w : World) (hx : Rd.rd fp w cs.toList m) (hl : SlR fi w u l) (hlen : l.length ≤ 1048576) :
    Calls Try.prog 34 #[.agg cs, u] w (ValsAt w m.1 l) := by
  have hrx := hx
  obtain ⟨xs, x2⟩ := m
  obtain ⟨v0, f0, v1, f1, rfl, -, hu0, hu1⟩ := rdMemo_inv xs x2 hx
  obtain ⟨a0, c0, rfl, -, -, -⟩ := hu0.open
  obtain ⟨a1, c1, rfl, -, -, -⟩ := hu1.open
  obtain ⟨a2, c2, rfl, l1, l2, l3⟩ := hl.open
  have HX := Lib.hid hrx
  obtain ⟨i0, hi, hz0, hz1, hz2⟩ := info_parts Try.infoIntC
  have HZ := Lib.hid (And.intro hi (And.intro hz0 (And.intro hz1 hz2)))
  clear hx hrx hu0 hu1 hi hz0 hz1 hz2
  go_enter Try.func34, Try.ntmps34
  go_wp2_with fail
  generalize hB : (w.alloc (Obj.cells #[Value.slice a0 xs.length c0, Value.slice a1 x2.length c1] 58)) = B
  have gB : Gr w B := by rw [← hB]; exact (by repeat (first | exact Gr.refl _ | apply Gr.ext | apply Gr.alloc | apply Gr.drew))
  have bB0 : ∀ w' : World, Gr B w' → w'.cell? ⟨w.heap.size, 0, none⟩ = some (.slice a0 xs.length c0) := fun w' hg => hg.keep (by rw [← hB]; exact box_cell rfl rfl)
  have bB1 : ∀ w' : World, Gr B w' → w'.cell? ⟨w.heap.size, 1, none⟩ = some (.slice a1 x2.length c1) := fun w' hg => hg.keep (by rw [← hB]; exact box_cell rfl rfl)
  have sB : B.heap.size = w.heap.size + 1 := by rw [← hB]; simp
  clear hB
  go_loopw [14, 6] (fun s14 s6 wr => ∃ (k : Nat) (fps : List (List Nat)), k ≤ l.length ∧ Hid (∀ j (h : j < l.length), j < k → (lookE xs l[j]).isSome = true) ∧ Hid (fps.flatten = []) ∧ Gr B wr ∧ OwnR B 3 wr s6 fps ((l.take k).map (valOf xs)) ∧ s14 = .int .i64 k) (fun s14 _ _ => l.length - (intOf s14).toNat)
  case atStart => exact ⟨0, [], by omega, Lib.hid (by omega), Lib.hid rfl, (by repeat (first | exact Gr.refl _ | apply Gr.ext | apply Gr.alloc | apply Gr.drew)), by simpa using OwnR.lit0 (α := Int) (w0 := B) (w := B) 3 (Nat.le_refl _) sB.symm, rfl⟩
  case round =>
    obtain ⟨k, fps, hk, ht, hf, hg, hown, rfl⟩ := hrel
    rename World => W1
    have HG := Lib.hid hg
    have HO := Lib.hid hown
    obtain ⟨ra, rc, hform⟩ := hown.form
    have y0 := bB0 _ hg
    have y1 := bB1 _ hg
    have hLl : ((l.take k).map (valOf xs)).length = k := by simp; omega
    rw [hLl] at hform
    have HL := Lib.hid hLl
    have zx := blk y0
    subst hform
    clear hg hown hLl
    by_cases hlt : k < l.length
    · obtain ⟨b, off, rfl, hb⟩ := l3 k hlt
      obtain ⟨csq, feq, hcq, hrq, -⟩ := hl.at hlt
      obtain ⟨yq, hyq⟩ : ∃ y, y = l[k] := ⟨_, rfl⟩
      rw [← hyq] at hrq
      have HY := Lib.hid hyq
      obtain ⟨p0, p1⟩ := yq
      have hri := hrq
      obtain ⟨hcsq, -, hp0, hp1⟩ := rdInstance_inv (cs := csq.toArray) p0 p1 (by simpa using hrq)
      obtain rfl : csq = [.int .i64 p0, .string p1] := by have := congrArg Array.toList hcsq; simpa using this
      have gW : Gr w W1 := gB.trans HG.out
      have z0 : W1.cell? ⟨b, off + k * 2, none⟩ = some (.int .i64 p0) := gW.keep (by simpa [Rd.n] using hcq 0 _ rfl)
      have z1 : W1.cell? ⟨b, off + k * 2 + 1, none⟩ = some (.string p1) := gW.keep (hcq 1 _ rfl)
      have zb := blk z0
      have HR := Lib.hid hri
      clear l3 hcq hrq hri hcsq hyq hp0 hp1
      go_wp2_with fail
      refine (findEntry_any _ _ _ _ (xs, x2) (p0, p1) _ (Rd.gr HX.out (gW.trans (by repeat (first | exact Gr.refl _ | apply Gr.ext | apply Gr.alloc | apply Gr.drew)))) (Rd.gr HR.out (gW.trans (by repeat (first | exact Gr.refl _ | apply Gr.ext | apply Gr.alloc | apply Gr.drew))))).mono ?_
      rintro e w' ⟨es, fq, rfl, hr, -, x1, rfl⟩
      obtain ⟨y, hy⟩ : ∃ y, y = (lookE xs (p0, p1)).getD zeroE := ⟨_, rfl⟩
      have hr1 := hr
      change Rd.rd fq _ es.toList ((lookE xs (p0, p1)).getD zeroE) at hr1
      rw [← hy] at hr1
      have HYY := Lib.hid hy
      obtain ⟨⟨q00, q01⟩, q1, q2, q3, q4, q5, q6, q7⟩ := y
      obtain ⟨vq5, fq5, vq6, fq6, vq7, fq7, rfl, -, -, -, hwf, -, -, -, hq5, hq6, hq7⟩ := rdEntry_inv q00 q01 q1 q2 q3 q4 q5 q6 q7 hr1
      obtain ⟨aq5, cq5, rfl, -, -, -⟩ := hq5.open
      obtain ⟨aq6, cq6, rfl, -, -, -⟩ := hq6.open
      obtain ⟨aq7, cq7, rfl, -, -, -⟩ := hq7.open
      have HWF := Lib.hid hwf
      clear hr hr1 hy hq5 hq6 hq7 hwf
      cases hb2 : (lookE xs (p0, p1)).isSome with
      | false =>
        have HN := Lib.hid hb2
        clear hb2
        go_wp2_with fail
        have hno : allFound xs l = false := allFound_no hlt (by rw [← HY.out]; exact HN.out)
        go_ret2
        refine ⟨_, [], ret_tup rfl hno.symm, ?_, Fresh.nil _, gW.trans (by repeat (first | exact Gr.refl _ | apply Gr.ext | apply Gr.alloc | apply Gr.drew))⟩
        unfold valsOf
        rw [hno]
        exact SlR.nil _
      | true =>
        have HN := Lib.hid hb2
        clear hb2
        have hkk : k + 1 ≤ 1048577 := by omega
        go_wp2_with (first | (at_builtin; refine wpList_append_R (α := Int) (w0 := B) (HG.out.trans (by repeat (first | exact Gr.refl _ | apply Gr.ext | apply Gr.alloc | apply Gr.drew))) rfl _ _ 43 rfl 3 i0 (.int .i64 0) 8 Try.underlying43 HZ.out.1 HZ.out.2.1 HZ.out.2.2.1 HZ.out.2.2.2 rfl _ fps _ (by rfl) (HO.out.gr (by repeat (first | exact Gr.refl _ | apply Gr.ext | apply Gr.alloc | apply Gr.drew))) _ [[]] [q1] (by rfl) (SrcR.one (by simp) (intRd HWF.out _)) (fun b _ => by simp) (by rw [HL.out]; unfold maxLen; simp; omega) (by rw [HL.out]; simp; omega) ?_; intro v3 w3 h1 h2 h3 h4; replace h1 := Lib.hid h1; replace h4 := Lib.hid h4; clear h2 h3))
        refine ⟨⟨k + 1, fps ++ [[]], by omega, Lib.hid fun j hj hjk => ?_, Lib.hid (by rw [List.flatten_append, hf.out]; rfl), h4.out, ?_, by go_num⟩, by simp [intOf]; omega⟩
        · by_cases hjk2 : j < k
          · exact ht.out j hj hjk2
          · obtain rfl : j = k := by omega
            rw [← HY.out]; exact HN.out
        · have e : (l.take (k + 1)).map (valOf xs) = (l.take k).map (valOf xs) ++ [q1] := by
            rw [List.take_succ_eq_append_getElem hlt, List.map_append, ← HY.out]
            have : valOf xs (p0, p1) = q1 := by unfold valOf; rw [← HYY.out]
            simp [this]
          rw [e]; exact h1.out
    · have hk2 : k = l.length := by omega
      subst hk2
      have hyes : allFound xs l = true := allFound_yes fun j hj => ht.out j hj hj
      have hv : valsOf xs l = (l.take l.length).map (valOf xs) := by unfold valsOf; rw [hyes, List.take_length]; rfl
      have HV := Lib.hid hv
      have HN := Lib.hid hyes
      clear hv hyes
      obtain ⟨fq, hs, hfr⟩ := HO.out.fresh (by rw [HL.out]; unfold reachLen; omega) (by rw [hf.out]; exact Fresh.nil _)
      have HS := Lib.hid hs
      clear hs
      go_wp2_with fail
      go_ret2
      exact ⟨_, fq, ret_tup rfl HN.out.symm, by rw [HV.out]; exact HS.out, hfr.of_le gB.size, gB.trans HG.out⟩
end Go.Proofs.Ytkfaihfgjiahdaa
