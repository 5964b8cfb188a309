/- How large a drawn tree is; plain.  The number of nodes of a cell's tree: the reference's count, up to a little more than the most. The tree of a cell: the reference's. No condition. -/
import Derived.Test.YtmfcagcanhmdbaaE31
import Derived.Test.YtmfcagcanhmdbaaE32
import Derived.Test.YtmfcagcanhmdbaaE15
namespace Go.Proofs.Ytmfcagcanhmdbaa
open Go.RowKit
set_option linter.unusedVariables false

def NH : Nat → Nat
 | 0 => 1
 | h + 1 => 1 + 3 * NH h
def KK (room : Int) (h : Nat) : Nat := if room < 5 then NH h else 40 * room.toNat
theorem NH_pos (h : Nat) : 1 ≤ NH h := by cases h <;> simp [NH]
theorem NH_mono {a b : Nat} (h : a ≤ b) : NH a ≤ NH b := by
 induction h with
 | refl => exact Nat.le_refl _
 | step _ ih => simp only [NH]; omega
theorem NH3 {h : Nat} (hh : h ≤ 3) : NH h ≤ 40 := Nat.le_trans (NH_mono hh) (by decide)
def KC (room : Int) (n h : Nat) : Nat := if room < 5 then NH (h - 1) else if room.tdiv (max 1 (n : Int)) - 1 < 5 then 40 else 40 * (room.tdiv (max 1 (n : Int)) - 1).toNat
theorem kids_room {room : Int} {n : Nat} (hr : room < 5) : room.tdiv (max 1 (n : Int)) - 1 < 5 := by
 rcases Int.lt_or_le room 0 with h | h
 ·have : room.tdiv (max 1 (n : Int)) ≤ 0 := by
   rw [show room = -(-room) by omega, Int.neg_tdiv]
   have := Int.tdiv_nonneg (a := -room) (b := max 1 (n : Int)) (by omega) (by omega)
   omega
  omega
 ·have := Int.tdiv_le_self (max 1 (n : Int)) h
  omega
theorem kid_le {room : Int} {n h hc : Nat} (hl : room < 5 → hc < h) (h3 : hc ≤ 3) : KK (room.tdiv (max 1 (n : Int)) - 1) hc ≤ KC room n h := by
 unfold KK KC
 by_cases hr : room < 5
 ·rw [if_pos (kids_room hr), if_pos hr]
  exact NH_mono (by have := hl hr; omega)
 ·rw [if_neg hr]
  split
  ·exact NH3 h3
  ·exact Nat.le_refl _
theorem kids_le {room : Int} {n h : Nat} (hn : n ≤ 3) (hl : room < 5 → 0 < n → 0 < h) : 1 + n * KC room n h ≤ KK room h := by
 unfold KK KC
 by_cases hr : room < 5
 ·rw [if_pos hr, if_pos hr]
  rcases Nat.eq_zero_or_pos n with rfl | hp
  ·have := NH_pos h; omega
  ·obtain ⟨k, rfl⟩ : ∃ k, h = k + 1 := ⟨h - 1, by have := hl hr hp; omega⟩
   simp only [NH, Nat.add_sub_cancel]
   have : n * NH k ≤ 3 * NH k := Nat.mul_le_mul_right _ hn
   omega
 ·rw [if_neg hr, if_neg hr]
  rcases (show n = 0 ∨ n = 1 ∨ n = 2 ∨ n = 3 by omega) with rfl | rfl | rfl | rfl
  ·omega
  all_goals
   split
   ·omega
   ·rename_i h5
    rw [Int.tdiv_eq_ediv_of_nonneg (by omega)] at h5 ⊢
    simp only [show max (1 : Int) ((1 : Nat) : Int) = 1 from by decide, show max (1 : Int) ((2 : Nat) : Int) = 2 from by decide, show max (1 : Int) ((3 : Nat) : Int) = 3 from by decide] at h5 ⊢
    omega

def NodeFine (L : Int) (x : GNode) : Prop := -1 ≤ x.2.1 ∧ x.2.1 ≤ L ∧ x.2.2.2.2.1.size ≤ 68 ∧ x.2.2.2.2.2.length ≤ 3 ∧ ∀ c ∈ x.2.2.2.2.2, -1 ≤ c ∧ c ≤ L
def noId (x : GNode) : GNode := (0, x.2)
inductive PreT : List GNode → Prop
 | join (r : GNode) (ts : List (List GNode)) (h : ∀ t ∈ ts, PreT t) : PreT (joN r ts)
 | ids {t u : List GNode} (h : PreT t) (e : t.map noId = u.map noId) : PreT u
theorem PreT.pos {t : List GNode} (h : PreT t) : 1 ≤ t.length := by
 induction h with
 | join r ts h ih => simp [joN]
 | ids h e ih => have := congrArg List.length e; simp at this; omega
def TreeFine (t : List GNode) : Prop := (∀ x ∈ t, NodeFine t.length x) ∧ PreT t
theorem NodeFine.mono {L L' : Int} {x : GNode} (h : NodeFine L x) (hl : L ≤ L') : NodeFine L' x := by
 obtain ⟨h1, h2, h3, h4, h5⟩ := h
 exact ⟨h1, by omega, h3, h4, fun c hc => ⟨(h5 c hc).1, by have := (h5 c hc).2; omega⟩⟩
theorem NodeFine.sh {L b : Int} {x : GNode} (h : NodeFine L x) (hb : 0 ≤ b) : NodeFine (L + b) (shN b x) := by
 obtain ⟨h1, h2, h3, h4, h5⟩ := h
 refine ⟨by show -1 ≤ x.2.1 + b; omega, by show x.2.1 + b ≤ L + b; omega, h3, by show (x.2.2.2.2.2.map (· + b)).length ≤ 3; simpa using h4, fun c hc => ?_⟩
 obtain ⟨c', hc', rfl⟩ := List.mem_map.1 (show c ∈ x.2.2.2.2.2.map (· + b) from hc)
 have := h5 c' hc'
 omega
theorem adjN_fine {L k b : Int} {t : List GNode} (h : ∀ x ∈ t, NodeFine L x) (hL : 0 ≤ L) (hb : 0 ≤ b) : ∀ x ∈ adjN k b t, NodeFine (L + b) x := by
 cases t with
 | nil => simp [adjN]
 | cons y ys =>
  intro x hx
  simp only [adjN, List.mem_cons] at hx
  rcases hx with rfl | hx
  ·obtain ⟨h1, h2, h3, h4, h5⟩ := (h y (by simp)).sh (b := b) hb
   exact ⟨by show (-1 : Int) ≤ 0; omega, by show (0 : Int) ≤ L + b; omega, h3, h4, h5⟩
  ·obtain ⟨z, hz, rfl⟩ := List.mem_map.1 hx
   exact (h z (by simp [hz])).sh hb
theorem joK_fine (ts : List (List GNode)) (h : ∀ t ∈ ts, TreeFine t) : ∀ k b, 0 ≤ b → (∀ x ∈ (joK k b ts).2, NodeFine (b + (ts.map List.length).sum) x) ∧ ∀ c ∈ (joK k b ts).1, 0 ≤ c ∧ c ≤ b + (ts.map List.length).sum := by
 induction ts with
 | nil => intro k b hb; simp [joK]
 | cons t ts ih =>
  intro k b hb
  obtain ⟨i1, i2⟩ := ih (fun t ht => h t (by simp [ht])) (k + 1) (b + t.length) (by omega)
  simp only [joK, List.map_cons, List.sum_cons, List.mem_append, List.mem_cons]
  refine ⟨fun x hx => ?_, fun c hc => ?_⟩
  ·rcases hx with hx | hx
   ·exact (adjN_fine (h t (by simp)).1 (by omega) hb x hx).mono (by push_cast; omega)
   ·exact (i1 x hx).mono (by push_cast; omega)
  ·rcases hc with rfl | hc
   ·push_cast; omega
   ·have := i2 c hc; push_cast; omega
theorem joN_fine {r : GNode} {ts : List (List GNode)} (h : ∀ t ∈ ts, TreeFine t) (hn : ts.length ≤ 3) (hr : r.2.2.2.2.1.size ≤ 68) : TreeFine (joN r ts) ∧ (joN r ts).length = 1 + (ts.map List.length).sum := by
 obtain ⟨i1, i2⟩ := joK_fine ts h 1 1 (by omega)
 obtain ⟨l1, l2⟩ := joK_len ts 1 1
 have hl : (joN r ts).length = 1 + (ts.map List.length).sum := by simp only [joN, List.length_cons, l1]; omega
 refine ⟨⟨fun x hx => ?_, .join r ts fun t ht => (h t ht).2⟩, hl⟩
 rw [hl]
 simp only [joN, List.mem_cons] at hx
 rcases hx with rfl | hx
 ·exact ⟨by show (-1 : Int) ≤ -1; omega, by show (-1 : Int) ≤ _; omega, hr, by show (joK 1 1 ts).1.length ≤ 3; omega, fun c hc => by have := i2 c hc; push_cast; omega⟩
 ·exact (i1 x hx).mono (by push_cast; omega)
theorem len_le_sum {ts : List (List GNode)} {t : List GNode} (h : t ∈ ts) : t.length ≤ (ts.map List.length).sum := by
 induction ts with
 | nil => cases h
 | cons u us ih =>
  simp only [List.map_cons, List.sum_cons]
  rcases List.mem_cons.1 h with rfl | h
  ·omega
  ·have := ih h; omega
theorem TreeFine.small {ts : List (List GNode)} (h : ∀ t ∈ ts, TreeFine t) (hn : ts.length ≤ 3) (hs : (ts.map List.length).sum ≤ 1000000) : SmallT ts := by
 refine ⟨by omega, by omega, fun t ht x hx => ?_⟩
 obtain ⟨h1, h2, h3, h4, h5⟩ := (h t ht).1 x hx
 have hl := len_le_sum ht
 exact ⟨h1, by omega, by omega, fun c hc => by have := h5 c hc; omega⟩
end Go.Proofs.Ytmfcagcanhmdbaa

namespace Go.Proofs.Ytmfcagcanhmdbaa
open Go.RowKit
set_option linter.unusedVariables false

def CntP (s : GStore) (f a : Nat) (w : World) (e : Ending) (w' : World) : Prop :=
 ∃ c : Int, e = .returned (.int .i64 c) ∧ Gr w w' ∧ 0 ≤ c ∧ (exL s f a ≤ 16 → c = exL s f a) ∧ (16 < exL s f a → 16 < c) ∧ c ≤ 17 * ((a : Int) + 1)

set_option maxRecDepth 10000 in
set_option maxHeartbeats 4000000 in
theorem l39Count_any (s : GStore) (hv : ValidStore s) (hl : s.length ≤ 1048576) : ∀ (f a : Nat) (fs : List Nat) (cs : Array Value) (w : World) (hs : Rd.rd fs w cs.toList s) (ha : a < s.length) (hf : a < f),
  Calls Try.prog 57 #[.agg cs, .int .i64 (a : Int)] w (CntP s f a w) := by
 intro f
 induction f with
 | zero => intro a fs cs w hs ha hf; omega
 | succ f ih =>
  intro a fs cs w hs hlt hf
  have HV := Lib.hid hv
  have HIH := Lib.hid ih
  have hex := exL_at s f hlt
  have hkid : ∀ k (hk : k < s[a].2.2.length), ∃ m : Nat, s[a].2.2[k] = m ∧ m < a := fun k hk => valid_kid hv hlt hk
  clear hv ih
  have HS := Lib.hid hs
  obtain ⟨s0, rfl⟩ : ∃ y, y = s := ⟨s, rfl⟩
  obtain ⟨vs0, fs0, rfl, hfps, hs0⟩ := rdStore_inv s0 hs
  have FPs := Lib.hid hfps
  clear hfps
  obtain ⟨as0, ks0, rfl, os01, os02, os03⟩ := hs0.open
  clear hs
  obtain ⟨b, off, rfl, hbb⟩ := os03 a hlt
  obtain ⟨csq, feq, hcq, hrq, -⟩ := hs0.at hlt
  obtain ⟨yq, hyq⟩ : ∃ y, y = s0[a] := ⟨_, rfl⟩
  rw [← hyq] at hrq
  have HYq := Lib.hid hyq
  have HRq := Lib.hid hrq
  obtain ⟨q0, q1, q2⟩ := yq
  obtain ⟨vq2, fq2, hcsq, -, hq0, hq1, hq2⟩ := rdCell_inv (cs := csq.toArray) q0 q1 q2 (by simpa using hrq)
  obtain rfl : csq = [.string q0, .int .i64 q1, vq2] := by have := congrArg Array.toList hcsq; simpa using this
  obtain ⟨aq2, kq2, rfl, oq21, oq22, oq23⟩ := hq2.open
  have qz0 : w.cell? ⟨b, off + a * 3, none⟩ = some (.string q0) := by simpa [Rd.n] using hcq 0 _ rfl
  have qz1 : w.cell? ⟨b, off + a * 3 + 1, none⟩ = some (.int .i64 q1) := hcq 1 _ rfl
  have qz2 : w.cell? ⟨b, off + a * 3 + 2, none⟩ = some (.slice aq2 q2.length kq2) := hcq 2 _ rfl
  have qzb := blk qz0
  clear hcsq hcq hrq hyq
  rw [← HYq.out] at hex
  have hkid2 : ∀ k (hk : k < q2.length), ∃ m : Nat, q2[k] = m ∧ m < a := by
   have e : q2 = s0[a].2.2 := congrArg (fun x : GCell => x.2.2) HYq.out
   subst e
   exact hkid
  simp only at hex
  have HEX := Lib.hid hex
  have HK := Lib.hid hkid2
  have HQ2 := Lib.hid hq2
  clear hkid hkid2 hex hq0 hq1 hq2
  go_enter Try.func57, Try.ntmps57
  go_wp2_with fail
  generalize hB : (w.alloc (.cells #[.slice (some ⟨b, off, none⟩) s0.length ks0] 32)) = B
  have gB : Gr w B := by rw [← hB]; exact gd
  have bB0 : ∀ w' : World, Gr B w' → w'.cell? ⟨w.heap.size, 0, none⟩ = some (.slice (some ⟨b, off, none⟩) s0.length ks0) := fun w' hg => hg.keep (by rw [← hB]; repeat (first | ((with_reducible refine box_cell ?_ ?_) <;> first | omega | (simp; done) | (simp; omega) | rfl) | (with_reducible refine Gr.keep (Gr.alloc (Gr.refl _) _) ?_) | (with_reducible refine Gr.keep (Gr.ext (Gr.refl _) _) ?_) | (with_reducible refine Gr.keep (Gr.drew (Gr.refl _)) ?_)))
  have sB : B.heap.size = w.heap.size + 1 := by rw [← hB]; first | (simp; done) | (simp; omega)
  have EB := Lib.hid hB
  clear hB
  go_loopw [5, 6] (fun s5 s6 wr => ∃ (k : Nat) (c : Int), k ≤ q2.length ∧ Gr B wr ∧ Hid (0 ≤ c ∧ (1 + ((q2.take k).map fun q => exL s0 f q.toNat).sum ≤ 16 → c = ((1 + ((q2.take k).map fun q => exL s0 f q.toNat).sum : Nat) : Int)) ∧ (16 < 1 + ((q2.take k).map fun q => exL s0 f q.toNat).sum → 16 < c) ∧ c ≤ 17 * ((a : Int) + 1)) ∧ s5 = .int .i64 c ∧ s6 = .int .i64 k) (fun _ s6 _ => q2.length - (intOf s6).toNat)
  case atStart => exact ⟨0, 1, by omega, gd, Lib.hid (by simp; omega), rfl, rfl⟩
  case round =>
   obtain ⟨k, c, hk, hg, HC, rfl, rfl⟩ := hrel
   rename World => W3
   have HGR := Lib.hid hg
   have hgw := gB.trans hg
   have HGW := Lib.hid hgw
   have y0 := bB0 _ hg
   have zy0 := blk y0
   have u0 := hgw.keep qz0
   have u1 := hgw.keep qz1
   have u2 := hgw.keep qz2
   have zu := blk u2
   have i0' : (0 : Int) ≤ (a : Int) := by omega
   have i1' : (a : Int) < (s0.length : Int) := by omega
   clear hg hgw
   by_cases hlk : k < q2.length
   ·have j0 : (0 : Int) ≤ (k : Int) := by omega
    have j1 : (k : Int) < (q2.length : Int) := by omega
    by_cases hc16 : c ≤ 16
    ·obtain ⟨m, hm, hma⟩ := HK.out k hlk
     obtain ⟨bL, oL, rfl, hbL⟩ := oq23 k hlk
     have cL := HGW.out.keep (HQ2.out.int_at hlk).1
     rw [hm] at cL
     have zcL := blk cL
     have HM := Lib.hid hm
     clear hm
     go_wp2_with fail
     have k0 := fun (w' : World) (h : Gr W3 w') => h.keep y0
     have k1 := fun (w' : World) (h : Gr W3 w') => h.keep u2
     have k2 := fun (w' : World) (h : Gr W3 w') => h.keep cL
     go_region_held3 (fun w' => Gr W3 w') (first | assumption | exact Gr.drew (Gr.refl _) | (repeat (first | assumption | exact Gr.refl _ | apply Gr.ext | apply Gr.alloc | apply Gr.drew)))
      (first | (go_at_call 57; refine (HIH.out m _ _ _ (Rd.gr HS.out (HGW.out.trans (by first | assumption | exact gd))) (by omega) (by omega)).mono ?_; rintro e w' ⟨d, rfl, ⟨x2, rfl⟩, hd0, hd1, hd2, hd3⟩; have HD := Lib.hid (And.intro hd0 (And.intro hd1 (And.intro hd2 hd3))); clear hd0 hd1 hd2 hd3))
     all_goals
      have hcd := HC.out
      have hdd := HD.out
      have hsm : ((q2.take (k + 1)).map fun q => exL s0 f q.toNat).sum = ((q2.take k).map fun q => exL s0 f q.toNat).sum + exL s0 f m := by
       rw [sum_take_succ (fun q : Int => exL s0 f q.toNat) q2 k hlk, HM.out]; rfl
      have HSM := Lib.hid hsm
      have b1 : 0 ≤ c ∧ 0 ≤ d ∧ d ≤ 17 * ((a : Int) + 1) := ⟨hcd.1, hdd.1, by omega⟩
      have B1 := b1.1
      have B2 := b1.2.1
      have B3 := b1.2.2
      have iw : IntKind.i64.wrap (c + d) = c + d := IntWalk.i64_in _ (by omega)
      clear hcd hdd hsm b1
      go_wp2_with fail
      refine ⟨⟨k + 1, c + d, by omega, HGR.out.trans (by first | assumption | exact gd), Lib.hid ?_, by first | go_num | (rw [iw]), by go_num⟩, by simp [intOf]; omega⟩
      have hcd := HC.out
      have hdd := HD.out
      rw [HSM.out]
      omega
    ·have HE := HC.out
     have hsum : ((q2.take k).map fun q => exL s0 f q.toNat).sum ≤ (q2.map fun q => exL s0 f q.toNat).sum := sum_take_le (fun q : Int => exL s0 f q.toNat) q2 k
     have hb : ¬ (1 + ((q2.take k).map fun q => exL s0 f q.toNat).sum ≤ 16) := fun h => by have := HE.2.1 h; omega
     have hfin : CntP s0 (f + 1) a w (.returned (.int .i64 c)) W3 := ⟨c, rfl, HGW.out, HE.1, fun h => by have := HEX.out; omega, fun _ => by omega, HE.2.2.2⟩
     have HF := Lib.hid hfin
     clear HE hsum hb hfin
     go_wp2_with fail
     go_ret
     exact HF.out
   ·have hk2 : k = q2.length := by omega
    subst hk2
    have HE := HC.out
    rw [List.take_length] at HE
    have hfin : CntP s0 (f + 1) a w (.returned (.int .i64 c)) W3 := ⟨c, rfl, HGW.out, HE.1, fun h => by have := HEX.out; rw [this] at h ⊢; exact HE.2.1 h, fun h => by have := HEX.out; rw [this] at h; exact HE.2.2.1 h, HE.2.2.2⟩
    have HF := Lib.hid hfin
    clear HE hfin
    go_wp2_with fail
    go_ret
    exact HF.out
end Go.Proofs.Ytmfcagcanhmdbaa

namespace Go.Proofs.Ytmfcagcanhmdbaa
open Go.RowKit
set_option linter.unusedVariables false
set_option linter.unusedSimpArgs false

theorem Try.infoTreeC : (Try.prog.info? 38).map (fun i => (i.zero, i.size, i.bytes)) = some (some (.agg #[.slice none 0 0]), 1, 24) := by kernel_rfl

set_option maxRecDepth 100000 in
set_option maxHeartbeats 8000000 in
theorem l39Expand_any (s : GStore) (hv : ValidStore s) (hl : wtStore s ≤ 1048576) : ∀ (f a : Nat) (fs : List Nat) (cs : Array Value) (w : World) (hs : Rd.rd fs w cs.toList s) (ha : a < s.length) (hf : a < f) (h16 : exL s f a ≤ 16),
  Calls Try.prog 58 #[.agg cs, .int .i64 (a : Int)] w (MadeT w (exN s f a 0 (-1) 0)) := by
 intro f
 induction f with
 | zero => intro a fs cs w hs ha hf; omega
 | succ f ih =>
  intro a fs cs w hs hlt hf h16
  obtain ⟨i0, hi, hz0, hz1, hz2⟩ := info_parts Try.infoTreeC
  have HZ := Lib.hid (And.intro hi (And.intro hz0 (And.intro hz1 hz2)))
  clear hi hz0 hz1 hz2
  have HV := Lib.hid hv
  have HIH := Lib.hid ih
  have HWT := Lib.hid hl
  have hex := exL_at s f hlt
  have HCS := Lib.hid (cells_small hl)
  have hkid : ∀ k (hk : k < s[a].2.2.length), ∃ m : Nat, s[a].2.2[k] = m ∧ m < a := fun k hk => valid_kid hv hlt hk
  have hjn := exN_join s f s[a] (List.getElem?_eq_getElem hlt) 0 0 0 []
  clear hv ih hl
  have HS := Lib.hid hs
  obtain ⟨s0, rfl⟩ : ∃ y, y = s := ⟨s, rfl⟩
  obtain ⟨vs0, fs0, rfl, hfps, hs0⟩ := rdStore_inv s0 hs
  have FPs := Lib.hid hfps
  clear hfps
  obtain ⟨as0, ks0, rfl, os01, os02, os03⟩ := hs0.open
  clear hs
  obtain ⟨b, off, rfl, hbb⟩ := os03 a hlt
  obtain ⟨csq, feq, hcq, hrq, -⟩ := hs0.at hlt
  obtain ⟨yq, hyq⟩ : ∃ y, y = s0[a] := ⟨_, rfl⟩
  rw [← hyq] at hrq
  have HYq := Lib.hid hyq
  have HRq := Lib.hid hrq
  obtain ⟨q0, q1, q2⟩ := yq
  obtain ⟨vq2, fq2, hcsq, -, hq0, hq1, hq2⟩ := rdCell_inv (cs := csq.toArray) q0 q1 q2 (by simpa using hrq)
  obtain rfl : csq = [.string q0, .int .i64 q1, vq2] := by have := congrArg Array.toList hcsq; simpa using this
  obtain ⟨aq2, kq2, rfl, oq21, oq22, oq23⟩ := hq2.open
  have qz0 : w.cell? ⟨b, off + a * 3, none⟩ = some (.string q0) := by simpa [Rd.n] using hcq 0 _ rfl
  have qz1 : w.cell? ⟨b, off + a * 3 + 1, none⟩ = some (.int .i64 q1) := hcq 1 _ rfl
  have qz2 : w.cell? ⟨b, off + a * 3 + 2, none⟩ = some (.slice aq2 q2.length kq2) := hcq 2 _ rfl
  have qzb := blk qz0
  clear hcsq hcq hrq hyq
  rw [← HYq.out] at hex hjn
  have hkid2 : ∀ k (hk : k < q2.length), ∃ m : Nat, q2[k] = m ∧ m < a := by
   have e : q2 = s0[a].2.2 := congrArg (fun x : GCell => x.2.2) HYq.out
   subst e
   exact hkid
  simp only at hex hjn
  have hql : q2.length ≤ 1048576 := HCS.out.2 (q0, q1, q2) (by rw [HYq.out]; exact List.getElem_mem hlt)
  have hkl : ∀ k (hk : k < q2.length), exL s0 f q2[k].toNat ≤ 16 := fun k hk => by
   have h1 := sum_take_succ (fun q : Int => exL s0 f q.toNat) q2 k hk
   have h2 := sum_take_le (fun q : Int => exL s0 f q.toNat) q2 (k + 1)
   omega
  have HEX := Lib.hid hex
  have HJN := Lib.hid hjn
  have HK := Lib.hid hkid2
  have HKL := Lib.hid hkl
  have H16 := Lib.hid h16
  have HQ := Lib.hid (And.intro hq0 (And.intro hq1 hq2))
  have HQ2 := Lib.hid hq2
  clear hkid hkid2 hex hq0 hq1 hq2 hjn hkl h16
  go_enter Try.func58, Try.ntmps58
  go_wp2_with fail
  generalize hB : (w.alloc (.cells #[.slice (some ⟨b, off, none⟩) s0.length ks0] 32)).alloc (.cells #[.slice none 0 0] 38) = B
  have gB : Gr w B := by rw [← hB]; exact gd
  have sB : B.heap.size = w.heap.size + 2 := by rw [← hB]; simp
  have b0 : B.cell? ⟨w.heap.size, 0, none⟩ = some (.slice (some ⟨b, off, none⟩) s0.length ks0) := by rw [← hB]; repeat (first | ((with_reducible refine box_cell ?_ ?_) <;> first | omega | (simp; done) | (simp; omega) | rfl) | (with_reducible refine Gr.keep (Gr.alloc (Gr.refl _) _) ?_) | (with_reducible refine Gr.keep (Gr.ext (Gr.refl _) _) ?_) | (with_reducible refine Gr.keep (Gr.drew (Gr.refl _)) ?_))
  have vR : VRow B (w.heap.size + 1) 38 [.slice none 0 0] := by
   rw [← hB]
   repeat (first | ((with_reducible refine VRow.new ?_) <;> first | omega | (simp; done) | (simp; omega) | rfl) | (with_reducible refine VRow.gr ?_ (Gr.alloc (Gr.refl _) _)) | (with_reducible refine VRow.gr ?_ (Gr.ext (Gr.refl _) _)) | (with_reducible refine VRow.gr ?_ (Gr.drew (Gr.refl _))))
  have HVR := Lib.hid vR
  have HGB := Lib.hid gB
  have HB0 := Lib.hid b0
  have HSB := Lib.hid sB
  have hO5 : OwnR (α := GTree) B 38 (B.alloc (.cells #[] 38)) (.slice (some ⟨w.heap.size + 1 + 1, 0, none⟩) 0 0) [] [] := OwnR.lit0 (α := GTree) (w0 := B) (w := B) 38 (Nat.le_refl _) (show w.heap.size + 1 + 1 = B.heap.size by omega)
  have HO5 := Lib.hid hO5
  clear hB vR gB b0 hO5 sB
  go_loopw [6, 5] (fun s6 s5 wr => ∃ (k : Nat) (fps : List (List Nat)), k ≤ q2.length ∧ Hid (Fresh B fps.flatten) ∧ Gr B wr ∧ Hid (OwnR (α := GTree) B 38 wr s5 fps ((q2.take k).map fun q => exN s0 f q.toNat 0 (-1) 0)) ∧ s6 = .int .i64 k) (fun s6 _ _ => q2.length - (intOf s6).toNat)
  case atStart => exact ⟨0, [], by omega, Lib.hid (Fresh.nil _), gd, HO5, rfl⟩
  case round =>
   obtain ⟨k, fps, hk, HF, hg, HO, rfl⟩ := hrel
   rename World => W3
   have HGR := Lib.hid hg
   obtain ⟨M, hM⟩ : ∃ M, M = (q2.take k).map fun q => exN s0 f q.toNat 0 (-1) 0 := ⟨_, rfl⟩
   rw [← hM] at HO
   have hMl : M.length = k := by rw [hM, List.length_map, List.length_take]; omega
   have HM := Lib.hid hM
   have HML := Lib.hid hMl
   obtain ⟨ra, rc, hform⟩ := HO.out.form
   subst hform
   have hgw := HGB.out.trans hg
   have HGW := Lib.hid hgw
   have y0 := hg.keep HB0.out
   have zy0 := blk y0
   have u0 := hgw.keep qz0
   have u1 := hgw.keep qz1
   have u2 := hgw.keep qz2
   have zu := blk u2
   have i0' : (0 : Int) ≤ (a : Int) := by omega
   have i1' : (a : Int) < (s0.length : Int) := by omega
   clear hg hgw hM hMl
   by_cases hlk : k < q2.length
   ·have j0 : (0 : Int) ≤ (k : Int) := by omega
    have j1 : (k : Int) < (q2.length : Int) := by omega
    obtain ⟨m, hm, hma⟩ := HK.out k hlk
    have hml := HKL.out k hlk
    obtain ⟨bL, oL, rfl, hbL⟩ := oq23 k hlk
    have cL := HGW.out.keep (HQ2.out.int_at hlk).1
    have HCL := Lib.hid (HQ2.out.int_at hlk).1
    rw [hm] at cL hml HCL
    rw [Int.toNat_natCast] at hml
    have zcL := blk cL
    have HM2 := Lib.hid hm
    have HML2 := Lib.hid hml
    clear hm hml
    have kk0 := fun (w' : World) (h : Gr B w') => h.keep HB0.out
    have kk1 := fun (w' : World) (h : Gr B w') => (HGB.out.trans h).keep qz2
    have kk2 := fun (w' : World) (h : Gr B w') => (HGB.out.trans h).keep HCL.out
    go_wp2_with fail
    refine wp_region_U (fun w' => Gr B w') 14 (by kernel_rfl) (HGR.out.drew) (fun hU => ?_)
    refine anyU_q 0 ?_
    try simp only [Act.put, uq1, uq2, uq3]
    refine anyU_q 1 ?_
    try simp only [Act.put, uq1, uq2, uq3]
    refine anyU_q 2 ?_
    try simp only [Act.put, uq1, uq2, uq3]
    refine anyU_q 4 ?_
    try simp only [Act.put, uq1, uq2, uq3]
    refine anyU_q 8 ?_
    try simp only [Act.put, uq1, uq2, uq3]
    refine anyU_q 3 ?_
    try simp only [Act.put, uq1, uq2, uq3]
    refine anyU_q 5 ?_
    try simp only [Act.put, uq1, uq2, uq3]
    refine anyU_q 6 ?_
    try simp only [Act.put, uq1, uq2, uq3]
    refine anyU_q 7 ?_
    try simp only [Act.put, uq1, uq2, uq3]
    refine anyU_q 9 ?_
    try simp only [Act.put, uq1, uq2, uq3]
    refine anyU_q 10 ?_
    try simp only [Act.put, uq1, uq2, uq3]
    refine anyU_ready (rs := [11]) (by kernel_rfl) (by simp) ?_
    refine (ReadyU.cons rfl (fun K hK => ?_) ReadyU.nil)
    go_simp
    go_at_call 58
    refine (HIH.out m _ _ _ (Rd.gr HS.out (HGW.out.trans gd)) (by omega) (by omega) HML2.out).mono ?_
    rintro e w' ⟨vt, ft, rfl, ht, x4, rfl⟩
    obtain ⟨fq, hsl, hfr, -⟩ := ht.read (by rw [exN_len]; unfold reachLen; have := HML2.out; omega) (fun x hx => by have := (exN_small s0 HCS.out.2 f m 0 (-1) 0 x hx).2.1; unfold reachLen; omega)
    obtain ⟨at4, ct4, hft⟩ := hsl.open
    obtain ⟨rfl, -⟩ := hft
    have HSL := Lib.hid hsl
    have HFQ := Lib.hid hfr
    clear ht hsl hfr
    refine hK.out _ _ (HGR.out.trans gd) (fun hU1 => ?_)
    clear hK K
    try simp only [Act.put, uq1, uq2, uq3]
    refine anyU_ready (rs := [12]) (by kernel_rfl) (by simp) ?_
    refine (ReadyU.cons rfl (fun K hK => ?_) ReadyU.nil)
    go_simp
    refine hK.out _ _ (HGR.out.trans gd) (fun hU2 => ?_)
    clear hK K
    try simp only [Act.put, uq1, uq2, uq3]
    refine anyU_ready (rs := [13]) (by kernel_rfl) (by simp) ?_
    refine (ReadyU.cons rfl (fun K hK => ?_) ReadyU.nil)
    refine step_append_RB (α := GTree) (wg := B) (w0 := B) (HGR.out.trans gd) (Nat.le_refl _) (HGR.out.trans gd).size (by rfl) _ _ _ (by rfl) 38 i0 (.agg #[.slice none 0 0]) 24 Try.underlying118 HZ.out.1 HZ.out.2.1 HZ.out.2.2.1 HZ.out.2.2.2 rfl (.slice ra M.length rc) fps _ (by rfl) (HO.out.gr gd) _ [fq] [exN s0 f m 0 (-1) 0] (by rfl) (SrcR.one (by first | rfl | (simp; done) | (simp; omega)) ⟨_, rfl, HSL.out.gr gd⟩) (fun b hb => by
     have h1 := (HO.out.base b hb).2
     intro hm
     have h2 := HFQ.out.2 b (by simpa using hm)
     simp at h2
     omega) (by rw [HML.out]; unfold maxLen; simp; omega) (by rw [HML.out]; simp; omega) ?_
    intro v9 w9 k1 k2 k3 k4
    have hFr : Fresh B (fps ++ [fq]).flatten := by
     rw [List.flatten_append, List.flatten_cons, List.flatten_nil, List.append_nil]
     exact HF.out.append HGR.out.size HO.out.lt (HFQ.out.of_le (by simp))
    replace k1 := Lib.hid k1
    replace k4 := Lib.hid k4
    have HFR := Lib.hid hFr
    obtain ⟨va, vc, hf9⟩ := k1.out.form
    subst hf9
    clear k2 k3 hFr
    refine hK.out _ _ k4.out (fun hU3 => ?_)
    clear hK K
    try simp only [Act.put, uq1, uq2, uq3]
    refine anyU_ready (rs := [14]) (by kernel_rfl) (by simp) ?_
    refine ReadyU.last rfl (fun K hK => ?_)
    go_simp
    refine hK.out _ _ ?_
    clear hK K
    try simp only [Act.put, uq1, uq2, uq3]
    refine anyU_done (by kernel_rfl) ?_ _
    go_wp2_with fail
    refine ⟨⟨k + 1, fps ++ [fq], by omega, HFR, k4.out, Lib.hid ?_, by go_num⟩, by simp [intOf]; omega⟩
    rw [List.take_succ_eq_append_getElem hlk, List.map_append, ← HM.out]
    have e : [q2[k]].map (fun q => exN s0 f q.toNat 0 (-1) 0) = [exN s0 f m 0 (-1) 0] := by rw [HM2.out]; rfl
    rw [e]
    have h := k1.out
    rwa [show (M ++ [exN s0 f m 0 (-1) 0]).length = M.length + 1 from by simp] at h
   ·have hk2 : k = q2.length := by omega
    subst hk2
    obtain ⟨fk, hslk, hfk⟩ := HO.out.fresh (by rw [HML.out]; unfold reachLen; omega) HF.out
    have HSK := Lib.hid hslk
    have hMf : M = q2.map fun q => exN s0 f q.toNat 0 (-1) 0 := by rw [HM.out, List.take_length]
    have HMF := Lib.hid hMf
    have hms : (M.map List.length).sum ≤ 15 := by
     rw [hMf, List.map_map]
     have e : (List.length ∘ fun q : Int => exN s0 f q.toNat 0 (-1) 0) = fun q : Int => exL s0 f q.toNat := by funext q; exact exN_len ..
     rw [e]
     have := H16.out
     rw [HEX.out] at this
     omega
    have hsm : SmallT M := by
     refine ⟨by rw [HML.out]; omega, by omega, fun t ht x hx => ?_⟩
     rw [hMf] at ht
     obtain ⟨q, hq, rfl⟩ := List.mem_map.1 ht
     obtain ⟨j, hj, rfl⟩ := List.mem_iff_getElem.1 hq
     have h1 := exN_small s0 HCS.out.2 f _ 0 (-1) 0 x hx
     have h2 := HKL.out j hj
     rw [exN_len] at h1
     refine ⟨?_, ?_, h1.2.1, fun c hc => ?_⟩
     ·rcases h1.1 with h | h <;> omega
     ·rcases h1.1 with h | h <;> omega
     ·have := h1.2.2 c hc; omega
    have HSMM := Lib.hid hsm
    have vr3 := HVR.out.gr HGR.out
    have HVR3 := Lib.hid vr3
    clear hslk hfk hMf hms hsm vr3
    have kk0 := fun (w' : World) (h : Gr B w') => h.keep HB0.out
    have kk1 := fun (w' : World) (h : Gr B w') => (HGB.out.trans h).keep qz0
    have kk2 := fun (w' : World) (h : Gr B w') => (HGB.out.trans h).keep qz1
    have HX0 := Lib.hid (show (Lit.int .i64 0).wf = true by decide)
    go_wp2_with fail
    refine wp_region_U (fun w' => Gr B w') 15 (by kernel_rfl) (HGR.out.drew) (fun hU => ?_)
    refine anyU_q 0 ?_
    try simp only [Act.put, uq1, uq2, uq3]
    refine anyU_q 2 ?_
    try simp only [Act.put, uq1, uq2, uq3]
    refine anyU_q 6 ?_
    try simp only [Act.put, uq1, uq2, uq3]
    refine anyU_q 8 ?_
    try simp only [Act.put, uq1, uq2, uq3]
    refine anyU_q 13 ?_
    try simp only [Act.put, uq1, uq2, uq3]
    refine anyU_q 1 ?_
    try simp only [Act.put, uq1, uq2, uq3]
    refine anyU_q 7 ?_
    try simp only [Act.put, uq1, uq2, uq3]
    refine anyU_q 3 ?_
    try simp only [Act.put, uq1, uq2, uq3]
    refine anyU_q 9 ?_
    try simp only [Act.put, uq1, uq2, uq3]
    refine anyU_q 4 ?_
    try simp only [Act.put, uq1, uq2, uq3]
    refine anyU_q 10 ?_
    try simp only [Act.put, uq1, uq2, uq3]
    refine anyU_q 5 ?_
    try simp only [Act.put, uq1, uq2, uq3]
    refine anyU_q 11 ?_
    try simp only [Act.put, uq1, uq2, uq3]
    refine anyU_q 12 ?_
    try simp only [Act.put, uq1, uq2, uq3]
    refine anyU_ready (rs := [14]) (by kernel_rfl) (by simp) ?_
    refine (ReadyU.cons rfl (fun K hK => ?_) ReadyU.nil)
    go_simp
    go_at_call 81
    refine (l13Join_any (fr := _) (cr := #[.int .i64 0, .int .i64 0, .int .i64 0, .int .i64 q1, .string q0, .slice none 0 0]) (0, 0, 0, q1, q0, []) M _ (rdNode_mk 0 0 0 q1 q0 [] HX0.out HX0.out HX0.out HQ.out.2.1 HQ.out.1 (SlR.nil _)) (HSK.out.gr gd) HSMM.out).mono ?_
    rintro e w' ⟨vt, ft, rfl, ht, x4, rfl⟩
    have htl := ht.lower (w0 := w) (by have := (HGB.out.trans (HGR.out.trans (gd : Gr W3 W3.drew))).size; exact this)
    have hft := ht.ge
    obtain ⟨at4, ct4, hform⟩ := ht.form
    subst hform
    have vr4 := HVR3.out.gr (gd : Gr W3 (W3.drew.ext x4))
    have d0 := vr4.box
    have fd0 := vr4.frozen 0
    have zd0 := blk d0
    have HT := Lib.hid htl
    have HFT := Lib.hid hft
    have HVR4 := Lib.hid vr4
    clear ht htl hft vr4
    refine hK.out _ _ (HGR.out.trans gd) (fun hU1 => ?_)
    clear hK K
    try simp only [Act.put, uq1, uq2, uq3]
    refine anyU_ready (rs := [15]) (by kernel_rfl) (by simp) ?_
    refine ReadyU.last rfl (fun K hK => ?_)
    go_simp
    refine hK.out _ _ ?_
    clear hK K
    try simp only [Act.put, uq1, uq2, uq3]
    refine anyU_done (by kernel_rfl) ?_ _
    obtain ⟨NS, hNS⟩ : ∃ NS, NS = joN (0, 0, 0, q1, q0, []) M := ⟨_, rfl⟩
    rw [← hNS] at HT
    rw [← hNS]
    have hfin : NS = exN s0 (f + 1) a 0 (-1) 0 := by rw [hNS, HMF.out, HJN.out]
    have HFIN := Lib.hid hfin
    clear hNS hfin
    go_wp2_with fail
    generalize hF : (W3.drew.ext x4).setCell ⟨w.heap.size + 1, 0, none⟩ (.slice at4 NS.length ct4) = WF
    have vF : VRow WF (w.heap.size + 1) 38 [.slice at4 NS.length ct4] := by rw [← hF]; exact HVR4.out.set 0 _
    have hs3 : w.heap.size + 2 ≤ W3.heap.size := by have h1 := HSB.out; have h2 := HGR.out.size; omega
    have tF : OwnT w WF (.slice at4 NS.length ct4) ft NS := by
     rw [← hF]
     refine HT.out.wr ((Wr.refl [w.heap.size + 1] _).setCell (by simp) _) (fun b hb hm => ?_)
     have h1 := HFT.out b hb
     simp at hm h1
     omega
    have gF : Gr w WF := by rw [← hF]; exact (HGW.out.trans gd).setCell (p := ⟨w.heap.size + 1, 0, none⟩) (by simp) _
    have r0' := vF.box
    clear hF vF
    exact bodyPost_ret (v := .agg #[.slice at4 NS.length ct4]) (by simp [results, Try.results58, go_sem, r0']) rfl ⟨_, ft, rfl, by rw [← HFIN.out]; exact tF, gF⟩
end Go.Proofs.Ytmfcagcanhmdbaa
