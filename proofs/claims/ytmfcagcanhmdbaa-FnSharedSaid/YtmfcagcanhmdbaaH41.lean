/- What holds of all cells of a store holds of them when a subtree is interned; plainly. One's own row of cells whose children are rows of one's own, too: an element's children made more. A store copied: the reference's; its rows are one's own. InternTree of the reference: the store's rows are one's own. How heavy a store is behind an interned tree; plain.  No condition. -/
import Derived.Test.YtmfcagcanhmdbaaH05
import Derived.Test.YtmfcagcanhmdbaaH28
import Derived.Test.YtmfcagcanhmdbaaH09
import Derived.Test.YtmfcagcanhmdbaaH40
import Derived.Test.YtmfcagcanhmdbaaH11
import Derived.Test.YtmfcagcanhmdbaaH31
namespace Go.Proofs.Ytmfcagcanhmdbaa
open Go.RowKit
set_option linter.unusedVariables false

theorem inK_len {T : GStore → List Int → Nat → Option (GStore × List Int × Int)} {i n : Nat} (cs : List Int) : ∀ s d ks s' d' ks', cs.foldl (inStep T i n) (some (s, d, ks)) = some (s', d', ks') → ks'.length = ks.length + cs.length := by
 induction cs with
 | nil =>
  intro s d ks s' d' ks' h
  simp only [List.foldl_nil, Option.some.injEq, Prod.mk.injEq] at h
  rw [← h.2.2]; rfl
 | cons c cs ih =>
  intro s d ks s' d' ks' h
  rw [List.foldl_cons] at h
  by_cases hc : (i : Int) + 1 ≤ c ∧ c ≤ (n : Int) - 1
  ·cases hT : T s d c.toNat with
   | none =>
    have : inStep T i n (some (s, d, ks)) c = none := by simp only [inStep]; rw [if_pos hc, hT]
    rw [this, inK_none] at h
    cases h
   | some r =>
    obtain ⟨s1, d1, k1⟩ := r
    have e : inStep T i n (some (s, d, ks)) c = some (s1, d1, ks ++ [k1]) := by simp only [inStep]; rw [if_pos hc, hT]
    rw [e] at h
    rw [ih _ _ _ _ _ _ h]
    simp
    omega
  ·have : inStep T i n (some (s, d, ks)) c = none := by simp only [inStep]; rw [if_neg hc]
   rw [this, inK_none] at h
   cases h
theorem inK_all {P : GCell → Prop} {T : GStore → List Int → Nat → Option (GStore × List Int × Int)} {i n : Nat} (H : ∀ s d j s' d' k, (∀ c ∈ s, P c) → T s d j = some (s', d', k) → ∀ c ∈ s', P c) (cs : List Int) :
  ∀ s d ks s' d' ks', (∀ c ∈ s, P c) → cs.foldl (inStep T i n) (some (s, d, ks)) = some (s', d', ks') → ∀ c ∈ s', P c := by
 induction cs with
 | nil =>
  intro s d ks s' d' ks' hs h
  simp only [List.foldl_nil, Option.some.injEq, Prod.mk.injEq] at h
  rw [← h.1]; exact hs
 | cons c cs ih =>
  intro s d ks s' d' ks' hs h
  rw [List.foldl_cons] at h
  by_cases hc : (i : Int) + 1 ≤ c ∧ c ≤ (n : Int) - 1
  ·cases hT : T s d c.toNat with
   | none =>
    have : inStep T i n (some (s, d, ks)) c = none := by simp only [inStep]; rw [if_pos hc, hT]
    rw [this, inK_none] at h
    cases h
   | some r =>
    obtain ⟨s1, d1, k1⟩ := r
    have e : inStep T i n (some (s, d, ks)) c = some (s1, d1, ks ++ [k1]) := by simp only [inStep]; rw [if_pos hc, hT]
    rw [e] at h
    exact ih _ _ _ _ _ _ (H _ _ _ _ _ _ hs hT) h
  ·have : inStep T i n (some (s, d, ks)) c = none := by simp only [inStep]; rw [if_neg hc]
   rw [this, inK_none] at h
   cases h
theorem inN_all {P : GCell → Prop} (t : List GNode) (ht : ∀ x ∈ t, ∀ ks : List Int, ks.length = (kidsN x).length → P (x.2.2.2.2.1, x.2.2.2.1, ks)) : ∀ f s d i s' d' k, (∀ c ∈ s, P c) → inN t f s d i = some (s', d', k) → ∀ c ∈ s', P c := by
 intro f
 induction f with
 | zero => intro s d i s' d' k hs h; simp [inN] at h
 | succ f ih =>
  intro s d i s' d' k hs h
  unfold inN at h
  split at h
  ·simp only [Option.some.injEq, Prod.mk.injEq] at h
   rw [← h.1]; exact hs
  ·cases hx : t[i]? with
   | none => rw [hx] at h; cases h
   | some x =>
    rw [hx] at h
    simp only at h
    cases hK : inK (inN t f) i t.length s d (kidsN x) with
    | none => rw [hK] at h; cases h
    | some r =>
     obtain ⟨s1, d1, ks⟩ := r
     rw [hK] at h
     simp only [Option.some.injEq, Prod.mk.injEq] at h
     obtain ⟨rfl, -, -⟩ := h
     have h1 := inK_all (P := P) (T := inN t f) (fun s d j s' d' k hs h => ih s d j s' d' k hs h) (kidsN x) s d [] s1 d1 ks hs hK
     have h2 := inK_len (T := inN t f) (kidsN x) s d [] s1 d1 ks hK
     intro c hc
     unfold putC at hc
     split at hc
     ·rcases List.mem_append.1 hc with hc | hc
      ·exact h1 c hc
      ·rw [List.mem_singleton.1 hc]
       exact ht x (List.mem_of_getElem? hx) ks (by simpa using h2)
     ·exact h1 c hc

theorem kids_tree {t : List GNode} {M : Nat} (h : wtTree t ≤ M) : t.length ≤ M ∧ ∀ x ∈ t, (kidsN x).length ≤ M := by
 have h0 : wtL wtNode t ≤ M := h
 refine ⟨Nat.le_trans (wtL_len wtNode t) h0, fun x hx => ?_⟩
 obtain ⟨i, hi, rfl⟩ := List.mem_iff_getElem.1 hx
 have h1 := wtL_at wtNode t hi
 have h2 : (kidsN t[i]).length ≤ wtNode t[i] := Nat.le_add_left _ _
 omega
theorem kids_store {s : GStore} {M : Nat} (h : wtStore s ≤ M) : s.length ≤ M ∧ ∀ c ∈ s, c.2.2.length ≤ M := by
 have h0 : wtL wtCell s ≤ M := h
 refine ⟨Nat.le_trans (wtL_len wtCell s) h0, fun c hc => ?_⟩
 obtain ⟨i, hi, rfl⟩ := List.mem_iff_getElem.1 hc
 have h1 := wtL_at wtCell s hi
 have h2 : s[i].2.2.length ≤ wtCell s[i] := Nat.le_add_left _ _
 omega

def ItnPost (w : World) (R : GStore × Int) (e : Ending) (w' : World) : Prop :=
 ∃ ct fq, e = .returned (.tuple #[.agg ct, .int .i64 R.2]) ∧ Rd.rd fq w' ct.toList R.1 ∧ Fresh w fq ∧ Gr w w'
end Go.Proofs.Ytmfcagcanhmdbaa

namespace Go.Proofs.Ytmfcagcanhmdbaa
open Go.RowKit
set_option linter.unusedVariables false

abbrev CellO (base : Nat) := ByteArray × Int × ORow base 3
def outC {base : Nat} (x : CellO base) : GCell := (x.1, x.2.1, x.2.2.out)
theorem rdCellO_inv {base : Nat} {fp : List Nat} {w : World} {cs : List Value} (q0 : ByteArray) (q1 : Int) (q2 : ORow base 3) (h : Rd.rd (α := CellO base) fp w cs (q0, q1, q2)) :
  ∃ v, cs = [.string q0, .int .i64 q1, v] ∧ fp = v.ownBlock.toList ∧ q0.size ≤ maxLen ∧ (Lit.int .i64 q1).wf = true ∧ Rd.rd v.ownBlock.toList w [v] q2 := by
 obtain ⟨_, _, _, _, rfl, rfl, ⟨rfl, rfl, hq0⟩, ⟨_, _, _, _, rfl, rfl, ⟨rfl, rfl, hq1⟩, ⟨v, rfl, h1, h2, rfl⟩⟩⟩ := h
 exact ⟨v, rfl, by simp, hq0, hq1, v, rfl, h1, h2, rfl⟩
theorem rdCellO_mk {base : Nat} {w : World} (q0 : ByteArray) (q1 : Int) {q2 : ORow base 3} {v : Value} (hq0 : q0.size ≤ maxLen) (hq1 : (Lit.int .i64 q1).wf = true) (h : Rd.rd v.ownBlock.toList w [v] q2) :
  Rd.rd (α := CellO base) v.ownBlock.toList w [.string q0, .int .i64 q1, v] (q0, q1, q2) := by
 have : v.ownBlock.toList = [] ++ ([] ++ v.ownBlock.toList) := by simp
 rw [this]
 exact ⟨_, _, _, _, rfl, rfl, ⟨rfl, rfl, hq0⟩, ⟨_, _, _, _, rfl, rfl, ⟨rfl, rfl, hq1⟩, by simpa using h⟩⟩

def OwnD (w0 w : World) (v : Value) (F : List Nat) (xs : List GCell) : Prop :=
 ∃ (fps : List (List Nat)) (ys : List (CellO w0.heap.size)), OwnR w0 78 w v fps ys ∧ ys.map outC = xs ∧ fps.flatten.Nodup ∧ (∀ b ∈ fps.flatten, w0.heap.size ≤ b) ∧ F = v.ownBlock.toList ++ fps.flatten
theorem OwnD.nil (w0 w : World) : OwnD w0 w (.slice none 0 0) [] [] := ⟨[], [], OwnR.nil _ _ _, rfl, by simp, by simp, rfl⟩
theorem OwnD.lt {w0 w : World} {v : Value} {F : List Nat} {xs : List GCell} (h : OwnD w0 w v F xs) : ∀ b ∈ F, b < w.heap.size := by
 obtain ⟨fps, ys, h1, h2, h3, h4, rfl⟩ := h
 intro b hb
 rcases List.mem_append.1 hb with hb | hb
 ·exact (h1.base b (by simpa using hb)).2
 ·exact h1.lt b hb
theorem OwnD.ge {w0 w : World} {v : Value} {F : List Nat} {xs : List GCell} (h : OwnD w0 w v F xs) : ∀ b ∈ F, w0.heap.size ≤ b := by
 obtain ⟨fps, ys, h1, h2, h3, h4, rfl⟩ := h
 intro b hb
 rcases List.mem_append.1 hb with hb | hb
 ·exact (h1.base b (by simpa using hb)).1
 ·exact h4 b hb
theorem OwnD.form {w0 w : World} {v : Value} {F : List Nat} {xs : List GCell} (h : OwnD w0 w v F xs) : ∃ a c, v = .slice a xs.length c := by
 obtain ⟨fps, ys, h1, rfl, -⟩ := h
 rw [List.length_map]
 exact h1.form
theorem OwnD.wr {w0 w w' : World} {v : Value} {F fq : List Nat} {xs : List GCell} (h : OwnD w0 w v F xs) (hw : Wr fq w w') (hd : ∀ b ∈ F, b ∉ fq) : OwnD w0 w' v F xs := by
 obtain ⟨fps, ys, h1, h2, h3, h4, rfl⟩ := h
 exact ⟨fps, ys, h1.wr hw (fun b hb => hd b (List.mem_append_right _ hb)) (fun b hb => hd b (List.mem_append_left _ (by simpa using hb))), h2, h3, h4, rfl⟩
theorem OwnD.gr {w0 w w' : World} {v : Value} {F : List Nat} {xs : List GCell} (h : OwnD w0 w v F xs) (hg : Gr w w') : OwnD w0 w' v F xs := h.wr (hg.toWr []) (by simp)

theorem OwnD.of_append {w0 w' : World} {v' : Value} {fps : List (List Nat)} {xs : List (CellO w0.heap.size)} {fq : List Nat} {y : CellO w0.heap.size} {ns : List GCell} (h : OwnR w0 78 w' v' (fps ++ [fq]) (xs ++ [y])) (h2 : xs.map outC = ns) (h3 : fps.flatten.Nodup) (h4 : ∀ b ∈ fps.flatten, w0.heap.size ≤ b)
  (hq : fq.Nodup) (hc : ∀ b ∈ fq, w0.heap.size ≤ b ∧ b ∉ fps.flatten) : OwnD w0 w' v' (v'.ownBlock.toList ++ (fps.flatten ++ fq)) (ns ++ [outC y]) := by
 refine ⟨_, _, h, by simp [h2], ?_, ?_, by simp⟩
 ·rw [List.flatten_append]
  refine List.nodup_append.2 ⟨h3, by simpa using hq, fun a ha b hb e => ?_⟩
  subst e
  exact (hc a (by simpa using hb)).2 ha
 ·intro b hb
  rw [List.flatten_append, List.mem_append] at hb
  rcases hb with hb | hb
  ·exact h4 b hb
  ·exact (hc b (by simpa using hb)).1

def lowC {b1 : Nat} (b0 : Nat) (x : CellO b1) : CellO b0 := (x.1, x.2.1, ORow.mk b0 3 x.2.2.out)
theorem OwnD.lower {w0 w1 w : World} {v : Value} {F : List Nat} {ns : List GCell} (h : OwnD w1 w v F ns) (hs : w0.heap.size ≤ w1.heap.size) : OwnD w0 w v F ns := by
 obtain ⟨fps, xs, hO, rfl, hnd, hge, rfl⟩ := h
 refine ⟨fps, xs.map (lowC w0.heap.size), ?_, by rw [List.map_map]; rfl, hnd, fun b hb => Nat.le_trans hs (hge b hb), rfl⟩
 obtain ⟨⟨css, ho, hE⟩, ha⟩ := hO.base_eq hs
 refine ⟨⟨css, by rw [List.length_map]; exact ho, ⟨by simp [hE.cl], by simp [hE.fl], fun i h0 h1 h2 => ?_⟩⟩, ha⟩
 have h0' : i < xs.length := by simpa using h0
 have := hE.rd i h0' h1 h2
 rw [List.getElem_map]
 obtain ⟨X, hX⟩ : ∃ X, X = xs[i] := ⟨_, rfl⟩
 rw [← hX] at this ⊢
 obtain ⟨q0, q1, q2⟩ := X
 obtain ⟨vj, e, hfq, w0', w1', h6'⟩ := rdCellO_inv q0 q1 q2 this
 rw [e, hfq]
 exact rdCellO_mk q0 q1 w0' w1' (ORow.lower hs h6')

theorem OwnD.read {w0 w : World} {v : Value} {F : List Nat} {ns : List GCell} (h : OwnD w0 w v F ns) (hl : ns.length ≤ reachLen) (hl2 : ∀ x ∈ ns, x.2.2.length ≤ reachLen) :
  ∃ fq, SlR fq w v ns ∧ Fresh w0 fq ∧ ∀ b ∈ fq, b ∈ F := by
 obtain ⟨fps, xs, hO, rfl, hnd, hge, rfl⟩ := h
 have hfl := hO.fl
 have hbase := hO.base
 obtain ⟨⟨css, ho, hE⟩, ha⟩ := hO
 have each : ∀ i, ∃ fq : List Nat, ∀ (h : i < xs.length) (h1 : i < css.length) (h2 : i < fps.length), Rd.rd (α := GCell) fq w css[i] (outC xs[i]) ∧ fq.Sublist fps[i] := by
  intro i
  by_cases hi : i < xs.length
  ·have h1 : i < css.length := by rw [hE.cl]; exact hi
   have h2 : i < fps.length := by rw [hfl]; exact hi
   have h3 := hE.rd i hi h1 h2
   have h4 : (outC xs[i]).2.2.length ≤ reachLen := hl2 _ (List.mem_map.2 ⟨_, List.getElem_mem hi, rfl⟩)
   obtain ⟨X, hX⟩ : ∃ X, X = xs[i] := ⟨_, rfl⟩
   rw [← hX] at h3 h4
   obtain ⟨q0, q1, q2⟩ := X
   obtain ⟨vj, e, hfq, w0', w1', h6'⟩ := rdCellO_inv q0 q1 q2 h3
   obtain ⟨fq, ⟨v5, e5, hr⟩, hs⟩ := ORow.read h6' h4
   obtain rfl : vj = v5 := by simpa using e5
   refine ⟨[] ++ ([] ++ fq), fun _ _ _ => ⟨?_, ?_⟩⟩
   ·rw [e, ← hX]; exact rdCell_mk q0 q1 _ w0' w1' hr
   ·rw [hfq]; simpa using hs
  ·exact ⟨[], fun h => absurd h hi⟩
 obtain ⟨f, hf⟩ := Classical.axiomOfChoice each
 have hsub : ∀ (l : List (List Nat)) (g : Nat → List Nat) , (∀ i (h : i < l.length), (g i).Sublist l[i]) → ((List.range l.length).map g).flatten.Sublist l.flatten := by
  intro l
  induction l with
  | nil => intro g _; simp
  | cons a l ih =>
   intro g hg
   rw [List.length_cons, List.range_succ_eq_map, List.map_cons, List.flatten_cons, List.flatten_cons, List.map_map]
   exact (hg 0 (by simp)).append (ih (g ∘ Nat.succ) fun i hi => hg (i + 1) (by simpa using hi))
 have hs := hsub fps f fun i hi => (hf i (by omega) (by rw [hE.cl]; omega) hi).2
 have hO2 : OwnR (α := GCell) w0 78 w v ((List.range fps.length).map f) (xs.map outC) := by
  refine ⟨⟨css, by rw [List.length_map]; exact ho, ⟨by simp [hE.cl], by simp [hfl], fun i h0 h1 h2 => ?_⟩⟩, fun b hb hm => ha b hb (hs.subset hm)⟩
  have h0' : i < xs.length := by simpa using h0
  simpa using (hf i h0' h1 (by omega)).1
 obtain ⟨fq, h1, h2⟩ := hO2.slR hl
 refine ⟨fq, h1, ?_, ?_⟩
 ·rcases h2 with ⟨_, rfl⟩ | ⟨b, hb, rfl⟩
  ·exact Fresh.nil _
  ·refine ⟨List.nodup_cons.2 ⟨fun hm => ha b hb (hs.subset hm), hs.nodup hnd⟩, fun c hc => ?_⟩
   rcases List.mem_cons.1 hc with rfl | hc
   ·exact (hbase _ hb).1
   ·exact hge c (hs.subset hc)
 ·rcases h2 with ⟨_, rfl⟩ | ⟨b, hb, rfl⟩
  ·simp
  ·intro c hc
   rcases List.mem_cons.1 hc with rfl | hc
   ·exact List.mem_append_left _ (by simpa using hb)
   ·exact List.mem_append_right _ (hs.subset hc)

theorem OwnD.at {w0 w : World} {v : Value} {F : List Nat} {ns : List GCell} (h : OwnD w0 w v F ns) {i : Nat} (hi : i < ns.length) :
  ∃ g cap vj fpj, v = .slice (some ⟨g, 0, none⟩) ns.length cap ∧ g < w.heap.size ∧ w0.heap.size ≤ g ∧ g ∈ F ∧ (∀ j u, [Value.string ns[i].1, .int .i64 ns[i].2.1, vj][j]? = some u → w.cell? ⟨g, i * 3 + j, none⟩ = some u) ∧ (∀ o, w.frozen? ⟨g, o, none⟩ = false) ∧
   OwnR (α := Int) w0 3 w vj fpj ns[i].2.2 ∧ fpj.flatten = [] ∧ g ∉ vj.ownBlock.toList ∧ (∀ b ∈ vj.ownBlock.toList, b ∈ F) ∧
   (∀ w9 v9 ys, Wr vj.ownBlock.toList w w9 → OwnR (α := Int) w0 3 w9 v9 (fpj ++ [[]]) ys → (v9.ownBlock = vj.ownBlock ∨ ∃ n, v9.ownBlock = some n ∧ w.heap.size ≤ n) →
    ∃ F', OwnD w0 (w9.setCell ⟨g, i * 3 + 2, none⟩ v9) v F' (ns.set i (ns[i].1, ns[i].2.1, ys)) ∧ ∀ b ∈ F', b ∈ F ∨ w.heap.size ≤ b) := by
 obtain ⟨fps, xs, hO, rfl, hnd, hge, rfl⟩ := h
 have hix : i < xs.length := by simpa using hi
 have hbase := hO.base
 have hap := hO.apart
 have hltf := hO.lt
 obtain ⟨g, cap, cs, fq, rfl, h1, h2, h3, h4, h5, h6, h7, h8⟩ := hO.upd hix
 obtain ⟨hjf, hjq⟩ := List.getElem?_eq_some_iff.1 h4
 have hel : (xs.map outC)[i] = outC xs[i] := by simp
 obtain ⟨X, hX⟩ : ∃ X, X = xs[i] := ⟨_, rfl⟩
 rw [← hX] at hel h6
 obtain ⟨q0, q1, q2⟩ := X
 obtain ⟨vj, rfl, hfq, w0', w1', h6'⟩ := rdCellO_inv q0 q1 q2 h6
 obtain ⟨vj2, fpj, e1, -, hOj, hfl⟩ := ORow.toOwn h6'
 obtain rfl : vj = vj2 := by simpa using e1
 have hsub : ∀ c ∈ fq, c ∈ fps.flatten := fun c hc => List.mem_flatten.2 ⟨_, List.getElem_mem hjf, by rw [hjq]; exact hc⟩
 have hgq : g ∉ fq := fun hm => hap g rfl (hsub g hm)
 have hn : Rd.n (CellO w0.heap.size) = 3 := rfl
 have hpw : ∀ k (hk : k < fps.length), k ≠ i → ∀ c ∈ fps[k], c ∉ fq := fun k hk hkj c hc hcq => by
  have hp := List.pairwise_iff_getElem.1 (List.pairwise_flatten.1 hnd).2
  rw [← hjq] at hcq
  rcases Nat.lt_or_gt_of_ne hkj with hlt | hgt
  ·exact hp k i hk hjf hlt c hc c hcq rfl
  ·exact hp i k hjf hk hgt c hcq c hc rfl
 rw [hn] at h5
 refine ⟨g, cap, vj, fpj, by rw [List.length_map], h2, h1, by simp [Value.ownBlock], ?_, h7, ?_, hfl, by rw [← hfq]; exact hgq, fun b hb => List.mem_append_right _ (hsub b (by rw [hfq]; exact hb)), fun w9 v9 ys hw hO9 hv9 => ?_⟩
 ·rw [hel]; exact h5
 ·rw [hel]; exact hOj
 ·rw [← hfq] at hw
  have hown9 : ∀ c ∈ v9.ownBlock.toList, c ∈ fq ∨ w.heap.size ≤ c := by
   intro c hc
   rcases hv9 with e9 | ⟨n, e9, hn⟩
   ·rw [e9, ← hfq] at hc; exact .inl hc
   ·rw [e9] at hc
    simp at hc
    subst hc
    exact .inr hn
  have hgv : g ∉ v9.ownBlock.toList := fun hm => by
   rcases hown9 g hm with h | h
   ·exact hgq h
   ·omega
  have hr5 : Rd.rd v9.ownBlock.toList (w9.setCell ⟨g, i * 3 + 2, none⟩ v9) [v9] (ORow.mk w0.heap.size 3 ys) := Rd.wr hO9.toORow ((Wr.refl [g] _).setCell (by simp) v9) (fun c hc hm => by simp at hm; subst hm; exact hgv hc)
  have hr := rdCellO_mk q0 q1 w0' w1' hr5
  have h9 := h8 w9 2 v9 v9.ownBlock.toList (q0, q1, ORow.mk w0.heap.size 3 ys) hw hgq hpw (by rw [hn]; omega) hgv (by rw [hn]; exact hr)
  rw [hn] at h9
  refine ⟨_, ⟨_, _, h9, ?_, nodup_set hnd hjf (by cases v9.ownBlock <;> simp) fun c hc => ?_, fun b hb => ?_, rfl⟩, fun b hb => ?_⟩
  ·have hso : ∀ (xs : List (CellO w0.heap.size)) (y : CellO w0.heap.size), (xs.set i y).map outC = (xs.map outC).set i (outC y) := fun xs y => List.map_set ..
   rw [hso, hel]; rfl
  ·rcases hown9 c hc with h | h
   ·rw [← hjq] at h; exact .inl h
   ·exact .inr fun hm => by have := hltf c hm; omega
  ·rcases mem_set_flatten hb with hb | hb
   ·exact hge b hb
   ·exact (hO9.base b (by simpa using hb)).1
  ·rcases List.mem_append.1 hb with hb | hb
   ·exact .inl (List.mem_append_left _ hb)
   ·rcases mem_set_flatten hb with hb | hb
    ·exact .inl (List.mem_append_right _ hb)
    ·rcases hown9 b hb with h | h
     ·exact .inl (List.mem_append_right _ (hsub b h))
     ·exact .inr h

def CopiedD (w : World) (xs : List GCell) (e : Ending) (w' : World) : Prop := ∃ v F, e = .returned (.agg #[v]) ∧ OwnD w w' v F xs ∧ Gr w w'

section
variable {P : Program}
theorem wpList_cloneO {w : World} {ops : Array Oper} {rest : List Oper} {o : Oper} {a : Act} {Q : Exit → Act → World → Prop} (hgd : o.guard = none) (s x : Operand) (t : TypeId)
  (ho : o.op = .call { callee := .builtin .append, args := #[s, x], argTypes := #[t, t] })
  (e : TypeId) (i : TypeInfo) (z : Value) (bytes : Nat) (ht : P.underlying t = some (.slice e)) (hi : P.info? e = some i) (hz : i.zero = some z)
  (hsize : i.size = 1) (hby : i.bytes = bytes) (hzs : z.cells.size = 1)
  {g : Nat} (hs : a.eval s = .slice (some ⟨g, 0, none⟩) 0 0) (hg : g = w.heap.size) {fp : List Nat} {xv : Value} {ys : List Int} (hx : a.eval x = xv) (hsrc : SlR fp w xv ys)
  (hlen : ys.length ≤ 1048576) (hbytes : ys.length * bytes ≤ 140737488355328)
  (h : ∀ b c fps y, OwnR (α := Int) w e (w.ext y) (.slice (some ⟨b, 0, none⟩) ys.length c) fps ys → fps.flatten = [] → wpList P ops Q rest (a.put o.dst (.slice (some ⟨b, 0, none⟩) ys.length c)) (w.ext y)) : wpList P ops Q (o :: rest) a (w.alloc (.cells #[] e)) := by
 have hG : Gr w (w.alloc (.cells #[] e)) := gd
 obtain ⟨gps, hS, -, -⟩ := SrcR.of_slR (hsrc.gr hG)
 have hfl := hS.flat flatInt
 refine wpList_append_R (α := Int) hG hgd s x t ho e i z bytes ht hi hz hsize hby hzs _ [] [] hs (OwnR.lit0 e (Nat.le_refl _) hg) xv gps ys hx hS (fun b hb => by rw [hfl]; simp) (by simp only [List.length_nil, maxLen]; omega) (by simpa using hbytes) ?_
 intro v' w' h1 h2 h3 h4
 obtain ⟨y, rfl⟩ := h4
 simp only [List.nil_append] at h1
 have hv : ∃ b c, v' = .slice (some ⟨b, 0, none⟩) ys.length c := by
  obtain ⟨⟨css, ho, hE⟩, ha⟩ := h1
  rcases ho.2 with ⟨rfl, h0⟩ | ⟨g, cap, cur, rfl, _⟩
  ·rcases h3 with h3 | h3 <;> simp [Value.ownBlock] at h3
  ·exact ⟨g, cap, rfl⟩
 obtain ⟨b, c, rfl⟩ := hv
 exact h b c gps y h1 hfl
end
end Go.Proofs.Ytmfcagcanhmdbaa

namespace Go.Proofs.Ytmfcagcanhmdbaa
open Go.RowKit
set_option linter.unusedVariables false
set_option linter.unusedSimpArgs false

set_option maxRecDepth 10000 in
set_option maxHeartbeats 8000000 in
theorem l39Copy_own {fs : List Nat} {cs : Array Value} (s : GStore) (w : World) (hs : Rd.rd fs w cs.toList s) (hl1 : s.length ≤ 2097152) (hl2 : ∀ c ∈ s, c.2.2.length ≤ 1048576) :
  Calls Try.prog 32 #[.agg cs] w (CopiedD w s) := by
 obtain ⟨i0, hi, hz0, hz1, hz2⟩ := info_parts Try.infoCell
 have HZ := Lib.hid (And.intro hi (And.intro hz0 (And.intro hz1 hz2)))
 clear hi hz0 hz1 hz2
 obtain ⟨i1, hi, hz0, hz1, hz2⟩ := info_parts Try.infoIntC
 have HZI := Lib.hid (And.intro hi (And.intro hz0 (And.intro hz1 hz2)))
 clear hi hz0 hz1 hz2
 have HL2 := Lib.hid hl2
 clear hl2
 have HS := Lib.hid hs
 obtain ⟨s0, rfl⟩ : ∃ y, y = s := ⟨s, rfl⟩
 obtain ⟨vs0, fs0, rfl, hfps, hs0⟩ := rdStore_inv s0 hs
 have FPs := Lib.hid hfps
 clear hfps
 obtain ⟨as0, ks0, rfl, os01, os02, os03⟩ := hs0.open
 clear hs
 have hl : s0.length ≤ 2097152 := hl1
 clear hl1
 go_enter Try.func32, Try.ntmps32
 go_wp2_with fail
 generalize hB : ((w.alloc (.cells #[.slice as0 s0.length ks0] 32)).alloc (.cells #[.slice none 0 0] 32)).alloc (.cells #[.slice none 0 0] 32) = B
 have gB : Gr w B := by rw [← hB]; exact gd
 have vr : VRow B (w.heap.size + 1) 32 [.slice none 0 0] := by
  rw [← hB]
  exact (VRow.new (A := (w.alloc (.cells #[.slice as0 s0.length ks0] 32))) (by simp)).gr gd
 have vo : VRow B (w.heap.size + 1 + 1) 32 [.slice none 0 0] := by
  rw [← hB]
  exact VRow.new (by simp)
 have cB : B.cell? ⟨w.heap.size, 0, none⟩ = some (.slice as0 s0.length ks0) := by rw [← hB]; exact Gr.keep gd (box_cell (A := w) rfl rfl)
 have HCB := Lib.hid cB
 have sB : B.heap.size = w.heap.size + 3 := by rw [← hB]; simp
 have HVR := Lib.hid vr
 have HVO := Lib.hid vo
 clear hB vr vo cB
 go_loopw [4] (fun s10 wr => ∃ (k : Nat) (v : Value) (F : List Nat), k ≤ s0.length ∧ Hid (Gr w wr) ∧ B.heap.size ≤ wr.heap.size ∧ Hid (VRow wr (w.heap.size + 1) 32 [.slice none 0 0]) ∧ Hid (VRow wr (w.heap.size + 1 + 1) 32 [v]) ∧ Hid (OwnD B wr v F (s0.take k)) ∧ Hid (wr.cell? ⟨w.heap.size, 0, none⟩ = some (.slice as0 s0.length ks0)) ∧ s10 = .int .i64 k) (fun s10 _ => s0.length - (intOf s10).toNat)
 case atStart => exact ⟨0, _, _, by omega, Lib.hid gB, Nat.le_refl _, HVR, HVO, Lib.hid (OwnD.nil B B), HCB, rfl⟩
 case round =>
  obtain ⟨k, v, F, hk, HG, hsz, HR3, HO3, HC3, HB3, rfl⟩ := hrel
  rename World => W3
  have c3 := HB3.out
  have zc3 := blk c3
  by_cases hlt : k < s0.length
  ·skip
   obtain ⟨b, off, rfl, hbb⟩ := os03 k hlt
   obtain ⟨csq, feq, hcq, hrq, -⟩ := hs0.at hlt
   obtain ⟨yq, hyq⟩ : ∃ y, y = s0[k] := ⟨_, rfl⟩
   rw [← hyq] at hrq
   have HYq := Lib.hid hyq
   have HRq := Lib.hid hrq
   obtain ⟨q0, q1, q2⟩ := yq
   obtain ⟨vq2, fq2, hcsq, -, hq0, hq1, hq2⟩ := rdCell_inv (cs := csq.toArray) q0 q1 q2 (by simpa using hrq)
   obtain rfl : csq = [.string q0, .int .i64 q1, vq2] := by have := congrArg Array.toList hcsq; simpa using this
   obtain ⟨aq2, kq2, rfl, oq21, oq22, oq23⟩ := hq2.open
   have qz0 := HG.out.keep (show w.cell? ⟨b, off + k * 3, none⟩ = some (.string q0) from by simpa [Rd.n] using hcq 0 _ rfl)
   have qz1 := HG.out.keep (show w.cell? ⟨b, off + k * 3 + 1, none⟩ = some (.int .i64 q1) from hcq 1 _ rfl)
   have qz2 := HG.out.keep (show w.cell? ⟨b, off + k * 3 + 2, none⟩ = some (.slice aq2 q2.length kq2) from hcq 2 _ rfl)
   have qzb := blk qz0
   clear hcsq hcq hrq hyq
   have hql : q2.length ≤ 1048576 := by
    have := HL2.out (q0, q1, q2) (by rw [HYq.out]; exact List.getElem_mem hlt)
    exact this
   have HQ := Lib.hid (And.intro hq0 hq1)
   have HQ2 := Lib.hid hq2
   have k0 : (0 : Int) ≤ (k : Int) := by omega
   have k1 : (k : Int) < (s0.length : Int) := by omega
   have iw : IntKind.i64.wrap ((k : Int) + 1) = (k : Int) + 1 := IntWalk.i64_in _ (by omega)
   have o0 := HO3.out.box
   have zo0 := blk o0
   obtain ⟨T, hT⟩ : ∃ T, T = s0.take k := ⟨_, rfl⟩
   have hlk : T.length = k := by rw [hT, List.length_take]; omega
   rw [← hT] at HC3
   have HTT := Lib.hid hT
   clear hT
   obtain ⟨ra, rc, hform⟩ := HC3.out.form
   subst hform
   have hFl := HC3.out.lt
   have hFg := HC3.out.ge
   obtain ⟨fps, ys, hO, hys, hnd, hge, hFE⟩ := HC3.out
   have HYS := Lib.hid hys
   have HYL := Lib.hid (show ys.length = T.length by rw [← hys, List.length_map])
   have HO := Lib.hid hO
   have HND := Lib.hid (And.intro hnd hge)
   have HFL := Lib.hid hFl
   have HFG := Lib.hid hFg
   have HFE := Lib.hid hFE
   have HLK := Lib.hid hlk
   have hso : w.heap.size + 1 + 1 ∉ (Value.slice ra T.length rc).ownBlock.toList := fun hm => by
    have := hFg _ (by rw [hFE]; exact List.mem_append_left _ hm)
    omega
   have hsr : w.heap.size + 1 ∉ (Value.slice ra T.length rc).ownBlock.toList := fun hm => by
    have := hFg _ (by rw [hFE]; exact List.mem_append_left _ hm)
    omega
   have hsb : w.heap.size ∉ (Value.slice ra T.length rc).ownBlock.toList := fun hm => by
    have := hFg _ (by rw [hFE]; exact List.mem_append_left _ hm)
    omega
   have HSB := Lib.hid hsb
   clear hsb
   have HSO := Lib.hid hso
   have HSR := Lib.hid hsr
   clear hq0 hq1 hO hys hnd hge hFE hFl hFg hlk hso hsr
   go_wp2_with (first
    | (at_builtin; refine wpList_cloneO rfl _ _ 59 rfl 3 i1 (.int .i64 0) 8 Try.underlying59 HZI.out.1 HZI.out.2.1 HZI.out.2.2.1 HZI.out.2.2.2 rfl (by rfl) (by simp) (by rfl) (HQ2.out.gr (HG.out.trans gd)) hql (by omega) ?_; intro b5 c5 f5 y5 s5 r5; have hb5 := s5.base b5 rfl; have HB5 := Lib.hid (show W3.heap.size < b5 by have := hb5.1; simp at this; omega); have S5 := Lib.hid (s5.base_eq (w1 := B) (by simp; omega)).toORow; have HAP := Lib.hid (show ∀ b, (Value.slice ra T.length rc).ownBlock = some b → b ∉ [[b5]].flatten from fun b hb hm => by have h1 := HFL.out b (by rw [HFE.out]; exact List.mem_append_left _ (by rw [hb]; simp)); have h2 := HB5.out; simp at hm; omega); have HN5 := Lib.hid (show ∀ b ∈ [b5], B.heap.size ≤ b ∧ b ∉ fps.flatten from fun b hb => ⟨by have := HB5.out; simp at hb; omega, fun hm => by have h1 := HFL.out b (by rw [HFE.out]; exact List.mem_append_right _ hm); have h2 := HB5.out; simp at hb; omega⟩); have FR5 := Lib.hid (show Fresh (W3.alloc (.cells #[.string q0, .int .i64 q1, .slice aq2 q2.length kq2] 78)) [b5] from ⟨by simp, fun b hb => by rw [List.mem_singleton.1 hb]; exact hb5.1⟩); clear s5 r5 hb5)
    | (at_builtin; refine wpList_append_RB (α := CellO B.heap.size) (wg := w) (w0 := B) (HG.out.trans gd) gB.size (by simp; omega) rfl _ _ 30 rfl 78 i0 (.agg #[.string ByteArray.empty, .int .i64 0, .slice none 0 0]) 48 Try.underlying30 HZ.out.1 HZ.out.2.1 HZ.out.2.2.1 HZ.out.2.2.2 rfl _ fps _ (by rfl) (HO.out.gr gd) _ [[b5]] [(q0, q1, ORow.mk B.heap.size 3 q2)] (by rfl) (SrcR.one (by simp) (rdCellO_mk q0 q1 HQ.out.1 HQ.out.2 (Rd.moved (fp := [b5]) S5.out FR5.out gd (by simp)))) HAP.out (by rw [HYL.out, HLK.out]; unfold maxLen; simp; omega) (by rw [HYL.out, HLK.out]; simp; omega) ?_; intro v3 w3 h1 h2 h3 h4; have t3 : OwnD B w3 v3 (v3.ownBlock.toList ++ (fps.flatten ++ [b5])) (T ++ [(q0, q1, q2)]) := OwnD.of_append h1 HYS.out HND.out.1 HND.out.2 (by simp) HN5.out; obtain ⟨va3, vc3, hf3⟩ := t3.form; rw [show (T ++ [(q0, q1, q2)]).length = T.length + 1 by simp] at hf3; subst hf3; replace t3 := Lib.hid t3; have hw3 := (gd : Gr W3 (((W3.alloc (.cells #[.string q0, .int .i64 q1, .slice (some ⟨b5, 0, none⟩) q2.length c5] 78)).ext y5).alloc (.cells #[.string q0, .int .i64 q1, .slice (some ⟨b5, 0, none⟩) q2.length c5] 78))).toWr _ |>.trans h2; have vo3 := HO3.out.wr hw3 HSO.out; have d0 := vo3.box; have fd0 := vo3.frozen 0; have zd0 := blk d0; have hs3 := hw3.size; have HW3 := Lib.hid hw3; have HVO3 := Lib.hid vo3; replace h3 := Lib.hid h3; replace h4 := Lib.hid h4; clear h1 h2 hw3 vo3))
   have h30 := h3.out
   refine ⟨⟨k + 1, .slice va3 (T.length + 1) vc3, (Value.slice va3 (T.length + 1) vc3).ownBlock.toList ++ (fps.flatten ++ [b5]), by omega, Lib.hid (h4.out.setCell (p := ⟨w.heap.size + 1 + 1, 0, none⟩) (by simp <;> omega) _), by rw [size_setCell']; omega, Lib.hid ((HR3.out.wr HW3.out HSR.out).ne (by omega)), Lib.hid (HVO3.out.set 0 _), Lib.hid ?_, Lib.hid (((Wr.refl [w.heap.size + 1 + 1] _).setCell (by simp) _).keepC (HW3.out.keepC HB3.out HSB.out) (by simp; omega)), by go_num⟩, by simp [intOf]; omega⟩
   have hq : s0.take (k + 1) = T ++ [(q0, q1, q2)] := by rw [List.take_succ_eq_append_getElem hlt, HTT.out, HYq.out]
   rw [hq]
   exact t3.out.wr ((Wr.refl [w.heap.size + 1 + 1] _).setCell (by simp) _) (fun b hb hm => by
    have := t3.out.ge b hb
    simp at hm
    omega)
  ·obtain rfl : k = s0.length := by omega
   have hC := HC3.out
   rw [List.take_length] at hC
   obtain ⟨va, vc, hform⟩ := hC.form
   subst hform
   have HC := Lib.hid hC
   clear hC
   have y0 := HO3.out.box
   have x0 := HR3.out.box
   have zy0 := blk y0
   have zx0 := blk x0
   have fx0 := HR3.out.frozen 0
   go_wp2_with fail
   generalize hF : W3.setCell ⟨w.heap.size + 1, 0, none⟩ (.slice va s0.length vc) = WF
   have vF : VRow WF (w.heap.size + 1) 32 [.slice va s0.length vc] := by rw [← hF]; exact HR3.out.set 0 _
   have tF : OwnD B WF (.slice va s0.length vc) F s0 := by
    rw [← hF]
    have h1 := HC.out
    exact h1.wr ((Wr.refl [w.heap.size + 1] _).setCell (by simp) _) (fun b hb hm => by
     have := h1.ge b hb
     simp at hm
     omega)
   have gF : Gr w WF := by rw [← hF]; exact HG.out.setCell (p := ⟨w.heap.size + 1, 0, none⟩) (by simp) _
   have r0' := vF.box
   clear hF vF
   exact bodyPost_ret (v := .agg #[.slice va s0.length vc]) (by simp [results, Try.results32, go_sem, r0']) rfl ⟨_, F, rfl, tF.lower gB.size, gF⟩
end Go.Proofs.Ytmfcagcanhmdbaa

namespace Go.Proofs.Ytmfcagcanhmdbaa
open Go.RowKit
set_option linter.unusedVariables false
set_option linter.unusedSimpArgs false

def ItnOwn (w : World) (R : GStore × Int) (e : Ending) (w' : World) : Prop :=
 ∃ v F, e = .returned (.tuple #[.agg #[v], .int .i64 R.2]) ∧ OwnD w w' v F R.1 ∧ Gr w w'
set_option maxRecDepth 100000 in
set_option maxHeartbeats 8000000 in
theorem specIntern_own {fs : List Nat} {cs : Array Value} (s : GStore) {ft : List Nat} {ct : Array Value} (t : GTree) (i : Int) (w : World) (hs : Rd.rd fs w cs.toList s) (ht : Rd.rd ft w ct.toList t) (hl : wtStore s ≤ 1048576) (hl2 : wtTree t ≤ 1048576) :
  Calls Try.prog 8 #[.agg cs, .agg ct, .int .i64 i] w (ItnOwn w (itnOf s t i)) := by
 obtain ⟨i0, hi0, hz0, hz1, hz2⟩ := info_parts Try.infoIntC
 have HZ := Lib.hid (And.intro hi0 (And.intro hz0 (And.intro hz1 hz2)))
 clear hi0 hz0 hz1 hz2
 have HWT := Lib.hid hl
 have HWT2 := Lib.hid hl2
 clear hl hl2
 have HS := Lib.hid hs
 obtain ⟨s0, rfl⟩ : ∃ y, y = s := ⟨s, rfl⟩
 obtain ⟨vs0, fs0, rfl, hfps, hs0⟩ := rdStore_inv s0 hs
 have FPs := Lib.hid hfps
 clear hfps
 obtain ⟨as0, ks0, rfl, os01, os02, os03⟩ := hs0.open
 clear hs
 have HT := Lib.hid ht
 obtain ⟨t0, rfl⟩ : ∃ y, y = t := ⟨t, rfl⟩
 obtain ⟨vt0, ft0, rfl, hfpt, ht0⟩ := rdTree_inv t0 ht
 have FPt := Lib.hid hfpt
 clear hfpt
 obtain ⟨at0, kt0, rfl, ot01, ot02, ot03⟩ := ht0.open
 clear ht
 have HL := Lib.hid (show s0.length ≤ 2097152 ∧ ∀ c ∈ s0, c.2.2.length ≤ 1048576 from ⟨by have := (kids_store HWT.out).1; omega, (kids_store HWT.out).2⟩)
 have HLT := Lib.hid (kids_tree HWT2.out)
 have htl := HLT.out.1
 have iw2 : IntKind.i64.wrap ((t0.length : Int) - 1) = (t0.length : Int) - 1 := IntWalk.i64_in _ (by omega)
 by_cases hv : ValidStore s0
 ·have HB := Lib.hid (validB_true hv)
  by_cases hi : 0 ≤ i ∧ i ≤ (t0.length : Int) - 1
  ·obtain ⟨n, rfl⟩ : ∃ n : Nat, i = n := ⟨i.toNat, by omega⟩
   have hn : n < t0.length := by omega
   have HI := Lib.hid hi
   have HN0 := Lib.hid (itnOf_yes (s := s0) (t := t0) (i := (n : Int)) ⟨hv, hi⟩)
   clear hi hv
   go_enter Try.func8, Try.ntmps8
   go_wp2_with fail
   refine (specValid_any _ _ s0 _ (Rd.gr HS.out gd)).mono ?_
   rintro e w' ⟨rfl, x1, rfl⟩
   rw [HB.out]
   generalize hB : (((w.alloc (.cells #[.slice as0 s0.length ks0] 32)).alloc (.cells #[.slice at0 t0.length kt0] 38)).alloc (.cells #[.slice none 0 0] 32)).ext x1 = B
   have gB : Gr w B := by rw [← hB]; exact gd
   have cs1 : B.cell? ⟨w.heap.size, 0, none⟩ = some (.slice as0 s0.length ks0) := by rw [← hB]; exact Gr.keep gd (box_cell (A := w) rfl rfl)
   have ct1 : B.cell? ⟨w.heap.size + 1, 0, none⟩ = some (.slice at0 t0.length kt0) := by rw [← hB]; exact Gr.keep gd (box_cell (A := w.alloc (.cells #[.slice as0 s0.length ks0] 32)) (by simp) rfl)
   have vr1 : VRow B (w.heap.size + 1 + 1) 32 [.slice none 0 0] := by
    rw [← hB]
    exact (VRow.new (A := (w.alloc (.cells #[.slice as0 s0.length ks0] 32)).alloc (.cells #[.slice at0 t0.length kt0] 38)) (by simp)).gr gd
   have sB : w.heap.size + 3 ≤ B.heap.size := by rw [← hB]; simp
   have HGB := Lib.hid gB
   have HCS1 := Lib.hid cs1
   have HCT1 := Lib.hid ct1
   have HVR1 := Lib.hid vr1
   have zcs1 := blk cs1
   have zct1 := blk ct1
   clear hB gB vr1
   go_wp2_with fail
   refine (l1In_yes _ _ _ _ HI.out.1 HI.out.2).mono ?_
   rintro e w' ⟨rfl, x2, rfl⟩
   go_wp2_with fail
   generalize hC : B.ext x2 = C
   have gBC : Gr B C := by rw [← hC]; exact gd
   have HGC := Lib.hid (HGB.out.trans gBC)
   have cs2 := gBC.keep cs1
   have ct2 := gBC.keep ct1
   have HCS2 := Lib.hid cs2
   have HCT2 := Lib.hid ct2
   have HVR2 := Lib.hid (HVR1.out.gr gBC)
   have sC : w.heap.size + 3 ≤ C.heap.size := by have := gBC.size; omega
   have hsum : C.heap.size = C.heap.size := rfl
   clear gBC cs1 ct1 zcs1 zct1
   have hlit : B.heap.size + x2.objs.size = C.heap.size := by rw [← hC]; simp
   rw [hlit]
   clear hC hlit hsum
   go_loopw [9, 8] (fun s9 s8 wr => ∃ (k : Nat) (fps : List (List Nat)), k ≤ t0.length ∧ Hid (Gr C wr) ∧ OwnR (α := Int) C 3 wr s8 fps (List.replicate k (-1)) ∧ Hid (fps.flatten = []) ∧ s9 = .int .i64 k) (fun s9 _ _ => t0.length - (intOf s9).toNat)
   case atStart => exact ⟨0, [], by omega, Lib.hid gd, OwnR.lit0 (α := Int) (w0 := C) (w := C) 3 (Nat.le_refl _) rfl, Lib.hid rfl, rfl⟩
   case round =>
    obtain ⟨k, fps, hk, HG5, hown, HF, rfl⟩ := hrel
    rename World => W5
    have HO := Lib.hid hown
    obtain ⟨ra, rc, hform⟩ := hown.form
    rw [List.length_replicate] at hform
    subst hform
    have ct5 := HG5.out.keep ct2
    have zct5 := blk ct5
    have k0' : (0 : Int) ≤ (k : Int) := by omega
    clear hown
    by_cases hlk : k < t0.length
    ·have iwk : IntKind.i64.wrap ((k : Int) + 1) = (k : Int) + 1 := IntWalk.i64_in _ (by omega)
     go_wp2_with (first | (at_builtin; refine wpList_append_R (α := Int) (w0 := C) (HG5.out.trans gd) rfl _ _ 59 rfl 3 i0 (.int .i64 0) 8 Try.underlying59 HZ.out.1 HZ.out.2.1 HZ.out.2.2.1 HZ.out.2.2.2 rfl _ fps (List.replicate k (-1)) (by rfl) (HO.out.gr gd) _ [[]] [(-1)] (by rfl) (SrcR.one (by simp) (intRd (by decide) _)) (fun b _ => by simp) (by unfold maxLen; simp; omega) (by simp; omega) ?_; intro v3 w3 h1 h2 h3 h4; replace h1 := Lib.hid h1; replace h4 := Lib.hid h4; clear h2 h3))
     refine ⟨⟨k + 1, fps ++ [[]], by omega, h4, ?_, Lib.hid (by rw [List.flatten_append, HF.out]; rfl), by go_num⟩, by simp [intOf]; omega⟩
     rw [List.replicate_succ']
     exact h1.out
    ·have hk2 : k = t0.length := by omega
     subst hk2
     obtain ⟨cb, cp, rest, hv, hcb, hcb2, hd⟩ := DRow.of_own (by have h := HO.out; exact h) (fun e => by have h := congrArg List.length e; rw [List.length_replicate, List.length_nil] at h; omega)
     rw [List.length_replicate] at hv
     injection hv with e1 e2 e3
     subst e1 e3
     have HD := Lib.hid hd
     have cs5 := HG5.out.keep cs2
     have zcs5 := blk cs5
     have HVR5 := Lib.hid (HVR2.out.gr HG5.out)
     have sz5 := HG5.out.size
     clear hd e2 ct2 cs2
     have hrt : Rd.rd ft W5 (#[.slice at0 t0.length kt0] : Array Value).toList t0 := Rd.gr HT.out (HGC.out.trans HG5.out)
     have hrs : Rd.rd fs W5 (#[.slice as0 s0.length ks0] : Array Value).toList s0 := Rd.gr HS.out (HGC.out.trans HG5.out)
     have hpt : wtStore s0 + pot t0 (List.replicate t0.length (-1)) ≤ 2097152 := by rw [pot_start]; have := HWT.out; have := HWT2.out; omega
     have hfs : cb ∉ fs := fun hm => by have := Rd.lt HS.out _ hm; omega
     have hdl : (List.replicate t0.length (-1 : Int)).length = t0.length := List.length_replicate
     have hbd : ∀ y ∈ List.replicate t0.length (-1 : Int), y < (s0.length : Int) := fun y hy => by rw [(List.mem_replicate.1 hy).2]; omega
     have hcl : Calls Try.prog 33 #[.agg #[.slice as0 s0.length ks0], .agg #[.slice at0 t0.length kt0], .int .i64 (n : Int), .slice (some ⟨cb, 0, none⟩) t0.length rc] W5 (InSPost rest cb w W5 fs (inN t0 t0.length s0 (List.replicate t0.length (-1)) n)) :=
      l39Intern_any t0 HLT.out.1 HLT.out.2 rest cb w (by omega) t0.length n ft _ fs _ rc s0 (List.replicate t0.length (-1)) W5 hrt hrs (fun b hb => Rd.lt HT.out b hb) hfs hn (by omega) (HGC.out.trans HG5.out) HD.out hdl hpt hbd
     have HCL := Lib.hid hcl
     clear hcl hrt hrs hpt hfs hdl hbd
     go_wp2_with fail
     refine HCL.out.mono ?_
     rintro e W6 ⟨a6, n6, c6, y6, d6, rfl, g6, wr6, vc6, hno, hyes⟩
     have HG6 := Lib.hid g6
     have vr6 := HVR5.out.wr wr6 (by simp; omega)
     have HVR6 := Lib.hid vr6
     have cs6 := wr6.keepC cs5 (by simp; omega)
     have zcs6 := blk cs6
     have sz6 := wr6.size
     clear g6 wr6 vc6 vr6 cs5 zcs5 ct5 zct5
     by_cases hg : GoodT t0 n
     ·obtain ⟨s', d', k', hN, hk0, hk1, hwt'⟩ := itnN_good (s := s0) hn hg
      obtain ⟨rfl, -, fs6, hsl6, hfs6⟩ := hyes s' d' k' hN
      have hn6 : n6 = s'.length := by obtain ⟨a, c, e, -⟩ := hsl6; injection e
      subst hn6
      have HN : Hid (itnOf s0 t0 (n : Int) = (s', y6)) := Lib.hid (by rw [HN0.out]; unfold itnN; rw [Int.toNat_natCast, hN])
      have hl' : s'.length ≤ 2097152 := by
       have h2 := HWT.out
       have h3 := HWT2.out
       have h4 := wtL_len wtCell s'
       have h5 : wtStore s' = wtL wtCell s' := rfl
       omega
      have HL' := Lib.hid (And.intro hl' (show ∀ c ∈ s', c.2.2.length ≤ 1048576 from inN_all (P := fun c => c.2.2.length ≤ 1048576) t0 (fun x hx ks hks => by show ks.length ≤ _; rw [hks]; exact HLT.out.2 x hx) _ _ _ _ _ _ _ HL.out.2 hN))
      have HSL6 := Lib.hid hsl6
      have hy0 : ¬ y6 < 0 := by omega
      clear hno hyes hN hg hk0 hk1 hwt' hl' hsl6 hfs6
      go_wp2_with fail
      refine (l39Copy_own s' _ (rdStore_mk s' (HSL6.out.gr gd)) HL'.out.1 HL'.out.2).mono ?_
      rintro e W9 ⟨v9, F9, rfl, hO9, g9⟩
      obtain ⟨a9, c9, hform⟩ := hO9.form
      subst hform
      have HO9 := Lib.hid hO9
      have HF9 := Lib.hid (show ∀ b ∈ F9, w.heap.size + 3 ≤ b from fun b hb => by have := hO9.ge b hb; (simp at this; omega))
      have HG9 := Lib.hid ((HG6.out.trans (Gr.alloc (Gr.refl _) _)).trans g9)
      have vr9 := (HVR6.out.gr (Gr.alloc (Gr.refl _) _)).gr g9
      have r9 := vr9.box
      have zr9 := blk r9
      have fr9 := vr9.frozen 0
      have HVR9 := Lib.hid vr9
      clear hO9 g9 vr9
      go_wp2_with fail
      generalize hWF : W9.setCell ⟨w.heap.size + 1 + 1, 0, none⟩ (.slice a9 s'.length c9) = WF
      have vF : VRow WF (w.heap.size + 1 + 1) 32 [.slice a9 s'.length c9] := by rw [← hWF]; exact HVR9.out.set 0 _
      have gF : Gr w WF := by rw [← hWF]; exact Gr.setCell (p := ⟨w.heap.size + 1 + 1, 0, none⟩) HG9.out (by show _ ≤ w.heap.size + 1 + 1; omega) _
      have oF : OwnD (W6.alloc (.cells #[.slice a6 s'.length c6] 32)) WF (.slice a9 s'.length c9) F9 s' := by rw [← hWF]; exact HO9.out.wr ((Wr.refl [w.heap.size + 1 + 1] _).setCell (List.mem_singleton.2 rfl) _) (fun b hb hm => by have := HF9.out b hb; have h3 := List.mem_singleton.1 hm; omega)
      have h1 := oF.lower (w0 := w) (by (simp; omega))
      have r0' := vF.box
      clear hWF vF oF
      exact bodyPost_ret (v := .tuple #[.agg #[.slice a9 s'.length c9], .int .i64 y6]) (by simp [results, Try.results8, go_sem, r0']) rfl ⟨.slice a9 s'.length c9, F9, by rw [HN.out], by rw [HN.out]; exact h1, gF⟩
     ·have hbad := itnN_bad (s := s0) hn hg
      obtain rfl := hno hbad
      have HN : Hid (itnOf s0 t0 (n : Int) = (s0, -1)) := Lib.hid (by rw [HN0.out]; unfold itnN; rw [Int.toNat_natCast, hbad])
      clear hno hyes hg hbad
      go_wp2_with fail
      refine (l39Copy_own s0 _ (Rd.gr HS.out (HG6.out.trans gd)) HL.out.1 HL.out.2).mono ?_
      rintro e W9 ⟨v9, F9, rfl, hO9, g9⟩
      obtain ⟨a9, c9, hform⟩ := hO9.form
      subst hform
      have HO9 := Lib.hid hO9
      have HF9 := Lib.hid (show ∀ b ∈ F9, w.heap.size + 3 ≤ b from fun b hb => by have := hO9.ge b hb; (simp at this; omega))
      have HG9 := Lib.hid ((HG6.out.trans (Gr.alloc (Gr.refl _) _)).trans g9)
      have vr9 := (HVR6.out.gr (Gr.alloc (Gr.refl _) _)).gr g9
      have r9 := vr9.box
      have zr9 := blk r9
      have fr9 := vr9.frozen 0
      have HVR9 := Lib.hid vr9
      clear hO9 g9 vr9
      go_wp2_with fail
      generalize hWF : W9.setCell ⟨w.heap.size + 1 + 1, 0, none⟩ (.slice a9 s0.length c9) = WF
      have vF : VRow WF (w.heap.size + 1 + 1) 32 [.slice a9 s0.length c9] := by rw [← hWF]; exact HVR9.out.set 0 _
      have gF : Gr w WF := by rw [← hWF]; exact Gr.setCell (p := ⟨w.heap.size + 1 + 1, 0, none⟩) HG9.out (by show _ ≤ w.heap.size + 1 + 1; omega) _
      have oF : OwnD (W6.alloc (.cells #[.slice a6 n6 c6] 32)) WF (.slice a9 s0.length c9) F9 s0 := by rw [← hWF]; exact HO9.out.wr ((Wr.refl [w.heap.size + 1 + 1] _).setCell (List.mem_singleton.2 rfl) _) (fun b hb hm => by have := HF9.out b hb; have h3 := List.mem_singleton.1 hm; omega)
      have h1 := oF.lower (w0 := w) (by (simp; omega))
      have r0' := vF.box
      clear hWF vF oF
      exact bodyPost_ret (v := .tuple #[.agg #[.slice a9 s0.length c9], .int .i64 (-1)]) (by simp [results, Try.results8, go_sem, r0']) rfl ⟨.slice a9 s0.length c9, F9, by rw [HN.out], by rw [HN.out]; exact h1, gF⟩
  ·have HN : Hid (itnOf s0 t0 i = (s0, -1)) := Lib.hid (itnOf_no fun h => hi h.2)
   have HI : Hid (i < 0 ∨ (t0.length : Int) - 1 < i) := Lib.hid (by omega)
   clear hi hv
   go_enter Try.func8, Try.ntmps8
   go_wp2_with fail
   refine (specValid_any _ _ s0 _ (Rd.gr HS.out gd)).mono ?_
   rintro e w' ⟨rfl, x1, rfl⟩
   rw [HB.out]
   generalize hB : (((w.alloc (.cells #[.slice as0 s0.length ks0] 32)).alloc (.cells #[.slice at0 t0.length kt0] 38)).alloc (.cells #[.slice none 0 0] 32)).ext x1 = B
   have gB : Gr w B := by rw [← hB]; exact gd
   have cs1 : B.cell? ⟨w.heap.size, 0, none⟩ = some (.slice as0 s0.length ks0) := by rw [← hB]; exact Gr.keep gd (box_cell (A := w) rfl rfl)
   have ct1 : B.cell? ⟨w.heap.size + 1, 0, none⟩ = some (.slice at0 t0.length kt0) := by rw [← hB]; exact Gr.keep gd (box_cell (A := w.alloc (.cells #[.slice as0 s0.length ks0] 32)) (by simp) rfl)
   have vr1 : VRow B (w.heap.size + 1 + 1) 32 [.slice none 0 0] := by
    rw [← hB]
    exact (VRow.new (A := (w.alloc (.cells #[.slice as0 s0.length ks0] 32)).alloc (.cells #[.slice at0 t0.length kt0] 38)) (by simp)).gr gd
   have sB : w.heap.size + 3 ≤ B.heap.size := by rw [← hB]; simp
   have HGB := Lib.hid gB
   have HCS1 := Lib.hid cs1
   have HCT1 := Lib.hid ct1
   have HVR1 := Lib.hid vr1
   have zcs1 := blk cs1
   have zct1 := blk ct1
   clear hB gB vr1
   go_wp2_with fail
   refine (l1In_no _ _ _ _ HI.out).mono ?_
   rintro e w' ⟨rfl, x2, rfl⟩
   go_wp2_with fail
   refine (l39Copy_own s0 _ (Rd.gr HS.out (HGB.out.trans gd)) HL.out.1 HL.out.2).mono ?_
   rintro e W9 ⟨v9, F9, rfl, hO9, g9⟩
   obtain ⟨a9, c9, hform⟩ := hO9.form
   subst hform
   have HO9 := Lib.hid hO9
   have HF9 := Lib.hid (show ∀ b ∈ F9, w.heap.size + 3 ≤ b from fun b hb => by have := hO9.ge b hb; (simp at this; omega))
   have HG9 := Lib.hid ((HGB.out.trans gd).trans g9)
   have vr9 := (HVR1.out.gr (Gr.ext (Gr.refl _) x2)).gr g9
   have r9 := vr9.box
   have zr9 := blk r9
   have fr9 := vr9.frozen 0
   have HVR9 := Lib.hid vr9
   clear hO9 g9 vr9
   go_wp2_with fail
   generalize hWF : W9.setCell ⟨w.heap.size + 1 + 1, 0, none⟩ (.slice a9 s0.length c9) = WF
   have vF : VRow WF (w.heap.size + 1 + 1) 32 [.slice a9 s0.length c9] := by rw [← hWF]; exact HVR9.out.set 0 _
   have gF : Gr w WF := by rw [← hWF]; exact Gr.setCell (p := ⟨w.heap.size + 1 + 1, 0, none⟩) HG9.out (by show _ ≤ w.heap.size + 1 + 1; omega) _
   have oF : OwnD (B.ext x2) WF (.slice a9 s0.length c9) F9 s0 := by rw [← hWF]; exact HO9.out.wr ((Wr.refl [w.heap.size + 1 + 1] _).setCell (List.mem_singleton.2 rfl) _) (fun b hb hm => by have := HF9.out b hb; have h3 := List.mem_singleton.1 hm; omega)
   have h1 := oF.lower (w0 := w) (by (simp; omega))
   have r0' := vF.box
   clear hWF vF oF
   exact bodyPost_ret (v := .tuple #[.agg #[.slice a9 s0.length c9], .int .i64 (-1)]) (by simp [results, Try.results8, go_sem, r0']) rfl ⟨.slice a9 s0.length c9, F9, by rw [HN.out], by rw [HN.out]; exact h1, gF⟩
 ·have HN : Hid (itnOf s0 t0 i = (s0, -1)) := Lib.hid (itnOf_no fun h => hv h.1)
  have HB := Lib.hid (validB_false hv)
  clear hv
  go_enter Try.func8, Try.ntmps8
  go_wp2_with fail
  refine (specValid_any _ _ s0 _ (Rd.gr HS.out gd)).mono ?_
  rintro e w' ⟨rfl, x1, rfl⟩
  rw [HB.out]
  generalize hB : (((w.alloc (.cells #[.slice as0 s0.length ks0] 32)).alloc (.cells #[.slice at0 t0.length kt0] 38)).alloc (.cells #[.slice none 0 0] 32)).ext x1 = B
  have gB : Gr w B := by rw [← hB]; exact gd
  have cs1 : B.cell? ⟨w.heap.size, 0, none⟩ = some (.slice as0 s0.length ks0) := by rw [← hB]; exact Gr.keep gd (box_cell (A := w) rfl rfl)
  have ct1 : B.cell? ⟨w.heap.size + 1, 0, none⟩ = some (.slice at0 t0.length kt0) := by rw [← hB]; exact Gr.keep gd (box_cell (A := w.alloc (.cells #[.slice as0 s0.length ks0] 32)) (by simp) rfl)
  have vr1 : VRow B (w.heap.size + 1 + 1) 32 [.slice none 0 0] := by
   rw [← hB]
   exact (VRow.new (A := (w.alloc (.cells #[.slice as0 s0.length ks0] 32)).alloc (.cells #[.slice at0 t0.length kt0] 38)) (by simp)).gr gd
  have sB : w.heap.size + 3 ≤ B.heap.size := by rw [← hB]; simp
  have HGB := Lib.hid gB
  have HCS1 := Lib.hid cs1
  have HCT1 := Lib.hid ct1
  have HVR1 := Lib.hid vr1
  have zcs1 := blk cs1
  have zct1 := blk ct1
  clear hB gB vr1
  go_wp2_with fail
  refine (l39Copy_own s0 _ (Rd.gr HS.out (HGB.out.trans gd)) HL.out.1 HL.out.2).mono ?_
  rintro e W9 ⟨v9, F9, rfl, hO9, g9⟩
  obtain ⟨a9, c9, hform⟩ := hO9.form
  subst hform
  have HO9 := Lib.hid hO9
  have HF9 := Lib.hid (show ∀ b ∈ F9, w.heap.size + 3 ≤ b from fun b hb => by have := hO9.ge b hb; omega)
  have HG9 := Lib.hid (HGB.out.trans g9)
  have vr9 := HVR1.out.gr g9
  have r9 := vr9.box
  have zr9 := blk r9
  have fr9 := vr9.frozen 0
  have HVR9 := Lib.hid vr9
  clear hO9 g9 vr9
  go_wp2_with fail
  generalize hWF : W9.setCell ⟨w.heap.size + 1 + 1, 0, none⟩ (.slice a9 s0.length c9) = WF
  have vF : VRow WF (w.heap.size + 1 + 1) 32 [.slice a9 s0.length c9] := by rw [← hWF]; exact HVR9.out.set 0 _
  have gF : Gr w WF := by rw [← hWF]; exact Gr.setCell (p := ⟨w.heap.size + 1 + 1, 0, none⟩) HG9.out (by show _ ≤ w.heap.size + 1 + 1; omega) _
  have oF : OwnD B WF (.slice a9 s0.length c9) F9 s0 := by rw [← hWF]; exact HO9.out.wr ((Wr.refl [w.heap.size + 1 + 1] _).setCell (List.mem_singleton.2 rfl) _) (fun b hb hm => by have := HF9.out b hb; have h3 := List.mem_singleton.1 hm; omega)
  have h1 := oF.lower (w0 := w) (by omega)
  have r0' := vF.box
  clear hWF vF oF
  exact bodyPost_ret (v := .tuple #[.agg #[.slice a9 s0.length c9], .int .i64 (-1)]) (by simp [results, Try.results8, go_sem, r0']) rfl ⟨.slice a9 s0.length c9, F9, by rw [HN.out], by rw [HN.out]; exact h1, gF⟩
end Go.Proofs.Ytmfcagcanhmdbaa

namespace Go.Proofs.Ytmfcagcanhmdbaa
open Go.RowKit
set_option linter.unusedVariables false

theorem itn_le {s : GStore} {t : List GNode} (i : Int) : wtStore (itnOf s t i).1 ≤ wtStore s + wtTree t := by
 by_cases h : ValidStore s ∧ 0 ≤ i ∧ i ≤ (t.length : Int) - 1
 ·rw [itnOf_yes h]
  have hi : i.toNat < t.length := by omega
  by_cases hg : GoodT t i.toNat
  ·obtain ⟨s', d', k, e, h1, h2, h3⟩ := itnN_good (s := s) hi hg
   unfold itnN
   rw [e]
   exact h3
  ·unfold itnN
   rw [itnN_bad hi hg]
   exact Nat.le_add_right _ _
 ·rw [itnOf_no h]
  exact Nat.le_add_right _ _
theorem TreeFine.wt {t : List GNode} (h : TreeFine t) (hl : t.length ≤ 40) : wtTree t ≤ 4000 := by
 have h1 : wtTree t ≤ t.length * (1 + 80) := wtL_le wtNode t (fun x hx => by
  obtain ⟨-, -, h3, h4, -⟩ := h.1 x hx
  have e : wtNode x = x.2.2.2.2.1.size + x.2.2.2.2.2.length := rfl
  omega)
 have h2 : t.length * (1 + 80) ≤ 40 * (1 + 80) := Nat.mul_le_mul_right _ hl
 omega
end Go.Proofs.Ytmfcagcanhmdbaa
