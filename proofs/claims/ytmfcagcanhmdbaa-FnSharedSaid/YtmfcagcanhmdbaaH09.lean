/- A row of nodes of one's own whose rows of children are one's own, too: read, appended to, an element's children made more, an Id written. All cells of a block of one's own written, one after the other. Made by mk_put.py. No condition. -/
import Derived.Test.YtmfcagcanhmdbaaH02
import Derived.Test.YtmfcagcanhmdbaaH08
namespace Go.Proofs.Ytmfcagcanhmdbaa
open Go.RowKit
set_option linter.unusedVariables false

theorem wf_of {y : Int} (h0 : -1048576 ≤ y) (h1 : y ≤ 140737488351232) : (Lit.int .i64 y).wf = true := by
 simp only [Lit.wf, Bool.and_eq_true, decide_eq_true_eq]
 have e1 : IntKind.i64.min = -9223372036854775808 := by decide
 have e2 : IntKind.i64.max = 9223372036854775807 := by decide
 omega

abbrev NodeO (base : Nat) := Int × Int × Int × Int × ByteArray × ORow base 3
def outN {base : Nat} (x : NodeO base) : GNode := (x.1, x.2.1, x.2.2.1, x.2.2.2.1, x.2.2.2.2.1, x.2.2.2.2.2.out)

theorem rdNodeO_inv {base : Nat} {fp : List Nat} {w : World} {cs : List Value} (q0 q1 q2 q3 : Int) (q4 : ByteArray) (q5 : ORow base 3) (h : Rd.rd (α := NodeO base) fp w cs (q0, q1, q2, q3, q4, q5)) :
  ∃ v, cs = [.int .i64 q0, .int .i64 q1, .int .i64 q2, .int .i64 q3, .string q4, v] ∧ fp = v.ownBlock.toList ∧ (Lit.int .i64 q0).wf = true ∧ (Lit.int .i64 q1).wf = true ∧ (Lit.int .i64 q2).wf = true ∧ (Lit.int .i64 q3).wf = true ∧ q4.size ≤ maxLen ∧ Rd.rd v.ownBlock.toList w [v] q5 := by
 obtain ⟨_, _, _, _, rfl, rfl, ⟨rfl, rfl, hq0⟩, ⟨_, _, _, _, rfl, rfl, ⟨rfl, rfl, hq1⟩, ⟨_, _, _, _, rfl, rfl, ⟨rfl, rfl, hq2⟩, ⟨_, _, _, _, rfl, rfl, ⟨rfl, rfl, hq3⟩, ⟨_, _, _, _, rfl, rfl, ⟨rfl, rfl, hq4⟩, ⟨v, rfl, h1, h2, rfl⟩⟩⟩⟩⟩⟩ := h
 exact ⟨v, rfl, by simp, hq0, hq1, hq2, hq3, hq4, v, rfl, h1, h2, rfl⟩

theorem rdNodeO_mk {base : Nat} {w : World} (q0 q1 q2 q3 : Int) (q4 : ByteArray) {q5 : ORow base 3} {v : Value} (hq0 : (Lit.int .i64 q0).wf = true) (hq1 : (Lit.int .i64 q1).wf = true) (hq2 : (Lit.int .i64 q2).wf = true) (hq3 : (Lit.int .i64 q3).wf = true) (hq4 : q4.size ≤ maxLen) (h : Rd.rd v.ownBlock.toList w [v] q5) :
  Rd.rd (α := NodeO base) v.ownBlock.toList w [.int .i64 q0, .int .i64 q1, .int .i64 q2, .int .i64 q3, .string q4, v] (q0, q1, q2, q3, q4, q5) := by
 have : v.ownBlock.toList = [] ++ ([] ++ ([] ++ ([] ++ ([] ++ v.ownBlock.toList)))) := by simp
 rw [this]
 exact ⟨_, _, _, _, rfl, rfl, ⟨rfl, rfl, hq0⟩, ⟨_, _, _, _, rfl, rfl, ⟨rfl, rfl, hq1⟩, ⟨_, _, _, _, rfl, rfl, ⟨rfl, rfl, hq2⟩, ⟨_, _, _, _, rfl, rfl, ⟨rfl, rfl, hq3⟩, ⟨_, _, _, _, rfl, rfl, ⟨rfl, rfl, hq4⟩, by simpa using h⟩⟩⟩⟩⟩

def OwnT (w0 w : World) (v : Value) (F : List Nat) (ns : List GNode) : Prop :=
 ∃ (fps : List (List Nat)) (xs : List (NodeO w0.heap.size)), OwnR w0 86 w v fps xs ∧ xs.map outN = ns ∧ fps.flatten.Nodup ∧ (∀ b ∈ fps.flatten, w0.heap.size ≤ b) ∧ F = v.ownBlock.toList ++ fps.flatten

theorem OwnT.nil (w0 w : World) : OwnT w0 w (.slice none 0 0) [] [] := ⟨[], [], OwnR.nil _ _ _, rfl, by simp, by simp, rfl⟩
theorem OwnT.lt {w0 w : World} {v : Value} {F : List Nat} {ns : List GNode} (h : OwnT w0 w v F ns) : ∀ b ∈ F, b < w.heap.size := by
 obtain ⟨fps, xs, h1, h2, h3, h4, rfl⟩ := h
 intro b hb
 rcases List.mem_append.1 hb with hb | hb
 ·exact (h1.base b (by simpa using hb)).2
 ·exact h1.lt b hb
theorem OwnT.ge {w0 w : World} {v : Value} {F : List Nat} {ns : List GNode} (h : OwnT w0 w v F ns) : ∀ b ∈ F, w0.heap.size ≤ b := by
 obtain ⟨fps, xs, h1, h2, h3, h4, rfl⟩ := h
 intro b hb
 rcases List.mem_append.1 hb with hb | hb
 ·exact (h1.base b (by simpa using hb)).1
 ·exact h4 b hb
theorem OwnT.own {w0 w : World} {v : Value} {F : List Nat} {ns : List GNode} (h : OwnT w0 w v F ns) : ∀ b ∈ v.ownBlock.toList, b ∈ F := by
 obtain ⟨fps, xs, h1, h2, h3, h4, rfl⟩ := h
 intro b hb
 exact List.mem_append_left _ hb
theorem OwnT.form {w0 w : World} {v : Value} {F : List Nat} {ns : List GNode} (h : OwnT w0 w v F ns) : ∃ a c, v = .slice a ns.length c := by
 obtain ⟨fps, xs, h1, rfl, -⟩ := h
 rw [List.length_map]
 exact h1.form
theorem OwnT.wr {w0 w w' : World} {v : Value} {F fq : List Nat} {ns : List GNode} (h : OwnT w0 w v F ns) (hw : Wr fq w w') (hd : ∀ b ∈ F, b ∉ fq) : OwnT w0 w' v F ns := by
 obtain ⟨fps, xs, h1, h2, h3, h4, rfl⟩ := h
 exact ⟨fps, xs, h1.wr hw (fun b hb => hd b (List.mem_append_right _ hb)) (fun b hb => hd b (List.mem_append_left _ (by simpa using hb))), h2, h3, h4, rfl⟩
theorem OwnT.gr {w0 w w' : World} {v : Value} {F : List Nat} {ns : List GNode} (h : OwnT w0 w v F ns) (hg : Gr w w') : OwnT w0 w' v F ns := h.wr (hg.toWr []) (by simp)

theorem OwnT.of_append {w0 w' : World} {v' : Value} {fps : List (List Nat)} {xs : List (NodeO w0.heap.size)} {c : Value} {y : NodeO w0.heap.size} {ns : List GNode} (h : OwnR w0 86 w' v' (fps ++ [c.ownBlock.toList]) (xs ++ [y])) (h2 : xs.map outN = ns) (h3 : fps.flatten.Nodup) (h4 : ∀ b ∈ fps.flatten, w0.heap.size ≤ b)
  (hc : ∀ b ∈ c.ownBlock.toList, w0.heap.size ≤ b ∧ b ∉ fps.flatten) : OwnT w0 w' v' (v'.ownBlock.toList ++ (fps.flatten ++ c.ownBlock.toList)) (ns ++ [outN y]) := by
 refine ⟨_, _, h, by simp [h2], ?_, ?_, by simp⟩
 ·rw [List.flatten_append]
  refine List.nodup_append.2 ⟨h3, by cases c.ownBlock <;> simp, fun a ha b hb e => ?_⟩
  subst e
  exact (hc a (by simpa using hb)).2 ha
 ·intro b hb
  rw [List.flatten_append, List.mem_append] at hb
  rcases hb with hb | hb
  ·exact h4 b hb
  ·exact (hc b (by simpa using hb)).1

theorem set_out {base : Nat} {xs : List (NodeO base)} {ns : List GNode} (h : xs.map outN = ns) {i : Nat} (y : NodeO base) : (xs.set i y).map outN = ns.set i (outN y) := by
 rw [← h, List.map_set]

theorem OwnT.at {w0 w : World} {v : Value} {F : List Nat} {ns : List GNode} (h : OwnT w0 w v F ns) {i : Nat} (hi : i < ns.length) :
  ∃ g cap vj fpj, v = .slice (some ⟨g, 0, none⟩) ns.length cap ∧ g < w.heap.size ∧ w0.heap.size ≤ g ∧ g ∈ F ∧ (∀ j u, [Value.int .i64 ns[i].1, .int .i64 ns[i].2.1, .int .i64 ns[i].2.2.1, .int .i64 ns[i].2.2.2.1, .string ns[i].2.2.2.2.1, vj][j]? = some u → w.cell? ⟨g, i * 6 + j, none⟩ = some u) ∧ (∀ o, w.frozen? ⟨g, o, none⟩ = false) ∧
   OwnR (α := Int) w0 3 w vj fpj ns[i].2.2.2.2.2 ∧ fpj.flatten = [] ∧ g ∉ vj.ownBlock.toList ∧ (∀ b ∈ vj.ownBlock.toList, b ∈ F) ∧
   (∀ w9 v9 ys, Wr vj.ownBlock.toList w w9 → OwnR (α := Int) w0 3 w9 v9 (fpj ++ [[]]) ys → (v9.ownBlock = vj.ownBlock ∨ ∃ n, v9.ownBlock = some n ∧ w.heap.size ≤ n) →
    ∃ F', OwnT w0 (w9.setCell ⟨g, i * 6 + 5, none⟩ v9) v F' (ns.set i (ns[i].1, ns[i].2.1, ns[i].2.2.1, ns[i].2.2.2.1, ns[i].2.2.2.2.1, ys)) ∧ ∀ b ∈ F', b ∈ F ∨ w.heap.size ≤ b) ∧
   (∀ y, (Lit.int .i64 y).wf = true → OwnT w0 (w.setCell ⟨g, i * 6, none⟩ (.int .i64 y)) v F (ns.set i (y, ns[i].2))) := by
 obtain ⟨fps, xs, hO, rfl, hnd, hge, rfl⟩ := h
 have hix : i < xs.length := by simpa using hi
 have hbase := hO.base
 have hap := hO.apart
 have hltf := hO.lt
 obtain ⟨g, cap, cs, fq, rfl, h1, h2, h3, h4, h5, h6, h7, h8⟩ := hO.upd hix
 obtain ⟨hjf, hjq⟩ := List.getElem?_eq_some_iff.1 h4
 have hel : (xs.map outN)[i] = outN xs[i] := by simp
 obtain ⟨X, hX⟩ : ∃ X, X = xs[i] := ⟨_, rfl⟩
 rw [← hX] at hel h6
 obtain ⟨q0, q1, q2, q3, q4, q5⟩ := X
 obtain ⟨vj, rfl, hfq, w0', w1', w2', w3', w4', h6'⟩ := rdNodeO_inv q0 q1 q2 q3 q4 q5 h6
 obtain ⟨vj2, fpj, e1, -, hOj, hfl⟩ := ORow.toOwn h6'
 obtain rfl : vj = vj2 := by simpa using e1
 have hsub : ∀ c ∈ fq, c ∈ fps.flatten := fun c hc => List.mem_flatten.2 ⟨_, List.getElem_mem hjf, by rw [hjq]; exact hc⟩
 have hgq : g ∉ fq := fun hm => hap g rfl (hsub g hm)
 have hn : Rd.n (NodeO w0.heap.size) = 6 := rfl
 have hpw : ∀ k (hk : k < fps.length), k ≠ i → ∀ c ∈ fps[k], c ∉ fq := fun k hk hkj c hc hcq => by
  have hp := List.pairwise_iff_getElem.1 (List.pairwise_flatten.1 hnd).2
  rw [← hjq] at hcq
  rcases Nat.lt_or_gt_of_ne hkj with hlt | hgt
  ·exact hp k i hk hjf hlt c hc c hcq rfl
  ·exact hp i k hjf hk hgt c hcq c hc rfl
 rw [hn] at h5
 refine ⟨g, cap, vj, fpj, by rw [List.length_map], h2, h1, by simp [Value.ownBlock], ?_, h7, ?_, hfl, by rw [← hfq]; exact hgq, fun b hb => List.mem_append_right _ (hsub b (by rw [hfq]; exact hb)), fun w9 v9 ys hw hO9 hv9 => ?_, fun y hy => ?_⟩
 ·rw [hel]; exact h5
 ·rw [hel]; exact hOj
 ·rw [← hfq] at hw
  have hown9 : ∀ c ∈ v9.ownBlock.toList, c ∈ fq ∨ w.heap.size ≤ c := by
   intro c hc
   rcases hv9 with e9 | ⟨n, e9, hn⟩
   ·rw [e9, ← hfq] at hc; exact .inl hc
   ·rw [e9] at hc
    simp at hc
    subst hc
    exact .inr hn
  have hgv : g ∉ v9.ownBlock.toList := fun hm => by
   rcases hown9 g hm with h | h
   ·exact hgq h
   ·omega
  have hr5 : Rd.rd v9.ownBlock.toList (w9.setCell ⟨g, i * 6 + 5, none⟩ v9) [v9] (ORow.mk w0.heap.size 3 ys) := Rd.wr hO9.toORow ((Wr.refl [g] _).setCell (by simp) v9) (fun c hc hm => by simp at hm; subst hm; exact hgv hc)
  have hr := rdNodeO_mk q0 q1 q2 q3 q4 w0' w1' w2' w3' w4' hr5
  have h9 := h8 w9 5 v9 v9.ownBlock.toList (q0, q1, q2, q3, q4, ORow.mk w0.heap.size 3 ys) hw hgq hpw (by rw [hn]; omega) hgv (by rw [hn]; exact hr)
  rw [hn] at h9
  refine ⟨_, ⟨_, _, h9, ?_, nodup_set hnd hjf (by cases v9.ownBlock <;> simp) fun c hc => ?_, fun b hb => ?_, rfl⟩, fun b hb => ?_⟩
  ·rw [set_out rfl, hel]; rfl
  ·rcases hown9 c hc with h | h
   ·rw [← hjq] at h; exact .inl h
   ·exact .inr fun hm => by have := hltf c hm; omega
  ·rcases mem_set_flatten hb with hb | hb
   ·exact hge b hb
   ·exact (hO9.base b (by simpa using hb)).1
  ·rcases List.mem_append.1 hb with hb | hb
   ·exact .inl (List.mem_append_left _ hb)
   ·rcases mem_set_flatten hb with hb | hb
    ·exact .inl (List.mem_append_right _ hb)
    ·rcases hown9 b hb with h | h
     ·exact .inl (List.mem_append_right _ (hsub b h))
     ·exact .inr h
 ·have hr5 : Rd.rd vj.ownBlock.toList (w.setCell ⟨g, i * 6 + 0, none⟩ (.int .i64 y)) [vj] q5 := Rd.wr h6' ((Wr.refl [g] _).setCell (by simp) _) (fun c hc hm => by simp at hm; subst hm; rw [← hfq] at hc; exact hgq hc)
  have hr := rdNodeO_mk y q1 q2 q3 q4 hy w1' w2' w3' w4' hr5
  have h9 := h8 w 0 (.int .i64 y) fq (y, q1, q2, q3, q4, q5) (Wr.refl _ _) hgq hpw (by rw [hn]; omega) hgq (by rw [hn, hfq]; exact hr)
  rw [hn, Nat.add_zero] at h9
  have hset : fps.set i fq = fps := by rw [← hjq]; exact List.set_getElem_self hjf
  rw [hset] at h9
  refine ⟨_, _, h9, ?_, hnd, hge, rfl⟩
  rw [set_out rfl, hel]
  rfl

theorem ORow.lower {b0 b1 : Nat} (h : b0 ≤ b1) {fp : List Nat} {w : World} {cs : List Value} {x : List Int} (hx : Rd.rd fp w cs (ORow.mk b1 3 x)) : Rd.rd fp w cs (ORow.mk b0 3 x) := by
 obtain ⟨v, rfl, ho, h2, rfl⟩ := hx
 refine ⟨v, rfl, ⟨ho.1, ?_⟩, h2, rfl⟩
 rcases ho.2 with h0 | ⟨g, cap, cur, hv, hb, hr⟩
 ·exact .inl h0
 ·exact .inr ⟨g, cap, cur, hv, Nat.le_trans h hb, hr⟩

def lowN {b1 : Nat} (b0 : Nat) (x : NodeO b1) : NodeO b0 := (x.1, x.2.1, x.2.2.1, x.2.2.2.1, x.2.2.2.2.1, ORow.mk b0 3 x.2.2.2.2.2.out)
theorem OwnT.lower {w0 w1 w : World} {v : Value} {F : List Nat} {ns : List GNode} (h : OwnT w1 w v F ns) (hs : w0.heap.size ≤ w1.heap.size) : OwnT w0 w v F ns := by
 obtain ⟨fps, xs, hO, rfl, hnd, hge, rfl⟩ := h
 refine ⟨fps, xs.map (lowN w0.heap.size), ?_, by rw [List.map_map]; rfl, hnd, fun b hb => Nat.le_trans hs (hge b hb), rfl⟩
 obtain ⟨⟨css, ho, hE⟩, ha⟩ := hO.base_eq hs
 refine ⟨⟨css, by rw [List.length_map]; exact ho, ⟨by simp [hE.cl], by simp [hE.fl], fun i h0 h1 h2 => ?_⟩⟩, ha⟩
 have h0' : i < xs.length := by simpa using h0
 have := hE.rd i h0' h1 h2
 rw [List.getElem_map]
 obtain ⟨X, hX⟩ : ∃ X, X = xs[i] := ⟨_, rfl⟩
 rw [← hX] at this ⊢
 obtain ⟨q0, q1, q2, q3, q4, q5⟩ := X
 obtain ⟨vj, e, hfq, w0', w1', w2', w3', w4', h6'⟩ := rdNodeO_inv q0 q1 q2 q3 q4 q5 this
 rw [e, hfq]
 exact rdNodeO_mk q0 q1 q2 q3 q4 w0' w1' w2' w3' w4' (ORow.lower hs h6')

theorem OwnT.read {w0 w : World} {v : Value} {F : List Nat} {ns : List GNode} (h : OwnT w0 w v F ns) (hl : ns.length ≤ reachLen) (hl2 : ∀ x ∈ ns, x.2.2.2.2.2.length ≤ reachLen) :
  ∃ fq, SlR fq w v ns ∧ Fresh w0 fq ∧ ∀ b ∈ fq, b ∈ F := by
 obtain ⟨fps, xs, hO, rfl, hnd, hge, rfl⟩ := h
 have hfl := hO.fl
 have hbase := hO.base
 obtain ⟨⟨css, ho, hE⟩, ha⟩ := hO
 have each : ∀ i, ∃ fq : List Nat, ∀ (h : i < xs.length) (h1 : i < css.length) (h2 : i < fps.length), Rd.rd (α := GNode) fq w css[i] (outN xs[i]) ∧ fq.Sublist fps[i] := by
  intro i
  by_cases hi : i < xs.length
  ·have h1 : i < css.length := by rw [hE.cl]; exact hi
   have h2 : i < fps.length := by rw [hfl]; exact hi
   have h3 := hE.rd i hi h1 h2
   have h4 : (outN xs[i]).2.2.2.2.2.length ≤ reachLen := hl2 _ (List.mem_map.2 ⟨_, List.getElem_mem hi, rfl⟩)
   obtain ⟨X, hX⟩ : ∃ X, X = xs[i] := ⟨_, rfl⟩
   rw [← hX] at h3 h4
   obtain ⟨q0, q1, q2, q3, q4, q5⟩ := X
   obtain ⟨vj, e, hfq, w0', w1', w2', w3', w4', h6'⟩ := rdNodeO_inv q0 q1 q2 q3 q4 q5 h3
   obtain ⟨fq, ⟨v5, e5, hr⟩, hs⟩ := ORow.read h6' h4
   obtain rfl : vj = v5 := by simpa using e5
   refine ⟨[] ++ ([] ++ ([] ++ ([] ++ ([] ++ fq)))), fun _ _ _ => ⟨?_, ?_⟩⟩
   ·rw [e, ← hX]; exact rdNode_mk q0 q1 q2 q3 q4 _ w0' w1' w2' w3' w4' hr
   ·rw [hfq]; simpa using hs
  ·exact ⟨[], fun h => absurd h hi⟩
 obtain ⟨f, hf⟩ := Classical.axiomOfChoice each
 have hsub : ∀ (l : List (List Nat)) (g : Nat → List Nat) , (∀ i (h : i < l.length), (g i).Sublist l[i]) → ((List.range l.length).map g).flatten.Sublist l.flatten := by
  intro l
  induction l with
  | nil => intro g _; simp
  | cons a l ih =>
   intro g hg
   rw [List.length_cons, List.range_succ_eq_map, List.map_cons, List.flatten_cons, List.flatten_cons, List.map_map]
   exact (hg 0 (by simp)).append (ih (g ∘ Nat.succ) fun i hi => hg (i + 1) (by simpa using hi))
 have hs := hsub fps f fun i hi => (hf i (by omega) (by rw [hE.cl]; omega) hi).2
 have hO2 : OwnR (α := GNode) w0 86 w v ((List.range fps.length).map f) (xs.map outN) := by
  refine ⟨⟨css, by rw [List.length_map]; exact ho, ⟨by simp [hE.cl], by simp [hfl], fun i h0 h1 h2 => ?_⟩⟩, fun b hb hm => ha b hb (hs.subset hm)⟩
  have h0' : i < xs.length := by simpa using h0
  simpa using (hf i h0' h1 (by omega)).1
 obtain ⟨fq, h1, h2⟩ := hO2.slR hl
 refine ⟨fq, h1, ?_, ?_⟩
 ·rcases h2 with ⟨_, rfl⟩ | ⟨b, hb, rfl⟩
  ·exact Fresh.nil _
  ·refine ⟨List.nodup_cons.2 ⟨fun hm => ha b hb (hs.subset hm), hs.nodup hnd⟩, fun c hc => ?_⟩
   rcases List.mem_cons.1 hc with rfl | hc
   ·exact (hbase _ hb).1
   ·exact hge c (hs.subset hc)
 ·rcases h2 with ⟨_, rfl⟩ | ⟨b, hb, rfl⟩
  ·simp
  ·intro c hc
   rcases List.mem_cons.1 hc with rfl | hc
   ·exact List.mem_append_left _ (by simpa using hb)
   ·exact List.mem_append_right _ (hs.subset hc)
theorem OwnR.lit1 {α : Type} [Rd α] {w0 w : World} (e : TypeId) (h : w0.heap.size ≤ w.heap.size) {g : Nat} (hg : g = w.heap.size) {cs : Array Value} {fq : List Nat} {x : α} (hr : Rd.rd fq w cs.toList x) : OwnR w0 e (w.alloc (.cells cs e)) (.slice (some ⟨g, 0, none⟩) 1 1) [fq] [x] := by
 subst hg
 refine ⟨⟨[cs.toList], ?_, (Els.one hr).mono (((Gr.refl w).alloc _).sameOn (by simpa using Rd.lt hr))⟩, fun b hb hm => ?_⟩
 ·have hl := Rd.len hr
  have := World.ownsRow_lit (base := w0.heap.size) (e := e) (size := Rd.n α) w cs 1 h (by unfold maxLen; omega) (by simpa using hl)
  simpa using this
 ·injection hb with hb
  subst hb
  exact Nat.lt_irrefl _ (Rd.lt hr _ (by simpa using hm))

theorem OwnT.lit1 {w0 w : World} (h : w0.heap.size ≤ w.heap.size) {g : Nat} (hg : g = w.heap.size) {q0 q1 q2 q3 : Int} {q4 : ByteArray} {q5 : List Int} {c : Value} {fpc : List (List Nat)} (hq0 : (Lit.int .i64 q0).wf = true) (hq1 : (Lit.int .i64 q1).wf = true) (hq2 : (Lit.int .i64 q2).wf = true) (hq3 : (Lit.int .i64 q3).wf = true) (hq4 : q4.size ≤ maxLen) (hc : OwnR (α := Int) w0 3 w c fpc q5) :
  OwnT w0 (w.alloc (.cells #[.int .i64 q0, .int .i64 q1, .int .i64 q2, .int .i64 q3, .string q4, c] 86)) (.slice (some ⟨g, 0, none⟩) 1 1) (g :: c.ownBlock.toList) [(q0, q1, q2, q3, q4, q5)] := by
 have hb := hc.base
 refine ⟨[c.ownBlock.toList], [(q0, q1, q2, q3, q4, ORow.mk w0.heap.size 3 q5)], OwnR.lit1 (α := NodeO w0.heap.size) 86 h hg (rdNodeO_mk q0 q1 q2 q3 q4 hq0 hq1 hq2 hq3 hq4 hc.toORow), rfl, ?_, ?_, ?_⟩
 ·cases c.ownBlock <;> simp
 ·intro b hm
  exact (hb b (by simpa using hm)).1
 ·simp [Value.ownBlock]
theorem Wr.frozenC {fp : List Nat} {w w' : World} (h : Wr fp w w') {b o : Nat} {r : Bool} (hc : w.frozen? ⟨b, o, none⟩ = r) (hl : b < w.heap.size) (hn : b ∉ fp) : w'.frozen? ⟨b, o, none⟩ = r :=
 (World.frozen?_of_block (a := ⟨b, o, none⟩) (h.block b hl hn)).trans hc

end Go.Proofs.Ytmfcagcanhmdbaa

namespace Go.Proofs.Ytmfcagcanhmdbaa
open Go.RowKit

theorem VRow.new {A : World} {n : Nat} {t : TypeId} {vs : List Value} (h : n = A.heap.size) : VRow (A.alloc (.cells vs.toArray t)) n t vs := by subst h; exact heap_alloc_new A _

theorem VRow.put1 {w : World} {b : Nat} {t : TypeId} {a0 : Value} (h : VRow w b t [a0]) (v0 : Value) : VRow (w.setCell ⟨b, 0, none⟩ v0) b t [v0] := (VRow.set h 0 v0)
theorem Gr.put1 {w0 w : World} {b : Nat} (h : Gr w0 w) (hb : w0.heap.size ≤ b) (v0 : Value) : Gr w0 (w.setCell ⟨b, 0, none⟩ v0) := (Gr.setCell (p := ⟨b, 0, none⟩) h hb v0)
theorem Wr.put1 (w : World) (b : Nat) (v0 : Value) : Wr [b] w (w.setCell ⟨b, 0, none⟩ v0) := (Wr.setCell (Wr.refl [b] w) (List.mem_singleton.2 rfl) v0)

theorem VRow.put2 {w : World} {b : Nat} {t : TypeId} {a0 a1 : Value} (h : VRow w b t [a0, a1]) (v0 v1 : Value) : VRow ((w.setCell ⟨b, 0, none⟩ v0).setCell ⟨b, 1, none⟩ v1) b t [v0, v1] := (VRow.set (VRow.set h 0 v0) 1 v1)
theorem Gr.put2 {w0 w : World} {b : Nat} (h : Gr w0 w) (hb : w0.heap.size ≤ b) (v0 v1 : Value) : Gr w0 ((w.setCell ⟨b, 0, none⟩ v0).setCell ⟨b, 1, none⟩ v1) := (Gr.setCell (p := ⟨b, 1, none⟩) (Gr.setCell (p := ⟨b, 0, none⟩) h hb v0) hb v1)
theorem Wr.put2 (w : World) (b : Nat) (v0 v1 : Value) : Wr [b] w ((w.setCell ⟨b, 0, none⟩ v0).setCell ⟨b, 1, none⟩ v1) := (Wr.setCell (Wr.setCell (Wr.refl [b] w) (List.mem_singleton.2 rfl) v0) (List.mem_singleton.2 rfl) v1)

theorem VRow.put4 {w : World} {b : Nat} {t : TypeId} {a0 a1 a2 a3 : Value} (h : VRow w b t [a0, a1, a2, a3]) (v0 v1 v2 v3 : Value) : VRow ((((w.setCell ⟨b, 0, none⟩ v0).setCell ⟨b, 1, none⟩ v1).setCell ⟨b, 2, none⟩ v2).setCell ⟨b, 3, none⟩ v3) b t [v0, v1, v2, v3] := (VRow.set (VRow.set (VRow.set (VRow.set h 0 v0) 1 v1) 2 v2) 3 v3)
theorem Gr.put4 {w0 w : World} {b : Nat} (h : Gr w0 w) (hb : w0.heap.size ≤ b) (v0 v1 v2 v3 : Value) : Gr w0 ((((w.setCell ⟨b, 0, none⟩ v0).setCell ⟨b, 1, none⟩ v1).setCell ⟨b, 2, none⟩ v2).setCell ⟨b, 3, none⟩ v3) := (Gr.setCell (p := ⟨b, 3, none⟩) (Gr.setCell (p := ⟨b, 2, none⟩) (Gr.setCell (p := ⟨b, 1, none⟩) (Gr.setCell (p := ⟨b, 0, none⟩) h hb v0) hb v1) hb v2) hb v3)
theorem Wr.put4 (w : World) (b : Nat) (v0 v1 v2 v3 : Value) : Wr [b] w ((((w.setCell ⟨b, 0, none⟩ v0).setCell ⟨b, 1, none⟩ v1).setCell ⟨b, 2, none⟩ v2).setCell ⟨b, 3, none⟩ v3) := (Wr.setCell (Wr.setCell (Wr.setCell (Wr.setCell (Wr.refl [b] w) (List.mem_singleton.2 rfl) v0) (List.mem_singleton.2 rfl) v1) (List.mem_singleton.2 rfl) v2) (List.mem_singleton.2 rfl) v3)

theorem VRow.put6 {w : World} {b : Nat} {t : TypeId} {a0 a1 a2 a3 a4 a5 : Value} (h : VRow w b t [a0, a1, a2, a3, a4, a5]) (v0 v1 v2 v3 v4 v5 : Value) : VRow ((((((w.setCell ⟨b, 0, none⟩ v0).setCell ⟨b, 1, none⟩ v1).setCell ⟨b, 2, none⟩ v2).setCell ⟨b, 3, none⟩ v3).setCell ⟨b, 4, none⟩ v4).setCell ⟨b, 5, none⟩ v5) b t [v0, v1, v2, v3, v4, v5] := (VRow.set (VRow.set (VRow.set (VRow.set (VRow.set (VRow.set h 0 v0) 1 v1) 2 v2) 3 v3) 4 v4) 5 v5)
theorem Gr.put6 {w0 w : World} {b : Nat} (h : Gr w0 w) (hb : w0.heap.size ≤ b) (v0 v1 v2 v3 v4 v5 : Value) : Gr w0 ((((((w.setCell ⟨b, 0, none⟩ v0).setCell ⟨b, 1, none⟩ v1).setCell ⟨b, 2, none⟩ v2).setCell ⟨b, 3, none⟩ v3).setCell ⟨b, 4, none⟩ v4).setCell ⟨b, 5, none⟩ v5) := (Gr.setCell (p := ⟨b, 5, none⟩) (Gr.setCell (p := ⟨b, 4, none⟩) (Gr.setCell (p := ⟨b, 3, none⟩) (Gr.setCell (p := ⟨b, 2, none⟩) (Gr.setCell (p := ⟨b, 1, none⟩) (Gr.setCell (p := ⟨b, 0, none⟩) h hb v0) hb v1) hb v2) hb v3) hb v4) hb v5)
theorem Wr.put6 (w : World) (b : Nat) (v0 v1 v2 v3 v4 v5 : Value) : Wr [b] w ((((((w.setCell ⟨b, 0, none⟩ v0).setCell ⟨b, 1, none⟩ v1).setCell ⟨b, 2, none⟩ v2).setCell ⟨b, 3, none⟩ v3).setCell ⟨b, 4, none⟩ v4).setCell ⟨b, 5, none⟩ v5) := (Wr.setCell (Wr.setCell (Wr.setCell (Wr.setCell (Wr.setCell (Wr.setCell (Wr.refl [b] w) (List.mem_singleton.2 rfl) v0) (List.mem_singleton.2 rfl) v1) (List.mem_singleton.2 rfl) v2) (List.mem_singleton.2 rfl) v3) (List.mem_singleton.2 rfl) v4) (List.mem_singleton.2 rfl) v5)

theorem VRow.put7 {w : World} {b : Nat} {t : TypeId} {a0 a1 a2 a3 a4 a5 a6 : Value} (h : VRow w b t [a0, a1, a2, a3, a4, a5, a6]) (v0 v1 v2 v3 v4 v5 v6 : Value) : VRow (((((((w.setCell ⟨b, 0, none⟩ v0).setCell ⟨b, 1, none⟩ v1).setCell ⟨b, 2, none⟩ v2).setCell ⟨b, 3, none⟩ v3).setCell ⟨b, 4, none⟩ v4).setCell ⟨b, 5, none⟩ v5).setCell ⟨b, 6, none⟩ v6) b t [v0, v1, v2, v3, v4, v5, v6] := (VRow.set (VRow.set (VRow.set (VRow.set (VRow.set (VRow.set (VRow.set h 0 v0) 1 v1) 2 v2) 3 v3) 4 v4) 5 v5) 6 v6)
theorem Gr.put7 {w0 w : World} {b : Nat} (h : Gr w0 w) (hb : w0.heap.size ≤ b) (v0 v1 v2 v3 v4 v5 v6 : Value) : Gr w0 (((((((w.setCell ⟨b, 0, none⟩ v0).setCell ⟨b, 1, none⟩ v1).setCell ⟨b, 2, none⟩ v2).setCell ⟨b, 3, none⟩ v3).setCell ⟨b, 4, none⟩ v4).setCell ⟨b, 5, none⟩ v5).setCell ⟨b, 6, none⟩ v6) := (Gr.setCell (p := ⟨b, 6, none⟩) (Gr.setCell (p := ⟨b, 5, none⟩) (Gr.setCell (p := ⟨b, 4, none⟩) (Gr.setCell (p := ⟨b, 3, none⟩) (Gr.setCell (p := ⟨b, 2, none⟩) (Gr.setCell (p := ⟨b, 1, none⟩) (Gr.setCell (p := ⟨b, 0, none⟩) h hb v0) hb v1) hb v2) hb v3) hb v4) hb v5) hb v6)
theorem Wr.put7 (w : World) (b : Nat) (v0 v1 v2 v3 v4 v5 v6 : Value) : Wr [b] w (((((((w.setCell ⟨b, 0, none⟩ v0).setCell ⟨b, 1, none⟩ v1).setCell ⟨b, 2, none⟩ v2).setCell ⟨b, 3, none⟩ v3).setCell ⟨b, 4, none⟩ v4).setCell ⟨b, 5, none⟩ v5).setCell ⟨b, 6, none⟩ v6) := (Wr.setCell (Wr.setCell (Wr.setCell (Wr.setCell (Wr.setCell (Wr.setCell (Wr.setCell (Wr.refl [b] w) (List.mem_singleton.2 rfl) v0) (List.mem_singleton.2 rfl) v1) (List.mem_singleton.2 rfl) v2) (List.mem_singleton.2 rfl) v3) (List.mem_singleton.2 rfl) v4) (List.mem_singleton.2 rfl) v5) (List.mem_singleton.2 rfl) v6)

end Go.Proofs.Ytmfcagcanhmdbaa
