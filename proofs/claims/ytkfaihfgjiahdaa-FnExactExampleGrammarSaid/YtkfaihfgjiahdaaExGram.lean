/- ExampleGrammar of the program and of the reference, and the walk of the statement on them. Made by mk_gram.py. No condition. -/
import Derived.Test.YtkfaihfgjiahdaaIntsD
import Derived.Test.YtkfaihfgjiahdaaAppendR
import Derived.Lib.AppendStr
import Derived.Laws.IdiomStrings
namespace Go.Proofs.Ytkfaihfgjiahdaa
open Go.RowKit

section
variable {P : Program}
theorem run_append_str_gr {w : World} (base : Nat) (t u ty e : TypeId) (i : TypeInfo) (ht : P.underlying t = some (.slice e)) (hu : P.underlying u = some .string) (hi : P.info? e = some i) (hz : i.zero = some (.int .u8 0))
    (hsize : i.size = 1) (hby : i.bytes = 1) (g n cap : Nat) (xs : List Value) (hown : w.ownsRow base e 1 (.slice (some ⟨g, 0, none⟩) n cap) n xs) (s : ByteArray)
    (h63 : n + s.size ≤ maxLen) (hbytes : n + s.size ≤ 140737488355328) (hbase : base ≤ w.heap.size) :
    ∃ g' cap' w', (Builtin.append_ #[t, u] ty #[.slice (some ⟨g, 0, none⟩) n cap, .string s]).run P w = .ok (.slice (some ⟨g', 0, none⟩) (n + s.size) cap') w' ∧
      w'.ownsRow base e 1 (.slice (some ⟨g', 0, none⟩) (n + s.size) cap') (n + s.size) (xs ++ Lib.strCells s) ∧ w.grownBy w' (some g) ∧ w.drawn ≤ w'.drawn := by
  obtain ⟨v', w', hr, h2, h3, h4⟩ := Lib.run_append_own_string (P := P) w base t u ty e i ht hu hi hz hsize hby _ n xs hown s h63 hbytes hbase
  have hd : w.drawn ≤ w'.drawn := by
    rcases hown.2 with ⟨h0, _⟩ | ⟨g', cap', cur, hv, hbg, hg, hnc, hcm, hcs, htake⟩
    · cases h0
    · injection hv with e1 _ e3
      injection e1 with e1
      injection e1 with e1 _ _
      subst e1 e3
      by_cases hroom : n + s.size ≤ cap
      · have hr2 := Lib.run_append_room_string (P := P) w t u ty e i ht hu hi hsize g n cap cur hg s hroom (by omega)
        have := hr.symm.trans hr2
        injection this with _ e2
        rw [e2]
        exact Nat.le_refl _
      · have holds : ∀ j u, xs[j]? = some u → w.cell? ((⟨g, 0, none⟩ : Addr).add j) = some u := hown.cells (g := g) rfl
        have hsmall : n + s.size ≤ 9223372036854775807 := by simp only [maxLen] at h63; omega
        have hr2 := Lib.run_append_grow_string (P := P) w t u ty e i _ ht hu hi hz ⟨g, 0, none⟩ n cap xs (by rw [hsize]; exact hown.1) holds s (by omega) (by omega) (growslice_fits (by omega) (by rw [hby]; omega))
        have := hr.symm.trans hr2
        injection this with _ e2
        rw [e2]
        show w.drawn ≤ w.drawn + 1
        omega
  rcases h2.2 with ⟨rfl, h0⟩ | ⟨g', cap', cur, rfl, _⟩
  · exact absurd (h4.1 rfl).1 (by simp)
  · exact ⟨g', cap', w', hr, h2, h3, hd⟩

theorem wpList_append_str_gr {w0 w : World} (hG : Gr w0 w) {ops : Array Oper} {rest : List Oper} {o : Oper} {a : Act} {Q : Exit → Act → World → Prop} (hgd : o.guard = none) (sl x : Operand) (t u : TypeId)
    (ho : o.op = .call { callee := .builtin .append, args := #[sl, x], argTypes := #[t, u] })
    (e : TypeId) (i : TypeInfo) (ht : P.underlying t = some (.slice e)) (hu : P.underlying u = some .string) (hi : P.info? e = some i) (hz : i.zero = some (.int .u8 0))
    (hsize : i.size = 1) (hby : i.bytes = 1) (g n cap : Nat) (xs : List Value) (hs : a.eval sl = .slice (some ⟨g, 0, none⟩) n cap) (hown : w.ownsRow w0.heap.size e 1 (.slice (some ⟨g, 0, none⟩) n cap) n xs)
    (s : ByteArray) (hx : a.eval x = .string s) (h63 : n + s.size ≤ maxLen) (hbytes : n + s.size ≤ 140737488355328)
    (h : ∀ g' cap' w', w'.ownsRow w0.heap.size e 1 (.slice (some ⟨g', 0, none⟩) (n + s.size) cap') (n + s.size) (xs ++ Lib.strCells s) → Gr w0 w' → wpList P ops Q rest (a.put o.dst (.slice (some ⟨g', 0, none⟩) (n + s.size) cap')) w') : wpList P ops Q (o :: rest) a w := by
  refine wpList_plain hgd fun K hK => ?_
  obtain ⟨g', cap', w', hr, h2, h3, h4⟩ := run_append_str_gr (P := P) w0.heap.size t u o.type e i ht hu hi hz hsize hby g n cap xs hown s h63 hbytes hG.below.size
  unfold Oper.wp execOp
  simp only [ho, resolve, invoke, builtin, Sem.run_bind, Sem.run_pure, Result.andThen_ok, List.map_toArray, List.map_cons, List.map_nil, hs, hx, hr]
  exact hK _ _ (h g' cap' w' h2 (hG.grown h3 (fun b hb => by injection hb with hb; subst hb; exact (hown.lt g rfl).1) h4))
end

/-- The first k texts, joined. -/
def jn (xs : List ByteArray) (b : List UInt8) : Nat → List UInt8
  | 0 => []
  | k + 1 => jn xs b k ++ (if k = 0 then [] else b) ++ (xs.getD k ByteArray.empty).data.toList
/-- The first k texts, each with a line's end. -/
def ct (xs : List ByteArray) : Nat → List UInt8
  | 0 => []
  | k + 1 => ct xs k ++ ((xs.getD k ByteArray.empty).data.toList ++ [10])

theorem jn_ct (xs : List ByteArray) (k : Nat) (h : 0 < k) : jn xs [10] k ++ [10] = ct xs k := by
  induction k with
  | zero => omega
  | succ k ih =>
    by_cases hk : k = 0
    · subst hk; simp [jn, ct]
    · simp only [jn, ct, if_neg hk]
      rw [← ih (by omega)]
      simp
theorem ct_mono (xs : List ByteArray) (k m : Nat) (h : k ≤ m) : (ct xs k).length ≤ (ct xs m).length := by
  induction m with
  | zero => obtain rfl : k = 0 := by omega
            exact Nat.le_refl _
  | succ m ih =>
    by_cases hk : k = m + 1
    · subst hk; exact Nat.le_refl _
    · have := ih (by omega); simp only [ct, List.length_append]; omega
theorem jn_le (xs : List ByteArray) (k : Nat) : (jn xs [10] k).length ≤ (ct xs k).length := by
  cases k with
  | zero => simp [jn, ct]
  | succ k => rw [← jn_ct xs (k + 1) (by omega)]; simp

theorem enc_str (s : ByteArray) : Lib.strCells s = s.data.toList.map fun b => Value.int .u8 b.toNat := rfl
theorem size_data (s : ByteArray) : s.data.toList.length = s.size := by rw [Array.length_toList]; rfl

theorem Try.infoByte : (Try.prog.info? 5).map (fun i => (i.zero, i.size, i.bytes)) = some (some (.int .u8 0), 1, 1) := by kernel_rfl

set_option maxRecDepth 10000 in
set_option maxHeartbeats 4000000 in
theorem specJoin_any (fp : List Nat) (u : Value) (xs : List ByteArray) (w : World) (hu : SlR fp w u xs) (hB : (ct xs xs.length).length ≤ 1000000) :
    Calls Try.prog 50 #[u, .string ⟨#[10]⟩] w fun e w' => e = .returned (.string ⟨(jn xs [10] xs.length).toArray⟩) ∧ Gr w w' := by
  obtain ⟨a, ca, rfl, h1, h2, h3⟩ := hu.open
  obtain ⟨i0, hi, hz0, hz1, hz2⟩ := info_parts Try.infoByte
  have HZ := Lib.hid (And.intro hi (And.intro hz0 (And.intro hz1 hz2)))
  have HB := Lib.hid hB
  clear hi hz0 hz1 hz2 hB
  go_enter Try.func50, Try.ntmps50
  go_wp2
  go_loopw [6, 5] (fun s6 s5 wr => ∃ (k n g cap : Nat), k ≤ xs.length ∧ n = (jn xs [10] k).length ∧ Gr w wr ∧ wr.ownsRow w.heap.size 5 1 (.slice (some ⟨g, 0, none⟩) n cap) n ((jn xs [10] k).map fun b => Value.int .u8 b.toNat) ∧ s5 = .slice (some ⟨g, 0, none⟩) n cap ∧ s6 = .int .i64 k) (fun s6 _ _ => xs.length - (intOf s6).toNat)
  case atStart =>
    exact ⟨0, 0, w.heap.size, 0, by omega, rfl, (by repeat (first | exact Gr.refl _ | apply Gr.ext | apply Gr.alloc | apply Gr.drew)), World.ownsRow_lit w #[] 0 (Nat.le_refl _) (Nat.zero_le _) (by simp), rfl, rfl⟩
  case round =>
    obtain ⟨k, n, g, cap, hk, hn, hg, hown, rfl, rfl⟩ := hrel
    have HN := Lib.hid hn
    have HO := Lib.hid hown
    have HG := Lib.hid hg
    have hjl := jn_le xs k
    have hcm := ct_mono xs k xs.length hk
    have hnb : n ≤ 1000000 := by have := HB.out; omega
    clear hn hown hg hjl hcm
    by_cases hlt : k < xs.length
    · obtain ⟨b, off, rfl, hb⟩ := h3 k hlt
      obtain ⟨z0, hsz⟩ := hu.str_at hlt
      have z1 := HG.out.keep z0
      have zb := blk z1
      have hgd : xs.getD k ByteArray.empty = xs[k] := by simp [hlt]
      have hcm := ct_mono xs (k + 1) xs.length hlt
      have hjl := jn_le xs (k + 1)
      have hjs : (jn xs [10] (k + 1)).length = (jn xs [10] k).length + (if k = 0 then 0 else 1) + xs[k].size := by
        simp only [jn, hgd, List.length_append, size_data]
        split <;> rfl
      have hsb : n + (if k = 0 then 0 else 1) + xs[k].size ≤ 1000000 := by have := HB.out; have := HN.out; omega
      have HS := Lib.hid hjs
      have hx : ∃ s, s = xs[k] := ⟨_, rfl⟩
      obtain ⟨s, hs⟩ := hx
      rw [← hs] at z1 hsb hsz
      have HE := Lib.hid hs
      have HGD := Lib.hid hgd
      clear h3 z0 hcm hjl hjs hs hgd
      by_cases h0 : k = 0
      · subst h0
        have hsb2 : n + s.size ≤ 1000000 := by simpa using hsb
        rw [Nat.add_zero] at z1
        clear hsb
        go_wp2_with (first | (at_builtin; refine wpList_append_str_gr (o := ⟨some 24, _, _, _, _, _⟩) HG.out rfl _ _ 40 9 rfl 5 i0 Try.underlying40 Try.underlying9 HZ.out.1 HZ.out.2.1 HZ.out.2.2.1 HZ.out.2.2.2 g n cap _ (by rfl) HO.out s (by rfl) (by unfold maxLen; omega) (by omega) ?_; intro g2 cap2 w2 o2 r2; replace o2 := Lib.hid o2; replace r2 := Lib.hid r2))
        refine ⟨⟨1, n + s.size, g2, cap2, by omega, ?_, r2.out, ?_, rfl, by go_num⟩, by simp [intOf]; omega⟩
        · have h5 := HS.out; have h6 := HN.out; rw [if_pos rfl] at h5; rw [HE.out]; show n + _ = (jn xs [10] (0 + 1)).length; omega
        · have e : jn xs [10] 1 = jn xs [10] 0 ++ s.data.toList := by rw [HE.out, ← HGD.out]; simp [jn]
          rw [e, List.map_append]; exact o2.out
      · have hk1 : 0 < k := by omega
        have hsb2 : n + 1 + s.size ≤ 1000000 := by simpa [h0] using hsb
        have hone : (⟨#[10]⟩ : ByteArray).size = 1 := rfl
        clear hsb
        go_wp2_with (first
          | (at_builtin; refine wpList_append_str_gr (o := ⟨some 18, _, _, _, _, _⟩) HG.out rfl _ _ 40 9 rfl 5 i0 Try.underlying40 Try.underlying9 HZ.out.1 HZ.out.2.1 HZ.out.2.2.1 HZ.out.2.2.2 g n cap _ (by rfl) HO.out ⟨#[10]⟩ (by rfl) (by unfold maxLen; rw [hone]; omega) (by rw [hone]; omega) ?_; intro g1 cap1 w1 o1 r1; rw [hone] at o1; rw [hone]; replace o1 := Lib.hid o1; replace r1 := Lib.hid r1; have z2 := ((Gr.refl w).trans r1.out).keep (hu.str_at hlt).1; rw [← HE.out] at z2; have zb2 := blk z2)
          | (at_builtin; refine wpList_append_str_gr (o := ⟨some 24, _, _, _, _, _⟩) r1.out rfl _ _ 40 9 rfl 5 i0 Try.underlying40 Try.underlying9 HZ.out.1 HZ.out.2.1 HZ.out.2.2.1 HZ.out.2.2.2 g1 (n + 1) cap1 _ (by rfl) o1.out s (by rfl) (by unfold maxLen; omega) (by omega) ?_; intro g2 cap2 w2 o2 r2; replace o2 := Lib.hid o2; replace r2 := Lib.hid r2))
        refine ⟨⟨k + 1, n + 1 + s.size, g2, cap2, by omega, ?_, r2.out, ?_, rfl, by go_num⟩, by simp [intOf]; omega⟩
        · have h5 := HS.out; have h6 := HN.out; rw [if_neg h0] at h5; rw [HE.out]; omega
        · have e : jn xs [10] (k + 1) = jn xs [10] k ++ [10] ++ s.data.toList := by rw [HE.out, ← HGD.out]; simp only [jn, if_neg h0]
          rw [e, List.map_append, List.map_append]; exact o2.out
    · have hk2 : k = xs.length := by omega
      subst hk2
      have kc := run_convert_bytes_back (P := Try.prog) wr 40 9 5 ⟨g, 0, none⟩ cap (jn xs [10] xs.length) Try.underlying40 Try.underlying5 Try.underlying9 (fun j hj => by
        have h := HO.out.cells (g := g) rfl j (.int .u8 ((jn xs [10] xs.length)[j].toNat)) (by simp [hj])
        exact h)
      rw [← HN.out] at kc
      go_wp2
      go_ret
      exact ⟨rfl, HG.out⟩

def lines1 : List ByteArray := [⟨#[115, 121, 109, 98, 111, 108, 32, 115, 32, 101, 114, 114, 115, 58, 115, 121, 110, 58, 110, 117, 109, 32, 100, 101, 99, 108, 115, 58, 99, 111, 108, 58, 115, 101, 116]⟩, ⟨#[115, 121, 109, 98, 111, 108, 32, 116, 32, 101, 110, 118, 58, 105, 110, 104, 58, 110, 111, 100, 101, 32, 101, 114, 114, 115, 58, 115, 121, 110, 58, 110, 117, 109]⟩, ⟨#[114, 117, 108, 101, 32, 98, 108, 111, 99, 107, 32, 115, 32, 58, 32, 116]⟩, ⟨#[101, 113, 32, 36, 48, 46, 101, 114, 114, 115, 32, 58, 61, 32, 36, 49, 46, 101, 114, 114, 115]⟩, ⟨#[101, 113, 32, 36, 49, 46, 101, 110, 118, 32, 58, 61, 32, 115, 101, 108, 102, 40, 48, 41]⟩, ⟨#[114, 117, 108, 101, 32, 112, 97, 105, 114, 32, 116, 32, 58, 32, 116, 32, 116]⟩, ⟨#[101, 113, 32, 36, 48, 46, 101, 114, 114, 115, 32, 58, 61, 32, 36, 49, 46, 101, 114, 114, 115, 32, 43, 32, 36, 50, 46, 101, 114, 114, 115]⟩, ⟨#[101, 113, 32, 36, 49, 46, 101, 110, 118, 32, 58, 61, 32, 36, 48, 46, 101, 110, 118]⟩, ⟨#[101, 113, 32, 36, 50, 46, 101, 110, 118, 32, 58, 61, 32, 36, 48, 46, 101, 110, 118]⟩, ⟨#[114, 117, 108, 101, 32, 100, 101, 99, 108, 32, 116, 32, 58, 32, 108, 105, 116]⟩, ⟨#[101, 113, 32, 36, 48, 46, 101, 114, 114, 115, 32, 58, 61, 32, 48]⟩, ⟨#[112, 117, 116, 32, 115, 46, 100, 101, 99, 108, 115, 32, 111, 102, 32, 36, 48, 46, 101, 110, 118, 32, 58, 61, 32, 119, 105, 116, 104, 40, 123, 125, 44, 32, 108, 105, 116, 41]⟩, ⟨#[114, 117, 108, 101, 32, 117, 115, 101, 32, 116, 32, 58, 32, 108, 105, 116]⟩, ⟨#[101, 113, 32, 36, 48, 46, 101, 114, 114, 115, 32, 58, 61, 32, 105, 102, 32, 104, 97, 115, 40, 115, 46, 100, 101, 99, 108, 115, 32, 111, 102, 32, 36, 48, 46, 101, 110, 118, 44, 32, 108, 105, 116, 41, 32, 116, 104, 101, 110, 32, 48, 32, 101, 108, 115, 101, 32, 49]⟩]
theorem len1 : lines1.length = 14 := rfl
theorem ct1 : (ct lines1 lines1.length).length ≤ 1000000 := by decide +kernel

def lines2 : List ByteArray := [⟨#[115, 121, 109, 98, 111, 108, 32, 115, 32, 111, 117, 116, 58, 115, 121, 110, 58, 115, 101, 116]⟩, ⟨#[115, 121, 109, 98, 111, 108, 32, 116, 32, 98, 101, 102, 111, 114, 101, 58, 105, 110, 104, 58, 115, 101, 116, 33, 32, 97, 102, 116, 101, 114, 58, 115, 121, 110, 58, 115, 101, 116, 33]⟩, ⟨#[114, 117, 108, 101, 32, 109, 97, 105, 110, 32, 115, 32, 58, 32, 116]⟩, ⟨#[101, 113, 32, 36, 48, 46, 111, 117, 116, 32, 58, 61, 32, 36, 49, 46, 97, 102, 116, 101, 114]⟩, ⟨#[101, 113, 32, 36, 49, 46, 98, 101, 102, 111, 114, 101, 32, 58, 61, 32, 123, 125]⟩, ⟨#[114, 117, 108, 101, 32, 115, 101, 113, 32, 116, 32, 58, 32, 116, 32, 116]⟩, ⟨#[101, 113, 32, 36, 48, 46, 97, 102, 116, 101, 114, 32, 58, 61, 32, 36, 50, 46, 97, 102, 116, 101, 114]⟩, ⟨#[101, 113, 32, 36, 49, 46, 98, 101, 102, 111, 114, 101, 32, 58, 61, 32, 36, 48, 46, 98, 101, 102, 111, 114, 101]⟩, ⟨#[101, 113, 32, 36, 50, 46, 98, 101, 102, 111, 114, 101, 32, 58, 61, 32, 36, 49, 46, 97, 102, 116, 101, 114]⟩, ⟨#[114, 117, 108, 101, 32, 108, 111, 111, 112, 32, 116, 32, 58, 32, 116]⟩, ⟨#[101, 113, 32, 36, 48, 46, 97, 102, 116, 101, 114, 32, 58, 61, 32, 36, 48, 46, 98, 101, 102, 111, 114, 101, 32, 124, 32, 36, 49, 46, 97, 102, 116, 101, 114]⟩, ⟨#[101, 113, 32, 36, 49, 46, 98, 101, 102, 111, 114, 101, 32, 58, 61, 32, 36, 48, 46, 98, 101, 102, 111, 114, 101, 32, 124, 32, 36, 49, 46, 97, 102, 116, 101, 114]⟩, ⟨#[114, 117, 108, 101, 32, 103, 101, 110, 32, 116, 32, 58, 32, 108, 105, 116]⟩, ⟨#[101, 113, 32, 36, 48, 46, 97, 102, 116, 101, 114, 32, 58, 61, 32, 119, 105, 116, 104, 40, 36, 48, 46, 98, 101, 102, 111, 114, 101, 44, 32, 108, 105, 116, 41]⟩, ⟨#[114, 117, 108, 101, 32, 107, 105, 108, 108, 32, 116, 32, 58, 32, 108, 105, 116]⟩, ⟨#[101, 113, 32, 36, 48, 46, 97, 102, 116, 101, 114, 32, 58, 61, 32, 36, 48, 46, 98, 101, 102, 111, 114, 101, 32, 92, 32, 119, 105, 116, 104, 40, 123, 125, 44, 32, 108, 105, 116, 41]⟩]
theorem len2 : lines2.length = 16 := rfl
theorem ct2 : (ct lines2 lines2.length).length ≤ 1000000 := by decide +kernel

def lines3 : List ByteArray := [⟨#[115, 121, 109, 98, 111, 108, 32, 115, 32, 119, 105, 100, 116, 104, 58, 115, 121, 110, 58, 110, 117, 109]⟩, ⟨#[115, 121, 109, 98, 111, 108, 32, 116, 32, 114, 111, 111, 109, 58, 105, 110, 104, 58, 110, 117, 109, 32, 119, 105, 100, 116, 104, 58, 115, 121, 110, 58, 110, 117, 109]⟩, ⟨#[114, 117, 108, 101, 32, 112, 97, 103, 101, 32, 115, 32, 58, 32, 116, 32, 108, 105, 116]⟩, ⟨#[101, 113, 32, 36, 48, 46, 119, 105, 100, 116, 104, 32, 58, 61, 32, 36, 49, 46, 119, 105, 100, 116, 104]⟩, ⟨#[101, 113, 32, 36, 49, 46, 114, 111, 111, 109, 32, 58, 61, 32, 108, 105, 116]⟩, ⟨#[114, 117, 108, 101, 32, 114, 111, 119, 32, 116, 32, 58, 32, 116, 32, 116]⟩, ⟨#[101, 113, 32, 36, 48, 46, 119, 105, 100, 116, 104, 32, 58, 61, 32, 36, 49, 46, 119, 105, 100, 116, 104, 32, 43, 32, 36, 50, 46, 119, 105, 100, 116, 104]⟩, ⟨#[101, 113, 32, 36, 49, 46, 114, 111, 111, 109, 32, 58, 61, 32, 36, 48, 46, 114, 111, 111, 109]⟩, ⟨#[101, 113, 32, 36, 50, 46, 114, 111, 111, 109, 32, 58, 61, 32, 109, 97, 120, 40, 36, 48, 46, 114, 111, 111, 109, 32, 45, 32, 36, 49, 46, 119, 105, 100, 116, 104, 44, 32, 48, 41]⟩, ⟨#[114, 117, 108, 101, 32, 98, 111, 120, 32, 116, 32, 58, 32, 108, 105, 116]⟩, ⟨#[101, 113, 32, 36, 48, 46, 119, 105, 100, 116, 104, 32, 58, 61, 32, 109, 105, 110, 40, 108, 105, 116, 44, 32, 36, 48, 46, 114, 111, 111, 109, 41]⟩]
theorem len3 : lines3.length = 11 := rfl
theorem ct3 : (ct lines3 lines3.length).length ≤ 1000000 := by decide +kernel
theorem LE1 : ∀ i (h : i < lines1.length), lines1[i].size ≤ maxLen := by
  have h : lines1.all (fun s => decide (s.size ≤ maxLen)) = true := by decide +kernel
  intro i hi
  have := List.all_eq_true.1 h _ (List.getElem_mem hi)
  exact of_decide_eq_true this
theorem LE2 : ∀ i (h : i < lines2.length), lines2[i].size ≤ maxLen := by
  have h : lines2.all (fun s => decide (s.size ≤ maxLen)) = true := by decide +kernel
  intro i hi
  have := List.all_eq_true.1 h _ (List.getElem_mem hi)
  exact of_decide_eq_true this
theorem LE3 : ∀ i (h : i < lines3.length), lines3[i].size ≤ maxLen := by
  have h : lines3.all (fun s => decide (s.size ≤ maxLen)) = true := by decide +kernel
  intro i hi
  have := List.all_eq_true.1 h _ (List.getElem_mem hi)
  exact of_decide_eq_true this

set_option maxRecDepth 100000 in
set_option maxHeartbeats 4000000 in
theorem implLines_1 (w : World) :
    Calls Try.prog 51 #[.int .i64 1] w fun e w' => ∃ v fq, e = .returned v ∧ SlR fq w' v lines1 ∧ Gr w w' := by
  obtain ⟨fq, hs, -⟩ := SlR.flat (w := w.alloc (.cells (lines1.map Value.string).toArray 9)) (b := w.heap.size) (t := 9) (cap := 14) (xs := lines1) (heap_alloc_new w _) rfl
    (fun i hi => ⟨_, by simp [hi], rfl, rfl, LE1 i hi⟩) (Nat.le_refl _) (by rw [len1]; unfold reachLen; omega)
  have HS := Lib.hid hs
  clear hs
  go_enter Try.func51, Try.ntmps51
  go_wp2
  go_ret
  exact ⟨_, fq, rfl, HS.out, (by repeat (first | exact Gr.refl _ | apply Gr.ext | apply Gr.alloc | apply Gr.drew))⟩

set_option maxRecDepth 100000 in
set_option maxHeartbeats 4000000 in
theorem implLines_2 (w : World) :
    Calls Try.prog 51 #[.int .i64 2] w fun e w' => ∃ v fq, e = .returned v ∧ SlR fq w' v lines2 ∧ Gr w w' := by
  obtain ⟨fq, hs, -⟩ := SlR.flat (w := w.alloc (.cells (lines2.map Value.string).toArray 9)) (b := w.heap.size) (t := 9) (cap := 16) (xs := lines2) (heap_alloc_new w _) rfl
    (fun i hi => ⟨_, by simp [hi], rfl, rfl, LE2 i hi⟩) (Nat.le_refl _) (by rw [len2]; unfold reachLen; omega)
  have HS := Lib.hid hs
  clear hs
  go_enter Try.func51, Try.ntmps51
  go_wp2
  go_ret
  exact ⟨_, fq, rfl, HS.out, (by repeat (first | exact Gr.refl _ | apply Gr.ext | apply Gr.alloc | apply Gr.drew))⟩

set_option maxRecDepth 100000 in
set_option maxHeartbeats 4000000 in
theorem implLines_3 (w : World) :
    Calls Try.prog 51 #[.int .i64 3] w fun e w' => ∃ v fq, e = .returned v ∧ SlR fq w' v lines3 ∧ Gr w w' := by
  obtain ⟨fq, hs, -⟩ := SlR.flat (w := w.alloc (.cells (lines3.map Value.string).toArray 9)) (b := w.heap.size) (t := 9) (cap := 11) (xs := lines3) (heap_alloc_new w _) rfl
    (fun i hi => ⟨_, by simp [hi], rfl, rfl, LE3 i hi⟩) (Nat.le_refl _) (by rw [len3]; unfold reachLen; omega)
  have HS := Lib.hid hs
  clear hs
  go_enter Try.func51, Try.ntmps51
  go_wp2
  go_ret
  exact ⟨_, fq, rfl, HS.out, (by repeat (first | exact Gr.refl _ | apply Gr.ext | apply Gr.alloc | apply Gr.drew))⟩

theorem implLines_out (k : Int) (w : World) (h : k < 1 ∨ 3 < k) :
    Calls Try.prog 51 #[.int .i64 k] w fun e w' => ∃ a c, e = .returned (.slice a 0 c) ∧ Gr w w' := by
  have e1 : (k == 1) = false := by simp; omega
  have e2 : (k == 2) = false := by simp; omega
  have e3 : (k == 3) = false := by simp; omega
  go_enter Try.func51, Try.ntmps51
  go_wp2
  go_ret
  exact ⟨_, _, rfl, (by repeat (first | exact Gr.refl _ | apply Gr.ext | apply Gr.alloc | apply Gr.drew))⟩

set_option maxRecDepth 100000 in
set_option maxHeartbeats 4000000 in
theorem specLines_1 (w : World) :
    Calls Try.prog 49 #[.int .i64 1] w fun e w' => ∃ v fq, e = .returned v ∧ SlR fq w' v lines1 ∧ Gr w w' := by
  obtain ⟨fq, hs, -⟩ := SlR.flat (w := w.alloc (.cells (lines1.map Value.string).toArray 9)) (b := w.heap.size) (t := 9) (cap := 14) (xs := lines1) (heap_alloc_new w _) rfl
    (fun i hi => ⟨_, by simp [hi], rfl, rfl, LE1 i hi⟩) (Nat.le_refl _) (by rw [len1]; unfold reachLen; omega)
  have HS := Lib.hid hs
  clear hs
  go_enter Try.func49, Try.ntmps49
  go_wp2
  go_ret
  exact ⟨_, fq, rfl, HS.out, (by repeat (first | exact Gr.refl _ | apply Gr.ext | apply Gr.alloc | apply Gr.drew))⟩

set_option maxRecDepth 100000 in
set_option maxHeartbeats 4000000 in
theorem specLines_2 (w : World) :
    Calls Try.prog 49 #[.int .i64 2] w fun e w' => ∃ v fq, e = .returned v ∧ SlR fq w' v lines2 ∧ Gr w w' := by
  obtain ⟨fq, hs, -⟩ := SlR.flat (w := w.alloc (.cells (lines2.map Value.string).toArray 9)) (b := w.heap.size) (t := 9) (cap := 16) (xs := lines2) (heap_alloc_new w _) rfl
    (fun i hi => ⟨_, by simp [hi], rfl, rfl, LE2 i hi⟩) (Nat.le_refl _) (by rw [len2]; unfold reachLen; omega)
  have HS := Lib.hid hs
  clear hs
  go_enter Try.func49, Try.ntmps49
  go_wp2
  go_ret
  exact ⟨_, fq, rfl, HS.out, (by repeat (first | exact Gr.refl _ | apply Gr.ext | apply Gr.alloc | apply Gr.drew))⟩

set_option maxRecDepth 100000 in
set_option maxHeartbeats 4000000 in
theorem specLines_3 (w : World) :
    Calls Try.prog 49 #[.int .i64 3] w fun e w' => ∃ v fq, e = .returned v ∧ SlR fq w' v lines3 ∧ Gr w w' := by
  obtain ⟨fq, hs, -⟩ := SlR.flat (w := w.alloc (.cells (lines3.map Value.string).toArray 9)) (b := w.heap.size) (t := 9) (cap := 11) (xs := lines3) (heap_alloc_new w _) rfl
    (fun i hi => ⟨_, by simp [hi], rfl, rfl, LE3 i hi⟩) (Nat.le_refl _) (by rw [len3]; unfold reachLen; omega)
  have HS := Lib.hid hs
  clear hs
  go_enter Try.func49, Try.ntmps49
  go_wp2
  go_ret
  exact ⟨_, fq, rfl, HS.out, (by repeat (first | exact Gr.refl _ | apply Gr.ext | apply Gr.alloc | apply Gr.drew))⟩

theorem specLines_out (k : Int) (w : World) (h : k < 1 ∨ 3 < k) :
    Calls Try.prog 49 #[.int .i64 k] w fun e w' => ∃ a c, e = .returned (.slice a 0 c) ∧ Gr w w' := by
  have e1 : (k == 1) = false := by simp; omega
  have e2 : (k == 2) = false := by simp; omega
  have e3 : (k == 3) = false := by simp; omega
  go_enter Try.func49, Try.ntmps49
  go_wp2
  go_ret
  exact ⟨_, _, rfl, (by repeat (first | exact Gr.refl _ | apply Gr.ext | apply Gr.alloc | apply Gr.drew))⟩

set_option maxRecDepth 10000 in
set_option maxHeartbeats 4000000 in
theorem implGram_1 (w : World) :
    Calls Try.prog 10 #[.int .i64 1] w fun e w' => e = .returned (.string ⟨(ct lines1 lines1.length).toArray⟩) ∧ Gr w w' := by
  have hB := Lib.hid ct1
  go_enter Try.func10, Try.ntmps10
  go_wp2_with fail
  refine (implLines_1 _).mono ?_
  rintro e W ⟨v, fq, rfl, hs, hg⟩
  have hl := len1
  obtain ⟨a, c, rfl, h1, h2, h3⟩ := hs.open
  rw [hl] at h1 h2 h3 ⊢
  clear hl
  have HS := Lib.hid hs
  have HG := Lib.hid hg
  clear hs hg
  go_wp2_with fail
  go_loopw [9, 3] (fun s9 s3 wr => ∃ (i : Nat) (o : ByteArray), i ≤ 14 ∧ Hid (o.data.toList = ct lines1 i) ∧ o.size ≤ 1000000 ∧ wr = W ∧ s3 = .string o ∧ s9 = .int .i64 i) (fun s9 _ _ => 14 - (intOf s9).toNat)
  case atStart => exact ⟨0, ⟨#[]⟩, by omega, Lib.hid rfl, by decide, rfl, rfl, rfl⟩
  case round =>
    obtain ⟨i, o, hi, ho, hoz, rfl, rfl, rfl⟩ := hrel
    by_cases hlt : i < 14
    · obtain ⟨b, off, rfl, hb⟩ := h3 i hlt
      have hlt' : i < lines1.length := by rw [len1]; exact hlt
      have z0 := (HS.out.str_at hlt').1
      have hcm := ct_mono lines1 (i + 1) lines1.length hlt'
      have hgd : lines1.getD i ByteArray.empty = lines1[i] := by simp [hlt']
      obtain ⟨s, hs⟩ : ∃ s, s = lines1[i] := ⟨_, rfl⟩
      have hcs : (ct lines1 (i + 1)).length = o.size + s.size + 1 := by
        simp only [ct, hgd, ← hs, ← ho.out, List.length_append, size_data, List.length_cons, List.length_nil]
        omega
      rw [← hs] at z0
      have hsb : o.size + (s.size + 1) ≤ 1000000 := by have := hB.out; omega
      have HE := Lib.hid hs
      have HGD := Lib.hid hgd
      have hone : (⟨#[10]⟩ : ByteArray).size = 1 := rfl
      have hsz2 : (s ++ ⟨#[10]⟩).size = s.size + 1 := by rw [ByteArray.size_append]; rfl
      have hsz3 : (o ++ (s ++ ⟨#[10]⟩)).size = o.size + (s.size + 1) := by rw [ByteArray.size_append, hsz2]
      have HZ3 := Lib.hid hsz3
      clear h3 hcm hgd hs hcs hsz3
      go_wp2
      refine ⟨⟨i + 1, _, by omega, Lib.hid ?_, ?_, (by first | rfl | trivial), rfl, by go_num⟩, by simp [intOf]; omega⟩
      · simp only [ct, HGD.out, ← HE.out, ← ho.out]
        simp
      · rw [HZ3.out]; exact hsb
    · have hi2 : i = 14 := by omega
      subst hi2
      go_wp2
      go_ret
      refine ⟨congrArg (fun s => Ending.returned (.string s)) ?_, HG.out⟩
      exact ByteArray.ext (Array.toList_inj.1 (by rw [ho.out]; rfl))

set_option maxRecDepth 10000 in
set_option maxHeartbeats 4000000 in
theorem specGram_1 (w : World) :
    Calls Try.prog 9 #[.int .i64 1] w fun e w' => e = .returned (.string ⟨(ct lines1 lines1.length).toArray⟩) ∧ Gr w w' := by
  have hjc := Lib.hid (jn_ct lines1 lines1.length (by rw [len1]; omega))
  have hjl := jn_le lines1 lines1.length
  have hB := ct1
  have hsj : (⟨(jn lines1 [10] lines1.length).toArray⟩ : ByteArray).size ≤ 1000000 := by show (jn lines1 [10] lines1.length).toArray.size ≤ _; simp; omega
  have HS := Lib.hid hsj
  clear hjl hB hsj
  go_enter Try.func9, Try.ntmps9
  go_wp2_with fail
  refine (specLines_1 _).mono ?_
  rintro e W ⟨v, fq, rfl, hs, hg⟩
  have hl := len1
  have HL := Lib.hid hl
  have HU := Lib.hid hs
  obtain ⟨a, c, rfl, h1, h2, -⟩ := hs.open
  rw [hl] at h1 h2 ⊢
  rw [hl] at HU
  have HG := Lib.hid hg
  clear hs hg hl
  go_wp2_with fail
  refine (specJoin_any fq _ lines1 _ HU.out ct1).mono ?_
  rintro e w2 ⟨rfl, g2⟩
  have hs2 := HS.out
  obtain ⟨j, hj⟩ : ∃ j : ByteArray, j = ⟨(jn lines1 [10] lines1.length).toArray⟩ := ⟨_, rfl⟩
  rw [← hj] at hs2 ⊢
  have HJ := Lib.hid hj
  clear hj
  have hone : (⟨#[10]⟩ : ByteArray).size = 1 := rfl
  go_wp2_with fail
  go_ret
  refine ⟨congrArg (fun s => Ending.returned (.string s)) ?_, HG.out.trans g2⟩
  rw [HJ.out, ← hjc.out]
  exact ByteArray.ext (by simp)

set_option maxHeartbeats 1000000 in
theorem lawGram_1 (w : World) :
    Calls Try.prog 3 #[.int .i64 1] w fun e w' => e = .returned (.bool true) ∧ Gr w w' := by
  go_enter Try.func3, Try.ntmps3
  go_wp2_with fail
  refine (specGram_1 _).mono ?_
  rintro e w1 ⟨rfl, g1⟩
  go_wp2_with fail
  refine (implGram_1 _).mono ?_
  rintro e w2 ⟨rfl, g2⟩
  generalize (⟨(ct lines1 lines1.length).toArray⟩ : ByteArray) = s
  go_wp2_with fail
  go_ret
  exact ⟨rfl, g1.trans g2⟩

set_option maxRecDepth 10000 in
set_option maxHeartbeats 4000000 in
theorem implGram_2 (w : World) :
    Calls Try.prog 10 #[.int .i64 2] w fun e w' => e = .returned (.string ⟨(ct lines2 lines2.length).toArray⟩) ∧ Gr w w' := by
  have hB := Lib.hid ct2
  go_enter Try.func10, Try.ntmps10
  go_wp2_with fail
  refine (implLines_2 _).mono ?_
  rintro e W ⟨v, fq, rfl, hs, hg⟩
  have hl := len2
  obtain ⟨a, c, rfl, h1, h2, h3⟩ := hs.open
  rw [hl] at h1 h2 h3 ⊢
  clear hl
  have HS := Lib.hid hs
  have HG := Lib.hid hg
  clear hs hg
  go_wp2_with fail
  go_loopw [9, 3] (fun s9 s3 wr => ∃ (i : Nat) (o : ByteArray), i ≤ 16 ∧ Hid (o.data.toList = ct lines2 i) ∧ o.size ≤ 1000000 ∧ wr = W ∧ s3 = .string o ∧ s9 = .int .i64 i) (fun s9 _ _ => 16 - (intOf s9).toNat)
  case atStart => exact ⟨0, ⟨#[]⟩, by omega, Lib.hid rfl, by decide, rfl, rfl, rfl⟩
  case round =>
    obtain ⟨i, o, hi, ho, hoz, rfl, rfl, rfl⟩ := hrel
    by_cases hlt : i < 16
    · obtain ⟨b, off, rfl, hb⟩ := h3 i hlt
      have hlt' : i < lines2.length := by rw [len2]; exact hlt
      have z0 := (HS.out.str_at hlt').1
      have hcm := ct_mono lines2 (i + 1) lines2.length hlt'
      have hgd : lines2.getD i ByteArray.empty = lines2[i] := by simp [hlt']
      obtain ⟨s, hs⟩ : ∃ s, s = lines2[i] := ⟨_, rfl⟩
      have hcs : (ct lines2 (i + 1)).length = o.size + s.size + 1 := by
        simp only [ct, hgd, ← hs, ← ho.out, List.length_append, size_data, List.length_cons, List.length_nil]
        omega
      rw [← hs] at z0
      have hsb : o.size + (s.size + 1) ≤ 1000000 := by have := hB.out; omega
      have HE := Lib.hid hs
      have HGD := Lib.hid hgd
      have hone : (⟨#[10]⟩ : ByteArray).size = 1 := rfl
      have hsz2 : (s ++ ⟨#[10]⟩).size = s.size + 1 := by rw [ByteArray.size_append]; rfl
      have hsz3 : (o ++ (s ++ ⟨#[10]⟩)).size = o.size + (s.size + 1) := by rw [ByteArray.size_append, hsz2]
      have HZ3 := Lib.hid hsz3
      clear h3 hcm hgd hs hcs hsz3
      go_wp2
      refine ⟨⟨i + 1, _, by omega, Lib.hid ?_, ?_, (by first | rfl | trivial), rfl, by go_num⟩, by simp [intOf]; omega⟩
      · simp only [ct, HGD.out, ← HE.out, ← ho.out]
        simp
      · rw [HZ3.out]; exact hsb
    · have hi2 : i = 16 := by omega
      subst hi2
      go_wp2
      go_ret
      refine ⟨congrArg (fun s => Ending.returned (.string s)) ?_, HG.out⟩
      exact ByteArray.ext (Array.toList_inj.1 (by rw [ho.out]; rfl))

set_option maxRecDepth 10000 in
set_option maxHeartbeats 4000000 in
theorem specGram_2 (w : World) :
    Calls Try.prog 9 #[.int .i64 2] w fun e w' => e = .returned (.string ⟨(ct lines2 lines2.length).toArray⟩) ∧ Gr w w' := by
  have hjc := Lib.hid (jn_ct lines2 lines2.length (by rw [len2]; omega))
  have hjl := jn_le lines2 lines2.length
  have hB := ct2
  have hsj : (⟨(jn lines2 [10] lines2.length).toArray⟩ : ByteArray).size ≤ 1000000 := by show (jn lines2 [10] lines2.length).toArray.size ≤ _; simp; omega
  have HS := Lib.hid hsj
  clear hjl hB hsj
  go_enter Try.func9, Try.ntmps9
  go_wp2_with fail
  refine (specLines_2 _).mono ?_
  rintro e W ⟨v, fq, rfl, hs, hg⟩
  have hl := len2
  have HL := Lib.hid hl
  have HU := Lib.hid hs
  obtain ⟨a, c, rfl, h1, h2, -⟩ := hs.open
  rw [hl] at h1 h2 ⊢
  rw [hl] at HU
  have HG := Lib.hid hg
  clear hs hg hl
  go_wp2_with fail
  refine (specJoin_any fq _ lines2 _ HU.out ct2).mono ?_
  rintro e w2 ⟨rfl, g2⟩
  have hs2 := HS.out
  obtain ⟨j, hj⟩ : ∃ j : ByteArray, j = ⟨(jn lines2 [10] lines2.length).toArray⟩ := ⟨_, rfl⟩
  rw [← hj] at hs2 ⊢
  have HJ := Lib.hid hj
  clear hj
  have hone : (⟨#[10]⟩ : ByteArray).size = 1 := rfl
  go_wp2_with fail
  go_ret
  refine ⟨congrArg (fun s => Ending.returned (.string s)) ?_, HG.out.trans g2⟩
  rw [HJ.out, ← hjc.out]
  exact ByteArray.ext (by simp)

set_option maxHeartbeats 1000000 in
theorem lawGram_2 (w : World) :
    Calls Try.prog 3 #[.int .i64 2] w fun e w' => e = .returned (.bool true) ∧ Gr w w' := by
  go_enter Try.func3, Try.ntmps3
  go_wp2_with fail
  refine (specGram_2 _).mono ?_
  rintro e w1 ⟨rfl, g1⟩
  go_wp2_with fail
  refine (implGram_2 _).mono ?_
  rintro e w2 ⟨rfl, g2⟩
  generalize (⟨(ct lines2 lines2.length).toArray⟩ : ByteArray) = s
  go_wp2_with fail
  go_ret
  exact ⟨rfl, g1.trans g2⟩

set_option maxRecDepth 10000 in
set_option maxHeartbeats 4000000 in
theorem implGram_3 (w : World) :
    Calls Try.prog 10 #[.int .i64 3] w fun e w' => e = .returned (.string ⟨(ct lines3 lines3.length).toArray⟩) ∧ Gr w w' := by
  have hB := Lib.hid ct3
  go_enter Try.func10, Try.ntmps10
  go_wp2_with fail
  refine (implLines_3 _).mono ?_
  rintro e W ⟨v, fq, rfl, hs, hg⟩
  have hl := len3
  obtain ⟨a, c, rfl, h1, h2, h3⟩ := hs.open
  rw [hl] at h1 h2 h3 ⊢
  clear hl
  have HS := Lib.hid hs
  have HG := Lib.hid hg
  clear hs hg
  go_wp2_with fail
  go_loopw [9, 3] (fun s9 s3 wr => ∃ (i : Nat) (o : ByteArray), i ≤ 11 ∧ Hid (o.data.toList = ct lines3 i) ∧ o.size ≤ 1000000 ∧ wr = W ∧ s3 = .string o ∧ s9 = .int .i64 i) (fun s9 _ _ => 11 - (intOf s9).toNat)
  case atStart => exact ⟨0, ⟨#[]⟩, by omega, Lib.hid rfl, by decide, rfl, rfl, rfl⟩
  case round =>
    obtain ⟨i, o, hi, ho, hoz, rfl, rfl, rfl⟩ := hrel
    by_cases hlt : i < 11
    · obtain ⟨b, off, rfl, hb⟩ := h3 i hlt
      have hlt' : i < lines3.length := by rw [len3]; exact hlt
      have z0 := (HS.out.str_at hlt').1
      have hcm := ct_mono lines3 (i + 1) lines3.length hlt'
      have hgd : lines3.getD i ByteArray.empty = lines3[i] := by simp [hlt']
      obtain ⟨s, hs⟩ : ∃ s, s = lines3[i] := ⟨_, rfl⟩
      have hcs : (ct lines3 (i + 1)).length = o.size + s.size + 1 := by
        simp only [ct, hgd, ← hs, ← ho.out, List.length_append, size_data, List.length_cons, List.length_nil]
        omega
      rw [← hs] at z0
      have hsb : o.size + (s.size + 1) ≤ 1000000 := by have := hB.out; omega
      have HE := Lib.hid hs
      have HGD := Lib.hid hgd
      have hone : (⟨#[10]⟩ : ByteArray).size = 1 := rfl
      have hsz2 : (s ++ ⟨#[10]⟩).size = s.size + 1 := by rw [ByteArray.size_append]; rfl
      have hsz3 : (o ++ (s ++ ⟨#[10]⟩)).size = o.size + (s.size + 1) := by rw [ByteArray.size_append, hsz2]
      have HZ3 := Lib.hid hsz3
      clear h3 hcm hgd hs hcs hsz3
      go_wp2
      refine ⟨⟨i + 1, _, by omega, Lib.hid ?_, ?_, (by first | rfl | trivial), rfl, by go_num⟩, by simp [intOf]; omega⟩
      · simp only [ct, HGD.out, ← HE.out, ← ho.out]
        simp
      · rw [HZ3.out]; exact hsb
    · have hi2 : i = 11 := by omega
      subst hi2
      go_wp2
      go_ret
      refine ⟨congrArg (fun s => Ending.returned (.string s)) ?_, HG.out⟩
      exact ByteArray.ext (Array.toList_inj.1 (by rw [ho.out]; rfl))

set_option maxRecDepth 10000 in
set_option maxHeartbeats 4000000 in
theorem specGram_3 (w : World) :
    Calls Try.prog 9 #[.int .i64 3] w fun e w' => e = .returned (.string ⟨(ct lines3 lines3.length).toArray⟩) ∧ Gr w w' := by
  have hjc := Lib.hid (jn_ct lines3 lines3.length (by rw [len3]; omega))
  have hjl := jn_le lines3 lines3.length
  have hB := ct3
  have hsj : (⟨(jn lines3 [10] lines3.length).toArray⟩ : ByteArray).size ≤ 1000000 := by show (jn lines3 [10] lines3.length).toArray.size ≤ _; simp; omega
  have HS := Lib.hid hsj
  clear hjl hB hsj
  go_enter Try.func9, Try.ntmps9
  go_wp2_with fail
  refine (specLines_3 _).mono ?_
  rintro e W ⟨v, fq, rfl, hs, hg⟩
  have hl := len3
  have HL := Lib.hid hl
  have HU := Lib.hid hs
  obtain ⟨a, c, rfl, h1, h2, -⟩ := hs.open
  rw [hl] at h1 h2 ⊢
  rw [hl] at HU
  have HG := Lib.hid hg
  clear hs hg hl
  go_wp2_with fail
  refine (specJoin_any fq _ lines3 _ HU.out ct3).mono ?_
  rintro e w2 ⟨rfl, g2⟩
  have hs2 := HS.out
  obtain ⟨j, hj⟩ : ∃ j : ByteArray, j = ⟨(jn lines3 [10] lines3.length).toArray⟩ := ⟨_, rfl⟩
  rw [← hj] at hs2 ⊢
  have HJ := Lib.hid hj
  clear hj
  have hone : (⟨#[10]⟩ : ByteArray).size = 1 := rfl
  go_wp2_with fail
  go_ret
  refine ⟨congrArg (fun s => Ending.returned (.string s)) ?_, HG.out.trans g2⟩
  rw [HJ.out, ← hjc.out]
  exact ByteArray.ext (by simp)

set_option maxHeartbeats 1000000 in
theorem lawGram_3 (w : World) :
    Calls Try.prog 3 #[.int .i64 3] w fun e w' => e = .returned (.bool true) ∧ Gr w w' := by
  go_enter Try.func3, Try.ntmps3
  go_wp2_with fail
  refine (specGram_3 _).mono ?_
  rintro e w1 ⟨rfl, g1⟩
  go_wp2_with fail
  refine (implGram_3 _).mono ?_
  rintro e w2 ⟨rfl, g2⟩
  generalize (⟨(ct lines3 lines3.length).toArray⟩ : ByteArray) = s
  go_wp2_with fail
  go_ret
  exact ⟨rfl, g1.trans g2⟩

set_option maxHeartbeats 1000000 in
theorem implGram_out (k : Int) (w : World) (h : k < 1 ∨ 3 < k) :
    Calls Try.prog 10 #[.int .i64 k] w fun e w' => e = .returned (.string ⟨#[]⟩) ∧ Gr w w' := by
  go_enter Try.func10, Try.ntmps10
  go_wp2_with fail
  refine (implLines_out k _ h).mono ?_
  rintro e W ⟨a, c, rfl, hg⟩
  go_wp2_with fail
  go_loopw [9, 3] (fun s9 s3 wr => wr = W ∧ s3 = .string ⟨#[]⟩ ∧ s9 = .int .i64 0) (fun _ _ _ => 0)
  case atStart => exact ⟨rfl, rfl, rfl⟩
  case round =>
    obtain ⟨rfl, rfl, rfl⟩ := hrel
    go_wp2
    go_ret
    exact ⟨rfl, hg⟩

set_option maxHeartbeats 1000000 in
theorem specGram_out (k : Int) (w : World) (h : k < 1 ∨ 3 < k) :
    Calls Try.prog 9 #[.int .i64 k] w fun e w' => e = .returned (.string ⟨#[]⟩) ∧ Gr w w' := by
  go_enter Try.func9, Try.ntmps9
  go_wp2_with fail
  refine (specLines_out k _ h).mono ?_
  rintro e W ⟨a, c, rfl, hg⟩
  go_wp2_with fail
  go_ret
  exact ⟨rfl, hg⟩

set_option maxHeartbeats 1000000 in
theorem lawGram_out (k : Int) (w : World) (h : k < 1 ∨ 3 < k) :
    Calls Try.prog 3 #[.int .i64 k] w fun e w' => e = .returned (.bool true) ∧ Gr w w' := by
  go_enter Try.func3, Try.ntmps3
  go_wp2_with fail
  refine (specGram_out k _ h).mono ?_
  rintro e w1 ⟨rfl, g1⟩
  go_wp2_with fail
  refine (implGram_out k _ h).mono ?_
  rintro e w2 ⟨rfl, g2⟩
  go_wp2_with fail
  go_ret
  exact ⟨rfl, g1.trans g2⟩

theorem lawGram_any (k : Int) (w : World) :
    Calls Try.prog 3 #[.int .i64 k] w fun e w' => e = .returned (.bool true) ∧ Gr w w' := by
  by_cases h1 : k = 1
  · subst h1; exact lawGram_1 w
  by_cases h2 : k = 2
  · subst h2; exact lawGram_2 w
  by_cases h3 : k = 3
  · subst h3; exact lawGram_3 w
  exact lawGram_out k w (by omega)
end Go.Proofs.Ytkfaihfgjiahdaa
