/- Components of the program. No condition. -/
import Derived.Test.YtcphimmkkfpohaaCompsC
import Derived.Test.YtcphimmkkfpohaaCompsS
import Derived.Deep.DeepCutAuto
import Derived.BigRegion
import Derived.Deep.RegionLaw
namespace Go.Proofs.Ytcphimmkkfpohaa
open Go.RowKit
variable {T : List (List Int)}

/-- An empty row, a row and a box that leads to it, all three new, in whatever order they were made. -/
def Made3 (W : World) (t1 t2 t3 : TypeId) (n : Nat) (C : Array Value) (s1 s2 : Value) (w : World) : Prop :=
  ∃ b1 b2 b3, s1 = .slice (some ⟨b1, 0, none⟩) 0 0 ∧ s2 = .pointer (some ⟨b3, 0, none⟩) ∧ w.heap[b1]? = some (.cells #[] t1) ∧ w.heap[b2]? = some (.cells C t2) ∧ w.heap[b3]? = some (.cells #[.slice (some ⟨b2, 0, none⟩) n n] t3) ∧
    W.heap.size ≤ b1 ∧ W.heap.size ≤ b2 ∧ W.heap.size ≤ b3 ∧ b1 ≠ b2 ∧ b1 ≠ b3 ∧ b2 ≠ b3 ∧ Gr W w

theorem alloc3 (W : World) (o1 o2 o3 : Obj) : ((((W.alloc o1).alloc o2).alloc o3).drew).heap[W.heap.size]? = some o1 ∧ ((((W.alloc o1).alloc o2).alloc o3).drew).heap[W.heap.size + 1]? = some o2 ∧ ((((W.alloc o1).alloc o2).alloc o3).drew).heap[W.heap.size + 1 + 1]? = some o3 := by
  have s1 : (W.alloc o1).heap.size = W.heap.size + 1 := by simp
  have s2 : ((W.alloc o1).alloc o2).heap.size = W.heap.size + 1 + 1 := by simp
  refine ⟨?_, ?_, ?_⟩
  · show (((W.alloc o1).alloc o2).alloc o3).heap[W.heap.size]? = _
    rw [heap_alloc_old _ _ (by omega), heap_alloc_old _ _ (by omega), heap_alloc_new]
  · show (((W.alloc o1).alloc o2).alloc o3).heap[W.heap.size + 1]? = _
    rw [heap_alloc_old _ _ (by omega), ← s1, heap_alloc_new]
  · show (((W.alloc o1).alloc o2).alloc o3).heap[W.heap.size + 1 + 1]? = _
    rw [← s2, heap_alloc_new]

theorem OwnR.empty {α : Type} [Rd α] {w0 w : World} {e : TypeId} {g : Nat} (h : w.heap[g]? = some (.cells #[] e)) (hb : w0.heap.size ≤ g) : OwnR (α := α) w0 e w (.slice (some ⟨g, 0, none⟩) 0 0) [] [] :=
  ⟨⟨[], ⟨by simp, .inr ⟨g, 0, #[], rfl, hb, h, Nat.le_refl _, by decide, by simp, by simp⟩⟩, Els.nil w⟩, fun _ _ => by simp⟩

set_option linter.unusedSimpArgs false

theorem nodup_pick {gps : List (List Nat)} (h : gps.flatten.Nodup) {L : List Nat} (hL : L.Nodup) : ((L.map fun p => gps.getD p []).flatten).Nodup := by
  have h1 := List.pairwise_flatten.1 h
  have h2 := List.pairwise_iff_getElem.1 h1.2
  have at_ : ∀ p x, x ∈ gps.getD p [] → ∃ hp : p < gps.length, x ∈ gps[p] := fun p x hx => by
    rw [List.getD_eq_getElem?_getD] at hx
    by_cases hp : p < gps.length
    · rw [List.getElem?_eq_getElem hp] at hx; exact ⟨hp, hx⟩
    · rw [List.getElem?_eq_none (by omega)] at hx; simp at hx
  rw [List.Nodup, List.pairwise_flatten]
  refine ⟨fun f hf => ?_, ?_⟩
  · obtain ⟨p, _, rfl⟩ := List.mem_map.1 hf
    by_cases hp : p < gps.length
    · rw [List.getD_eq_getElem?_getD, List.getElem?_eq_getElem hp]; exact h1.1 _ (List.getElem_mem hp)
    · rw [List.getD_eq_getElem?_getD, List.getElem?_eq_none (by omega)]; simp
  · rw [List.pairwise_map]
    refine hL.imp fun {a b} hab x hx y hy => ?_
    obtain ⟨ha, hx⟩ := at_ a x hx
    obtain ⟨hb, hy⟩ := at_ b y hy
    rcases Nat.lt_or_gt_of_ne hab with hlt | hgt
    · exact h2 a b ha hb hlt x hx y hy
    · exact fun e => h2 b a hb ha hgt y hy x hx e.symm
theorem mem_pick {gps : List (List Nat)} {L : List Nat} {c : Nat} (h : c ∈ (L.map fun p => gps.getD p []).flatten) : c ∈ gps.flatten := by
  obtain ⟨f, hf, hc⟩ := List.mem_flatten.1 h
  obtain ⟨p, _, rfl⟩ := List.mem_map.1 hf
  rw [List.getD_eq_getElem?_getD] at hc
  by_cases hp : p < gps.length
  · rw [List.getElem?_eq_getElem hp] at hc; exact List.mem_flatten.2 ⟨_, List.getElem_mem hp, hc⟩
  · rw [List.getElem?_eq_none (by omega)] at hc; simp at hc

theorem IRow.of {w : World} {b n : Nat} {t : TypeId} {C : Array Value} (h : ∀ W : World, IRow (W.alloc (.cells C t)) W.heap.size t (List.replicate n 0)) (hb : w.heap[b]? = some (.cells C t)) : IRow w b t (List.replicate n 0) := by
  have h1 := h w
  unfold IRow VRow at *
  rw [heap_alloc_new] at h1
  rw [hb, h1]
theorem BRow.of {w : World} {b n : Nat} {t : TypeId} {C : Array Value} (h : ∀ W : World, BRow (W.alloc (.cells C t)) W.heap.size t (List.replicate n false)) (hb : w.heap[b]? = some (.cells C t)) : BRow w b t (List.replicate n false) := by
  have h1 := h w
  unfold BRow at *
  rw [heap_alloc_new] at h1
  rw [hb, h1]

set_option maxRecDepth 100000 in
set_option maxHeartbeats 16000000 in
theorem implComps_any (fp : List Nat) (u : Value) (T : List (List Int)) (w : World) (hu : SlR fp w u T) (hlen : T.length ≤ 1048576) (hlens : ∀ r ∈ T, r.length ≤ 1048576) :
    Calls Try.prog 8 #[u] w fun e w' => ∃ v fq, e = .returned v ∧ SlR fq w' v (compsOf T) ∧ Fresh w fq ∧ Gr w w' := by
  have HU := Lib.hid hu
  obtain ⟨aT, cT, rfl, h1, h2, h3⟩ := hu.open
  obtain ⟨i0, hi, hz0, hz1, hz2⟩ := info_parts Try.infoInt
  have HZ := Lib.hid (And.intro hi (And.intro hz0 (And.intro hz1 hz2)))
  have hmi := fun (W : World) => run_make (P := Try.prog) W 30 3 i0 (.int .i64 0) Try.underlying30 hi hz0 .i64 .i64 T.length T.length (by omega) (by omega) (by rw [hz2]; omega) (by omega)
  rw [hz1] at hmi
  clear hi hz0 hz1 hz2
  obtain ⟨i2, hi, hz0, hz1, hz2⟩ := info_parts Try.infoIntS
  have HY := Lib.hid (And.intro hi (And.intro hz0 (And.intro hz1 hz2)))
  clear hi hz0 hz1 hz2
  obtain ⟨i3, hi, hz0, hz1, hz2⟩ := info_parts Try.infoBoolS
  have HX := Lib.hid (And.intro hi (And.intro hz0 (And.intro hz1 hz2)))
  clear hi hz0 hz1 hz2
  simp only [Int.toNat_natCast, Nat.mul_one] at hmi
  have HI0 := Lib.hid (fun W : World => IRow.made W T.length 3)
  have hci : (Value.int .i64 0).cells = #[.int .i64 0] := rfl
  rw [hci] at hmi
  generalize madeCells #[.int .i64 0] T.length = C1 at hmi HI0
  have HLS := Lib.hid hlens
  clear hu hci h3 hlens
  go_enter Try.func8, Try.ntmps8
  go_wp2_with fail
  refine (inputs_any _ _ T _ HU.out hlen HLS.out).mono ?_
  rintro e W0 ⟨vO, fO, rfl, sO, frO, gO⟩
  obtain ⟨aO, cO, hvO, r1, r2, r3⟩ := sO.open
  have hOl : (insAll T).length = T.length := insAll_len T
  rw [hOl] at hvO r1 r2 r3
  subst hvO
  have HSO := Lib.hid sO
  have HGO := Lib.hid gO
  have HFO := Lib.hid frO
  clear sO gO frO hOl r3
  go_upto_region 2 with fail
  generalize hW1 : (W0.alloc (Obj.cells #[Value.slice aO T.length cO] 22)) = W1
  have g1 : Gr W0 W1 := by rw [← hW1]; exact (by repeat (first | exact Gr.refl _ | apply Gr.ext | apply Gr.alloc | apply Gr.drew))
  have kO : VRow W1 W0.heap.size 22 [.slice aO T.length cO] := by rw [← hW1]; exact heap_alloc_new W0 _
  have zO := kO.lt
  have dO := kO.box
  clear hW1
  have HDO := Lib.hid dO
  go_cut [4, 5] (fun s4 s5 wr => Made3 W1 37 3 30 T.length C1 s4 s5 wr)
  case first =>
    go_region
    all_goals
      go_wp2_with fail
      go_meet
      refine ⟨_, ?_, _, rfl, rfl, ?_, ?_, ?_, ?_⟩
      rotate_left 3
      · first | exact (alloc3 W1 _ _ _).1 | exact (alloc3 W1 _ _ _).2.1 | exact (alloc3 W1 _ _ _).2.2
      · exact ⟨by omega, by omega, by omega, by omega, by omega, by omega, (by repeat (first | exact Gr.refl _ | apply Gr.ext | apply Gr.alloc | apply Gr.drew))⟩
      · first | exact (alloc3 W1 _ _ _).1 | exact (alloc3 W1 _ _ _).2.1 | exact (alloc3 W1 _ _ _).2.2
      · first | exact (alloc3 W1 _ _ _).1 | exact (alloc3 W1 _ _ _).2.1 | exact (alloc3 W1 _ _ _).2.2
  case rest =>
    obtain ⟨br, bf, bx, rfl, rfl, kr, kf, kx, nr, nf, nx, n12, n13, n23, gM⟩ := hcut
    rename World => W2
    have hIf := IRow.of HI0.out kf
    have hBx : VRow W2 bx 30 [.slice (some ⟨bf, 0, none⟩) T.length T.length] := kx
    have HIF := Lib.hid hIf
    have HBX := Lib.hid hBx
    have HGM := Lib.hid gM
    have HKR := Lib.hid (OwnR.empty (α := List Bool) (w0 := W1) kr nr)
    have d2 := gM.keep dO
    have z2 := blk d2
    clear hIf hBx gM kr kf kx dO zO hmi kO
    go_wp2_with fail
    go_loopg [4, 22] T.length (fun gg s4 s22 wr => ∃ (i : Nat) (fps : List (List Nat)), OwnR W1 37 wr s4 fps ((List.range i).map (reachRow T)) ∧ (∀ b, s4.ownBlock = some b → b ≠ bf ∧ b ≠ bx) ∧ bf ∉ fps.flatten ∧ bx ∉ fps.flatten ∧ IRow wr bf 3 (List.replicate T.length 0) ∧ VRow wr bx 30 [.slice (some ⟨bf, 0, none⟩) T.length T.length] ∧ Gr W1 wr ∧ s22 = .int .i64 i ∧ i ≤ T.length ∧ T.length - i ≤ gg)
    case atStart => exact ⟨0, [], by simpa using HKR.out, fun b hb => (by have := ownB hb; omega), by simp, by simp, HIF.out, HBX.out, HGM.out, rfl, by omega, by omega⟩
    case round =>
      obtain ⟨i, fps, hown, hne, hn1, hn2, hI, hB, hg, rfl, hin, hgg⟩ := hrel
      rename World => W3
      have HG3 := Lib.hid hg
      have HO3 := Lib.hid hown
      have HI3 := Lib.hid hI
      have HB3 := Lib.hid hB
      have HNE := Lib.hid hne
      have HN1 := Lib.hid hn1
      have HN2 := Lib.hid hn2
      obtain ⟨ra, rc, hform⟩ := hown.form
      have hLl : ((List.range i).map (reachRow T)).length = i := by simp
      rw [hLl] at hform
      have HL := Lib.hid hLl
      subst hform
      have d3 := hg.keep HDO.out
      have z3 := blk d3
      have hz13 := hg.size
      have hbf3 := hI.lt
      have hbx3 := hB.lt
      clear hg hown hLl hne hn1 hn2 hI hB
      by_cases hlt : i < T.length
      · go_wp2_with fail
        refine (reachable_any _ _ T i _ (HSO.out.gr (g1.trans HG3.out)) hlen hlt).mono ?_
        rintro e W4 ⟨v4, f4, rfl, s4, fr4, g4⟩
        obtain ⟨a4, c4, rfl, -, -, -⟩ := s4.open
        have HS4 := Lib.hid s4
        have HF4 := Lib.hid fr4
        have HG4 := Lib.hid g4
        have hz4 := g4.size
        have hap : Hid (∀ b, (Value.slice ra i rc).ownBlock = some b → b ∉ f4) := Lib.hid fun b hb hm => by have := (HO3.out.base b hb).2; have := fr4.2 b hm; omega
        clear s4 fr4 g4
        go_wp2_with (first | (at_builtin; refine wpList_append_RB (α := List Bool) (wg := W1) (w0 := W1) ((HG3.out.trans HG4.out).alloc _) (by omega) (by simp; omega) rfl _ _ 35 rfl 37 i3 (.slice none 0 0) 24 Try.underlying35 HX.out.1 HX.out.2.1 HX.out.2.2.1 HX.out.2.2.2 rfl _ fps _ (by rfl) ((HO3.out.gr HG4.out).gr (by repeat (first | exact Gr.refl _ | apply Gr.ext | apply Gr.alloc | apply Gr.drew))) _ [f4] [reachRow T i] (by rfl) (SrcR.one (by simp) ⟨_, rfl, HS4.out.gr (by repeat (first | exact Gr.refl _ | apply Gr.ext | apply Gr.alloc | apply Gr.drew))⟩) (by simpa using hap.out) (by rw [HL.out]; unfold maxLen; simp; omega) (by rw [HL.out]; simp; omega) ?_; intro v5 w5 k1 k2 k3 k4; replace k1 := Lib.hid k1; replace k4 := Lib.hid k4; have K2 := Lib.hid k2; have K3 := Lib.hid k3; clear k3 k2))
        go_roundg (T.length - (i + 1))
        case measure => omega
        case rel =>
          refine ⟨i + 1, fps ++ [f4], ?_, fun b hb => ?_, ?_, ?_, VRow.wr ((VRow.gr HI3.out HG4.out).gr ((Gr.refl _).alloc _)) K2.out (fun hm => (HNE.out _ (by simpa using hm)).1 rfl), ((HB3.out.gr HG4.out).gr ((Gr.refl _).alloc _)).wr K2.out (fun hm => (HNE.out _ (by simpa using hm)).2 rfl), k4.out, by go_num, by omega, by omega⟩
          · rw [List.range_succ, List.map_append]; exact k1.out
          · rcases K3.out with h | h
            · rw [h] at hb; exact HNE.out b hb
            · rw [h] at hb
              have : (W4.alloc (Obj.cells #[Value.slice a4 (reachRow T i).length c4] 37)).heap.size = b := by injection hb
              simp at this
              omega
          · rw [List.flatten_append]
            simp only [List.flatten_cons, List.flatten_nil, List.append_nil, List.mem_append, not_or]
            exact ⟨HN1.out, fun hm => by have := HF4.out.2 _ hm; omega⟩
          · rw [List.flatten_append]
            simp only [List.flatten_cons, List.flatten_nil, List.append_nil, List.mem_append, not_or]
            exact ⟨HN2.out, fun hm => by have := HF4.out.2 _ hm; omega⟩
      · obtain rfl : i = T.length := by omega
        obtain ⟨fR, hsR, hfR⟩ := HO3.out.slR (by rw [HL.out]; unfold reachLen; omega)
        have hbR : bf ∉ fR := by
          rcases hfR with ⟨-, rfl⟩ | ⟨b, hb, rfl⟩
          · simp
          · rw [List.mem_cons, not_or]
            exact ⟨fun e => (HNE.out b hb).1 e.symm, HN1.out⟩
        have HSR := Lib.hid hsR
        have HBR := Lib.hid hbR
        clear hsR hbR hfR HO3 HNE HN1 HN2 HKR
        go_wp2_with fail
        generalize hW4 : (W3.alloc (Obj.cells #[] 30)).alloc (Obj.cells #[.slice (some ⟨W3.heap.size, 0, none⟩) 0 0] 22) = W4
        have g34 : Gr W3 W4 := by rw [← hW4]; exact (by repeat (first | exact Gr.refl _ | apply Gr.ext | apply Gr.alloc | apply Gr.drew))
        have hs4 : W4.heap.size = W3.heap.size + 2 := by rw [← hW4]; simp
        have hs4a : W3.heap.size + 2 ≤ W4.heap.size := by omega
        have hs4b : W4.heap.size ≤ W3.heap.size + 2 := by omega
        have kP : VRow W4 (W3.heap.size + 1) 22 [.slice (some ⟨W3.heap.size, 0, none⟩) 0 0] := by
          have h := heap_alloc_new (W3.alloc (Obj.cells #[] 30)) (Obj.cells #[.slice (some ⟨W3.heap.size, 0, none⟩) 0 0] 22)
          rw [show (W3.alloc (Obj.cells #[] 30)).heap.size = W3.heap.size + 1 by simp, hW4] at h
          exact h
        have kQ : W4.heap[W3.heap.size]? = some (.cells #[] 30) := by
          rw [← hW4, heap_alloc_old _ _ (by simp), heap_alloc_new]
        have HKP := Lib.hid kP
        have HKQ := Lib.hid (OwnR.empty (α := ORow W4.heap.size 3) (w0 := W3) kQ (Nat.le_refl _))
        have HG34 := Lib.hid g34
        clear hs4 kP kQ hW4 d3 z3
        go_loopg [35] T.length (fun gg s35 wr => ∃ (i : Nat) (ofs : List Int) (pv : Value) (fps2 : List (List Nat)), OfK T i ofs ∧ IRow wr bf 3 ofs ∧ VRow wr (W3.heap.size + 1) 22 [pv] ∧ OwnR (α := ORow W4.heap.size 3) W3 30 wr pv fps2 ((partsI T i).map (ORow.mk W4.heap.size 3)) ∧ (∀ b, pv.ownBlock = some b → b ≠ W3.heap.size + 1) ∧ fps2.flatten.Nodup ∧ (∀ b ∈ fps2.flatten, W4.heap.size ≤ b) ∧ (∀ b, b < W3.heap.size → b ≠ bf → wr.heap[b]? = W3.heap[b]?) ∧ W4.heap.size ≤ wr.heap.size ∧ Gr W1 wr ∧ s35 = .int .i64 i ∧ i ≤ T.length ∧ T.length - i ≤ gg)
        case atStart => exact ⟨0, _, _, [], ⟨by simp, by omega⟩, VRow.gr HI3.out HG34.out, HKP.out, HKQ.out, fun b hb => (by have := ownB hb; omega), by simp, by simp, fun b hb _ => HG34.out.below.block b hb, Nat.le_refl _, HG3.out.trans HG34.out, rfl, by omega, by omega⟩
        case round =>
          obtain ⟨i, ofs, pv, fps2, hOf, hI, hP, hown, hne, hnd, hge, hkeep, hsz, hg, rfl, hin, hgg⟩ := hrel
          rename World => W5
          have HOF := Lib.hid hOf
          have HI5 := Lib.hid hI
          have HP5 := Lib.hid hP
          have HO5 := Lib.hid hown
          have HNE5 := Lib.hid hne
          have HND5 := Lib.hid hnd
          have HGE5 := Lib.hid hge
          have HK5 := Lib.hid hkeep
          have HG5 := Lib.hid hg
          obtain ⟨pa, pc, hform⟩ := hown.form
          have hLl : ((partsI T i).map (ORow.mk W4.heap.size 3)).length = (ldrs T i).length := by rw [List.length_map, partsI_len]
          rw [hLl] at hform
          have HLP := Lib.hid hLl
          have hldl := ldrs_le (T := T) i
          subst hform
          have d5 := hg.keep HDO.out
          have z5 := blk d5
          have e5 := hP.box
          have y5 := hP.lt
          have hB5 : VRow W5 bx 30 [.slice (some ⟨bf, 0, none⟩) T.length T.length] := HB3.out.keep (hkeep bx hbx3 (fun e => n23 e.symm))
          have HB5 := Lib.hid hB5
          have x5 := hB5.box
          have w5 := hB5.lt
          have hRs : SlR fR W5 (.slice ra T.length rc) (reachAll T) := HSR.out.mono fun b hb => HK5.out b (HSR.out.lt b hb) (fun e => HBR.out (e ▸ hb))
          have HR5 := Lib.hid hRs
          by_cases hlt : i < T.length
          · have hif : i < ofs.length := by rw [hOf.1]; exact hlt
            have f5 := hI.cell hif
            have f6 := VRow.frozen hI i
            have f7 := blk f5
            generalize ofs[i] = ofold at f5
            clear hOf hI hP hown hne hnd hge hkeep hg hLl hB5 hRs
            go_upto_region 13 with fail
            generalize hW6 : W5.setCell ⟨bf, i, none⟩ (.int .i64 ((ldrs T i).length : Int)) = W6
            have hI6 : IRow W6 bf 3 (ofs.set i ((ldrs T i).length : Int)) := by rw [← hW6]; exact HI5.out.set i _
            have hw6 : Wr [bf] W5 W6 := by rw [← hW6]; exact (Wr.refl _ _).setCell (by simp) _
            have hz6 : W6.heap.size = W5.heap.size := by rw [← hW6, size_setCell']
            have hz6a : W5.heap.size ≤ W6.heap.size := by omega
            have hB6 := HB5.out.wr hw6 (by simp; omega)
            have hP6 := HP5.out.wr hw6 (by simp; omega)
            have hO6 := HO5.out.wr hw6 (fun b hb hm => by have := HGE5.out b hb; simp at hm; omega) (fun b hb hm => by have := (HO5.out.base b hb).1; simp at hm; omega)
            have hK6 : ∀ b, b < W3.heap.size → b ≠ bf → W6.heap[b]? = W3.heap[b]? := fun b hb hb2 => by rw [hw6.block b (by omega) (by simpa using hb2)]; exact HK5.out b hb hb2
            have hG6 : Gr W1 W6 := by rw [← hW6]; exact HG5.out.setCell nf _
            have hR6 := HR5.out.wr hw6 (fun b hb hm => HBR.out (by simp at hm; exact hm ▸ hb))
            have HOF6 := Lib.hid (HOF.out.set ((ldrs T i).length : Int) (Nat.le_refl i))
            have HI6 := Lib.hid hI6
            have HB6 := Lib.hid hB6
            have HP6 := Lib.hid hP6
            have HO6 := Lib.hid hO6
            have HK6 := Lib.hid hK6
            have HG6 := Lib.hid hG6
            have HR6 := Lib.hid hR6
            obtain ⟨bR, oR, hra, hbRl⟩ := (by obtain ⟨a', c', hv', _, _, hx'⟩ := hR6.open
                                              injection hv' with ea _ _
                                              subst ea
                                              exact hx' i (by rw [reachAll_len]; exact hlt) : ∃ b off, ra = some ⟨b, off, none⟩ ∧ b < W6.heap.size)
            subst hra
            have b6 := hB6.box
            have p6 := hP6.box
            have yb6 := hB6.lt
            have yp6 := hP6.lt
            clear hI6 hw6 hz6 hB6 hP6 hO6 hK6 hG6 hR6 hW6 d5 z5 e5 y5 x5 w5 f5 f6 f7
            go_wp2_with fail
            go_loopg [44] i (fun gg s44 wr => ∃ k : Nat, s44 = .int .i64 k ∧ wr = W6 ∧ k ≤ i ∧ Hid (∀ k', k' < k → eqB T k' i = false) ∧ i - k ≤ gg)
            case atStart => exact ⟨0, rfl, rfl, by omega, Lib.hid (by omega), by omega⟩
            case round =>
              obtain ⟨k, rfl, rfl, hki, hkk, hgg6⟩ := hrel
              rename World => W6
              by_cases hkl : k < i
              · have hkT : k < T.length := by omega
                obtain ⟨vi, fi, xi, hri, _⟩ := HR6.out.sl_at (i := i) (by rw [reachAll_len]; exact hlt)
                obtain ⟨vk, fk, xk, hrk, _⟩ := HR6.out.sl_at (i := k) (by rw [reachAll_len]; exact hkT)
                rw [reachAll_at] at hri hrk
                obtain ⟨ai, ci, hvi, i1', i2', i3'⟩ := hri.open
                rw [reachRow_len] at hvi i1' i3'
                obtain ⟨bi, oi, rfl, hbi⟩ := i3' k hkT
                subst hvi
                obtain ⟨ak, ck, hvk, k1', k2', k3'⟩ := hrk.open
                rw [reachRow_len] at hvk k1' k3'
                obtain ⟨bk, ok, rfl, hbk⟩ := k3' i hlt
                subst hvk
                have e1 := hri.bool_at (i := k) (by rw [reachRow_len]; exact hkT)
                have e2 := hrk.bool_at (i := i) (by rw [reachRow_len]; exact hlt)
                rw [reachRow_at] at e1 e2
                have z1 := blk xi
                have z2' := blk e1
                have z3 := blk e2
                have HEQ := Lib.hid (eqB_rc (T := T) (a := k) (c := i) (by omega))
                clear hri hrk i3' k3'
                cases hq1 : rcB T i k with
                | false =>
                  rw [hq1] at e1
                  have HE : Hid (eqB T k i = false) := Lib.hid (by rw [HEQ.out, hq1, Bool.and_false])
                  clear hq1
                  go_wp2_with fail
                  go_roundg (i - (k + 1))
                  case measure => omega
                  case rel => exact ⟨k + 1, by go_num, rfl, by omega, Lib.hid fun k' hk' => by
                    by_cases hkk2 : k' < k
                    · exact hkk.out k' hkk2
                    · obtain rfl : k' = k := by omega
                      exact HE.out, by omega⟩
                | true =>
                  rw [hq1] at e1
                  cases hq2 : rcB T k i with
                  | false =>
                    rw [hq2] at e2
                    have HE : Hid (eqB T k i = false) := Lib.hid (by rw [HEQ.out, hq2, Bool.false_and])
                    clear hq1 hq2
                    go_wp2_with fail
                    go_roundg (i - (k + 1))
                    case measure => omega
                    case rel => exact ⟨k + 1, by go_num, rfl, by omega, Lib.hid fun k' hk' => by
                      by_cases hkk2 : k' < k
                      · exact hkk.out k' hkk2
                      · obtain rfl : k' = k := by omega
                        exact HE.out, by omega⟩
                  | true =>
                    rw [hq2] at e2
                    have HE : Hid (eqB T k i = true) := Lib.hid (by rw [HEQ.out, hq1, hq2]; rfl)
                    obtain ⟨j, hj, hj1, hj2⟩ := HOF6.out.2 k hkl
                    obtain ⟨hj3, hj4⟩ := List.getElem?_eq_some_iff.1 hj1
                    have hoi : i < (ofs.set i ((ldrs T i).length : Int)).length := by rw [HOF6.out.1]; exact hlt
                    have f8 := HI6.out.cell hj3
                    rw [hj4] at f8
                    have f9 := HI6.out.cell hoi
                    have f10 := VRow.frozen HI6.out i
                    have f11 := HI6.out.lt
                    have hkz : (k : Int) < (T.length : Int) := by omega
                    have hiz : (i : Int) < (T.length : Int) := by omega
                    have HJ2 := Lib.hid hj2
                    have HLD : Hid (isLdr T i = false) := Lib.hid (isLdr_mk_no hkl HE.out)
                    have hjne : ((j : Int) == ((ldrs T i).length : Int)) = false := beq_eq_false_iff_ne.2 (by omega)
                    generalize (ofs.set i ((ldrs T i).length : Int))[i] = oold at f9
                    clear hq1 hq2 hj1 hj2 hj4
                    go_wp2_with fail
                    go_region
                    generalize hW7 : (W6.setCell ⟨bf, i, none⟩ (.int .i64 (j : Int))).drew = W7
                    have hI7 : IRow W7 bf 3 ((ofs.set i ((ldrs T i).length : Int)).set i (j : Int)) := by rw [← hW7]; exact VRow.gr (HI6.out.set i _) (by repeat (first | exact Gr.refl _ | apply Gr.ext | apply Gr.alloc | apply Gr.drew))
                    have hw7 : Wr [bf] W6 W7 := by rw [← hW7]; exact Wr.gr (Wr.setCell (b := bf) (o := i) (Wr.refl [bf] W6) (by simp) (.int .i64 (j : Int))) (by repeat (first | exact Gr.refl _ | apply Gr.ext | apply Gr.alloc | apply Gr.drew))
                    have hG7 : Gr W1 W7 := by rw [← hW7]; exact (HG6.out.setCell nf _).drew
                    have hz7 := hw7.size
                    have hofi8 : ((ofs.set i ((ldrs T i).length : Int)).set i (j : Int))[i]? = some (j : Int) := by rw [List.getElem?_set_self hoi]
                    have hB7 := HB6.out.wr hw7 (by simp; omega)
                    have hP7 := HP6.out.wr hw7 (by simp; omega)
                    have HO7 := Lib.hid (HO6.out.wr hw7 (fun b hb hm => by have := HGE5.out b hb; simp at hm; omega) (fun b hb hm => by have := (HO5.out.base b hb).1; simp at hm; omega))
                    have HK7 : Hid (∀ b, b < W3.heap.size → b ≠ bf → W7.heap[b]? = W3.heap[b]?) := Lib.hid fun b hb hb2 => by rw [hw7.block b (by omega) (by simpa using hb2)]; exact HK6.out b hb hb2
                    have HI7 := Lib.hid hI7
                    have HB7 := Lib.hid hB7
                    have HP7 := Lib.hid hP7
                    have HG7 := Lib.hid hG7
                    have HOFI := Lib.hid hofi8
                    have hlI := List.getElem?_eq_some_iff.1 hofi8
                    have q7 := hI7.cell hlI.1
                    rw [hlI.2] at q7
                    have b7 := hB7.box
                    have p7 := hP7.box
                    have y7a := blk q7
                    have y7b := blk b7
                    have y7c := blk p7
                    clear hI7 hw7 hG7 hofi8 hB7 hP7 hW7 hlI b6 p6 yb6 yp6 e1 e2 z1 z2' z3 f8 f9 f10 f11 xi xk
                    go_wp2_with fail
                    refine wp_region_grown (by kernel_rfl) (by kernel_rfl) ?_
                    repeat (go_big_quiet_step (fail))
                    refine wpQuiet_nil ?_
                    intro _ hw'
                    obtain ⟨nx, hw''⟩ := hw'
                    subst hw''
                    go_wp2_with fail
                    generalize hW8 : W7.ext nx = W8
                    have g78 : Gr W7 W8 := by rw [← hW8]; exact (by repeat (first | exact Gr.refl _ | apply Gr.ext | apply Gr.alloc | apply Gr.drew))
                    have hI8 : IRow W8 bf 3 ((ofs.set i ((ldrs T i).length : Int)).set i (j : Int)) := VRow.gr HI7.out g78
                    have HI8 := Lib.hid hI8
                    clear hI8
                    have HB8 := Lib.hid (HB7.out.gr g78)
                    have HP8 := Lib.hid (HP7.out.gr g78)
                    have HO8 := Lib.hid (HO7.out.gr g78)
                    have HK8 : Hid (∀ b, b < W3.heap.size → b ≠ bf → W8.heap[b]? = W3.heap[b]?) := Lib.hid fun b hb hb2 => by rw [g78.below.block b (by omega)]; exact HK7.out b hb hb2
                    have HG8 := Lib.hid (HG7.out.trans g78)
                    have HND8 := HND5
                    have HGE8 := HGE5
                    have HNE8 := HNE5
                    have hz8 := g78.size
                    have hofi8 := HOFI.out
                    have hj8 : j < ((partsI T i).map (ORow.mk W4.heap.size 3)).length := by rw [HLP.out]; exact hj
                    clear hW8 q7 b7 p7 y7a y7b y7c g78
                    obtain ⟨g8, cap8, vj, fpj, hpv8, hg8l, hg8b, hcap8, cj8, fj8, hOj, hflj, hgnv, hgrow⟩ := HO8.out.grow HND8.out HGE8.out (j := j) hj8
                    have HGROW := Lib.hid hgrow
                    clear hgrow
                    obtain ⟨X8, hX8⟩ : ∃ X : List Int, X = (((partsI T i).map (ORow.mk W4.heap.size 3))[j].out) := ⟨_, rfl⟩
                    rw [← hX8] at hOj
                    have hxl : X8.length ≤ i := by rw [hX8]; rw [List.getElem_map, partsI_at]; exact clsI_len _ _
                    have HX8 := Lib.hid hX8
                    clear hX8
                    obtain ⟨aj, lcj, hvj⟩ := hOj.form
                    have hap8 := HO8.out.apart
                    rw [HLP.out] at hpv8 hcap8
                    rw [hpv8] at HP8 hap8 HNE8 HO8
                    have p8 := HP8.out.box
                    have b8 := HB8.out.box
                    have i8 : ((ofs.set i ((ldrs T i).length : Int)).set i (j : Int))[i]? = some (j : Int) := hofi8
                    obtain ⟨i8a, i8b⟩ := List.getElem?_eq_some_iff.1 i8
                    have q8 := HI8.out.cell i8a
                    rw [i8b] at q8
                    have yb8 := HB8.out.lt
                    have yp8 := HP8.out.lt
                    have yi8 := HI8.out.lt
                    have hgn := HNE8.out g8 rfl
                    have hjl8 : (j : Int) < (((ldrs T i).length : Nat) : Int) := by omega
                    have hvb : ∀ b ∈ vj.ownBlock.toList, W4.heap.size ≤ b := fun b hb => (hOj.base b (by simpa using hb)).1
                    have HVB := Lib.hid hvb
                    have HOj := Lib.hid hOj
                    have HFj := Lib.hid hflj
                    have HGN := Lib.hid hgnv
                    have HI8b := Lib.hid i8b
                    have HHV := Lib.hid hvj
                    subst hvj
                    clear hvb hap8 hOj hflj hgnv i8 i8b hofi8
                    have HPV8 := Lib.hid hpv8
                    clear hpv8
                    go_wp2_with fail
                    refine wp_region_held_drew (S := (fun w' => w'.cell? ⟨bx, 0, none⟩ = some (.slice (some ⟨bf, 0, none⟩) T.length T.length) ∧ w'.cell? ⟨W3.heap.size + 1, 0, none⟩ = some (.slice (some ⟨g8, 0, none⟩) (ldrs T i).length cap8) ∧ w'.cell? ⟨bf, i, none⟩ = some (.int .i64 (j : Int)))) (by kernel_rfl) ⟨b8, p8, q8⟩ (fun hHeld => ?_)
                    refine wpAnyH_take (i := 0) (v := ?_) rfl (by kernel_rfl) (by kernel_rfl) (by kernel_rfl) (fun _ _ _ h => h) (Or.inl ⟨by rfl, ?_⟩) (by assumption) ?_
                    rotate_left 1
                    · intro w hSw; (try dsimp only at hSw); go_simp; all_goals with_reducible rfl
                    try simp only [Act.put, List.setIfInBounds_toArray, List.set_cons_zero, List.set_cons_succ]
                    refine wpAnyH_take (i := 1) (v := ?_) rfl (by kernel_rfl) (by kernel_rfl) (by kernel_rfl) (fun _ _ _ h => h) (Or.inl ⟨by rfl, ?_⟩) (by assumption) ?_
                    rotate_left 1
                    · intro w hSw; (try dsimp only at hSw); go_simp; all_goals with_reducible rfl
                    try simp only [Act.put, List.setIfInBounds_toArray, List.set_cons_zero, List.set_cons_succ]
                    refine wpAnyH_take (i := 2) (v := ?_) rfl (by kernel_rfl) (by kernel_rfl) (by kernel_rfl) (fun _ _ _ h => h) (Or.inl ⟨by rfl, ?_⟩) (by assumption) ?_
                    rotate_left 1
                    · intro w hSw; (try dsimp only at hSw); go_simp; all_goals with_reducible rfl
                    try simp only [Act.put, List.setIfInBounds_toArray, List.set_cons_zero, List.set_cons_succ]
                    refine wpAnyH_take (i := 3) (v := ?_) rfl (by kernel_rfl) (by kernel_rfl) (by kernel_rfl) (fun _ _ _ h => h) (Or.inl ⟨by rfl, ?_⟩) (by assumption) ?_
                    rotate_left 1
                    · intro w hSw; (try dsimp only at hSw); go_simp; all_goals with_reducible rfl
                    try simp only [Act.put, List.setIfInBounds_toArray, List.set_cons_zero, List.set_cons_succ]
                    refine wpAnyH_take (i := 4) (v := ?_) rfl (by kernel_rfl) (by kernel_rfl) (by kernel_rfl) (fun _ _ _ h => h) (Or.inl ⟨by rfl, ?_⟩) (by assumption) ?_
                    rotate_left 1
                    · intro w hSw; (try dsimp only at hSw); go_simp; all_goals with_reducible rfl
                    try simp only [Act.put, List.setIfInBounds_toArray, List.set_cons_zero, List.set_cons_succ]
                    refine wpAnyH_take (i := 5) (v := ?_) rfl (by kernel_rfl) (by kernel_rfl) (by kernel_rfl) (fun _ _ _ h => h) (Or.inl ⟨by rfl, ?_⟩) (by assumption) ?_
                    rotate_left 1
                    · intro w hSw; (try dsimp only at hSw); go_simp; all_goals with_reducible rfl
                    try simp only [Act.put, List.setIfInBounds_toArray, List.set_cons_zero, List.set_cons_succ]
                    refine wpAnyH_take (i := 6) (v := ?_) rfl (by kernel_rfl) (by kernel_rfl) (by kernel_rfl) (fun _ _ _ h => h) (Or.inl ⟨by rfl, ?_⟩) (by assumption) ?_
                    rotate_left 1
                    · intro w hSw; (try dsimp only at hSw); go_simp; all_goals with_reducible rfl
                    try simp only [Act.put, List.setIfInBounds_toArray, List.set_cons_zero, List.set_cons_succ]
                    refine wpAnyH_take (i := 7) (v := ?_) rfl (by kernel_rfl) (by kernel_rfl) (by kernel_rfl) (fun _ _ _ h => h) (Or.inl ⟨by rfl, ?_⟩) (by assumption) ?_
                    rotate_left 1
                    · intro w hSw; (try dsimp only at hSw); go_simp; all_goals with_reducible rfl
                    try simp only [Act.put, List.setIfInBounds_toArray, List.set_cons_zero, List.set_cons_succ]
                    refine wpAnyH_take (i := 8) (v := ?_) rfl (by kernel_rfl) (by kernel_rfl) (by kernel_rfl) (fun _ _ _ h => h) (Or.inl ⟨by rfl, ?_⟩) (by assumption) ?_
                    rotate_left 1
                    · intro w hSw; (try dsimp only at hSw); go_simp; all_goals with_reducible rfl
                    try simp only [Act.put, List.setIfInBounds_toArray, List.set_cons_zero, List.set_cons_succ]
                    refine wpAnyH_take (i := 9) (v := ?_) rfl (by kernel_rfl) (by kernel_rfl) (by kernel_rfl) (fun _ _ _ h => h) (Or.inl ⟨by rfl, ?_⟩) (by assumption) ?_
                    rotate_left 1
                    · intro w hSw; (try dsimp only at hSw); go_simp; all_goals with_reducible rfl
                    try simp only [Act.put, List.setIfInBounds_toArray, List.set_cons_zero, List.set_cons_succ]
                    refine wpAnyH_take (i := 10) (v := ?_) rfl (by kernel_rfl) (by kernel_rfl) (by kernel_rfl) (fun _ _ _ h => h) (Or.inl ⟨by rfl, ?_⟩) (by assumption) ?_
                    rotate_left 1
                    · intro w hSw; (try dsimp only at hSw); go_simp; all_goals with_reducible rfl
                    try simp only [Act.put, List.setIfInBounds_toArray, List.set_cons_zero, List.set_cons_succ]
                    refine wpAnyH_take (i := 12) (v := ?_) rfl (by kernel_rfl) (by kernel_rfl) (by kernel_rfl) (fun _ _ _ h => h) (Or.inl ⟨by rfl, ?_⟩) (by assumption) ?_
                    rotate_left 1
                    · intro w hSw; (try dsimp only at hSw); go_simp; all_goals with_reducible rfl
                    try simp only [Act.put, List.setIfInBounds_toArray, List.set_cons_zero, List.set_cons_succ]
                    refine wpAnyH_ready (rs := [11, 13]) (by kernel_rfl) (by simp) ?_
                    refine AllReadyH.cons rfl (fun K hK => ?_) (AllReadyH.cons rfl (fun K hK => ?_) AllReadyH.nil)
                    · go_simp
                      refine hK.out _ _ hHeld (fun hHeld2 => ?_)
                      clear hK K
                      try simp only [Act.put, List.setIfInBounds_toArray, List.set_cons_zero, List.set_cons_succ]
                      refine wpAnyH_ready (rs := [13]) (by kernel_rfl) (by simp) ?_
                      refine AllReadyH.cons rfl (fun K hK => ?_) AllReadyH.nil
                      go_simp
                      refine hK.out _ _ ⟨((by repeat (first | exact Gr.refl _ | apply Gr.ext | apply Gr.alloc | apply Gr.drew)) : Gr W8 ((W8.alloc (Obj.cells #[Value.int IntKind.i64 (i : Int)] 3)).drew)).keep b8, ((by repeat (first | exact Gr.refl _ | apply Gr.ext | apply Gr.alloc | apply Gr.drew)) : Gr W8 ((W8.alloc (Obj.cells #[Value.int IntKind.i64 (i : Int)] 3)).drew)).keep p8, ((by repeat (first | exact Gr.refl _ | apply Gr.ext | apply Gr.alloc | apply Gr.drew)) : Gr W8 ((W8.alloc (Obj.cells #[Value.int IntKind.i64 (i : Int)] 3)).drew)).keep q8⟩ (fun hHeld2 => ?_)
                      clear hK K
                      try simp only [Act.put, List.setIfInBounds_toArray, List.set_cons_zero, List.set_cons_succ]
                      refine wpAnyH_ready (rs := [14]) (by kernel_rfl) (by simp) ?_
                      refine AllReadyH.cons rfl (fun K hK => ?_) AllReadyH.nil
                      refine step_append_RB (α := Int) (wg := W1) (w0 := W4) (HG8.out.trans (by repeat (first | exact Gr.refl _ | apply Gr.ext | apply Gr.alloc | apply Gr.drew))) (by omega) (by simp; omega) (by rfl) _ _ _ (by rfl) 3 i0 (.int .i64 0) 8 Try.underlying30 HZ.out.1 HZ.out.2.1 HZ.out.2.2.1 HZ.out.2.2.2 rfl _ fpj _ (by rfl) (HOj.out.gr (by repeat (first | exact Gr.refl _ | apply Gr.ext | apply Gr.alloc | apply Gr.drew))) (.slice (some ⟨W8.heap.size, 0, none⟩) 1 1) [[]] [(i : Int)] (by rfl) ((SrcR.one (w := W8) (g := W8.heap.size) rfl (intRd (wf_small (by omega) (by omega)) _)).gr (by repeat (first | exact Gr.refl _ | apply Gr.ext | apply Gr.alloc | apply Gr.drew))) (fun b _ => by simp) (by unfold maxLen; simp; omega) (by simp; omega) ?_
                      intro v9 w9 k1 k2 k3 k4
                      have hkk : ∀ b, b < W8.heap.size → b ∉ (Value.slice aj X8.length lcj).ownBlock.toList → w9.heap[b]? = W8.heap[b]? := fun b hb hn => (k2.block b (by simp; omega) hn).trans (((by repeat (first | exact Gr.refl _ | apply Gr.ext | apply Gr.alloc | apply Gr.drew)) : Gr W8 ((W8.alloc (Obj.cells #[Value.int IntKind.i64 (i : Int)] 3)).drew)).below.block b hb)
                      have c1 := (World.cell?_of_block (a := ⟨bx, 0, none⟩) (hkk bx (by omega) (fun hm => by have := HVB.out _ hm; omega))).trans b8
                      have c2 := (World.cell?_of_block (a := ⟨W3.heap.size + 1, 0, none⟩) (hkk (W3.heap.size + 1) (by omega) (fun hm => by have := HVB.out _ hm; omega))).trans p8
                      have c3 := (World.cell?_of_block (a := ⟨bf, i, none⟩) (hkk bf (by omega) (fun hm => by have := HVB.out _ hm; omega))).trans q8
                      have c4 := (World.cell?_of_block (a := ⟨g8, j, none⟩) (hkk g8 (by omega) HGN.out)).trans cj8
                      have c5 := (World.frozen?_of_block (a := ⟨g8, j, none⟩) (hkk g8 (by omega) HGN.out)).trans fj8
                      have hw9 : Wr (Value.slice aj X8.length lcj).ownBlock.toList W8 w9 := (((by repeat (first | exact Gr.refl _ | apply Gr.ext | apply Gr.alloc | apply Gr.drew)) : Gr W8 ((W8.alloc (Obj.cells #[Value.int IntKind.i64 (i : Int)] 3)).drew)).toWr _).trans k2
                      have HW9 := Lib.hid hw9
                      have K1 := Lib.hid k1
                      have K3 := Lib.hid k3
                      have K4 := Lib.hid k4
                      have HKK := Lib.hid hkk
                      obtain ⟨a9, c9, hv9⟩ := k1.form
                      have z9d := blk c4
                      have z9s := hw9.size
                      clear hkk hw9 k1 k2 k3 k4
                      subst hv9
                      refine hK.out _ _ ⟨c1, c2, c3⟩ (fun hHeld3 => ?_)
                      clear hK K
                      try simp only [Act.put, List.setIfInBounds_toArray, List.set_cons_zero, List.set_cons_succ]
                      refine wpAnyH_take (i := 15) (v := ?_) rfl (by kernel_rfl) (by kernel_rfl) (by kernel_rfl) (fun _ _ _ h => h) (Or.inl ⟨by rfl, ?_⟩) (by assumption) ?_
                      rotate_left 1
                      · intro w hSw; (try dsimp only at hSw); go_simp; all_goals with_reducible rfl
                      try simp only [Act.put, List.setIfInBounds_toArray, List.set_cons_zero, List.set_cons_succ]
                      refine wpAnyH_ready (rs := [16]) (by kernel_rfl) (by simp) ?_
                      refine AllReadyH.cons rfl (fun K hK => ?_) AllReadyH.nil
                      go_simp
                      refine hK.out _ _ ⟨(cell_setCell_blk (by omega)).trans c1, (cell_setCell_blk (by omega)).trans c2, (cell_setCell_blk (by omega)).trans c3⟩ (fun _ => ?_)
                      clear hK K
                      refine wpAnyH_done (by kernel_rfl) ?_ _
                      obtain ⟨fps9, hO9, hN9, hG9⟩ := HGROW.out w9 _ _ HW9.out K1.out (by
                        rcases K3.out with h | h
                        · exact .inl h
                        · exact .inr ⟨_, h, by simp⟩)
                      rw [show (X8 ++ [(i : Int)]).length = X8.length + 1 by simp] at hO9
                      have HO9 := Lib.hid hO9
                      have HN9 := Lib.hid hN9
                      have HG9 := Lib.hid hG9
                      clear hO9 hN9 hG9 c1 c2 c3 c4 c5
                      go_wp2_with fail
                      go_roundg (T.length - (i + 1))
                      case measure => omega
                      case rel =>
                        have hbv : ∀ b, b < W4.heap.size → b ∉ (Value.slice aj X8.length lcj).ownBlock.toList := fun b hb hm => by have := HVB.out b hm; omega
                        have hnb : bf ≠ g8 := by omega
                        refine ⟨i + 1, ((ofs.set i ((ldrs T i).length : Int)).set i (j : Int)), .slice (some ⟨g8, 0, none⟩) (ldrs T i).length cap8, fps9, ?_, VRow.ne (VRow.keep HI8.out (HKK.out bf (by omega) (hbv bf (by omega)))) hnb, VRow.ne (VRow.keep HP8.out (HKK.out _ (by omega) (hbv _ (by omega)))) (fun e => hgn e.symm), ?_, fun b hb => by have := ownB hb; omega, HN9.out, HG9.out, fun b hb1 hb2 => ?_, by rw [size_setCell']; omega, K4.out.setCell (by show W1.heap.size ≤ g8; omega) _, by go_num, by omega, by omega⟩
                        · exact HOF6.out.step hlt (by rw [ldrs_no HLD.out]; exact hj) (by simp only [ldrs_no HLD.out]; exact HJ2.out.trans (eqB_iff.1 HE.out))
                        · have e := partsI_old HLD.out hj (eqB_iff.2 (HJ2.out.trans (eqB_iff.1 HE.out)))
                          rw [e, List.map_set]
                          have e2 : (partsI T i)[j]'(by rw [partsI_len]; exact hj) = X8 := by rw [HX8.out, List.getElem_map]; rfl
                          rw [e2, ← HPV8.out]
                          exact HO9.out
                        · rw [heap_setCell (by omega), HKK.out b (by omega) (hbv b (by omega))]
                          exact HK8.out b hb1 hb2
                    · go_simp
                      refine hK.out _ _ ⟨((by repeat (first | exact Gr.refl _ | apply Gr.ext | apply Gr.alloc | apply Gr.drew)) : Gr W8 ((W8.alloc (Obj.cells #[Value.int IntKind.i64 (i : Int)] 3)).drew)).keep b8, ((by repeat (first | exact Gr.refl _ | apply Gr.ext | apply Gr.alloc | apply Gr.drew)) : Gr W8 ((W8.alloc (Obj.cells #[Value.int IntKind.i64 (i : Int)] 3)).drew)).keep p8, ((by repeat (first | exact Gr.refl _ | apply Gr.ext | apply Gr.alloc | apply Gr.drew)) : Gr W8 ((W8.alloc (Obj.cells #[Value.int IntKind.i64 (i : Int)] 3)).drew)).keep q8⟩ (fun hHeld2 => ?_)
                      clear hK K
                      try simp only [Act.put, List.setIfInBounds_toArray, List.set_cons_zero, List.set_cons_succ]
                      refine wpAnyH_ready (rs := [11]) (by kernel_rfl) (by simp) ?_
                      refine AllReadyH.cons rfl (fun K hK => ?_) AllReadyH.nil
                      go_simp
                      refine hK.out _ _ hHeld2 (fun hHeld2 => ?_)
                      clear hK K
                      try simp only [Act.put, List.setIfInBounds_toArray, List.set_cons_zero, List.set_cons_succ]
                      refine wpAnyH_ready (rs := [14]) (by kernel_rfl) (by simp) ?_
                      refine AllReadyH.cons rfl (fun K hK => ?_) AllReadyH.nil
                      refine step_append_RB (α := Int) (wg := W1) (w0 := W4) (HG8.out.trans (by repeat (first | exact Gr.refl _ | apply Gr.ext | apply Gr.alloc | apply Gr.drew))) (by omega) (by simp; omega) (by rfl) _ _ _ (by rfl) 3 i0 (.int .i64 0) 8 Try.underlying30 HZ.out.1 HZ.out.2.1 HZ.out.2.2.1 HZ.out.2.2.2 rfl _ fpj _ (by rfl) (HOj.out.gr (by repeat (first | exact Gr.refl _ | apply Gr.ext | apply Gr.alloc | apply Gr.drew))) (.slice (some ⟨W8.heap.size, 0, none⟩) 1 1) [[]] [(i : Int)] (by rfl) ((SrcR.one (w := W8) (g := W8.heap.size) rfl (intRd (wf_small (by omega) (by omega)) _)).gr (by repeat (first | exact Gr.refl _ | apply Gr.ext | apply Gr.alloc | apply Gr.drew))) (fun b _ => by simp) (by unfold maxLen; simp; omega) (by simp; omega) ?_
                      intro v9 w9 k1 k2 k3 k4
                      have hkk : ∀ b, b < W8.heap.size → b ∉ (Value.slice aj X8.length lcj).ownBlock.toList → w9.heap[b]? = W8.heap[b]? := fun b hb hn => (k2.block b (by simp; omega) hn).trans (((by repeat (first | exact Gr.refl _ | apply Gr.ext | apply Gr.alloc | apply Gr.drew)) : Gr W8 ((W8.alloc (Obj.cells #[Value.int IntKind.i64 (i : Int)] 3)).drew)).below.block b hb)
                      have c1 := (World.cell?_of_block (a := ⟨bx, 0, none⟩) (hkk bx (by omega) (fun hm => by have := HVB.out _ hm; omega))).trans b8
                      have c2 := (World.cell?_of_block (a := ⟨W3.heap.size + 1, 0, none⟩) (hkk (W3.heap.size + 1) (by omega) (fun hm => by have := HVB.out _ hm; omega))).trans p8
                      have c3 := (World.cell?_of_block (a := ⟨bf, i, none⟩) (hkk bf (by omega) (fun hm => by have := HVB.out _ hm; omega))).trans q8
                      have c4 := (World.cell?_of_block (a := ⟨g8, j, none⟩) (hkk g8 (by omega) HGN.out)).trans cj8
                      have c5 := (World.frozen?_of_block (a := ⟨g8, j, none⟩) (hkk g8 (by omega) HGN.out)).trans fj8
                      have hw9 : Wr (Value.slice aj X8.length lcj).ownBlock.toList W8 w9 := (((by repeat (first | exact Gr.refl _ | apply Gr.ext | apply Gr.alloc | apply Gr.drew)) : Gr W8 ((W8.alloc (Obj.cells #[Value.int IntKind.i64 (i : Int)] 3)).drew)).toWr _).trans k2
                      have HW9 := Lib.hid hw9
                      have K1 := Lib.hid k1
                      have K3 := Lib.hid k3
                      have K4 := Lib.hid k4
                      have HKK := Lib.hid hkk
                      obtain ⟨a9, c9, hv9⟩ := k1.form
                      have z9d := blk c4
                      have z9s := hw9.size
                      clear hkk hw9 k1 k2 k3 k4
                      subst hv9
                      refine hK.out _ _ ⟨c1, c2, c3⟩ (fun hHeld3 => ?_)
                      clear hK K
                      try simp only [Act.put, List.setIfInBounds_toArray, List.set_cons_zero, List.set_cons_succ]
                      refine wpAnyH_take (i := 15) (v := ?_) rfl (by kernel_rfl) (by kernel_rfl) (by kernel_rfl) (fun _ _ _ h => h) (Or.inl ⟨by rfl, ?_⟩) (by assumption) ?_
                      rotate_left 1
                      · intro w hSw; (try dsimp only at hSw); go_simp; all_goals with_reducible rfl
                      try simp only [Act.put, List.setIfInBounds_toArray, List.set_cons_zero, List.set_cons_succ]
                      refine wpAnyH_ready (rs := [16]) (by kernel_rfl) (by simp) ?_
                      refine AllReadyH.cons rfl (fun K hK => ?_) AllReadyH.nil
                      go_simp
                      refine hK.out _ _ ⟨(cell_setCell_blk (by omega)).trans c1, (cell_setCell_blk (by omega)).trans c2, (cell_setCell_blk (by omega)).trans c3⟩ (fun _ => ?_)
                      clear hK K
                      refine wpAnyH_done (by kernel_rfl) ?_ _
                      obtain ⟨fps9, hO9, hN9, hG9⟩ := HGROW.out w9 _ _ HW9.out K1.out (by
                        rcases K3.out with h | h
                        · exact .inl h
                        · exact .inr ⟨_, h, by simp⟩)
                      rw [show (X8 ++ [(i : Int)]).length = X8.length + 1 by simp] at hO9
                      have HO9 := Lib.hid hO9
                      have HN9 := Lib.hid hN9
                      have HG9 := Lib.hid hG9
                      clear hO9 hN9 hG9 c1 c2 c3 c4 c5
                      go_wp2_with fail
                      go_roundg (T.length - (i + 1))
                      case measure => omega
                      case rel =>
                        have hbv : ∀ b, b < W4.heap.size → b ∉ (Value.slice aj X8.length lcj).ownBlock.toList := fun b hb hm => by have := HVB.out b hm; omega
                        have hnb : bf ≠ g8 := by omega
                        refine ⟨i + 1, ((ofs.set i ((ldrs T i).length : Int)).set i (j : Int)), .slice (some ⟨g8, 0, none⟩) (ldrs T i).length cap8, fps9, ?_, VRow.ne (VRow.keep HI8.out (HKK.out bf (by omega) (hbv bf (by omega)))) hnb, VRow.ne (VRow.keep HP8.out (HKK.out _ (by omega) (hbv _ (by omega)))) (fun e => hgn e.symm), ?_, fun b hb => by have := ownB hb; omega, HN9.out, HG9.out, fun b hb1 hb2 => ?_, by rw [size_setCell']; omega, K4.out.setCell (by show W1.heap.size ≤ g8; omega) _, by go_num, by omega, by omega⟩
                        · exact HOF6.out.step hlt (by rw [ldrs_no HLD.out]; exact hj) (by simp only [ldrs_no HLD.out]; exact HJ2.out.trans (eqB_iff.1 HE.out))
                        · have e := partsI_old HLD.out hj (eqB_iff.2 (HJ2.out.trans (eqB_iff.1 HE.out)))
                          rw [e, List.map_set]
                          have e2 : (partsI T i)[j]'(by rw [partsI_len]; exact hj) = X8 := by rw [HX8.out, List.getElem_map]; rfl
                          rw [e2, ← HPV8.out]
                          exact HO9.out
                        · rw [heap_setCell (by omega), HKK.out b (by omega) (hbv b (by omega))]
                          exact HK8.out b hb1 hb2
              · obtain rfl : i = k := by omega
                have hLD : isLdr T i = true := isLdr_mk fun b hb => hkk.out b hb
                have HLD := Lib.hid hLD
                have hoi : i < (ofs.set i ((ldrs T i).length : Int)).length := by rw [HOF6.out.1]; exact hlt
                have q6 := HI6.out.cell hoi
                rw [List.getElem_set_self] at q6
                have y6 := blk q6
                clear hLD
                go_wp2_with fail
                refine wp_region_grown (by kernel_rfl) (by kernel_rfl) ?_
                repeat (go_big_quiet_step (fail))
                refine wpQuiet_nil ?_
                intro _ hw'
                obtain ⟨nx, hw''⟩ := hw'
                subst hw''
                generalize hW7 : W6.ext nx = W7
                have g67 : Gr W6 W7 := by rw [← hW7]; exact (by repeat (first | exact Gr.refl _ | apply Gr.ext | apply Gr.alloc | apply Gr.drew))
                have hI7 : IRow W7 bf 3 (ofs.set i ((ldrs T i).length : Int)) := VRow.gr HI6.out g67
                have HI7 := Lib.hid hI7
                have HB7 := Lib.hid (HB6.out.gr g67)
                have HP7 := Lib.hid (HP6.out.gr g67)
                have HO7 := Lib.hid (HO6.out.gr g67)
                have HK7 : Hid (∀ b, b < W3.heap.size → b ≠ bf → W7.heap[b]? = W3.heap[b]?) := Lib.hid fun b hb hb2 => by rw [g67.below.block b (by omega)]; exact HK6.out b hb hb2
                have HG7 := Lib.hid (HG6.out.trans g67)
                have hz7 := g67.size
                have p7 := HP7.out.box
                have y7 := blk p7
                have x7 := VRow.lt hI7
                have x7b := HB7.out.lt
                clear hI7 hW7 b6 p6 yb6 yp6 q6 y6 g67
                go_wp2_with (first | (at_builtin; refine wpList_append_RB (α := ORow W4.heap.size 3) (wg := W1) (w0 := W3) (HG7.out.trans (by repeat (first | exact Gr.refl _ | apply Gr.ext | apply Gr.alloc | apply Gr.drew))) (by omega) (by simp; omega) rfl _ _ 22 rfl 30 i2 (.slice none 0 0) 24 Try.underlying22 HY.out.1 HY.out.2.1 HY.out.2.2.1 HY.out.2.2.2 rfl _ fps2 _ (by rfl) (HO7.out.gr (by repeat (first | exact Gr.refl _ | apply Gr.ext | apply Gr.alloc | apply Gr.drew))) _ [[]] [ORow.mk W4.heap.size 3 []] (by rfl) (SrcR.one (by simp) ⟨.slice none 0 0, rfl, World.ownsRow_nil _ _ _ _, fun y hy => by simp [ORow.mk, ORow.out] at hy, rfl⟩) (fun b _ => by simp) (by rw [HLP.out]; unfold maxLen; simp; omega) (by rw [HLP.out]; simp; omega) ?_; intro v9 w9 k1 k2 k3 k4; have hkk : ∀ b, b < W7.heap.size → b ∉ (Value.slice pa (ldrs T i).length pc).ownBlock.toList → w9.heap[b]? = W7.heap[b]? := (fun b hb hn => (k2.block b (by simp; omega) hn).trans (((by repeat (first | exact Gr.refl _ | apply Gr.ext | apply Gr.alloc | apply Gr.drew)) : Gr W7 (W7.alloc (Obj.cells #[.slice none 0 0] 30))).below.block b hb)); have hpn : ∀ b ∈ (Value.slice pa (ldrs T i).length pc).ownBlock.toList, W3.heap.size ≤ b ∧ b ≠ W3.heap.size + 1 := (fun b hb => ⟨(HO5.out.base b (by simpa using hb)).1, HNE5.out b (by simpa using hb)⟩); have p9 := (HP7.out.keep (hkk (W3.heap.size + 1) (by omega) (fun hm => (hpn _ hm).2 rfl))); have p9c := p9.box; have p9f := p9.frozen 0; have p9l := p9.lt; obtain ⟨qa, qc, hqf⟩ := k1.form; have hz9 := k2.size; have HP9 := Lib.hid p9; have K1 := Lib.hid k1; have K3 := Lib.hid k3; have K4 := Lib.hid k4; have HKK7 := Lib.hid hkk; have HPN := Lib.hid hpn; clear p9 hkk hpn k1 k2 k3 k4; rw [List.length_append, HLP.out] at hqf; simp only [List.length_cons, List.length_nil, Nat.zero_add] at hqf; subst hqf))
                generalize hW8 : w9.setCell ⟨W3.heap.size + 1, 0, none⟩ (.slice qa ((ldrs T i).length + 1) qc) = W8
                have hw8 : Wr [W3.heap.size + 1] w9 W8 := by rw [← hW8]; exact Wr.setCell (b := W3.heap.size + 1) (Wr.refl [W3.heap.size + 1] w9) (by simp) _
                have hz8a := hw8.size
                have hz7w : W7.heap.size ≤ w9.heap.size := by simp at hz9; omega
                have hz8 : W7.heap.size ≤ W8.heap.size := by omega
                have hon : ∀ b, (Value.slice qa ((ldrs T i).length + 1) qc).ownBlock = some b → b ≠ W3.heap.size + 1 := fun b hb => by
                  rcases K3.out with h | h
                  · rw [h] at hb; exact HNE5.out b hb
                  · rw [h] at hb
                    have : (W7.alloc (Obj.cells #[.slice none 0 0] 30)).heap.size = b := by injection hb
                    simp at this
                    omega
                have hkb : ∀ b, b < W3.heap.size → W8.heap[b]? = W7.heap[b]? := fun b hb => by rw [hw8.block b (by omega) (by simp; omega)]; exact HKK7.out b (by omega) (fun hm => by have := (HPN.out b hm).1; omega)
                have hI8 : IRow W8 bf 3 (ofs.set i ((ldrs T i).length : Int)) := VRow.keep HI7.out (hkb bf (by omega))
                have HI8 := Lib.hid hI8
                have HB8 := Lib.hid (HB7.out.keep (hkb bx (by omega)))
                have hP8 : VRow W8 (W3.heap.size + 1) 22 [.slice qa ((ldrs T i).length + 1) qc] := by rw [← hW8]; exact HP9.out.set 0 _
                have HP8 := Lib.hid hP8
                have HO8 := Lib.hid (K1.out.wr hw8 (fun b hb hm => by
                  rw [List.flatten_append] at hb
                  simp only [List.flatten_cons, List.flatten_nil, List.append_nil] at hb
                  have := HGE5.out b hb
                  simp at hm
                  omega) (fun b hb hm => hon b hb (by simpa using hm)))
                have HNE8 := Lib.hid hon
                have HND8 : Hid ((fps2 ++ [[]]).flatten.Nodup) := Lib.hid (by rw [List.flatten_append]; simpa using HND5.out)
                have HGE8 : Hid (∀ b ∈ (fps2 ++ [[]]).flatten, W4.heap.size ≤ b) := Lib.hid (by rw [List.flatten_append]; simpa using HGE5.out)
                have HK8 : Hid (∀ b, b < W3.heap.size → b ≠ bf → W8.heap[b]? = W3.heap[b]?) := Lib.hid fun b hb hb2 => by rw [hkb b hb]; exact HK7.out b hb hb2
                have hG8 : Gr W1 W8 := by rw [← hW8]; exact K4.out.setCell (by show W1.heap.size ≤ W3.heap.size + 1; omega) _
                have HG8 := Lib.hid hG8
                have hofi8 : (ofs.set i ((ldrs T i).length : Int))[i]? = some (((ldrs T i).length : Nat) : Int) := by rw [List.getElem?_eq_getElem hoi, List.getElem_set_self]
                have hlp8 : ((partsI T i).map (ORow.mk W4.heap.size 3) ++ [ORow.mk W4.heap.size 3 []]).length = (ldrs T i).length + 1 := by rw [List.length_append, HLP.out]; rfl
                have hj8 : (ldrs T i).length < ((partsI T i).map (ORow.mk W4.heap.size 3) ++ [ORow.mk W4.heap.size 3 []]).length := by rw [hlp8]; omega
                have HLP8 := Lib.hid hlp8
                clear hW8 hw8 hon hkb hI8 hP8 hG8 hlp8 p9c p9f p9l y7 p7 x7 x7b
                obtain ⟨g8, cap8, vj, fpj, hpv8, hg8l, hg8b, hcap8, cj8, fj8, hOj, hflj, hgnv, hgrow⟩ := HO8.out.grow HND8.out HGE8.out (j := (ldrs T i).length) hj8
                have HGROW := Lib.hid hgrow
                clear hgrow
                obtain ⟨X8, hX8⟩ : ∃ X : List Int, X = (((partsI T i).map (ORow.mk W4.heap.size 3) ++ [ORow.mk W4.heap.size 3 []])[(ldrs T i).length].out) := ⟨_, rfl⟩
                rw [← hX8] at hOj
                have hxl : X8.length ≤ i := by rw [hX8]; simp only [List.getElem_append_right (Nat.le_of_eq HLP.out), HLP.out]; simp only [Nat.sub_self]; exact Nat.zero_le _
                have HX8 := Lib.hid hX8
                clear hX8
                obtain ⟨aj, lcj, hvj⟩ := hOj.form
                have hap8 := HO8.out.apart
                rw [HLP8.out] at hpv8 hcap8
                rw [hpv8] at HP8 hap8 HNE8 HO8
                have p8 := HP8.out.box
                have b8 := HB8.out.box
                have i8 : (ofs.set i ((ldrs T i).length : Int))[i]? = some ((ldrs T i).length : Int) := hofi8
                obtain ⟨i8a, i8b⟩ := List.getElem?_eq_some_iff.1 i8
                have q8 := HI8.out.cell i8a
                rw [i8b] at q8
                have yb8 := HB8.out.lt
                have yp8 := HP8.out.lt
                have yi8 := HI8.out.lt
                have hgn := HNE8.out g8 rfl
                have hjl8 : ((ldrs T i).length : Int) < ((((ldrs T i).length + 1) : Nat) : Int) := by omega
                have hjl8b : ((ldrs T i).length : Int) < ((ldrs T i).length : Int) + 1 := by omega
                have hvb : ∀ b ∈ vj.ownBlock.toList, W4.heap.size ≤ b := fun b hb => (hOj.base b (by simpa using hb)).1
                have HVB := Lib.hid hvb
                have HOj := Lib.hid hOj
                have HFj := Lib.hid hflj
                have HGN := Lib.hid hgnv
                have HI8b := Lib.hid i8b
                have HHV := Lib.hid hvj
                subst hvj
                clear hvb hap8 hOj hflj hgnv i8 i8b hofi8
                have HPV8 := Lib.hid hpv8
                clear hpv8
                go_wp2_with fail
                refine wp_region_held_drew (S := (fun w' => w'.cell? ⟨bx, 0, none⟩ = some (.slice (some ⟨bf, 0, none⟩) T.length T.length) ∧ w'.cell? ⟨W3.heap.size + 1, 0, none⟩ = some (.slice (some ⟨g8, 0, none⟩) ((ldrs T i).length + 1) cap8) ∧ w'.cell? ⟨bf, i, none⟩ = some (.int .i64 ((ldrs T i).length : Int)))) (by kernel_rfl) ⟨b8, p8, q8⟩ (fun hHeld => ?_)
                refine wpAnyH_take (i := 0) (v := ?_) rfl (by kernel_rfl) (by kernel_rfl) (by kernel_rfl) (fun _ _ _ h => h) (Or.inl ⟨by rfl, ?_⟩) (by assumption) ?_
                rotate_left 1
                · intro w hSw; (try dsimp only at hSw); go_simp; all_goals with_reducible rfl
                try simp only [Act.put, List.setIfInBounds_toArray, List.set_cons_zero, List.set_cons_succ]
                refine wpAnyH_take (i := 1) (v := ?_) rfl (by kernel_rfl) (by kernel_rfl) (by kernel_rfl) (fun _ _ _ h => h) (Or.inl ⟨by rfl, ?_⟩) (by assumption) ?_
                rotate_left 1
                · intro w hSw; (try dsimp only at hSw); go_simp; all_goals with_reducible rfl
                try simp only [Act.put, List.setIfInBounds_toArray, List.set_cons_zero, List.set_cons_succ]
                refine wpAnyH_take (i := 2) (v := ?_) rfl (by kernel_rfl) (by kernel_rfl) (by kernel_rfl) (fun _ _ _ h => h) (Or.inl ⟨by rfl, ?_⟩) (by assumption) ?_
                rotate_left 1
                · intro w hSw; (try dsimp only at hSw); go_simp; all_goals with_reducible rfl
                try simp only [Act.put, List.setIfInBounds_toArray, List.set_cons_zero, List.set_cons_succ]
                refine wpAnyH_take (i := 3) (v := ?_) rfl (by kernel_rfl) (by kernel_rfl) (by kernel_rfl) (fun _ _ _ h => h) (Or.inl ⟨by rfl, ?_⟩) (by assumption) ?_
                rotate_left 1
                · intro w hSw; (try dsimp only at hSw); go_simp; all_goals with_reducible rfl
                try simp only [Act.put, List.setIfInBounds_toArray, List.set_cons_zero, List.set_cons_succ]
                refine wpAnyH_take (i := 4) (v := ?_) rfl (by kernel_rfl) (by kernel_rfl) (by kernel_rfl) (fun _ _ _ h => h) (Or.inl ⟨by rfl, ?_⟩) (by assumption) ?_
                rotate_left 1
                · intro w hSw; (try dsimp only at hSw); go_simp; all_goals with_reducible rfl
                try simp only [Act.put, List.setIfInBounds_toArray, List.set_cons_zero, List.set_cons_succ]
                refine wpAnyH_take (i := 5) (v := ?_) rfl (by kernel_rfl) (by kernel_rfl) (by kernel_rfl) (fun _ _ _ h => h) (Or.inl ⟨by rfl, ?_⟩) (by assumption) ?_
                rotate_left 1
                · intro w hSw; (try dsimp only at hSw); go_simp; all_goals with_reducible rfl
                try simp only [Act.put, List.setIfInBounds_toArray, List.set_cons_zero, List.set_cons_succ]
                refine wpAnyH_take (i := 6) (v := ?_) rfl (by kernel_rfl) (by kernel_rfl) (by kernel_rfl) (fun _ _ _ h => h) (Or.inl ⟨by rfl, ?_⟩) (by assumption) ?_
                rotate_left 1
                · intro w hSw; (try dsimp only at hSw); go_simp; all_goals with_reducible rfl
                try simp only [Act.put, List.setIfInBounds_toArray, List.set_cons_zero, List.set_cons_succ]
                refine wpAnyH_take (i := 7) (v := ?_) rfl (by kernel_rfl) (by kernel_rfl) (by kernel_rfl) (fun _ _ _ h => h) (Or.inl ⟨by rfl, ?_⟩) (by assumption) ?_
                rotate_left 1
                · intro w hSw; (try dsimp only at hSw); go_simp; all_goals with_reducible rfl
                try simp only [Act.put, List.setIfInBounds_toArray, List.set_cons_zero, List.set_cons_succ]
                refine wpAnyH_take (i := 8) (v := ?_) rfl (by kernel_rfl) (by kernel_rfl) (by kernel_rfl) (fun _ _ _ h => h) (Or.inl ⟨by rfl, ?_⟩) (by assumption) ?_
                rotate_left 1
                · intro w hSw; (try dsimp only at hSw); go_simp; all_goals with_reducible rfl
                try simp only [Act.put, List.setIfInBounds_toArray, List.set_cons_zero, List.set_cons_succ]
                refine wpAnyH_take (i := 9) (v := ?_) rfl (by kernel_rfl) (by kernel_rfl) (by kernel_rfl) (fun _ _ _ h => h) (Or.inl ⟨by rfl, ?_⟩) (by assumption) ?_
                rotate_left 1
                · intro w hSw; (try dsimp only at hSw); go_simp; all_goals with_reducible rfl
                try simp only [Act.put, List.setIfInBounds_toArray, List.set_cons_zero, List.set_cons_succ]
                refine wpAnyH_take (i := 10) (v := ?_) rfl (by kernel_rfl) (by kernel_rfl) (by kernel_rfl) (fun _ _ _ h => h) (Or.inl ⟨by rfl, ?_⟩) (by assumption) ?_
                rotate_left 1
                · intro w hSw; (try dsimp only at hSw); go_simp; all_goals with_reducible rfl
                try simp only [Act.put, List.setIfInBounds_toArray, List.set_cons_zero, List.set_cons_succ]
                refine wpAnyH_take (i := 12) (v := ?_) rfl (by kernel_rfl) (by kernel_rfl) (by kernel_rfl) (fun _ _ _ h => h) (Or.inl ⟨by rfl, ?_⟩) (by assumption) ?_
                rotate_left 1
                · intro w hSw; (try dsimp only at hSw); go_simp; all_goals with_reducible rfl
                try simp only [Act.put, List.setIfInBounds_toArray, List.set_cons_zero, List.set_cons_succ]
                refine wpAnyH_ready (rs := [11, 13]) (by kernel_rfl) (by simp) ?_
                refine AllReadyH.cons rfl (fun K hK => ?_) (AllReadyH.cons rfl (fun K hK => ?_) AllReadyH.nil)
                · go_simp
                  refine hK.out _ _ hHeld (fun hHeld2 => ?_)
                  clear hK K
                  try simp only [Act.put, List.setIfInBounds_toArray, List.set_cons_zero, List.set_cons_succ]
                  refine wpAnyH_ready (rs := [13]) (by kernel_rfl) (by simp) ?_
                  refine AllReadyH.cons rfl (fun K hK => ?_) AllReadyH.nil
                  go_simp
                  refine hK.out _ _ ⟨((by repeat (first | exact Gr.refl _ | apply Gr.ext | apply Gr.alloc | apply Gr.drew)) : Gr W8 ((W8.alloc (Obj.cells #[Value.int IntKind.i64 (i : Int)] 3)).drew)).keep b8, ((by repeat (first | exact Gr.refl _ | apply Gr.ext | apply Gr.alloc | apply Gr.drew)) : Gr W8 ((W8.alloc (Obj.cells #[Value.int IntKind.i64 (i : Int)] 3)).drew)).keep p8, ((by repeat (first | exact Gr.refl _ | apply Gr.ext | apply Gr.alloc | apply Gr.drew)) : Gr W8 ((W8.alloc (Obj.cells #[Value.int IntKind.i64 (i : Int)] 3)).drew)).keep q8⟩ (fun hHeld2 => ?_)
                  clear hK K
                  try simp only [Act.put, List.setIfInBounds_toArray, List.set_cons_zero, List.set_cons_succ]
                  refine wpAnyH_ready (rs := [14]) (by kernel_rfl) (by simp) ?_
                  refine AllReadyH.cons rfl (fun K hK => ?_) AllReadyH.nil
                  refine step_append_RB (α := Int) (wg := W1) (w0 := W4) (HG8.out.trans (by repeat (first | exact Gr.refl _ | apply Gr.ext | apply Gr.alloc | apply Gr.drew))) (by omega) (by simp; omega) (by rfl) _ _ _ (by rfl) 3 i0 (.int .i64 0) 8 Try.underlying30 HZ.out.1 HZ.out.2.1 HZ.out.2.2.1 HZ.out.2.2.2 rfl _ fpj _ (by rfl) (HOj.out.gr (by repeat (first | exact Gr.refl _ | apply Gr.ext | apply Gr.alloc | apply Gr.drew))) (.slice (some ⟨W8.heap.size, 0, none⟩) 1 1) [[]] [(i : Int)] (by rfl) ((SrcR.one (w := W8) (g := W8.heap.size) rfl (intRd (wf_small (by omega) (by omega)) _)).gr (by repeat (first | exact Gr.refl _ | apply Gr.ext | apply Gr.alloc | apply Gr.drew))) (fun b _ => by simp) (by unfold maxLen; simp; omega) (by simp; omega) ?_
                  intro v9 w9 k1 k2 k3 k4
                  have hkk : ∀ b, b < W8.heap.size → b ∉ (Value.slice aj X8.length lcj).ownBlock.toList → w9.heap[b]? = W8.heap[b]? := fun b hb hn => (k2.block b (by simp; omega) hn).trans (((by repeat (first | exact Gr.refl _ | apply Gr.ext | apply Gr.alloc | apply Gr.drew)) : Gr W8 ((W8.alloc (Obj.cells #[Value.int IntKind.i64 (i : Int)] 3)).drew)).below.block b hb)
                  have c1 := (World.cell?_of_block (a := ⟨bx, 0, none⟩) (hkk bx (by omega) (fun hm => by have := HVB.out _ hm; omega))).trans b8
                  have c2 := (World.cell?_of_block (a := ⟨W3.heap.size + 1, 0, none⟩) (hkk (W3.heap.size + 1) (by omega) (fun hm => by have := HVB.out _ hm; omega))).trans p8
                  have c3 := (World.cell?_of_block (a := ⟨bf, i, none⟩) (hkk bf (by omega) (fun hm => by have := HVB.out _ hm; omega))).trans q8
                  have c4 := (World.cell?_of_block (a := ⟨g8, (ldrs T i).length, none⟩) (hkk g8 (by omega) HGN.out)).trans cj8
                  have c5 := (World.frozen?_of_block (a := ⟨g8, (ldrs T i).length, none⟩) (hkk g8 (by omega) HGN.out)).trans fj8
                  have hw9 : Wr (Value.slice aj X8.length lcj).ownBlock.toList W8 w9 := (((by repeat (first | exact Gr.refl _ | apply Gr.ext | apply Gr.alloc | apply Gr.drew)) : Gr W8 ((W8.alloc (Obj.cells #[Value.int IntKind.i64 (i : Int)] 3)).drew)).toWr _).trans k2
                  have HW9 := Lib.hid hw9
                  have K1 := Lib.hid k1
                  have K3 := Lib.hid k3
                  have K4 := Lib.hid k4
                  have HKK := Lib.hid hkk
                  obtain ⟨a9, c9, hv9⟩ := k1.form
                  have z9d := blk c4
                  have z9s := hw9.size
                  clear hkk hw9 k1 k2 k3 k4
                  subst hv9
                  refine hK.out _ _ ⟨c1, c2, c3⟩ (fun hHeld3 => ?_)
                  clear hK K
                  try simp only [Act.put, List.setIfInBounds_toArray, List.set_cons_zero, List.set_cons_succ]
                  refine wpAnyH_take (i := 15) (v := ?_) rfl (by kernel_rfl) (by kernel_rfl) (by kernel_rfl) (fun _ _ _ h => h) (Or.inl ⟨by rfl, ?_⟩) (by assumption) ?_
                  rotate_left 1
                  · intro w hSw; (try dsimp only at hSw); go_simp; all_goals with_reducible rfl
                  try simp only [Act.put, List.setIfInBounds_toArray, List.set_cons_zero, List.set_cons_succ]
                  refine wpAnyH_ready (rs := [16]) (by kernel_rfl) (by simp) ?_
                  refine AllReadyH.cons rfl (fun K hK => ?_) AllReadyH.nil
                  go_simp
                  refine hK.out _ _ ⟨(cell_setCell_blk (by omega)).trans c1, (cell_setCell_blk (by omega)).trans c2, (cell_setCell_blk (by omega)).trans c3⟩ (fun _ => ?_)
                  clear hK K
                  refine wpAnyH_done (by kernel_rfl) ?_ _
                  obtain ⟨fps9, hO9, hN9, hG9⟩ := HGROW.out w9 _ _ HW9.out K1.out (by
                    rcases K3.out with h | h
                    · exact .inl h
                    · exact .inr ⟨_, h, by simp⟩)
                  rw [show (X8 ++ [(i : Int)]).length = X8.length + 1 by simp] at hO9
                  have HO9 := Lib.hid hO9
                  have HN9 := Lib.hid hN9
                  have HG9 := Lib.hid hG9
                  clear hO9 hN9 hG9 c1 c2 c3 c4 c5
                  go_wp2_with fail
                  go_roundg (T.length - (i + 1))
                  case measure => omega
                  case rel =>
                    have hbv : ∀ b, b < W4.heap.size → b ∉ (Value.slice aj X8.length lcj).ownBlock.toList := fun b hb hm => by have := HVB.out b hm; omega
                    have hnb : bf ≠ g8 := by omega
                    refine ⟨i + 1, (ofs.set i ((ldrs T i).length : Int)), .slice (some ⟨g8, 0, none⟩) ((ldrs T i).length + 1) cap8, fps9, ?_, VRow.ne (VRow.keep HI8.out (HKK.out bf (by omega) (hbv bf (by omega)))) hnb, VRow.ne (VRow.keep HP8.out (HKK.out _ (by omega) (hbv _ (by omega)))) (fun e => hgn e.symm), ?_, fun b hb => by have := ownB hb; omega, HN9.out, HG9.out, fun b hb1 hb2 => ?_, by rw [size_setCell']; omega, K4.out.setCell (by show W1.heap.size ≤ g8; omega) _, by go_num, by omega, by omega⟩
                    · have hj9 : (ldrs T i).length < (ldrs T (i + 1)).length := by rw [ldrs_yes HLD.out]; simp
                      have h := HOF.out.step (j := (ldrs T i).length) hlt hj9 (by simp only [ldrs_yes HLD.out]; simp; exact Eqv.refl i)
                      exact h
                    · rw [partsI_ldr HLD.out, List.map_append, List.map_cons, List.map_nil]
                      have e2 : X8 = [] := by rw [HX8.out]; simp only [List.getElem_append_right (Nat.le_of_eq HLP.out), HLP.out]; simp only [Nat.sub_self]; rfl
                      have h := HO9.out
                      have e3 : ((partsI T i).map (ORow.mk W4.heap.size 3) ++ [ORow.mk W4.heap.size 3 []]).set (ldrs T i).length (ORow.mk W4.heap.size 3 (X8 ++ [(i : Int)])) = (partsI T i).map (ORow.mk W4.heap.size 3) ++ [ORow.mk W4.heap.size 3 [(i : Int)]] := by
                        rw [e2, List.set_append_right _ _ (Nat.le_of_eq HLP.out), HLP.out, Nat.sub_self]
                        rfl
                      rw [e3] at h
                      rw [← HPV8.out]
                      exact h
                    · rw [heap_setCell (by omega), HKK.out b (by omega) (hbv b (by omega))]
                      exact HK8.out b hb1 hb2
                · go_simp
                  refine hK.out _ _ ⟨((by repeat (first | exact Gr.refl _ | apply Gr.ext | apply Gr.alloc | apply Gr.drew)) : Gr W8 ((W8.alloc (Obj.cells #[Value.int IntKind.i64 (i : Int)] 3)).drew)).keep b8, ((by repeat (first | exact Gr.refl _ | apply Gr.ext | apply Gr.alloc | apply Gr.drew)) : Gr W8 ((W8.alloc (Obj.cells #[Value.int IntKind.i64 (i : Int)] 3)).drew)).keep p8, ((by repeat (first | exact Gr.refl _ | apply Gr.ext | apply Gr.alloc | apply Gr.drew)) : Gr W8 ((W8.alloc (Obj.cells #[Value.int IntKind.i64 (i : Int)] 3)).drew)).keep q8⟩ (fun hHeld2 => ?_)
                  clear hK K
                  try simp only [Act.put, List.setIfInBounds_toArray, List.set_cons_zero, List.set_cons_succ]
                  refine wpAnyH_ready (rs := [11]) (by kernel_rfl) (by simp) ?_
                  refine AllReadyH.cons rfl (fun K hK => ?_) AllReadyH.nil
                  go_simp
                  refine hK.out _ _ hHeld2 (fun hHeld2 => ?_)
                  clear hK K
                  try simp only [Act.put, List.setIfInBounds_toArray, List.set_cons_zero, List.set_cons_succ]
                  refine wpAnyH_ready (rs := [14]) (by kernel_rfl) (by simp) ?_
                  refine AllReadyH.cons rfl (fun K hK => ?_) AllReadyH.nil
                  refine step_append_RB (α := Int) (wg := W1) (w0 := W4) (HG8.out.trans (by repeat (first | exact Gr.refl _ | apply Gr.ext | apply Gr.alloc | apply Gr.drew))) (by omega) (by simp; omega) (by rfl) _ _ _ (by rfl) 3 i0 (.int .i64 0) 8 Try.underlying30 HZ.out.1 HZ.out.2.1 HZ.out.2.2.1 HZ.out.2.2.2 rfl _ fpj _ (by rfl) (HOj.out.gr (by repeat (first | exact Gr.refl _ | apply Gr.ext | apply Gr.alloc | apply Gr.drew))) (.slice (some ⟨W8.heap.size, 0, none⟩) 1 1) [[]] [(i : Int)] (by rfl) ((SrcR.one (w := W8) (g := W8.heap.size) rfl (intRd (wf_small (by omega) (by omega)) _)).gr (by repeat (first | exact Gr.refl _ | apply Gr.ext | apply Gr.alloc | apply Gr.drew))) (fun b _ => by simp) (by unfold maxLen; simp; omega) (by simp; omega) ?_
                  intro v9 w9 k1 k2 k3 k4
                  have hkk : ∀ b, b < W8.heap.size → b ∉ (Value.slice aj X8.length lcj).ownBlock.toList → w9.heap[b]? = W8.heap[b]? := fun b hb hn => (k2.block b (by simp; omega) hn).trans (((by repeat (first | exact Gr.refl _ | apply Gr.ext | apply Gr.alloc | apply Gr.drew)) : Gr W8 ((W8.alloc (Obj.cells #[Value.int IntKind.i64 (i : Int)] 3)).drew)).below.block b hb)
                  have c1 := (World.cell?_of_block (a := ⟨bx, 0, none⟩) (hkk bx (by omega) (fun hm => by have := HVB.out _ hm; omega))).trans b8
                  have c2 := (World.cell?_of_block (a := ⟨W3.heap.size + 1, 0, none⟩) (hkk (W3.heap.size + 1) (by omega) (fun hm => by have := HVB.out _ hm; omega))).trans p8
                  have c3 := (World.cell?_of_block (a := ⟨bf, i, none⟩) (hkk bf (by omega) (fun hm => by have := HVB.out _ hm; omega))).trans q8
                  have c4 := (World.cell?_of_block (a := ⟨g8, (ldrs T i).length, none⟩) (hkk g8 (by omega) HGN.out)).trans cj8
                  have c5 := (World.frozen?_of_block (a := ⟨g8, (ldrs T i).length, none⟩) (hkk g8 (by omega) HGN.out)).trans fj8
                  have hw9 : Wr (Value.slice aj X8.length lcj).ownBlock.toList W8 w9 := (((by repeat (first | exact Gr.refl _ | apply Gr.ext | apply Gr.alloc | apply Gr.drew)) : Gr W8 ((W8.alloc (Obj.cells #[Value.int IntKind.i64 (i : Int)] 3)).drew)).toWr _).trans k2
                  have HW9 := Lib.hid hw9
                  have K1 := Lib.hid k1
                  have K3 := Lib.hid k3
                  have K4 := Lib.hid k4
                  have HKK := Lib.hid hkk
                  obtain ⟨a9, c9, hv9⟩ := k1.form
                  have z9d := blk c4
                  have z9s := hw9.size
                  clear hkk hw9 k1 k2 k3 k4
                  subst hv9
                  refine hK.out _ _ ⟨c1, c2, c3⟩ (fun hHeld3 => ?_)
                  clear hK K
                  try simp only [Act.put, List.setIfInBounds_toArray, List.set_cons_zero, List.set_cons_succ]
                  refine wpAnyH_take (i := 15) (v := ?_) rfl (by kernel_rfl) (by kernel_rfl) (by kernel_rfl) (fun _ _ _ h => h) (Or.inl ⟨by rfl, ?_⟩) (by assumption) ?_
                  rotate_left 1
                  · intro w hSw; (try dsimp only at hSw); go_simp; all_goals with_reducible rfl
                  try simp only [Act.put, List.setIfInBounds_toArray, List.set_cons_zero, List.set_cons_succ]
                  refine wpAnyH_ready (rs := [16]) (by kernel_rfl) (by simp) ?_
                  refine AllReadyH.cons rfl (fun K hK => ?_) AllReadyH.nil
                  go_simp
                  refine hK.out _ _ ⟨(cell_setCell_blk (by omega)).trans c1, (cell_setCell_blk (by omega)).trans c2, (cell_setCell_blk (by omega)).trans c3⟩ (fun _ => ?_)
                  clear hK K
                  refine wpAnyH_done (by kernel_rfl) ?_ _
                  obtain ⟨fps9, hO9, hN9, hG9⟩ := HGROW.out w9 _ _ HW9.out K1.out (by
                    rcases K3.out with h | h
                    · exact .inl h
                    · exact .inr ⟨_, h, by simp⟩)
                  rw [show (X8 ++ [(i : Int)]).length = X8.length + 1 by simp] at hO9
                  have HO9 := Lib.hid hO9
                  have HN9 := Lib.hid hN9
                  have HG9 := Lib.hid hG9
                  clear hO9 hN9 hG9 c1 c2 c3 c4 c5
                  go_wp2_with fail
                  go_roundg (T.length - (i + 1))
                  case measure => omega
                  case rel =>
                    have hbv : ∀ b, b < W4.heap.size → b ∉ (Value.slice aj X8.length lcj).ownBlock.toList := fun b hb hm => by have := HVB.out b hm; omega
                    have hnb : bf ≠ g8 := by omega
                    refine ⟨i + 1, (ofs.set i ((ldrs T i).length : Int)), .slice (some ⟨g8, 0, none⟩) ((ldrs T i).length + 1) cap8, fps9, ?_, VRow.ne (VRow.keep HI8.out (HKK.out bf (by omega) (hbv bf (by omega)))) hnb, VRow.ne (VRow.keep HP8.out (HKK.out _ (by omega) (hbv _ (by omega)))) (fun e => hgn e.symm), ?_, fun b hb => by have := ownB hb; omega, HN9.out, HG9.out, fun b hb1 hb2 => ?_, by rw [size_setCell']; omega, K4.out.setCell (by show W1.heap.size ≤ g8; omega) _, by go_num, by omega, by omega⟩
                    · have hj9 : (ldrs T i).length < (ldrs T (i + 1)).length := by rw [ldrs_yes HLD.out]; simp
                      have h := HOF.out.step (j := (ldrs T i).length) hlt hj9 (by simp only [ldrs_yes HLD.out]; simp; exact Eqv.refl i)
                      exact h
                    · rw [partsI_ldr HLD.out, List.map_append, List.map_cons, List.map_nil]
                      have e2 : X8 = [] := by rw [HX8.out]; simp only [List.getElem_append_right (Nat.le_of_eq HLP.out), HLP.out]; simp only [Nat.sub_self]; rfl
                      have h := HO9.out
                      have e3 : ((partsI T i).map (ORow.mk W4.heap.size 3) ++ [ORow.mk W4.heap.size 3 []]).set (ldrs T i).length (ORow.mk W4.heap.size 3 (X8 ++ [(i : Int)])) = (partsI T i).map (ORow.mk W4.heap.size 3) ++ [ORow.mk W4.heap.size 3 [(i : Int)]] := by
                        rw [e2, List.set_append_right _ _ (Nat.le_of_eq HLP.out), HLP.out, Nat.sub_self]
                        rfl
                      rw [e3] at h
                      rw [← HPV8.out]
                      exact h
                    · rw [heap_setCell (by omega), HKK.out b (by omega) (hbv b (by omega))]
                      exact HK8.out b hb1 hb2
          · obtain rfl : i = T.length := by omega
            obtain ⟨mm, hmm⟩ : ∃ mm, mm = (parts T).length := ⟨_, rfl⟩
            have hml : (ldrs T T.length).length = mm := by rw [hmm, partsI_len]
            have hmT : mm ≤ T.length := by rw [hmm]; exact parts_le
            have HMM := Lib.hid hmm
            obtain ⟨gps, hOP, hgl, hgs⟩ := OwnR.read HO5.out (fun x hx => by
              obtain ⟨r, hr, rfl⟩ := List.mem_map.1 hx
              obtain ⟨j, hj, rfl⟩ := List.mem_iff_getElem.1 hr
              have := parts_size (T := T) hj
              show (parts T)[j].length ≤ reachLen
              unfold reachLen
              omega)
            have hmap : ((parts T).map (ORow.mk W4.heap.size 3)).map ORow.out = parts T := by rw [List.map_map]; exact List.map_id _
            rw [hmap] at hOP
            rw [hml] at hOP e5
            have HP6 : Hid (VRow W5 (W3.heap.size + 1) 22 [.slice pa mm pc]) := Lib.hid (by rw [← hml]; exact HP5.out)
            have HOP := Lib.hid hOP
            have hgnd : gps.flatten.Nodup := hgs.nodup HND5.out
            have hgge : ∀ b ∈ gps.flatten, W4.heap.size ≤ b := fun b hb => HGE5.out b (hgs.subset hb)
            have HGND := Lib.hid hgnd
            have HGGE := Lib.hid hgge
            obtain ⟨fP, hsP, -⟩ := hOP.slR (by rw [← hmm]; unfold reachLen; omega)
            have HSP := Lib.hid hsP
            obtain ⟨i4, hi, hz0, hz1, hz2⟩ := info_parts Try.infoBool
            have hmk := fun (W : World) => run_make (P := Try.prog) W 37 4 i4 (.bool false) Try.underlying37 hi hz0 .i64 .i64 mm mm (by omega) (by omega) (by rw [hz2]; omega) (by omega)
            rw [hz1] at hmk
            clear hi hz0 hz1 hz2
            simp only [Int.toNat_natCast, Nat.mul_one] at hmk
            have HB0 := Lib.hid (fun W : World => BRow.made W mm 4)
            have hce : (Value.bool false).cells = #[.bool false] := rfl
            rw [hce] at hmk
            generalize madeCells #[.bool false] mm = C2 at hmk HB0
            have gw5 : Gr w W5 := (HGO.out.trans g1).trans hg
            have HGW5 := Lib.hid gw5
            clear hOf hI hP hown hne hnd hge hkeep hg hLl hB5 hRs hOP hgnd hgge hsP hgs hmap hce hmm gw5 hldl d5 z5 x5 w5
            go_upto_region 23 with fail
            have HE5 := Lib.hid e5
            go_cut [10, 11] (fun s10 s11 wr => Made3 W5 30 4 37 mm C2 s10 s11 wr)
            case first =>
              go_region
              all_goals
                go_wp2_with fail
                go_meet
                refine ⟨_, ?_, _, rfl, rfl, ?_, ?_, ?_, ?_⟩
                rotate_left 3
                · first | exact (alloc3 W5 _ _ _).1 | exact (alloc3 W5 _ _ _).2.1 | exact (alloc3 W5 _ _ _).2.2
                · exact ⟨by omega, by omega, by omega, by omega, by omega, by omega, (by repeat (first | exact Gr.refl _ | apply Gr.ext | apply Gr.alloc | apply Gr.drew))⟩
                · first | exact (alloc3 W5 _ _ _).1 | exact (alloc3 W5 _ _ _).2.1 | exact (alloc3 W5 _ _ _).2.2
                · first | exact (alloc3 W5 _ _ _).1 | exact (alloc3 W5 _ _ _).2.1 | exact (alloc3 W5 _ _ _).2.2
            case rest =>
              obtain ⟨bo2, bd, bb, rfl, rfl, ko2, kd, kb, no2, nd, nb, m12, m13, m23, gM2⟩ := hcut
              rename World => W6
              have HD6 := Lib.hid (BRow.of HB0.out kd)
              have hBB : VRow W6 bb 37 [.slice (some ⟨bd, 0, none⟩) mm mm] := kb
              have HBB := Lib.hid hBB
              have HO6 := Lib.hid (OwnR.empty (α := List Int) (w0 := W5) ko2 no2)
              have HGM2 := Lib.hid gM2
              have hfn := Try.call24
              have e6 := gM2.keep HE5.out
              have y6 := blk e6
              clear kd kb ko2 hBB gM2 hmk e5 y5
              go_wp2_with fail
              go_loopg [10] mm (fun gg s10 wr => ∃ (L : List Nat) (fl : List Bool), Run T L ∧ OwnR W5 30 wr s10 (L.map fun p => gps.getD p []) (outOfRun T L) ∧ (∀ b, s10.ownBlock = some b → b ≠ bd ∧ b ≠ bb) ∧ FlP T L fl ∧ BRow wr bd 4 fl ∧ VRow wr bb 37 [.slice (some ⟨bd, 0, none⟩) mm mm] ∧ Gr W5 wr ∧ mm - L.length ≤ gg)
              case atStart => exact ⟨[], _, Run.nil, HO6.out, fun b hb => (by have := ownB hb; omega), (by have := FlP.start (T := T); rw [← HMM.out] at this; exact this), HD6.out, HBB.out, HGM2.out, by omega⟩
              case round =>
                obtain ⟨L, fl, hR, hown, hne, hF, hb, hB, hg, hgg3⟩ := hrel
                rename World => W7
                have hLm := hR.len_le
                rw [← HMM.out] at hLm
                have hLL : (outOfRun T L).length = L.length := by simp [outOfRun]
                have HLL := Lib.hid hLL
                obtain ⟨oa, oc, hform⟩ := hown.form
                rw [hLL] at hform
                subst hform
                have HR := Lib.hid hR
                have HO7 := Lib.hid hown
                have HNE7 := Lib.hid hne
                have HF7 := Lib.hid hF
                have HD7 := Lib.hid hb
                have HB7 := Lib.hid hB
                have HG7 := Lib.hid hg
                have hz7 := hg.size
                have e7 := hg.keep HE5.out
                have y7 := blk e7
                have hE7 : REnv T ofs fl W0.heap.size bx (W3.heap.size + 1) bb bf bd W7 := ⟨⟨_, _, (HG5.out.trans hg).keep HDO.out, HSO.out.gr ((g1.trans HG5.out).trans hg)⟩, (HB5.out.gr hg).box, VRow.gr HI5.out hg, ⟨_, _, (HP6.out.gr hg).box, HSP.out.gr hg⟩, by rw [← HMM.out]; exact hB.box, hb⟩
                have HE7 := Lib.hid hE7
                by_cases hLlt : L.length < mm
                · obtain ⟨p, hp, hpf⟩ := first_rdy (T := T) (L := L) (by rw [← HMM.out]; exact hLlt) hR.facts.2
                  have hpm : p < mm := by rw [HMM.out]; exact hp.2.1
                  have HP := Lib.hid hp
                  have HPF := Lib.hid hpf
                  clear hR hown hne hF hb hB hg hLL hE7 hp hpf
                  go_wp2_with fail
                  go_loopg [10, 110] p (fun gg s10 s110 wr => ∃ q : Nat, s10 = .slice oa L.length oc ∧ s110 = .int .i64 q ∧ q ≤ p ∧ Gr W7 wr ∧ p - q ≤ gg)
                  case atStart => exact ⟨0, rfl, rfl, by omega, Gr.refl _, by omega⟩
                  case round =>
                    obtain ⟨q, rfl, rfl, hqp, hg8, hgg5⟩ := hrel
                    rename World => W8
                    have hqm : q < (parts T).length := by rw [← HMM.out]; omega
                    have hrdy := rdy_impl HOF.out HF7.out HR.out.facts.2 hqm
                    have HRDY := Lib.hid hrdy
                    have HG8 := Lib.hid hg8
                    have hqz : (q : Int) < (mm : Int) := by omega
                    have e8 := hg8.keep e7
                    have y8 := blk e8
                    clear hrdy hg8 e7 y7
                    have hcall := ready1_any ofs fl W0.heap.size bx (W3.heap.size + 1) bb bf bd q W8 (HE7.out.gr HG8.out) hlen hqm HOF.out HF7.out.1
                    by_cases hqe : q = p
                    · obtain rfl : q = p := hqe
                      have hrb : readyB T ofs fl q = true := by
                        obtain ⟨h1, h2⟩ := HRDY.out.1 HP.out
                        unfold readyB
                        rw [h1, parts_getD hqm, h2]; rfl
                      rw [hrb] at hcall
                      have HCALL := Lib.hid hcall
                      clear hcall hrb
                      go_wp2_with fail
                      refine HCALL.out.mono ?_
                      rintro e W9 ⟨rfl, g9⟩
                      go_wp2_with fail
                      obtain ⟨gP, capP, csP, fqP, hvP, -, hgPl, -, hfqP, hcP, hrP, -, -⟩ := HOP.out.upd (i := q) hqm
                      obtain ⟨vP, rfl, sP⟩ := hrP
                      have hcP2 := hcP 0 vP rfl
                      have hn1 : Rd.n (List Int) = 1 := rfl
                      rw [hn1, Nat.mul_one, Nat.add_zero] at hcP2
                      have hpa : pa = some ⟨gP, 0, none⟩ := by injection hvP
                      subst hpa
                      obtain ⟨aP, cP, rfl, -, -, -⟩ := sP.open
                      have HSPq := Lib.hid sP
                      have HFQP := Lib.hid hfqP
                      have hg59 : Gr W5 W9 := (HG7.out.trans HG8.out).trans g9
                      have HG59 := Lib.hid hg59
                      have hg79 : Gr W7 W9 := HG8.out.trans g9
                      have b9 := (HB7.out.gr hg79).box
                      have p9 := (HP6.out.gr hg59).box
                      have c9 := hg59.keep hcP2
                      have D9 := Lib.hid (HD7.out.gr hg79)
                      have B9 := Lib.hid (HB7.out.gr hg79)
                      have hO9 := HO7.out.gr hg79
                      have HO9 := Lib.hid hO9
                      have hqf : q < fl.length := by rw [HF7.out.1]; exact hqm
                      have u9 := D9.out.lt
                      have u1 := blk b9
                      have u2 := blk p9
                      have u3 := blk c9
                      have hz9 := hg59.size
                      have hPf : ∀ b ∈ fqP, b < W5.heap.size := fun b hb => sP.lt b hb
                      have HPf := Lib.hid hPf
                      have hap : Hid (∀ b, (Value.slice oa L.length oc).ownBlock = some b → b ∉ [fqP].flatten) := Lib.hid fun b hb hm => by have := (HO7.out.base b hb).1; have := hPf b (by simpa using hm); omega
                      have hS1 : SrcR (W9.alloc (Obj.cells #[Value.slice aP (parts T)[q].length cP] 30)) (.slice (some ⟨W9.heap.size, 0, none⟩) 1 1) [fqP] [(parts T)[q]] := SrcR.one rfl (show Rd.rd (α := List Int) fqP (W9.alloc (Obj.cells #[Value.slice aP (parts T)[q].length cP] 30)) [Value.slice aP (parts T)[q].length cP] (parts T)[q] from ⟨_, rfl, HSPq.out.gr (HG59.out.trans (by repeat (first | exact Gr.refl _ | apply Gr.ext | apply Gr.alloc | apply Gr.drew)))⟩)
                      have HS1 := Lib.hid hS1
                      clear hS1 hvP hcP sP hfqP hcP2 hn1 hg59 hg79 g9 hO9 e8 y8 hPf
                      go_region_held3 (fun w' => w'.cell? ⟨bb, 0, none⟩ = some (.slice (some ⟨bd, 0, none⟩) mm mm) ∧ w'.cell? ⟨W3.heap.size + 1, 0, none⟩ = some (.slice (some ⟨gP, 0, none⟩) mm pc) ∧ w'.cell? ⟨gP, q, none⟩ = some (.slice aP (parts T)[q].length cP))
                        (first
                          | exact ⟨b9, p9, c9⟩
                          | exact ⟨c1, c2, c3⟩
                          | exact ⟨(cell_setCell_blk (by omega)).trans c1, (cell_setCell_blk (by omega)).trans c2, (cell_setCell_blk (by omega)).trans c3⟩
                          | exact ⟨((by repeat (first | exact Gr.refl _ | apply Gr.ext | apply Gr.alloc | apply Gr.drew)) : Gr W9 ((W9.alloc (Obj.cells #[Value.slice aP (parts T)[q].length cP] 30)).drew)).keep b9, ((by repeat (first | exact Gr.refl _ | apply Gr.ext | apply Gr.alloc | apply Gr.drew)) : Gr W9 ((W9.alloc (Obj.cells #[Value.slice aP (parts T)[q].length cP] 30)).drew)).keep p9, ((by repeat (first | exact Gr.refl _ | apply Gr.ext | apply Gr.alloc | apply Gr.drew)) : Gr W9 ((W9.alloc (Obj.cells #[Value.slice aP (parts T)[q].length cP] 30)).drew)).keep c9⟩)
                        ((refine step_append_RB (α := List Int) (wg := W5) (w0 := W5) (HG59.out.trans (by repeat (first | exact Gr.refl _ | apply Gr.ext | apply Gr.alloc | apply Gr.drew))) (by omega) (by simp; omega) (by rfl) _ _ _ (by rfl) 30 i2 (.slice none 0 0) 24 Try.underlying22 HY.out.1 HY.out.2.1 HY.out.2.2.1 HY.out.2.2.2 rfl _ (L.map fun p => gps.getD p []) _ (by rfl) (HO9.out.gr (by repeat (first | exact Gr.refl _ | apply Gr.ext | apply Gr.alloc | apply Gr.drew))) (.slice (some ⟨W9.heap.size, 0, none⟩) 1 1) [fqP] [(parts T)[q]] (by rfl) (HS1.out.gr (by repeat (first | exact Gr.refl _ | apply Gr.ext | apply Gr.alloc | apply Gr.drew))) hap.out (by rw [HLL.out]; unfold maxLen; simp; omega) (by rw [HLL.out]; simp; omega) ?_; intro v10 w10 k1 k2 k3 k4; have hkk : ∀ b, b < W9.heap.size → b ∉ (Value.slice oa L.length oc).ownBlock.toList → w10.heap[b]? = W9.heap[b]? := (fun b hb hn => (k2.block b (by simp; omega) hn).trans (((by repeat (first | exact Gr.refl _ | apply Gr.ext | apply Gr.alloc | apply Gr.drew)) : Gr W9 ((W9.alloc (Obj.cells #[Value.slice aP (parts T)[q].length cP] 30)).drew)).below.block b hb)); have hon : ∀ b ∈ (Value.slice oa L.length oc).ownBlock.toList, W5.heap.size ≤ b ∧ b ≠ bd ∧ b ≠ bb := (fun b hb => ⟨(HO7.out.base b (by simpa using hb)).1, HNE7.out b (by simpa using hb)⟩); have c1 := (World.cell?_of_block (a := ⟨bb, 0, none⟩) (hkk bb (by omega) (fun hm => (hon _ hm).2.2 rfl))).trans b9; have c2 := (World.cell?_of_block (a := ⟨W3.heap.size + 1, 0, none⟩) (hkk (W3.heap.size + 1) (by omega) (fun hm => by have := (hon _ hm).1; omega))).trans p9; have c3 := (World.cell?_of_block (a := ⟨gP, q, none⟩) (hkk gP (by omega) (fun hm => by have := (hon _ hm).1; omega))).trans c9; have d10 := D9.out.keep (hkk bd (by omega) (fun hm => (hon _ hm).2.1 rfl)); have c4 := d10.cell hqf; have c5 := d10.frozen q; have c6 := d10.lt; obtain ⟨a10, l10, hv10⟩ := k1.form; have D10 := Lib.hid d10; have K1 := Lib.hid k1; have K3 := Lib.hid k3; have K4 := Lib.hid k4; have HKK := Lib.hid hkk; have HON := Lib.hid hon; clear d10 hkk hon k1 k2 k3 k4; subst hv10))
                      go_wp2_with fail
                      have hown10 : ∀ b, (Value.slice a10 (outOfRun T L ++ [(parts T)[q]]).length l10).ownBlock = some b → b ≠ bd ∧ b ≠ bb := fun b hb => by
                        rcases K3.out with h | h
                        · rw [h] at hb; exact HNE7.out b hb
                        · rw [h] at hb
                          have : ((W9.alloc (Obj.cells #[Value.slice aP (parts T)[q].length cP] 30)).drew).heap.size = b := by injection hb
                          simp at this
                          omega
                      have helt : ∀ b ∈ ((L.map fun p => gps.getD p []) ++ [fqP]).flatten, b < W5.heap.size := fun b hb => by
                        rw [List.flatten_append, List.mem_append] at hb
                        rcases hb with hb | hb
                        · exact HOP.out.lt b (mem_pick hb)
                        · exact HPf.out b (by simpa using hb)
                      go_roundg (mm - (L.length + 1))
                      case measure => omega
                      case rel =>
                        have e1 : (outOfRun T L ++ [(parts T)[q]]).length = (outOfRun T L).length + 1 := by rw [List.length_append]; rfl
                        have e2 : outOfRun T (L ++ [q]) = outOfRun T L ++ [(parts T)[q]] := by
                          unfold outOfRun
                          rw [List.map_append, List.map_cons, List.map_nil, parts_getD hqm]
                        have e3 : ((L ++ [q]).map fun p => gps.getD p []) = (L.map fun p => gps.getD p []) ++ [fqP] := by
                          rw [List.map_append, List.map_cons, List.map_nil, List.getD_eq_getElem?_getD, HFQP.out]; rfl
                        have h10 := K1.out.wr (w' := w10.setCell ⟨bd, q, none⟩ (.bool true)) (Wr.setCell (b := bd) (o := q) (Wr.refl [bd] w10) (by simp) _) (fun b hb hm => by have := helt b hb; simp at hm; omega) (fun b hb hm => (hown10 b hb).1 (by simpa using hm))
                        rw [← e2, ← e3] at h10
                        rw [e1] at hown10
                        rw [e2, e1] at h10
                        refine ⟨L ++ [q], fl.set q true, HR.out.snoc HP.out HPF.out, by rw [e2]; exact h10, hown10, HF7.out.step q, D10.out.set q true, VRow.ne (VRow.keep B9.out (HKK.out bb (by omega) (fun hm => (HON.out _ hm).2.2 rfl))) (fun e => m23 e.symm), K4.out.setCell (by show W5.heap.size ≤ bd; omega) _, by simp⟩
                    · have hlt' : q < p := by omega
                      have hrb : readyB T ofs fl q = false := by
                        cases h : readyB T ofs fl q with
                        | false => rfl
                        | true =>
                          unfold readyB at h
                          rw [Bool.and_eq_true, Bool.not_eq_true', Bool.not_eq_true', parts_getD hqm] at h
                          exact absurd (HRDY.out.2 h) (HPF.out q hlt')
                      rw [hrb] at hcall
                      have HCALL := Lib.hid hcall
                      clear hcall hrb
                      go_wp2_with fail
                      refine HCALL.out.mono ?_
                      rintro e W9 ⟨rfl, g9⟩
                      have HG9 := Lib.hid g9
                      clear g9 e8 y8
                      go_wp2_with fail
                      go_roundg (p - (q + 1))
                      case measure => omega
                      case rel => exact ⟨q + 1, rfl, by go_num, by omega, HG8.out.trans HG9.out, by omega⟩
                · have hLe : L.length = mm := by omega
                  have hfin := compsOf_run hR (by rw [hLe]; exact HMM.out)
                  have hz45 : w.heap.size ≤ W4.heap.size := by have := HGO.out.size; have := g1.size; omega
                  obtain ⟨fq, hs, hfq⟩ := (hown.base_eq (w1 := W4) (by omega)).fresh (by rw [hLL]; unfold reachLen; omega) ⟨nodup_pick HGND.out hR.facts.1, fun b hb' => HGGE.out b (mem_pick hb')⟩
                  rw [← hfin] at hs
                  have HS := Lib.hid hs
                  have HFQ := Lib.hid hfq
                  clear hR hown hne hF hb hB hg hLL hE7 hs hfin hfq
                  go_wp2_with fail
                  go_ret
                  exact ⟨_, fq, rfl, HS.out, HFQ.out.of_le hz45, HGW5.out.trans HG7.out⟩
end Go.Proofs.Ytcphimmkkfpohaa
