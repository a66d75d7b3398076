/- Texts laid together: TexQ, TexL, TexO, TexD, TexE, TexF, Gcd, TexG, TexH, TexI, RdLit. Lemmas for the statements of this seat; no condition. -/
import Derived.Test.YtlkaniojnaaocaaGreatPk7
import Derived.Laws.StructEq
import Derived.Deep.QuietTactic
import Derived.BigQuiet
import Derived.Test.YtlkaniojnaaocaaGreatPk5
import Derived.Test.YtlkaniojnaaocaaGreatPk1

/- Tilings read from memory: a list of pieces, as a law or the reference reads it; the reference's Same at two tilings with the same pieces. -/
namespace Go.Proofs.YtlkaniojnaaocaaGreat
open Go.RowKit
set_option linter.unusedVariables false
set_option linter.unusedSimpArgs false
attribute [local go_sem] Oper.semAt_some

def RdP (w : World) (B : Nat) (v : Value) (R : List (Ky × List R4)) : Prop :=
  ∃ A c, v = .slice A R.length c ∧ (R ≠ [] → ∃ b, A = some ⟨b, 0, none⟩ ∧ b < B ∧ ∀ (j : Nat) (k : Ky) (r : List R4), R[j]? = some (k, r) →
    w.cell? ⟨b, j * 3, none⟩ = some (.int .i64 k.2) ∧ w.cell? ⟨b, j * 3 + 1, none⟩ = some (.int .i64 k.1) ∧ ∃ u, w.cell? ⟨b, j * 3 + 2, none⟩ = some u ∧ RdK encR 4 w B u r)
theorem RdP.below {w w' : World} {B : Nat} {v : Value} {R : List (Ky × List R4)} (h : RdP w B v R) (hb : Below B w w') : RdP w' B v R := by
  obtain ⟨A, c, hv, h⟩ := h
  refine ⟨A, c, hv, fun hne => ?_⟩
  obtain ⟨b, h1, h2, h3⟩ := h hne
  refine ⟨b, h1, h2, fun j k r hj => ?_⟩
  obtain ⟨q1, q2, u, q3, q4⟩ := h3 j k r hj
  exact ⟨(hb.cell (p := ⟨b, _, none⟩) h2).trans q1, (hb.cell (p := ⟨b, _, none⟩) h2).trans q2, u, (hb.cell (p := ⟨b, _, none⟩) h2).trans q3, q4.below hb⟩
theorem RdP.mono {w : World} {B B' : Nat} {v : Value} {R : List (Ky × List R4)} (h : RdP w B v R) (hB : B ≤ B') : RdP w B' v R := by
  obtain ⟨A, c, hv, h⟩ := h
  refine ⟨A, c, hv, fun hne => ?_⟩
  obtain ⟨b, h1, h2, h3⟩ := h hne
  refine ⟨b, h1, by omega, fun j k r hj => ?_⟩
  obtain ⟨q1, q2, u, q3, q4⟩ := h3 j k r hj
  exact ⟨q1, q2, u, q3, q4.mono hB⟩
theorem pcs_rd {B : Nat} {x : List (Ky × List R4) × Int} {e : Ending} {w' : World} (h : PcsRet B x e w') : ∃ v, e = .returned (.tuple #[v, .int .i64 x.2]) ∧ RdP w' w'.heap.size v x.1 := by
  obtain ⟨A, c, L, he, h0, h1, h2⟩ := h
  refine ⟨_, he, A, c, rfl, fun hne => ?_⟩
  have hn : 0 < x.1.length := List.length_pos_iff.2 hne
  obtain ⟨g, cap, hv, h3, h4⟩ := h1.form hn
  injection hv with e1 _ e3
  subst e1; subst e3
  refine ⟨g, rfl, h4, fun j k r hj => ?_⟩
  obtain ⟨u, h5, h6⟩ := h2 j k r hj
  have cl : ∀ (i : Nat) (v : Value), (encP (k, u))[i]? = some v → w'.cell? ⟨g, j * 3 + i, none⟩ = some v := fun i v hv => by
    have := (h1.cells (g := g) (by rfl)) _ _ (flat_get (k := 3) (fun _ => rfl) L j (k, u) i v h5 hv)
    rwa [addr_add] at this
  exact ⟨cl 0 _ rfl, cl 1 _ rfl, u, cl 2 _ rfl, own_rd h6 (fun _ => rfl)⟩
set_option maxRecDepth 100000 in
set_option maxHeartbeats 4000000 in
theorem rSameT {w : World} {va vb : Value} {R : List (Ky × List R4)} (ha : RdP w w.heap.size va R) (hb : RdP w w.heap.size vb R) (hl : R.length ≤ 400) (hj : ∀ q ∈ R, q.2.length ≤ 400) :
    Calls Tryz.prog 11 #[va, vb] w fun e w' => e = .returned (.bool true) ∧ Below w.heap.size w w' := by
  obtain ⟨A1, c1, rfl, h1⟩ := ha
  obtain ⟨A2, c2, rfl, h2⟩ := hb
  have H1 := hide h1
  have H2 := hide h2
  have HJ := hide hj
  clear h1 h2 hj
  go_enter Tryz.func11, Tryz.ntmps11
  go_wp2
  go_loopw [5] (fun i wr => ∃ m : Nat, m ≤ R.length ∧ i = .int .i64 (m : Int) ∧ Hid (Below w.heap.size w wr)) (fun i _ => R.length - (intOf i).toNat)
  case atStart => exact ⟨0, Nat.zero_le _, rfl, hide (Below.refl _ _)⟩
  case round =>
    obtain ⟨m, hm, rfl, HB⟩ := hrel
    by_cases hlt : m < R.length
    · obtain ⟨⟨⟨row, col⟩, J⟩, hk⟩ : ∃ q, R[m]? = some q := ⟨_, List.getElem?_eq_getElem hlt⟩
      have hne : R ≠ [] := by intro e; rw [e] at hlt; simp at hlt
      obtain ⟨g1, rfl, hg1, k1⟩ := H1.out hne
      obtain ⟨g2, rfl, hg2, k2⟩ := H2.out hne
      obtain ⟨a0, a1, u1, a2, r1⟩ := k1 m _ _ hk
      obtain ⟨b0, b1, u2, b2, r2⟩ := k2 m _ _ hk
      have hJl := HJ.out _ (List.mem_of_getElem? hk)
      have hls := HB.out.size
      have a0 : wr.cell? ⟨g1, m * 3, none⟩ = some (.int .i64 col) := (HB.out.cell (p := ⟨g1, _, none⟩) hg1).trans a0
      have a1 : wr.cell? ⟨g1, m * 3 + 1, none⟩ = some (.int .i64 row) := (HB.out.cell (p := ⟨g1, _, none⟩) hg1).trans a1
      have a2 : wr.cell? ⟨g1, m * 3 + 2, none⟩ = some u1 := (HB.out.cell (p := ⟨g1, _, none⟩) hg1).trans a2
      have b0 : wr.cell? ⟨g2, m * 3, none⟩ = some (.int .i64 col) := (HB.out.cell (p := ⟨g2, _, none⟩) hg2).trans b0
      have b1 : wr.cell? ⟨g2, m * 3 + 1, none⟩ = some (.int .i64 row) := (HB.out.cell (p := ⟨g2, _, none⟩) hg2).trans b1
      have b2 : wr.cell? ⟨g2, m * 3 + 2, none⟩ = some u2 := (HB.out.cell (p := ⟨g2, _, none⟩) hg2).trans b2
      have HSS : Hid (∀ y : Above wr, Calls Tryz.prog 21 #[u1, u2] y.get fun e w'' => e = .returned (.bool true) ∧ ∃ z : Above wr, w'' = z.get) := hide (fun y => above_of (rSameSelf (((r1.below HB.out).mono HB.out.size).below y.keeps |>.mono y.keeps.size) (((r2.below HB.out).mono HB.out.size).below y.keeps |>.mono y.keeps.size) (by simp only at hJl; omega)))
      have mz : (m : Int) < (R.length : Int) := by omega
      have hg1r : g1 < wr.heap.size := by omega
      have hg2r : g2 < wr.heap.size := by omega
      clear hk k1 k2 r1 r2 hne hJl
      go_upto_region 6 with fail
      refine wp_hab fun hab => ?_
      refine wp_region_above (by kernel_rfl) (by kernel_rfl) ?_
      repeat (go_big_quiet_step ((go_at_call 21; exact HSS.out _)))
      refine wpQuiet_nil ?_
      refine above_ends fun w3 hb3 => ?_
      clear hab
      have HB3 := hide (HB.out.trans (hb3.mono HB.out.size))
      clear hb3 a0 a1 a2 b0 b1 b2
      go_wp2
      go_roundw
      case rel => exact ⟨m + 1, by omega, by go_num, HB3⟩
      case measure => simp [intOf]; omega
    · obtain rfl : m = R.length := by omega
      have mz : ¬ (R.length : Int) < (R.length : Int) := by omega
      go_wp2
      go_ret
      exact ⟨rfl, HB.out⟩
end Go.Proofs.YtlkaniojnaaocaaGreat

/- texture.Tile. -/
namespace Go.Proofs.YtlkaniojnaaocaaGreat
open Go.RowKit
set_option linter.unusedVariables false
set_option linter.unusedSimpArgs false
attribute [local go_sem] Oper.semAt_some

/-- A frame's slots. -/
def frm (t : Array Value) (i : Nat) : Value := t.getD i undef
set_option maxRecDepth 100000 in
set_option maxHeartbeats 4000000 in
theorem tile_any {w : World} {v : Value} {l : List R4} (hr : RdK encR 4 w w.heap.size v l) (hl : l.length ≤ 100000000) (W H S : Int) :
    Calls Tryz.prog 16 #[v, .agg #[.int .i64 W, .int .i64 H, .int .i64 S]] w fun e w' => PcsRet w.heap.size (tileF W H S l) e w' ∧ Below w.heap.size w w' := by
  obtain ⟨A0, c0, hv, hc⟩ := id hr
  subst hv
  have HR := hide hr
  have HRC := hide hc
  clear hr hc
  have HCK := hide (fun (wi : World) (hb : Below w.heap.size w wi) => check_any (w := wi) ((HR.out.below hb).mono hb.size) hl)
  refine (callsIn_wide (n := 0)).1 ?_
  refine callsIn_of_wp_marks Tryz.func16 rfl trivial ?_
  simp only [Tryz.ntmps16, List.size_toArray, List.length_cons, List.length_nil, Nat.reduceAdd, Nat.reduceSub, Array.replicate_succ, Array.replicate_zero, List.push_toArray, List.append_toArray, List.nil_append, List.cons_append]
  refine wpIn_wide.2 ?_
  have hT0 := hide (T0.start w W H S)
  by_cases h0 : checkF l = 0
  · rw [h0] at HCK
    by_cases hp : okPat W H S
    · have hpc := fun wi => pat_any W H S wi
      rw [chk_ok hp] at hpc
      have HPC := hide hpc
      clear hpc
      have hF : Hid (tileF W H S l = if 400 < (keysT W H S l).length then ([], 4) else ((keysT W H S l).map fun k => (k, pieceR W H S l k), 0)) := hide (by unfold tileF; rw [if_pos h0, if_pos hp])
      have hmm := @run_makeMap Tryz.prog
      go_wp2_with (first
        | (go_at_call 36; refine (HCK.out _ hT0.out.low).mono ?_; rintro e w1 ⟨rfl, hb1⟩; have HT1 := hide (hT0.out.below hb1); have p0 := HT1.out.p0; have p1 := HT1.out.p1; have p2 := HT1.out.p2; clear hb1)
        | (go_at_call 12; refine (HPC.out _).mono ?_; rintro e w2 ⟨rfl, hb2⟩; have HT2 := hide (HT1.out.below hb2); clear hb2 p0 p1 p2))
      have HTB := hide HT2.out.map
      have HTK := hide (TK.start w2 0 0 (fun _ => []) (fun _ => .slice none 0 0) 73 74)
      obtain ⟨bM, hbM⟩ : ∃ bM, bM = w2.heap.size := ⟨_, rfl⟩
      rw [← hbM] at HTB HTK ⊢
      refine wp_name fun w3 hw3 => ?_
      rw [← hw3] at HTB HTK
      have HTO : Hid (TO w W H S bM l 0 [] w3) := hide ⟨HTB.out, ⟨_, _, _, HTK.out.same (fun k => by simp [prt])⟩, ⟨by simp, fun D hD => (List.not_mem_nil hD).elim⟩, by simp [doneK, allK, onceK]⟩
      have HV : Hid (∀ r ∈ l, valid4 r) := hide (checkF_ok h0).2.1
      have hn4 : l.length ≤ 400 := (checkF_ok h0).1
      have HC0 := hide h0
      clear hw3 hbM HTB HTK HT1 HT2 hT0 HCK HPC hmm h0
      refine (wpIn_wide (n := 0)).1 ?_
      refine wpIn_loop (fun a w' => ∃ (m : Nat) (ms : List Nat), a = { tmps := #[.slice A0 l.length c0, frm a.tmps 1, frm a.tmps 2, .pointer (some ⟨w.heap.size, 0, none⟩), .pointer (some ⟨w.heap.size + 1, 0, none⟩), .pointer (some ⟨w.heap.size + 2, 0, none⟩), frm a.tmps 6, frm a.tmps 7, .pointer (some ⟨bM + 1, 0, none⟩), .pointer (some ⟨bM + 2, 0, none⟩), frm a.tmps 10, frm a.tmps 11, frm a.tmps 12, frm a.tmps 13, frm a.tmps 14, frm a.tmps 15, frm a.tmps 16, frm a.tmps 17, frm a.tmps 18, frm a.tmps 19, frm a.tmps 20, frm a.tmps 21, frm a.tmps 22, frm a.tmps 23, frm a.tmps 24, frm a.tmps 25, frm a.tmps 26, frm a.tmps 27, frm a.tmps 28, frm a.tmps 29, frm a.tmps 30, frm a.tmps 31, .slice A0 l.length c0, .int .i64 (l.length : Int), .int .i64 (m : Int), frm a.tmps 35, frm a.tmps 36, frm a.tmps 37, frm a.tmps 38, frm a.tmps 39, frm a.tmps 40, frm a.tmps 41, frm a.tmps 42, frm a.tmps 43, frm a.tmps 44, frm a.tmps 45, frm a.tmps 46, frm a.tmps 47, frm a.tmps 48, frm a.tmps 49, frm a.tmps 50, frm a.tmps 51, frm a.tmps 52, frm a.tmps 53, frm a.tmps 54, frm a.tmps 55, frm a.tmps 56, frm a.tmps 57, frm a.tmps 58, frm a.tmps 59, frm a.tmps 60, frm a.tmps 61, frm a.tmps 62, frm a.tmps 63, frm a.tmps 64, frm a.tmps 65, frm a.tmps 66, frm a.tmps 67, frm a.tmps 68, frm a.tmps 69, frm a.tmps 70, frm a.tmps 71, frm a.tmps 72, frm a.tmps 73, frm a.tmps 74, frm a.tmps 75, frm a.tmps 76, frm a.tmps 77, frm a.tmps 78, frm a.tmps 79, frm a.tmps 80, frm a.tmps 81, frm a.tmps 82, frm a.tmps 83, frm a.tmps 84, frm a.tmps 85, frm a.tmps 86, frm a.tmps 87, frm a.tmps 88, frm a.tmps 89, frm a.tmps 90, frm a.tmps 91, frm a.tmps 92, frm a.tmps 93, frm a.tmps 94, frm a.tmps 95, frm a.tmps 96, frm a.tmps 97, frm a.tmps 98, frm a.tmps 99, frm a.tmps 100, frm a.tmps 101, frm a.tmps 102, frm a.tmps 103, frm a.tmps 104, frm a.tmps 105, frm a.tmps 106, frm a.tmps 107, frm a.tmps 108, frm a.tmps 109, frm a.tmps 110, frm a.tmps 111, frm a.tmps 112, frm a.tmps 113, frm a.tmps 114, frm a.tmps 115, frm a.tmps 116, frm a.tmps 117], defers := ms.map mark } ∧ m ≤ l.length ∧ Hid (TO w W H S bM l m ms w')) (fun a _ => l.length - (intOf (a.tmps.getD 34 undef)).toNat) ?_ ?_
      · exact ⟨0, [], rfl, Nat.zero_le _, HTO⟩
      rintro a wr ⟨m, ms, ha, hm, HTO2⟩
      generalize frm a.tmps = f at ha
      subst ha
      clear HTO
      by_cases hlt : m < l.length
      · have mz : (m : Int) < (l.length : Int) := by omega
        obtain ⟨⟨q0, q1, q2, q3⟩, hp4⟩ : ∃ p, l[m]? = some p := ⟨_, List.getElem?_eq_getElem hlt⟩
        obtain ⟨b, o, rfl, hbl, k⟩ := HRC.out (by intro e; rw [e] at hlt; simp at hlt)
        have HTB := hide HTO2.out.tb
        have hlow := HTB.out.low
        obtain ⟨d0, d1, d2, d3⟩ := rects4_at k (fun q => hlow.cell (p := ⟨b, q, none⟩) hbl) hp4
        have p0 := HTB.out.p0
        have p1 := HTB.out.p1
        have p2 := HTB.out.p2
        have htop := HTB.out.top
        have hbb := HTB.out.hb
        have hbw : b < wr.heap.size := by have := hlow.size; omega
        have hww : w.heap.size < wr.heap.size := by omega
        have HP4 := hide hp4
        clear k hlow hp4
        gi_wp2_with (first
          | (refine ⟨trivial, rfl, ?_⟩)
          | (gi_at_call 37; refine (callsIn_wide.2 (bricks_any W H S q0 q1 q2 q3 _)).mono ?_; rintro e wb ⟨rfl, hb1, hs1, hR1, hP1⟩))
        have hbx : Below wr.heap.size wr wb := ((Below.refl _ _).alloc (Nat.le_refl _) _).trans (hb1.mono (by simp))
        have hsx : wb.heap.size = wr.heap.size + 3 := by rw [hs1]; simp
        simp only [World.size_alloc] at hR1 hP1
        obtain ⟨rr0, rr1, rr2, rr3⟩ := hR1
        obtain ⟨pp0, pp1, pp2⟩ := hP1
        have hvq := HV.out _ (List.mem_of_getElem? HP4.out)
        have hit := bricksIt W H S q0 q1 q2 q3 (wr.heap.size + 1 + 1) (wr.heap.size + 1) wr.heap.size (wr.heap.size + 3) wb hp hvq (by omega) (by omega) (by omega) (by omega) (by omega) rr0 rr1 rr2 rr3 pp0 pp1 pp2
        have t0 : wb.cell? ⟨wr.heap.size, 0, none⟩ = some (.int .i64 q0) := (hb1.cell (p := ⟨wr.heap.size, 0, none⟩) (by simp)).trans (by simp [go_sem])
        have t1 : wb.cell? ⟨wr.heap.size, 1, none⟩ = some (.int .i64 q1) := (hb1.cell (p := ⟨wr.heap.size, 1, none⟩) (by simp)).trans (by simp [go_sem])
        have t2 : wb.cell? ⟨wr.heap.size, 2, none⟩ = some (.int .i64 q2) := (hb1.cell (p := ⟨wr.heap.size, 2, none⟩) (by simp)).trans (by simp [go_sem])
        have t3 : wb.cell? ⟨wr.heap.size, 3, none⟩ = some (.int .i64 q3) := (hb1.cell (p := ⟨wr.heap.size, 3, none⟩) (by simp)).trans (by simp [go_sem])
        have HTI := hide (HTO2.out.begin ⟨q0, q1, q2, q3⟩ hbx hsx)
        have HVQ := hide hvq
        have HT0 := hide t0
        have HT1 := hide t1
        have HT2 := hide t2
        have HT3 := hide t3
        clear hb1 hs1 rr0 rr1 rr2 rr3 pp0 pp1 pp2 hvq d0 d1 d2 d3 p0 p1 p2 t0 t1 t2 t3 hbx HTB
        refine wp_range rfl (enters_of Tryz.func62 (by kernel_rfl) rfl) hit (Below.refl _ _) (fun x args A hx => by rw [show args = _ from hx]; rfl) KpT.trans ?_
          (fun pre A => TI w W H S bM wr.heap.size (wr.heap.size + 3) l m ⟨q0, q1, q2, q3⟩ ms pre A ∧ KpT wr.heap.size (wr.heap.size + 3) wb A) (TX w W H S bM wr.heap.size (wr.heap.size + 3) l m ms)
          (fun pre A B h hb => ⟨h.1.below hb, h.2.trans (KpT.below h.1.top hb)⟩) (fun pre A l' o o' h hw hl ho ho' => ⟨h.1.putObj (by omega) hl ho, h.2.trans ⟨by simp, fun b h1 h2 => World.putObj_heap_other (by omega)⟩⟩)
          (fun pre A l' o o' h hw hl ho ho' => h.putObj (by omega) hl ho) ⟨HTI.out, Nat.le_refl _, fun _ _ _ => rfl⟩ ?_ ?_ ?_
        · intro A l' o o' hw h1 h2 h3
          exact ⟨by simp, fun b hb1 hb2 => World.putObj_heap_other (by omega)⟩
        · rintro l2 pre ⟨row, col⟩ args A ⟨hTI, hKA⟩ ⟨post, hpost⟩ hok hl1 ⟨ol, hl2, hl3⟩
          obtain rfl : args = #[.int .i64 col, .int .i64 row] := hok
          have hmem : (row, col) ∈ keysR W H S ⟨q0, q1, q2, q3⟩ := by rw [hpost]; simp
          obtain ⟨⟨k1, k2⟩, k3, k4⟩ := kbd hp HVQ.out hmem
          have HNK : Hid ((row, col) ∉ pre) := hide (fun h => by
            have hs := keysR_nodup W H S ⟨q0, q1, q2, q3⟩
            rw [hpost] at hs
            exact klt_irr _ ((List.pairwise_append.1 hs).2.2 _ h _ (by simp)))
          have HPO := hide hpost
          have hbr := fun wi => brick_any W H S col row wi hp k3 k4 k1 k2
          have HTA := hide hTI
          have HKA := hide hKA
          have HL2 := hide hl2
          clear hit hTI hKA hpost hmem hl2
          simp only at k1 k2 k3 k4
          gi_wp2
          refine ⟨KeepsFrom.of_below' (Below.refl _ _), KpT.below HTA.out.top (Below.refl _ _), ?_⟩
          intro A2 g2 s2 e2 f2
          have HT2' := hide (HTA.out.grown g2 (by omega) HL2.out hl3)
          have HK2 : Hid (KpT wr.heap.size (wr.heap.size + 3) wb A2) := hide (HKA.out.trans (KpT.step HTA.out.top g2 (fun q hq => by injection hq; omega)))
          have hA2 := HT2'.out.top
          have p0 := HT2'.out.tb.p0
          have p1 := HT2'.out.tb.p1
          have p2 := HT2'.out.tb.p2
          clear g2 s2 e2 f2 HTA HKA HL2
          gi_upto_region 17 with (first
            | (refine ⟨trivial, rfl, ?_⟩)
            | (gi_at_call 35; refine (CallsIn.inRound l2 (callsIn_wide.2 (hbr _))).mono ?_; rintro e' A3 ⟨rfl, hb3⟩))
          refine wpIn_name fun A5 hA5 => ?_
          have hs3 := hb3.size
          have hb5 : Below A2.heap.size A2 A5 := by rw [hA5]; exact ((hb3.alloc hb3.size _).alloc (by simp; omega) _)
          have hs5 : A5.heap.size = A3.heap.size + 2 := by rw [hA5]; simp
          have y0 : A5.cell? ⟨A3.heap.size, 0, none⟩ = some (.int .i64 (brX W H S col row)) := by rw [hA5]; simp [go_sem]
          have y1 : A5.cell? ⟨A3.heap.size, 1, none⟩ = some (.int .i64 (row * H)) := by rw [hA5]; simp [go_sem]
          have y2 : A5.cell? ⟨A3.heap.size, 2, none⟩ = some (.int .i64 (brX W H S col row + W)) := by rw [hA5]; simp [go_sem]
          have y3 : A5.cell? ⟨A3.heap.size, 3, none⟩ = some (.int .i64 ((row + 1) * H)) := by rw [hA5]; simp [go_sem]
          have z0 : A5.cell? ⟨A3.heap.size + 1, 0, none⟩ = some (.int .i64 row) := by rw [hA5]; simp [go_sem]
          have z1 : A5.cell? ⟨A3.heap.size + 1, 1, none⟩ = some (.int .i64 col) := by rw [hA5]; simp [go_sem]
          have HT5 := hide (HT2'.out.below hb5)
          have HK5 := hide (HK2.out.trans (KpT.below hA2 hb5))
          have HKF : Hid (KeepsFrom (wr.heap.size + 3) A2 A5 ∧ KpT wr.heap.size (wr.heap.size + 3) A2 A5) := hide ⟨KeepsFrom.of_below' hb5, KpT.below hA2 hb5⟩
          obtain ⟨vals, Ak, ck, hTK2⟩ := HT2'.out.tk
          have hTK := hTK2.below hb5
          have HKLT : Hid (∀ q, (Value.slice Ak (onceK (doneK W H S l m pre)).length ck).ownBlock = some q → q < A3.heap.size) := hide (fun q hq => Nat.lt_of_lt_of_le (hTK2.own.lt q hq).2 hs3)
          clear hA5 hb5 hb3 p0 p1 p2 hbr HT2' HK2 hTK2
          have HPN : Hid (∀ k', partK W H S l m ⟨q0, q1, q2, q3⟩ (pre ++ [(row, col)]) k' = partK W H S l m ⟨q0, q1, q2, q3⟩ pre k' ++ if k' = (row, col) then [meet4 (brR W H S (row, col)) ⟨q0, q1, q2, q3⟩] else []) := hide (partK_push W H S l m _ HNK.out)
          have HKN : Hid (onceK (doneK W H S l m (pre ++ [(row, col)])) = addK (onceK (doneK W H S l m pre)) (row, col)) := hide (doneK_snoc W H S l m pre _)
          have HP0 : Hid ((row, col) ∉ onceK (doneK W H S l m pre) → partK W H S l m ⟨q0, q1, q2, q3⟩ pre (row, col) = []) := hide (fun h => by
            by_cases e : partK W H S l m ⟨q0, q1, q2, q3⟩ pre (row, col) = []
            · exact e
            · exact absurd (((onceK_ok _).2 _).2 (mem_doneK.2 e)) h)
          have hpl := partK_len W H S l m ⟨q0, q1, q2, q3⟩ pre (row, col)
          have hkl := HT5.out.ln
          have HMY := hide (doneK_prefix W H S HP4.out HPO.out)
          rw [HKN.out] at HMY
          have c8 := HT5.out.tb.c8
          have htb5 := HT5.out.tb.top
          have hbl5 := HT5.out.bl
          have hkk : kin (row, col) := ⟨by simp only; omega, by simp only; omega, by simp only; omega, by simp only; omega⟩
          generalize onceK (doneK W H S l m pre) = K at *
          generalize partK W H S l m ⟨q0, q1, q2, q3⟩ pre = p at *
          have HTK := hide hTK
          have HMK := hide HT5.out.mks
          have HTB5 := hide HT5.out.tb
          clear hTK
          have hbM5 : bM + 1 < A5.heap.size := by omega
          by_cases hk : (row, col) ∈ K
          · obtain ⟨g, c, hvl, hgap, hrow⟩ := HTK.out.gs.vs _ hk
            have hgv : gv K vals (row, col) = .slice (some ⟨g, 0, none⟩) (p (row, col)).length c := by simp [gv, hk, hvl]
            have HGV := hide hgv
            rw [hvl] at hrow
            have HROW := hide hrow
            have HKE : Hid (K = addK K (row, col)) := hide (if_pos hk).symm
            have HLN : Hid ((addK K (row, col)).length ≤ 400) := hide (by rw [← HKE.out]; exact hkl)
            clear hvl hrow hgv hgap
            refine wpIn_region_plain_round (by kernel_rfl) (fun _ _ h => h) ?_
            have hno := nil_no
            go_wp2_with (refine wpList_look_grp rfl _ _ rfl rfl HTK.out.gs (row, col) rfl hkk _ HGV.out ?_)
            have c9 := HTK.out.cell
            have hkz : ¬ (400 : Int) < (K.length : Int) := by omega
            clear hno
            gi_upto_region 21 with fail
            have hn5 : wr.heap.size + 3 ≤ A5.heap.size := HT5.out.top
            have hz5 : A3.heap.size + 1 < A5.heap.size := by omega
            have HKW := HK5
            clear hs5
            have t0 : A5.cell? ⟨wr.heap.size, 0, none⟩ = some (.int .i64 q0) := (World.cell?_of_block (HKW.out.2 wr.heap.size (Nat.le_refl _) (Nat.lt_add_of_pos_right (by decide)))).trans HT0.out
            have t1 : A5.cell? ⟨wr.heap.size, 1, none⟩ = some (.int .i64 q1) := (World.cell?_of_block (HKW.out.2 wr.heap.size (Nat.le_refl _) (Nat.lt_add_of_pos_right (by decide)))).trans HT1.out
            have t2 : A5.cell? ⟨wr.heap.size, 2, none⟩ = some (.int .i64 q2) := (World.cell?_of_block (HKW.out.2 wr.heap.size (Nat.le_refl _) (Nat.lt_add_of_pos_right (by decide)))).trans HT2.out
            have t3 : A5.cell? ⟨wr.heap.size, 3, none⟩ = some (.int .i64 q3) := (World.cell?_of_block (HKW.out.2 wr.heap.size (Nat.le_refl _) (Nat.lt_add_of_pos_right (by decide)))).trans HT3.out
            have hmx := @run_max2 Tryz.prog
            have hmn := @run_min2 Tryz.prog
            obtain ⟨i3, ki, kz0, kz1, kz2⟩ := info_parts infoRc
            have HX9 : Hid ((p (row, col)).flatMap encR ++ [.int .i64 (max (brX W H S col row) q0), .int .i64 (max (row * H) q1), .int .i64 (min (brX W H S col row + W) q2), .int .i64 (min ((row + 1) * H) q3)] = (p (row, col) ++ [meet4 (brR W H S (row, col)) ⟨q0, q1, q2, q3⟩]).flatMap encR) := hide (by simp [encR, meet4, brR])
            have HGB : Hid (∀ q, (Value.slice (some ⟨g, 0, none⟩) (p (row, col)).length c).ownBlock = some q → bM + 3 ≤ q ∧ q < A5.heap.size ∧ (q < wr.heap.size ∨ wr.heap.size + 3 ≤ q)) := hide (fun q hq => by
              have h9 := HTK.out.gvne (row, col) (by rw [HGV.out]; exact hq)
              exact ⟨h9.1, h9.2.1, h9.2.2.1⟩)
            have HRF : Hid (∀ (o : Obj) (wE : World), (A5.alloc o).grownBy wE (some bM) → wE.ownsRow (bM + 3) 42 4 (Value.slice (some ⟨g, 0, none⟩) (p (row, col)).length c) (p (row, col)).length ((p (row, col)).flatMap encR)) := hide (fun o wE gE =>
              (World.ownsRow.alloc HROW.out o).kept gE (.inr (fun e => by
                have h9 := (HGB.out bM e).1
                omega)))
            have HNF : Hid (∀ (wE : World), (A5.alloc (.cells #[.int .i64 (max (brX W H S col row) q0), .int .i64 (max (row * H) q1), .int .i64 (min (brX W H S col row + W) q2), .int .i64 (min ((row + 1) * H) q3)] 42)).grownBy wE (some bM) → ∀ j u, ([.int .i64 (max (brX W H S col row) q0), .int .i64 (max (row * H) q1), .int .i64 (min (brX W H S col row + W) q2), .int .i64 (min ((row + 1) * H) q3)] : List Value)[j]? = some u → wE.cell? ((⟨A5.heap.size, 0, none⟩ : Addr).add j) = some u) := hide (fun wE gE j u hj => by
              have h9 := news_new A5 [.int .i64 (max (brX W H S col row) q0), .int .i64 (max (row * H) q1), .int .i64 (min (brX W H S col row + W) q2), .int .i64 (min ((row + 1) * H) q3)] 42 A5.heap.size rfl j u hj
              rw [addr_add] at h9 ⊢
              exact World.grownBy.cell gE (a := ⟨A5.heap.size, j, none⟩) h9 (fun e => by
                have e9 : A5.heap.size = bM := by injection e
                omega))
            have HSF : Hid (∀ (o : Obj) (wE : World), wE.heap.size = (A5.alloc o).heap.size → A5.heap.size < wE.heap.size) := hide (fun o wE sE => by rw [sE]; simp)
            refine wpIn_region_plain_round (by kernel_rfl) (fun _ _ h => h) ?_
            go_wp2_with (first
              | (refine wpList_entry_grp rfl _ _ rfl rfl (HTK.out.gs.below ((Below.refl _ _).alloc (Nat.le_refl _) _)) (row, col) rfl hkk (by unfold maxLen; omega) HP0.out (by simp; omega) _ HGV.out ?_
                 intro st wE gE sE mE
                 have HROWE := hide (HRF.out _ _ gE)
                 have HNWE := hide (HNF.out _ gE)
                 have hE5 : A5.heap.size < wE.heap.size := HSF.out _ _ sE
                 have HGE := hide gE
                 have HSE := hide sE
                 have HME := hide mE
                 clear gE sE mE)
              | (at_builtin; refine wpList_append_lies _ rfl (.tmp 63) (.tmp 85) 46 rfl (bM + 3) 42 i3 (.agg #[.int .i64 0, .int .i64 0, .int .i64 0, .int .i64 0]) 4 32 Tryz.underlying46 ki kz0 kz1 kz2 rfl (by decide) _ (p (row, col)).length _ rfl HROWE.out ⟨A5.heap.size, 0, none⟩ 1 1 [.int .i64 (max (brX W H S col row) q0), .int .i64 (max (row * H) q1), .int .i64 (min (brX W H S col row + W) q2), .int .i64 (min ((row + 1) * H) q3)] rfl rfl HNWE.out (ints_one rfl) (by omega) (by unfold maxLen; omega) (by omega) (by omega) _ rfl ?_
                 intro g9 cap9 w9 hown9 hgrow9 hor9 hlt9
                 rw [HX9.out] at hown9
                 have HO9 := hide hown9
                 have HGR9 : Hid (wE.grownBy w9 (gv K vals (row, col)).ownBlock) := hide (by rw [HGV.out]; exact hgrow9)
                 have HLOC : Hid ((gv K vals (row, col)).ownBlock = some g9 ∨ wE.heap.size ≤ g9) := hide (by rw [HGV.out]; rcases hor9 with h | h; exact .inl h; exact .inr (by omega))
                 have HGAP : Hid (g9 < wr.heap.size ∨ wr.heap.size + 3 ≤ g9) := hide (by
                   rcases hor9 with h | h
                   · exact (HGB.out g9 h).2.2
                   · exact .inr (by omega))
                 clear hown9 hgrow9 hor9 hlt9)
              | (refine wpList_store_grp rfl _ _ _ rfl HME.out rfl rfl (meet4 (brR W H S (row, col)) ⟨q0, q1, q2, q3⟩) g9 cap9 rfl HGR9.out HLOC.out HGAP.out HO9.out ?_
                 intro w3 g3 gs3))
            obtain ⟨b1, b2, b3, b4, b5, b6⟩ := TI.store HTB5.out HTK.out HMK.out hbl5 (by omega) hn5 ((Below.refl _ _).alloc (Nat.le_refl _) _) HGE.out HSE.out HGR9.out g3 HLOC.out (fun k' => rfl) gs3
            have b2' := (b2.keys HKE.out).same (q := partK W H S l m ⟨q0, q1, q2, q3⟩ (pre ++ [(row, col)])) (fun k' => (HPN.out k').symm)
            rw [← HKN.out] at b2'
            exact ⟨HKF.out.1.trans b5, HKF.out.2.trans b4, ⟨b1, ⟨_, _, _, b2'⟩, b3, by rw [HKN.out]; exact HLN.out, b6, HT5.out.lt, HT5.out.bl, HT5.out.nn⟩, HKW.out.trans b4⟩
          · have hgv : gv K vals (row, col) = .slice none 0 0 := by simp [gv, hk]
            have HGV := hide hgv
            have HROW0 : Hid (p (row, col) = []) := hide (HP0.out hk)
            have HKE : Hid (K ++ [(row, col)] = addK K (row, col)) := hide (if_neg hk).symm
            clear hgv
            refine wpIn_region_plain_round (by kernel_rfl) (fun _ _ h => h) ?_
            have hny := nil_yes
            go_wp2_with (refine wpList_look_grp rfl _ _ rfl rfl HTK.out.gs (row, col) rfl hkk _ HGV.out ?_)
            clear hny
            have c9 := HTK.out.cell
            have hz5 : A3.heap.size + 1 < A5.heap.size := by omega
            have hn50 : wr.heap.size + 3 ≤ A5.heap.size := HT5.out.top
            clear hs5
            gi_upto_region 18 with fail
            obtain ⟨i1, gi, gz0, gz1, gz2⟩ := info_parts infoKy
            have HTKa := hide (HTK.out.below ((Below.refl _ _).alloc (Nat.le_refl _) (.cells #[.int .i64 row, .int .i64 col] 77)))
            have HTBa := hide (HTB5.out.below ((Below.refl _ _).alloc (Nat.le_refl _) (.cells #[.int .i64 row, .int .i64 col] 77)))
            have HMKa := hide (HMK.out.below ((Below.refl _ _).alloc (Nat.le_refl _) (.cells #[.int .i64 row, .int .i64 col] 77)))
            refine wpIn_region_plain_round (by kernel_rfl) (fun _ _ h => h) ?_
            go_wp2_with (at_builtin; go_loud (refine wpList_append_lies _ rfl (.tmp 54) (.tmp 56) 74 rfl (bM + 3) 77 i1 (.agg #[.int .i64 0, .int .i64 0]) 2 16 Tryz.underlying74 gi gz0 gz1 gz2 rfl (by decide) _ K.length _ rfl HTKa.out.own ⟨A5.heap.size, 0, none⟩ 1 1 [.int .i64 row, .int .i64 col] rfl rfl (news_new A5 _ _ _ rfl) (ints_one rfl) (by omega) (by unfold maxLen; omega) (by omega) (by simp; omega) _ rfl ?_))
            intro g9 cap9 w9 hown9 hgrow9 hor9 hlt9
            have hx9 : K.flatMap encK ++ [.int .i64 row, .int .i64 col] = (K ++ [(row, col)]).flatMap encK := by simp [encK]
            rw [hx9] at hown9
            have hrw9 : ∀ q, (Value.slice Ak K.length ck).ownBlock = some q → bM + 3 ≤ q ∧ q < A3.heap.size ∧ (q < wr.heap.size ∨ wr.heap.size + 3 ≤ q) := fun q hq => ⟨(HTK.out.own.lt q hq).1, HKLT.out q hq, HTK.out.gap q hq⟩
            obtain ⟨c90, hTK8⟩ := HTKa.out.pushKey (k := (row, col)) (g := g9) (c := cap9) hgrow9 (by rcases hor9 with h | h; exact .inl h; exact .inr (by simp; omega)) hown9 (by simp; omega) (by simp; omega)
            have hTB9 := HTBa.out.step hgrow9 (fun q hq => .inr (hrw9 q hq).1)
            have f9 := hTB9.f9
            have hMK9 := HMKa.out.row HTKa.out.own hgrow9
            have hMK8 := hMK9.step (grown_setCell w9 (bM + 2) 0 (.slice (some ⟨g9, 0, none⟩) (K.length + 1) cap9)) (fun q hq => .inl (by injection hq; omega))
            have hTB8 := hTB9.setKeys (.slice (some ⟨g9, 0, none⟩) (K.length + 1) cap9)
            have hba : Below A5.heap.size A5 (A5.alloc (.cells #[.int .i64 row, .int .i64 col] 77)) := (Below.refl _ _).alloc (Nat.le_refl _) _
            have hK8 : KpT wr.heap.size (wr.heap.size + 3) A5 (w9.setCell ⟨bM + 2, 0, none⟩ (.slice (some ⟨g9, 0, none⟩) (K.length + 1) cap9)) := ((KpT.below hn50 hba).trans (KpT.step (by simp; omega) hgrow9 (fun q hq => (hrw9 q hq).2.2))).trans (KpT.step (by have := hgrow9.size; simp at this; omega) (grown_setCell _ _ _ _) (fun q hq => by injection hq; omega))
            have hF8 : KeepsFrom (wr.heap.size + 3) A5 (w9.setCell ⟨bM + 2, 0, none⟩ (.slice (some ⟨g9, 0, none⟩) (K.length + 1) cap9)) := ((KeepsFrom.of_below' hba).trans (KeepsFrom.step hgrow9 (fun q hq => .inr (row_cells HTKa.out.own hq)))).trans (KeepsFrom.step (grown_setCell _ _ _ _) (fun q hq => .inl (by injection hq; omega)))
            have hcl : ∀ X o u, X = A3.heap.size ∨ X = A3.heap.size + 1 → A5.cell? ⟨X, o, none⟩ = some u → (w9.setCell ⟨bM + 2, 0, none⟩ (.slice (some ⟨g9, 0, none⟩) (K.length + 1) cap9)).cell? ⟨X, o, none⟩ = some u := fun X o u hX e => by
              have h1 := World.grownBy.cell hgrow9 (a := ⟨X, o, none⟩) ((World.cell?_alloc_lt A5 _ ⟨X, o, none⟩ (by show X < _; omega)).trans e) (fun e9 => by
                have h9 : X < A3.heap.size := (hrw9 X e9.symm).2.1
                omega)
              exact World.grownBy.cell (grown_setCell w9 (bM + 2) 0 _) (a := ⟨X, o, none⟩) h1 (fun e9 => by
                have h9 : X = bM + 2 := by injection e9
                omega)
            have y0 := hcl _ _ _ (.inl rfl) y0
            have y1 := hcl _ _ _ (.inl rfl) y1
            have y2 := hcl _ _ _ (.inl rfl) y2
            have y3 := hcl _ _ _ (.inl rfl) y3
            have z0 := hcl _ _ _ (.inr rfl) z0
            have z1 := hcl _ _ _ (.inr rfl) z1
            clear hcl hba hown9 hgrow9 hor9 hx9 hrw9 hTB9 hMK9 HTKa HTBa HMKa
            go_wp2_with (fail)
            obtain ⟨A8, hA8⟩ : ∃ A8, A8 = w9.setCell ⟨bM + 2, 0, none⟩ (.slice (some ⟨g9, 0, none⟩) (K.length + 1) cap9) := ⟨_, rfl⟩
            rw [← hA8] at hTK8 hMK8 hTB8 hK8 hF8 y0 y1 y2 y3 z0 z1 ⊢
            have c9 : A8.cell? ⟨bM + 2, 0, none⟩ = some (.slice (some ⟨g9, 0, none⟩) (K.length + 1) cap9) := by have := hTK8.cell; simpa using this
            clear hA8 c90 f9 hlt9
            have HTK := hide hTK8
            have HTB5 := hide hTB8
            have HMK := hide hMK8
            have HKW := hide (HK5.out.trans hK8)
            have HKF := hide (And.intro (HKF.out.1.trans hF8) (HKF.out.2.trans hK8))
            have hn5 : wr.heap.size + 3 ≤ A8.heap.size := by have := hK8.1; omega
            have hz8 : A3.heap.size + 1 < A8.heap.size := by have := hK8.1; omega
            have c8 := HTB5.out.c8
            have hbM5 : bM + 1 < A8.heap.size := by omega
            clear hTK8 hTB8 hMK8 hK8 hF8
            by_cases h4 : 400 < K.length + 1
            · have hkz : (400 : Int) < (K.length : Int) + 1 := by omega
              obtain ⟨u4, e4⟩ := HTB5.out.c4
              obtain ⟨u5, e5⟩ := HTB5.out.c5
              have f4 := HTB5.out.f4
              have f5 := HTB5.out.f5
              have hb3 := HTB5.out.hb
              have hdis : w.heap.size + 1 ≠ w.heap.size + 2 := by omega
              gi_wp2
              obtain ⟨r1, r2, r3⟩ := HTB5.out.t0.ret (.slice none 0 0) (.int .i64 4)
              refine ⟨?_, r3, hb3, r1, r2, (HMK.out.step (grown_setCell A8 (w.heap.size + 1) 0 (.slice none 0 0)) (fun q hq => .inl (by injection hq; omega))).step (grown_setCell _ (w.heap.size + 2) 0 (.int .i64 4)) (fun q hq => .inl (by injection hq; omega)), HT5.out.lt, HT5.out.bl, HT5.out.nn, ?_⟩
              · rw [hsx]
                exact (HKF.out.1.trans (KeepsFrom.step (grown_setCell _ _ _ _) (fun q hq => .inl (by injection hq; omega)))).trans (KeepsFrom.step (grown_setCell _ _ _ _) (fun q hq => .inl (by injection hq; omega)))
              · have h9 := HMY.out
                rw [← HKE.out] at h9
                simp at h9
                omega
            · have hkz : ¬ (400 : Int) < (K.length : Int) + 1 := by omega
              have HLN : Hid ((addK K (row, col)).length ≤ 400) := hide (by rw [← HKE.out]; simp; omega)
              have HROW : Hid (A8.ownsRow (bM + 3) 42 4 (.slice none 0 0) (p (row, col)).length ((p (row, col)).flatMap encR)) := hide (by rw [HROW0.out]; exact World.ownsRow_nil _ _ _ _)
              gi_upto_region 21 with fail
              have t0 : A8.cell? ⟨wr.heap.size, 0, none⟩ = some (.int .i64 q0) := (World.cell?_of_block (HKW.out.2 wr.heap.size (Nat.le_refl _) (Nat.lt_add_of_pos_right (by decide)))).trans HT0.out
              have t1 : A8.cell? ⟨wr.heap.size, 1, none⟩ = some (.int .i64 q1) := (World.cell?_of_block (HKW.out.2 wr.heap.size (Nat.le_refl _) (Nat.lt_add_of_pos_right (by decide)))).trans HT1.out
              have t2 : A8.cell? ⟨wr.heap.size, 2, none⟩ = some (.int .i64 q2) := (World.cell?_of_block (HKW.out.2 wr.heap.size (Nat.le_refl _) (Nat.lt_add_of_pos_right (by decide)))).trans HT2.out
              have t3 : A8.cell? ⟨wr.heap.size, 3, none⟩ = some (.int .i64 q3) := (World.cell?_of_block (HKW.out.2 wr.heap.size (Nat.le_refl _) (Nat.lt_add_of_pos_right (by decide)))).trans HT3.out
              have hmx := @run_max2 Tryz.prog
              have hmn := @run_min2 Tryz.prog
              obtain ⟨i3, ki, kz0, kz1, kz2⟩ := info_parts infoRc
              have HX9 : Hid ((p (row, col)).flatMap encR ++ [.int .i64 (max (brX W H S col row) q0), .int .i64 (max (row * H) q1), .int .i64 (min (brX W H S col row + W) q2), .int .i64 (min ((row + 1) * H) q3)] = (p (row, col) ++ [meet4 (brR W H S (row, col)) ⟨q0, q1, q2, q3⟩]).flatMap encR) := hide (by simp [encR, meet4, brR])
              have HGB : Hid (∀ q, (Value.slice none 0 0).ownBlock = some q → bM + 3 ≤ q ∧ q < A8.heap.size ∧ (q < wr.heap.size ∨ wr.heap.size + 3 ≤ q)) := hide (fun q hq => by
                have h9 := HTK.out.gvne (row, col) (by rw [HGV.out]; exact hq)
                exact ⟨h9.1, h9.2.1, h9.2.2.1⟩)
              have HRF : Hid (∀ (o : Obj) (wE : World), (A8.alloc o).grownBy wE (some bM) → wE.ownsRow (bM + 3) 42 4 (Value.slice none 0 0) (p (row, col)).length ((p (row, col)).flatMap encR)) := hide (fun o wE gE =>
                (World.ownsRow.alloc HROW.out o).kept gE (.inr (fun e => by
                  have h9 := (HGB.out bM e).1
                  omega)))
              have HNF : Hid (∀ (wE : World), (A8.alloc (.cells #[.int .i64 (max (brX W H S col row) q0), .int .i64 (max (row * H) q1), .int .i64 (min (brX W H S col row + W) q2), .int .i64 (min ((row + 1) * H) q3)] 42)).grownBy wE (some bM) → ∀ j u, ([.int .i64 (max (brX W H S col row) q0), .int .i64 (max (row * H) q1), .int .i64 (min (brX W H S col row + W) q2), .int .i64 (min ((row + 1) * H) q3)] : List Value)[j]? = some u → wE.cell? ((⟨A8.heap.size, 0, none⟩ : Addr).add j) = some u) := hide (fun wE gE j u hj => by
                have h9 := news_new A8 [.int .i64 (max (brX W H S col row) q0), .int .i64 (max (row * H) q1), .int .i64 (min (brX W H S col row + W) q2), .int .i64 (min ((row + 1) * H) q3)] 42 A8.heap.size rfl j u hj
                rw [addr_add] at h9 ⊢
                exact World.grownBy.cell gE (a := ⟨A8.heap.size, j, none⟩) h9 (fun e => by
                  have e9 : A8.heap.size = bM := by injection e
                  omega))
              have HSF : Hid (∀ (o : Obj) (wE : World), wE.heap.size = (A8.alloc o).heap.size → A8.heap.size < wE.heap.size) := hide (fun o wE sE => by rw [sE]; simp)
              refine wpIn_region_plain_round (by kernel_rfl) (fun _ _ h => h) ?_
              go_wp2_with (first
                | (refine wpList_entry_grp rfl _ _ rfl rfl (HTK.out.gs.below ((Below.refl _ _).alloc (Nat.le_refl _) _)) (row, col) rfl hkk (by unfold maxLen; omega) HP0.out (by simp; omega) _ HGV.out ?_
                   intro st wE gE sE mE
                   have HROWE := hide (HRF.out _ _ gE)
                   have HNWE := hide (HNF.out _ gE)
                   have hE5 : A8.heap.size < wE.heap.size := HSF.out _ _ sE
                   have HGE := hide gE
                   have HSE := hide sE
                   have HME := hide mE
                   clear gE sE mE)
                | (at_builtin; refine wpList_append_lies _ rfl (.tmp 63) (.tmp 85) 46 rfl (bM + 3) 42 i3 (.agg #[.int .i64 0, .int .i64 0, .int .i64 0, .int .i64 0]) 4 32 Tryz.underlying46 ki kz0 kz1 kz2 rfl (by decide) _ (p (row, col)).length _ rfl HROWE.out ⟨A8.heap.size, 0, none⟩ 1 1 [.int .i64 (max (brX W H S col row) q0), .int .i64 (max (row * H) q1), .int .i64 (min (brX W H S col row + W) q2), .int .i64 (min ((row + 1) * H) q3)] rfl rfl HNWE.out (ints_one rfl) (by omega) (by unfold maxLen; omega) (by omega) (by omega) _ rfl ?_
                   intro g9 cap9 w9 hown9 hgrow9 hor9 hlt9
                   rw [HX9.out] at hown9
                   have HO9 := hide hown9
                   have HGR9 : Hid (wE.grownBy w9 (gv K vals (row, col)).ownBlock) := hide (by rw [HGV.out]; exact hgrow9)
                   have HLOC : Hid ((gv K vals (row, col)).ownBlock = some g9 ∨ wE.heap.size ≤ g9) := hide (by rw [HGV.out]; rcases hor9 with h | h; exact .inl h; exact .inr (by omega))
                   have HGAP : Hid (g9 < wr.heap.size ∨ wr.heap.size + 3 ≤ g9) := hide (by
                     rcases hor9 with h | h
                     · exact (HGB.out g9 h).2.2
                     · exact .inr (by omega))
                   clear hown9 hgrow9 hor9 hlt9)
                | (refine wpList_store_grp rfl _ _ _ rfl HME.out rfl rfl (meet4 (brR W H S (row, col)) ⟨q0, q1, q2, q3⟩) g9 cap9 rfl HGR9.out HLOC.out HGAP.out HO9.out ?_
                   intro w3 g3 gs3))
              obtain ⟨b1, b2, b3, b4, b5, b6⟩ := TI.store HTB5.out HTK.out HMK.out hbl5 (by omega) hn5 ((Below.refl _ _).alloc (Nat.le_refl _) _) HGE.out HSE.out HGR9.out g3 HLOC.out (fun k' => rfl) gs3
              have b2' := (b2.keys HKE.out).same (q := partK W H S l m ⟨q0, q1, q2, q3⟩ (pre ++ [(row, col)])) (fun k' => (HPN.out k').symm)
              rw [← HKN.out] at b2'
              exact ⟨HKF.out.1.trans b5, HKF.out.2.trans b4, ⟨b1, ⟨_, _, _, b2'⟩, b3, by rw [HKN.out]; exact HLN.out, b6, HT5.out.lt, HT5.out.bl, HT5.out.nn⟩, HKW.out.trans b4⟩
        · rintro D W9 hD ⟨hTI, _⟩ hK
          have HTO3 := hide (hTI.fin HP4.out (by omega) hK)
          have hlz : (m : Int) + 1 ≤ 401 := by omega
          clear hit hTI hK HTI
          simp only [Exit.inBlock, Exit.then]
          gi_wp2
          refine ⟨⟨m + 1, D :: ms, by rw [show ((m + 1 : Nat) : Int) = (m : Int) + 1 from by omega]; rfl, by omega, HTO3⟩, ?_⟩
          simp [intOf]
          omega
        · rintro D pre W9 hD hTX hK
          have hmk : Mks (bM + 3) (D :: ms) W9 := ⟨List.nodup_cons.2 ⟨fun h => by have := hTX.lt D h; have := hTX.nn; omega, hTX.mks.1⟩, fun D' hD' => by
            rcases List.mem_cons.1 hD' with rfl | h
            · exact ⟨by have := hTX.bl; have := hTX.nn; omega, hK⟩
            · exact hTX.mks.2 D' h⟩
          have hF4 : tileF W H S l = ([], 4) := by rw [hF.out, if_pos hTX.many]
          refine leaves_marks (D :: ms) W9 hmk.1 (fun D' hD' => (hmk.2 D' hD').2) fun w' hc => ?_
          exact ⟨_, results_cells2 rfl _ _ _ _ _ _ rfl rfl (hc.cell hmk hTX.c4) (hc.cell hmk hTX.c5), ⟨none, 0, [], by rw [hF4]; rfl, by rw [hF4]; rfl, by rw [hF4]; exact World.ownsRow_nil _ _ _ _, fun i k r h => by rw [hF4] at h; simp at h⟩, hc.below hmk (by have := hTX.hb; omega) hTX.low⟩
      · have hme : m = l.length := by omega
        subst hme
        have mz : ¬ (l.length : Int) < (l.length : Int) := by omega
        have hTO := HTO2.out
        obtain ⟨vals, Ak, ck, hTK⟩ := hTO.tk
        have hln := hTO.ln
        rw [doneK_all W H S (Nat.le_refl _)] at hTK hln
        rw [List.take_length] at hTK
        have HTB := hide hTO.tb
        have HMS := hide hTO.mks
        have HKS : Hid (srtK (onceK (allK W H S l)) = keysT W H S l) := hide (srtK_once _)
        have hsl := srtK_len (onceK_ok (allK W H S l)).1
        have hso := ksorted_any (own_rd (enc := encK) (k := 2) hTK.own (fun _ => rfl)) (Nat.le_refl _) (by omega) (onceK_ok (allK W H S l)).1
        rw [HKS.out] at hso hsl
        have hkm : ∀ k ∈ keysT W H S l, k ∈ onceK (allK W H S l) := fun k hk => by
          rw [(onceK_ok _).2]
          exact ((srtK_ok _).2 k).1 hk
        have HKM := hide hkm
        generalize onceK (allK W H S l) = K at *
        have HTK := hide hTK
        have HSO := hide hso
        have c9 := HTK.out.cell
        have HSL := hide hsl
        have hkl4 : (keysT W H S l).length ≤ 400 := by omega
        clear hTO hTK hso hkm HTO2 hsl
        gi_wp2
        go_wp2_with (go_at_call 38; refine HSO.out.mono ?_; rintro e wL ⟨vS, rfl, hoS, hbS⟩; obtain ⟨AS, cS, hvS⟩ := own_form hoS; subst hvS; have HOS := hide hoS; have HBS := hide hbS; clear hoS hbS)
        have hTBL := HTB.out.below HBS.out
        have HGL := hide ((HTK.out.gs.below HBS.out))
        have HTBL := hide hTBL
        have HML := hide (HMS.out.below HBS.out)
        obtain ⟨i2, fi, fz0, fz1, fz2⟩ := info_parts infoPc
        have HFT : Hid (tileF W H S l = ((keysT W H S l).map fun k => (k, pieceR W H S l k), 0)) := hide (by rw [hF.out, if_neg (by omega)])
        have HMKP : Hid (∀ k, k ∈ K → ∀ wx, Below wL.heap.size wL wx → ∃ g c, vals k = .slice (some ⟨g, 0, none⟩) (prt W H S l k).length c ∧ Calls Tryz.prog 39 #[vals k] wx fun e w' => RegRet wx.heap.size (pieceR W H S l k, 0) e w' ∧ Below wx.heap.size wx w') := hide (fun k hk wx hx => by
          obtain ⟨g, c, e, _, hr⟩ := HGL.out.vs k hk
          refine ⟨g, c, e, ?_⟩
          have h9 := make_any (w := wx) (own_rd (own_below hr hx) (fun _ => rfl)) (Nat.le_trans (prt_len W H S l k) hl)
          rw [prt_make hp HC0.out k] at h9
          exact h9)
        have hwL := HTBL.out.top
        have hbL := HTBL.out.hb
        have HPL : Hid (∀ k, (pieceR W H S l k).length ≤ 400) := hide (fun k => piece_len hp HC0.out k)
        clear hTBL HSL HSO HTB HTK HMS HBS
        generalize keysT W H S l = KT at *
        go_loopw [16, 93] (fun v i wi => ∃ (q : Nat) (Ao : Option Addr) (co : Nat), q ≤ KT.length ∧ i = .int .i64 (q : Int) ∧ v = .slice Ao q co ∧ Hid (Pcs wL (.slice Ao q co) ((KT.take q).map fun k => (k, pieceR W H S l k)) wi)) (fun _ i _ => KT.length - (intOf i).toNat)
        case atStart => exact ⟨0, none, 0, Nat.zero_le _, rfl, rfl, hide ⟨Below.refl _ _, [], rfl, World.ownsRow_nil _ _ _ _, fun i k r h => by simp at h⟩⟩
        case round =>
          obtain ⟨q, Ao, co, hq, rfl, rfl, HP⟩ := hrel
          by_cases hlt : q < KT.length
          · have mz : (q : Int) < (KT.length : Int) := by omega
            obtain ⟨⟨row, col⟩, hk⟩ : ∃ k, KT[q]? = some k := ⟨_, List.getElem?_eq_getElem hlt⟩
            obtain ⟨gS, cS', hvS, hgS, hgS2⟩ := HOS.out.form (by omega)
            injection hvS with e1 _ e3
            subst e1; subst e3
            have hlow := HP.out.low
            have hls := hlow.size
            have s0 : wr.cell? ⟨gS, q * 2, none⟩ = some (.int .i64 row) := by
              have := (HOS.out.cells (g := gS) rfl) _ _ (flat_get (k := 2) (fun _ => rfl) _ q _ 0 _ hk rfl)
              rw [addr_add] at this
              exact (hlow.cell (p := ⟨gS, q * 2, none⟩) hgS2).trans this
            have s1 : wr.cell? ⟨gS, q * 2 + 1, none⟩ = some (.int .i64 col) := by
              have := (HOS.out.cells (g := gS) rfl) _ _ (flat_get (k := 2) (fun _ => rfl) _ q _ 1 _ hk rfl)
              rw [addr_add] at this
              exact (hlow.cell (p := ⟨gS, q * 2 + 1, none⟩) hgS2).trans this
            have hmK := HKM.out _ (List.mem_of_getElem? hk)
            have hkk := HGL.out.rng _ hmK
            have c8 : wr.cell? ⟨bM + 1, 0, none⟩ = some (.map (some bM)) := (hlow.cell (p := ⟨bM + 1, 0, none⟩) (by show bM + 1 < _; omega)).trans HTBL.out.c8
            have hbw : bM + 1 < wr.heap.size := by omega
            have hgw : gS < wr.heap.size := by omega
            have HK := hide hk
            clear hk hlow
            go_upto_region 27 with fail
            refine wp_name fun w1 hw1 => ?_
            have hb1 : Below wr.heap.size wr w1 := by rw [hw1]; exact (Below.refl _ _).alloc (Nat.le_refl _) _
            have k0 : w1.cell? ⟨wr.heap.size, 0, none⟩ = some (.int .i64 row) := by rw [hw1]; simp [go_sem]
            have k1 : w1.cell? ⟨wr.heap.size, 1, none⟩ = some (.int .i64 col) := by rw [hw1]; simp [go_sem]
            have hs1 : wr.heap.size < w1.heap.size := by rw [hw1]; simp
            have c81 := (hb1.cell (p := ⟨bM + 1, 0, none⟩) (by show bM + 1 < _; omega)).trans c8
            have HP1 := hide (HP.out.below hb1)
            have HGS := hide (HGL.out.below HP1.out.low)
            obtain ⟨g, c, hvl, hmk⟩ := HMKP.out _ hmK w1 HP1.out.low
            have hgv : gv K vals (row, col) = .slice (some ⟨g, 0, none⟩) (prt W H S l (row, col)).length c := by simp [gv, hmK, hvl]
            have HGV := hide hgv
            rw [hvl] at hmk
            have HMAKE := hide hmk
            have hpl := HPL.out (row, col)
            clear hw1 c8 s0 s1 hgv hmk hvl hb1
            have HJE : Hid ((KT.take (q + 1)).map (fun k => (k, pieceR W H S l k)) = (KT.take q).map (fun k => (k, pieceR W H S l k)) ++ [((row, col), pieceR W H S l (row, col))]) := hide (by rw [List.take_add_one, HK.out]; simp)
            have HRL : Hid (((KT.take q).map (fun k => (k, pieceR W H S l k))).length = q) := hide (by rw [List.length_map, List.length_take]; omega)
            generalize pieceR W H S l (row, col) = J at *
            go_wp2_with (first
              | (refine wpList_look_grp rfl _ _ rfl rfl HGS.out (row, col) rfl hkk _ HGV.out ?_)
              | (go_at_call 39; refine HMAKE.out.mono ?_; rintro e w5 ⟨⟨Aj, cj, rfl, ho⟩, hb5⟩
                 have HJ := hide ho
                 have HP5 := hide (HP1.out.below hb5)
                 have k0 := (hb5.cell (p := ⟨wr.heap.size, 0, none⟩) hs1).trans k0
                 have k1 := (hb5.cell (p := ⟨wr.heap.size, 1, none⟩) hs1).trans k1
                 have hs5 : wr.heap.size < w5.heap.size := Nat.lt_of_lt_of_le hs1 hb5.size
                 have hl5 : wL.heap.size ≤ w1.heap.size := HP1.out.low.size
                 have hl6 : wL.heap.size ≤ w5.heap.size := HP5.out.low.size
                 obtain ⟨L, l0, l1, l2⟩ := HP5.out.o
                 have HL0 := hide l0
                 have HL1 := hide (own_n l1 HRL.out)
                 have HL1' := hide l1
                 have HL2 := hide l2
                 clear ho hb5 l0 l1 l2)
              | (at_builtin; go_loud (refine wpList_append_lies _ rfl (.tmp 107) (.tmp 114) 29 rfl wL.heap.size 54 i2 (.agg #[.int .i64 0, .int .i64 0, .slice none 0 0]) 3 40 Tryz.underlying29 fi fz0 fz1 fz2 rfl (by decide) _ q _ rfl (World.ownsRow.alloc HL1.out _) ⟨w5.heap.size, 0, none⟩ 1 1 [.int .i64 col, .int .i64 row, .slice Aj J.length cj] rfl rfl (news_new w5 _ _ _ rfl) (one3 _ _ _ _ _) (by omega) (by unfold maxLen; omega) (by omega) (by simp; omega) _ rfl ?_)))
            intro g9 cap9 w9 hown9 hgrow9 _ _
            have hpush := Pcs.push (k := (row, col)) (r := J) (HP5.out.low.alloc hl6 _) HL0.out (World.ownsRow.alloc HL1'.out _) (fun i k r hi => by
              obtain ⟨v, q1, q2⟩ := HL2.out i k r hi
              exact ⟨v, q1, World.ownsRow.alloc q2 _⟩) (World.ownsRow.alloc (own_base HJ.out hl5) _) hgrow9 (by rw [HRL.out]; exact hown9)
            rw [← HJE.out] at hpush
            have HPU := hide hpush
            clear hown9 hgrow9 hpush
            go_wp2
            go_roundw
            case rel => exact ⟨q + 1, _, cap9, by omega, by go_num, rfl, HPU⟩
            case measure => simp [intOf]; omega
          · have hqe : q = KT.length := by omega
            subst hqe
            have mz : ¬ (KT.length : Int) < (KT.length : Int) := by omega
            have hP := HP.out
            rw [List.take_length] at hP
            have HPF := hide hP
            have hls := hP.low.size
            have hTBw := HTBL.out.below hP.low
            have HMW := hide (HML.out.below hP.low)
            obtain ⟨u4, e4⟩ := hTBw.c4
            obtain ⟨u5, e5⟩ := hTBw.c5
            have f4 := hTBw.f4
            have f5 := hTBw.f5
            have hdis : w.heap.size + 1 ≠ w.heap.size + 2 := by omega
            have HT0w := hide hTBw.t0
            clear hP HP hTBw HTBL HML HGL HMKP HKM
            go_wp2
            obtain ⟨r1, r2, r3⟩ := HT0w.out.ret (.slice Ao KT.length co) (.int .i64 0)
            have hmk := (HMW.out.step (grown_setCell wr (w.heap.size + 1) 0 (.slice Ao KT.length co)) (fun q hq => .inl (by injection hq; omega))).step (grown_setCell _ (w.heap.size + 2) 0 (.int .i64 0)) (fun q hq => .inl (by injection hq; omega))
            refine leaves_marks ms _ hmk.1 (fun D' hD' => (hmk.2 D' hD').2) fun w' hc => ?_
            obtain ⟨L, l0, l1, l2⟩ := HPF.out.o
            have hml : (KT.map fun k => (k, pieceR W H S l k)).length = KT.length := by simp
            refine ⟨_, results_cells2 rfl _ _ _ _ _ _ rfl rfl (hc.cell hmk r1) (hc.cell hmk r2), ⟨Ao, co, L, by rw [HFT.out]; show Ending.returned (.tuple #[.slice Ao KT.length co, .int .i64 0]) = .returned (.tuple #[.slice Ao (KT.map fun k => (k, pieceR W H S l k)).length co, .int .i64 0]); rw [hml], by rw [HFT.out]; exact l0, ?_, ?_⟩, hc.below hmk (by omega) r3⟩
            · rw [HFT.out]
              have h : w'.ownsRow w.heap.size 54 3 _ _ _ := hc.own hmk (own_base (ownsRow_setCell_below (ownsRow_setCell_below l1 (by show w.heap.size + 1 < _; omega) _) (by show w.heap.size + 2 < _; omega) _) (by omega))
              show w'.ownsRow w.heap.size 54 3 (.slice Ao (KT.map fun k => (k, pieceR W H S l k)).length co) (KT.map fun k => (k, pieceR W H S l k)).length (L.flatMap encP)
              rw [hml] at h ⊢
              exact h
            · rw [HFT.out]
              intro i k r hi
              obtain ⟨u, q1, q2⟩ := l2 i k r hi
              exact ⟨u, q1, hc.own hmk (own_base (ownsRow_setCell_below (ownsRow_setCell_below q2 (by show w.heap.size + 1 < _; omega) _) (by show w.heap.size + 2 < _; omega) _) (by omega))⟩
    · have hpc := fun wi => pat_any W H S wi
      rw [chk_bad hp] at hpc
      have HPC := hide hpc
      clear hpc
      have hF : Hid (tileF W H S l = ([], 8)) := hide (by unfold tileF; rw [if_pos h0, if_neg hp])
      clear h0 hp
      go_wp2_with (first
        | (go_at_call 36; refine (HCK.out _ hT0.out.low).mono ?_; rintro e w1 ⟨rfl, hb1⟩; have HT1 := hide (hT0.out.below hb1); have p0 := HT1.out.p0; have p1 := HT1.out.p1; have p2 := HT1.out.p2; clear hb1)
        | (go_at_call 12; refine (HPC.out _).mono ?_; rintro e w2 ⟨rfl, hb2⟩; have HT2 := hide (HT1.out.below hb2); obtain ⟨u4, e4⟩ := HT2.out.c4; obtain ⟨u5, e5⟩ := HT2.out.c5; have f4 := HT2.out.f4; have f5 := HT2.out.f5; clear hb2 p0 p1 p2))
      obtain ⟨r1, r2, r3⟩ := HT2.out.ret (.slice none 0 0) (.int .i64 8)
      refine ⟨_, results_cells2 rfl _ _ _ _ _ _ rfl rfl r1 r2, ⟨none, 0, [], by rw [hF.out]; rfl, by rw [hF.out]; rfl, by rw [hF.out]; exact World.ownsRow_nil _ _ _ _, fun i k r h => by rw [hF.out] at h; simp at h⟩, r3⟩
  · have hF : Hid (tileF W H S l = ([], checkF l)) := hide (by unfold tileF; rw [if_neg h0])
    generalize checkF l = ck at *
    have hne : (ck != 0) = true := by simpa using h0
    clear h0
    go_wp2_with (first
      | (go_at_call 36; refine (HCK.out _ hT0.out.low).mono ?_; rintro e w1 ⟨rfl, hb1⟩; have HT1 := hide (hT0.out.below hb1); obtain ⟨u4, e4⟩ := HT1.out.c4; obtain ⟨u5, e5⟩ := HT1.out.c5; have f4 := HT1.out.f4; have f5 := HT1.out.f5; clear hb1))
    obtain ⟨r1, r2, r3⟩ := HT1.out.ret (.slice none 0 0) (.int .i64 ck)
    refine ⟨_, results_cells2 rfl _ _ _ _ _ _ rfl rfl r1 r2, ⟨none, 0, [], by rw [hF.out]; rfl, by rw [hF.out]; rfl, by rw [hF.out]; exact World.ownsRow_nil _ _ _ _, fun i k r h => by rw [hF.out] at h; simp at h⟩, r3⟩
end Go.Proofs.YtlkaniojnaaocaaGreat

/- texture.Count: how many pieces are whole bricks. -/
namespace Go.Proofs.YtlkaniojnaaocaaGreat
open Go.RowKit
set_option linter.unusedVariables false
set_option linter.unusedSimpArgs false
attribute [local go_sem] Oper.semAt_some

theorem tileF_bd {W H S : Int} {l : List R4} {q : Ky × List R4} (h : q ∈ (tileF W H S l).1) : okPat W H S ∧ ((-1000000 ≤ q.1.1 ∧ q.1.1 ≤ 1000000) ∧ -1000000 ≤ q.1.2 ∧ q.1.2 ≤ 1000000) ∧ q.2.length ≤ 400 := by
  obtain ⟨h1, h2, h3, h4⟩ := tileF_mem h
  refine ⟨h2, ?_, by rw [h4]; exact piece_len h2 h1 _⟩
  have h5 := (srtK_ok (allK W H S l)).2 q.1
  obtain ⟨t, ht, hk⟩ := List.mem_flatMap.1 (h5.1 h3)
  exact kbd h2 ((checkF_ok h1).2.1 t ht) hk
theorem tileF_len {W H S : Int} {l : List R4} : (tileF W H S l).1.length ≤ 400 := by
  unfold tileF
  split
  · split
    · split
      · simp
      · rw [List.length_map]; omega
    · simp
  · simp
/-- How many of the first m pieces are whole. -/
def cntW (f : Ky × List R4 → Bool) (R : List (Ky × List R4)) (m : Nat) : Nat := ((R.take m).filter f).length
theorem cntW_next (f : Ky × List R4 → Bool) {R : List (Ky × List R4)} {m : Nat} {q : Ky × List R4} (h : R[m]? = some q) : cntW f R (m + 1) = cntW f R m + if f q = true then 1 else 0 := by
  unfold cntW
  rw [List.take_add_one, h, Option.toList_some, List.filter_append, List.length_append]
  congr 1
  by_cases hf : f q = true <;> simp [hf]
theorem cntW_le (f : Ky × List R4 → Bool) (R : List (Ky × List R4)) (m : Nat) : cntW f R m ≤ m := by
  unfold cntW
  have h1 := List.length_filter_le f (R.take m)
  have h2 := List.length_take_le m R
  omega
theorem countF_ok {W H S : Int} {l : List R4} {R : List (Ky × List R4)} (h : tileF W H S l = (R, 0)) : countF W H S l = ((cntW (wholeB W H S) R R.length : Int), (R.length : Int) - (cntW (wholeB W H S) R R.length : Int), 0) := by
  unfold countF cntW
  rw [h, if_pos rfl, List.take_length]
theorem countF_bad {W H S : Int} {l : List R4} {R : List (Ky × List R4)} {E : Int} (h : tileF W H S l = (R, E)) (hE : E ≠ 0) : countF W H S l = (0, 0, E) := by
  unfold countF
  rw [h, if_neg hE]
set_option maxRecDepth 100000 in
set_option maxHeartbeats 4000000 in
theorem tcount_any {w : World} {v : Value} {l : List R4} (hr : RdK encR 4 w w.heap.size v l) (hl : l.length ≤ 100000000) (W H S : Int) :
    Calls Tryz.prog 41 #[v, .agg #[.int .i64 W, .int .i64 H, .int .i64 S]] w fun e w' => e = .returned (.tuple #[.int .i64 (countF W H S l).1, .int .i64 (countF W H S l).2.1, .int .i64 (countF W H S l).2.2]) ∧ Below w.heap.size w w' := by
  obtain ⟨A0, c0, hv, hc⟩ := id hr
  subst hv
  have HR := hide hr
  clear hr hc
  have HTL := hide (fun (wi : World) (hb : Below w.heap.size w wi) => tile_any (w := wi) ((HR.out.below hb).mono hb.size) hl W H S)
  have hT0 := hide (T1.start w W H S)
  have HBD := hide (fun q => tileF_bd (W := W) (H := H) (S := S) (l := l) (q := q))
  have hRl := tileF_len (W := W) (H := H) (S := S) (l := l)
  obtain ⟨⟨R, E⟩, hT⟩ : ∃ x, tileF W H S l = x := ⟨_, rfl⟩
  rw [hT] at HTL HBD hRl
  simp only at hRl HBD
  by_cases hE : E = 0
  · subst hE
    have HF := hide (countF_ok hT)
    rw [HF.out]
    clear hT
    go_enter Tryz.func41, Tryz.ntmps41
    have p0 := hT0.out.p0
    have p1 := hT0.out.p1
    have p2 := hT0.out.p2
    go_wp2_with (fail)
    refine (HTL.out _ hT0.out.low).mono ?_
    rintro e w1 ⟨⟨A, c, L, rfl, l0, l1, l2⟩, hb1⟩
    simp only at l0 l1 l2
    have HT1 := hide (hT0.out.below hb1)
    have HP : Hid (Pcs w (.slice A R.length c) R w1) := hide ⟨HT1.out.low, L, l0, own_base l1 hT0.out.low.size, fun i k r h => by
      obtain ⟨u, h1, h2⟩ := l2 i k r h
      exact ⟨u, h1, own_base h2 hT0.out.low.size⟩⟩
    clear hb1 l0 l1 l2 p0 p1 p2
    have p0 := HT1.out.p0
    have p1 := HT1.out.p1
    have p2 := HT1.out.p2
    have hw1 := HT1.out.hb
    clear hT0 HTL
    go_wp2
    go_loopw [4, 5, 21] (fun a b i wr => ∃ m : Nat, m ≤ R.length ∧ a = .int .i64 (cntW (wholeB W H S) R m : Int) ∧ b = .int .i64 ((m : Int) - (cntW (wholeB W H S) R m : Int)) ∧ i = .int .i64 (m : Int) ∧ Hid (Below w1.heap.size w1 wr)) (fun _ _ i _ => R.length - (intOf i).toNat)
    case atStart => exact ⟨0, Nat.zero_le _, rfl, rfl, rfl, hide (Below.refl _ _)⟩
    case round =>
      obtain ⟨m, hm, rfl, rfl, rfl, HB⟩ := hrel
      have hcm := cntW_le (wholeB W H S) R m
      by_cases hlt : m < R.length
      · obtain ⟨⟨⟨row, col⟩, J⟩, hk⟩ : ∃ q, R[m]? = some q := ⟨_, List.getElem?_eq_getElem hlt⟩
        obtain ⟨hp, ⟨⟨ra, rb⟩, ca, cb⟩, hJl⟩ := HBD.out _ (List.mem_of_getElem? hk)
        simp only at ra rb ca cb hJl
        obtain ⟨g, rfl, hg1, hg2, hcl⟩ := HP.out.form (by omega)
        obtain ⟨d0, d1, u, d2, hu⟩ := hcl m _ _ hk
        obtain ⟨Aj, cj, rfl⟩ := own_form hu
        have hls := HB.out.size
        have d0 : wr.cell? ⟨g, m * 3, none⟩ = some (.int .i64 col) := (HB.out.cell (p := ⟨g, m * 3, none⟩) hg2).trans d0
        have d1 : wr.cell? ⟨g, m * 3 + 1, none⟩ = some (.int .i64 row) := (HB.out.cell (p := ⟨g, m * 3 + 1, none⟩) hg2).trans d1
        have d2 : wr.cell? ⟨g, m * 3 + 2, none⟩ = some (.slice Aj J.length cj) := (HB.out.cell (p := ⟨g, m * 3 + 2, none⟩) hg2).trans d2
        have HU := hide (own_below hu HB.out)
        have mz : (m : Int) < (R.length : Int) := by omega
        have HCN := hide (cntW_next (wholeB W H S) hk)
        generalize cntW (wholeB W H S) R m = cn at *
        have p0 := (HB.out.cell (p := ⟨w.heap.size, 0, none⟩) (by show w.heap.size < _; omega)).trans p0
        have p1 := (HB.out.cell (p := ⟨w.heap.size, 1, none⟩) (by show w.heap.size < _; omega)).trans p1
        have p2 := (HB.out.cell (p := ⟨w.heap.size, 2, none⟩) (by show w.heap.size < _; omega)).trans p2
        clear hcl hk hu
        go_upto_region 7 with fail
        refine wp_name fun w2 hw2 => ?_
        have hb2 : Below wr.heap.size wr w2 := by rw [hw2]; exact (Below.refl _ _).alloc (Nat.le_refl _) _
        have k0 : w2.cell? ⟨wr.heap.size, 0, none⟩ = some (.int .i64 col) := by rw [hw2]; simp [go_sem]
        have k1 : w2.cell? ⟨wr.heap.size, 1, none⟩ = some (.int .i64 row) := by rw [hw2]; simp [go_sem]
        have k2 : w2.cell? ⟨wr.heap.size, 2, none⟩ = some (.slice Aj J.length cj) := by rw [hw2]; simp [go_sem]
        have hs2 : wr.heap.size < w2.heap.size := by rw [hw2]; simp
        have HB2 := hide (HB.out.trans (hb2.mono hls))
        have hwp : w.heap.size < w2.heap.size := by omega
        have p0 := (hb2.cell (p := ⟨w.heap.size, 0, none⟩) (by show w.heap.size < _; omega)).trans p0
        have p1 := (hb2.cell (p := ⟨w.heap.size, 1, none⟩) (by show w.heap.size < _; omega)).trans p1
        have p2 := (hb2.cell (p := ⟨w.heap.size, 2, none⟩) (by show w.heap.size < _; omega)).trans p2
        have HU2 := hide (own_below HU.out hb2)
        clear hw2 hb2 d0 d1 d2 HU
        by_cases hJ : J.length = 1
        · obtain ⟨⟨j0, j1, j2, j3⟩, rfl⟩ : ∃ r, J = [r] := List.length_eq_one_iff.1 hJ
          obtain ⟨gj, cj', hvj, hgj1, hgj2⟩ := HU2.out.form (by simp)
          injection hvj with e1 _ e3
          subst e1; subst e3
          have jc : ∀ (i : Nat) (u : Value), (encR ⟨j0, j1, j2, j3⟩)[i]? = some u → w2.cell? ⟨gj, i, none⟩ = some u := fun i u hi => by
            have := (HU2.out.cells (g := gj) rfl) i u (by simpa using hi)
            rwa [addr_add] at this
          have x0 : w2.cell? ⟨gj, 0, none⟩ = some (.int .i64 j0) := jc 0 _ rfl
          have x1 : w2.cell? ⟨gj, 1, none⟩ = some (.int .i64 j1) := jc 1 _ rfl
          have x2 : w2.cell? ⟨gj, 2, none⟩ = some (.int .i64 j2) := jc 2 _ rfl
          have x3 : w2.cell? ⟨gj, 3, none⟩ = some (.int .i64 j3) := jc 3 _ rfl
          obtain ⟨q0, q1, q2, q3, hq⟩ : ∃ q0 q1 q2 q3, brR W H S (row, col) = ⟨q0, q1, q2, q3⟩ := ⟨_, _, _, _, rfl⟩
          have HBR := hide (fun wi => (by
            have h := brick_any W H S col row wi hp ca cb ra rb
            have hq' := hq
            unfold brR at hq'
            injection hq' with h1 h2 h3 h4
            simp only at h1 h2 h3 h4
            rw [h3, h1, h2, h4] at h
            exact h : Calls Tryz.prog 35 #[.agg #[.int .i64 W, .int .i64 H, .int .i64 S], .int .i64 col, .int .i64 row] wi fun e w' => e = .returned (.agg #[.int .i64 q0, .int .i64 q1, .int .i64 q2, .int .i64 q3]) ∧ Below wi.heap.size wi w'))
          have HWB : Hid (wholeB W H S ((row, col), [⟨j0, j1, j2, j3⟩]) = decide ((⟨j0, j1, j2, j3⟩ : R4) = ⟨q0, q1, q2, q3⟩)) := hide (by
            unfold wholeB
            rw [hq]
            exact decide_eq_decide.2 (by simp))
          have g : Tryz.prog.eqGuardType Tryz.prog.depth 42 = false := by kernel_rfl
          rw [HWB.out] at HCN
          clear jc hq hJl
          have hgs : ((⟨j0, j1, j2, j3⟩ : R4) = ⟨q0, q1, q2, q3⟩) ∨ (¬ ((⟨j0, j1, j2, j3⟩ : R4) = ⟨q0, q1, q2, q3⟩) ∧ ((j0 == q0) = false ∨ ((j0 == q0) = true ∧ (j1 == q1) = false) ∨ ((j0 == q0) = true ∧ (j1 == q1) = true ∧ (j2 == q2) = false) ∨ ((j0 == q0) = true ∧ (j1 == q1) = true ∧ (j2 == q2) = true ∧ (j3 == q3) = false))) := by
            by_cases h : (⟨j0, j1, j2, j3⟩ : R4) = ⟨q0, q1, q2, q3⟩
            · exact .inl h
            · refine .inr ⟨h, ?_⟩
              rw [R4.mk.injEq] at h
              simp only [beq_eq_false_iff_ne, beq_iff_eq, ne_eq]
              omega
          rcases hgs with hg | ⟨hg, h1 | ⟨h1, h2⟩ | ⟨h1, h2, h3⟩ | ⟨h1, h2, h3, h4⟩⟩
          · have HCY : Hid (cntW (wholeB W H S) R (m + 1) = cn + 1) := hide (by rw [HCN.out, decide_eq_true hg]; rfl)
            rw [R4.mk.injEq] at hg
            obtain ⟨rfl, rfl, rfl, rfl⟩ := hg
            refine wp_hab fun hab => ?_
            refine wp_region_above (by kernel_rfl) (by kernel_rfl) ?_
            repeat (go_big_quiet_step ((go_at_call 35; exact above_of (HBR.out _))))
            refine wpQuiet_nil ?_
            refine above_ends fun w3 hb3 => ?_
            clear hab
            have HB3 := hide (HB2.out.trans (hb3.mono HB2.out.size))
            clear hb3
            go_wp2
            go_roundw
            case rel => exact ⟨m + 1, by omega, by rw [HCY.out]; go_num, by rw [HCY.out]; go_num, by go_num, HB3⟩
            case measure => simp [intOf]; omega
          all_goals
            have HCY : Hid (cntW (wholeB W H S) R (m + 1) = cn) := hide (by rw [HCN.out, decide_eq_false hg]; rfl)
            clear hg
            refine wp_hab fun hab => ?_
            refine wp_region_above (by kernel_rfl) (by kernel_rfl) ?_
            repeat (go_big_quiet_step ((go_at_call 35; exact above_of (HBR.out _))))
            refine wpQuiet_nil ?_
            refine above_ends fun w3 hb3 => ?_
            clear hab
            have HB3 := hide (HB2.out.trans (hb3.mono HB2.out.size))
            clear hb3
            go_wp2
            go_roundw
            case rel => exact ⟨m + 1, by omega, by rw [HCY.out], by rw [HCY.out]; go_num, by go_num, HB3⟩
            case measure => simp [intOf]; omega
        · have hJz : ((J.length : Int) == 1) = false := by simp; omega
          have HCY : Hid (cntW (wholeB W H S) R (m + 1) = cn) := hide (by
            rw [HCN.out, show wholeB W H S ((row, col), J) = false from decide_eq_false fun e => hJ (by simp only at e; rw [e]; rfl)]; rfl)
          clear hJ HCN
          go_quiet (fail)
          refine name_exit fun w3 hw3 => ?_
          have HB3 : Hid (Below w1.heap.size w1 w3) := hide (by rw [hw3]; exact below_drewN HB2.out _)
          clear hw3
          go_wp2
          go_roundw
          case rel => exact ⟨m + 1, by omega, by rw [HCY.out], by rw [HCY.out]; go_num, by go_num, HB3⟩
          case measure => simp [intOf]; omega
      · obtain rfl : m = R.length := by omega
        have mz : ¬ (R.length : Int) < (R.length : Int) := by omega
        have HBW := hide (HT1.out.low.trans (HB.out.mono HT1.out.low.size))
        go_wp2
        refine bodyPost_ret (v := .tuple #[.int .i64 (cntW (wholeB W H S) R R.length : Int), .int .i64 ((R.length : Int) - (cntW (wholeB W H S) R R.length : Int)), .int .i64 0]) (by simp [results, Tryz.results41, go_sem]) rfl ⟨rfl, HBW.out⟩
  · have HF := hide (countF_bad hT hE)
    rw [HF.out]
    have hne : (E != 0) = true := by simpa using hE
    clear hT hE
    go_enter Tryz.func41, Tryz.ntmps41
    have p0 := hT0.out.p0
    have p1 := hT0.out.p1
    have p2 := hT0.out.p2
    go_wp2_with (fail)
    refine (HTL.out _ hT0.out.low).mono ?_
    rintro e w1 ⟨⟨A, c, L, rfl, l0, l1, l2⟩, hb1⟩
    have HT1 := hide (hT0.out.below hb1)
    simp only at l0 l1 l2
    clear hb1 l0 l1 l2 p0 p1 p2
    go_wp2
    refine bodyPost_ret (v := .tuple #[.int .i64 0, .int .i64 0, .int .i64 E]) (by simp [results, Tryz.results41, go_sem]) rfl ⟨rfl, HT1.out.low⟩
end Go.Proofs.YtlkaniojnaaocaaGreat

/- texture.At and Brick, and their references, each whole: the results as functions of the input. -/
namespace Go.Proofs.YtlkaniojnaaocaaGreat
open Go.RowKit
set_option linter.unusedVariables false
set_option linter.unusedSimpArgs false

/-- What At returns. -/
def atOK (W H S x y : Int) : Prop := okPat W H S ∧ (fineB x && fineB y) = true
instance (W H S x y : Int) : Decidable (atOK W H S x y) := by unfold atOK; infer_instance
def atC (W H S x y : Int) : Int := if atOK W H S x y then colI W H S x y else 0
def atR (W H S x y : Int) : Int := if atOK W H S x y then rowI H y else 0
def atE (W H S x y : Int) : Int := if okPat W H S then (if (fineB x && fineB y) = true then 0 else 2) else 8
theorem at_any (W H S x y : Int) (w : World) :
    Calls Tryz.prog 13 #[.agg #[.int .i64 W, .int .i64 H, .int .i64 S], .int .i64 x, .int .i64 y] w fun e w' => e = .returned (.tuple #[.int .i64 (atC W H S x y), .int .i64 (atR W H S x y), .int .i64 (atE W H S x y)]) ∧ Below w.heap.size w w' := by
  by_cases hp : okPat W H S
  · by_cases hf : (fineB x && fineB y) = true
    · have h1 : atOK W H S x y := ⟨hp, hf⟩
      simp only [atC, atR, atE, if_pos h1, if_pos hp, if_pos hf]
      simp only [Bool.and_eq_true] at hf
      exact at_ok W H S x y w hp hf.1 hf.2
    · have h1 : ¬ atOK W H S x y := fun h => hf h.2
      simp only [atC, atR, atE, if_neg h1, if_pos hp, if_neg hf]
      exact at_arg W H S x y w hp (by simpa using hf)
  · have h1 : ¬ atOK W H S x y := fun h => hp h.1
    simp only [atC, atR, atE, if_neg h1, if_neg hp]
    exact at_bad W H S x y w hp
/-- What Brick returns. -/
def brOK (W H S col row : Int) : Prop := atOK W H S col row ∧ (fineB (brX W H S col row) && fineB (brX W H S col row + W) && fineB (row * H) && fineB ((row + 1) * H)) = true
instance (W H S col row : Int) : Decidable (brOK W H S col row) := by unfold brOK; infer_instance
def br0 (W H S col row : Int) : Int := if brOK W H S col row then brX W H S col row else 0
def br1 (W H S col row : Int) : Int := if brOK W H S col row then row * H else 0
def br2 (W H S col row : Int) : Int := if brOK W H S col row then brX W H S col row + W else 0
def br3 (W H S col row : Int) : Int := if brOK W H S col row then (row + 1) * H else 0
def brE (W H S col row : Int) : Int := if atOK W H S col row then (if brOK W H S col row then 0 else 16) else atE W H S col row

end Go.Proofs.YtlkaniojnaaocaaGreat

/- Brick of texture, whole. -/
namespace Go.Proofs.YtlkaniojnaaocaaGreat
open Go.RowKit
set_option linter.unusedVariables false
set_option linter.unusedSimpArgs false

set_option maxHeartbeats 1000000 in
theorem brk_A (W H S x y : Int) (w : World) (h : ¬ okPat W H S) :
    Calls Tryz.prog 15 #[.agg #[.int .i64 W, .int .i64 H, .int .i64 S], .int .i64 x, .int .i64 y] w fun e w' => e = .returned (.tuple #[.agg #[.int .i64 0, .int .i64 0, .int .i64 0, .int .i64 0], .int .i64 8]) ∧ Below w.heap.size w w' := by
  have hk := fun w => (pat_any W H S w).mono (R' := fun e w' => e = .returned (.int .i64 8) ∧ Below w.heap.size w w') fun e w' g => by rw [chk_bad h] at g; exact g
  clear h
  go_enter Tryz.func15, Tryz.ntmps15
  go_wp2_with fail
  refine (hk _).mono ?_
  rintro e w1 ⟨rfl, hb1⟩
  obtain ⟨hc1, hf1⟩ := bcell hb1
  have hz1 : w.heap.size + 1 < w1.heap.size := by have := hb1.size; simp at this; omega
  have b2 := (((Below.refl _ _).alloc (Nat.le_refl _) _).alloc (by simp) _).trans (hb1.mono (by simp; omega))
  go_wp2
  refine bodyPost_ret (v := .tuple #[.agg #[.int .i64 0, .int .i64 0, .int .i64 0, .int .i64 0], .int .i64 8]) (by simp [results, Tryz.results15, go_sem, hc1, hz1, Nat.lt_of_succ_lt hz1]) rfl ⟨rfl, ?_⟩
  exact (((b2.setCell (by simp) _).setCell (by simp) _).setCell (by simp) _).setCell (by simp) _

set_option maxHeartbeats 1000000 in
theorem brk_B (W H S x y : Int) (w : World) (h : okPat W H S ∧ fineB x = false) :
    Calls Tryz.prog 15 #[.agg #[.int .i64 W, .int .i64 H, .int .i64 S], .int .i64 x, .int .i64 y] w fun e w' => e = .returned (.tuple #[.agg #[.int .i64 0, .int .i64 0, .int .i64 0, .int .i64 0], .int .i64 2]) ∧ Below w.heap.size w w' := by
  have hk := fun w => (pat_any W H S w).mono (R' := fun e w' => e = .returned (.int .i64 0) ∧ Below w.heap.size w w') fun e w' g => by rw [chk_ok h.1] at g; exact g
  have hcx := fun w => (tfine_any x w).mono (R' := fun e w' => e = .returned (.bool false) ∧ w = w') fun e w' g => by rw [h.2] at g; exact g
  clear h
  go_enter Tryz.func15, Tryz.ntmps15
  go_wp2_with fail
  refine (hk _).mono ?_
  rintro e w1 ⟨rfl, hb1⟩
  obtain ⟨hc1, hf1⟩ := bcell hb1
  have hz1 : w.heap.size + 1 < w1.heap.size := by have := hb1.size; simp at this; omega
  have b2 := (((Below.refl _ _).alloc (Nat.le_refl _) _).alloc (by simp) _).trans (hb1.mono (by simp; omega))
  go_wp2_with (go_at_call 32; refine (hcx _).mono ?_; rintro e w' ⟨rfl, rfl⟩)
  refine bodyPost_ret (v := .tuple #[.agg #[.int .i64 0, .int .i64 0, .int .i64 0, .int .i64 0], .int .i64 2]) (by simp [results, Tryz.results15, go_sem, hc1, hz1, Nat.lt_of_succ_lt hz1]) rfl ⟨rfl, ?_⟩
  exact (((b2.setCell (by simp) _).setCell (by simp) _).setCell (by simp) _).setCell (by simp) _

set_option maxHeartbeats 1000000 in
theorem brk_C (W H S x y : Int) (w : World) (h : okPat W H S ∧ fineB x = true ∧ fineB y = false) :
    Calls Tryz.prog 15 #[.agg #[.int .i64 W, .int .i64 H, .int .i64 S], .int .i64 x, .int .i64 y] w fun e w' => e = .returned (.tuple #[.agg #[.int .i64 0, .int .i64 0, .int .i64 0, .int .i64 0], .int .i64 2]) ∧ Below w.heap.size w w' := by
  have hk := fun w => (pat_any W H S w).mono (R' := fun e w' => e = .returned (.int .i64 0) ∧ Below w.heap.size w w') fun e w' g => by rw [chk_ok h.1] at g; exact g
  have hcx := fun w => (tfine_any x w).mono (R' := fun e w' => e = .returned (.bool true) ∧ w = w') fun e w' g => by rw [h.2.1] at g; exact g
  have hcy := fun w => (tfine_any y w).mono (R' := fun e w' => e = .returned (.bool false) ∧ w = w') fun e w' g => by rw [h.2.2] at g; exact g
  clear h
  go_enter Tryz.func15, Tryz.ntmps15
  go_wp2_with fail
  refine (hk _).mono ?_
  rintro e w1 ⟨rfl, hb1⟩
  obtain ⟨hc1, hf1⟩ := bcell hb1
  have hz1 : w.heap.size + 1 < w1.heap.size := by have := hb1.size; simp at this; omega
  have b2 := (((Below.refl _ _).alloc (Nat.le_refl _) _).alloc (by simp) _).trans (hb1.mono (by simp; omega))
  go_wp2_with (first | (go_at_call_of 32 (Value.int .i64 x); refine (hcx _).mono ?_; rintro e w' ⟨rfl, rfl⟩) | (go_at_call_of 32 (Value.int .i64 y); refine (hcy _).mono ?_; rintro e w' ⟨rfl, rfl⟩))
  refine bodyPost_ret (v := .tuple #[.agg #[.int .i64 0, .int .i64 0, .int .i64 0, .int .i64 0], .int .i64 2]) (by simp [results, Tryz.results15, go_sem, hc1, hz1, Nat.lt_of_succ_lt hz1]) rfl ⟨rfl, ?_⟩
  exact (((b2.setCell (by simp) _).setCell (by simp) _).setCell (by simp) _).setCell (by simp) _

set_option maxHeartbeats 1000000 in
theorem brk_D0 (W H S x y X V Y Z : Int) (b1 b2 b3 : Bool) (w : World)
    (hk : ∀ w, Calls Tryz.prog 12 #[.agg #[.int .i64 W, .int .i64 H, .int .i64 S]] w fun e w' => e = .returned (.int .i64 0) ∧ Below w.heap.size w w')
    (hcx : ∀ w, Calls Tryz.prog 32 #[.int .i64 x] w fun e w' => e = .returned (.bool true) ∧ w = w') (hcy : ∀ w, Calls Tryz.prog 32 #[.int .i64 y] w fun e w' => e = .returned (.bool true) ∧ w = w')
    (hbr : ∀ w, Calls Tryz.prog 35 #[.agg #[.int .i64 W, .int .i64 H, .int .i64 S], .int .i64 x, .int .i64 y] w fun e w' => e = .returned (.agg #[.int .i64 X, .int .i64 Y, .int .i64 V, .int .i64 Z]) ∧ Below w.heap.size w w')
    (c0 : ∀ w, Calls Tryz.prog 32 #[.int .i64 X] w fun e w' => e = .returned (.bool false) ∧ w = w')
    (c1 : ∀ w, Calls Tryz.prog 32 #[.int .i64 V] w fun e w' => e = .returned (.bool b1) ∧ w = w')
    (c2 : ∀ w, Calls Tryz.prog 32 #[.int .i64 Y] w fun e w' => e = .returned (.bool b2) ∧ w = w')
    (c3 : ∀ w, Calls Tryz.prog 32 #[.int .i64 Z] w fun e w' => e = .returned (.bool b3) ∧ w = w')
    : Calls Tryz.prog 15 #[.agg #[.int .i64 W, .int .i64 H, .int .i64 S], .int .i64 x, .int .i64 y] w fun e w' => e = .returned (.tuple #[.agg #[.int .i64 0, .int .i64 0, .int .i64 0, .int .i64 0], .int .i64 16]) ∧ Below w.heap.size w w' := by
  go_enter Tryz.func15, Tryz.ntmps15
  go_wp2_with (first
    | (go_at_call 12; refine (hk _).mono ?_; rintro e w1 ⟨rfl, hb1⟩; obtain ⟨hc1, hf1⟩ := bcell hb1; have hz1 : w.heap.size + 1 < w1.heap.size := by have := hb1.size; simp at this; omega)
    | (go_at_call_of 32 (Value.int .i64 x); refine (hcx _).mono ?_; rintro e w' ⟨rfl, rfl⟩)
    | (go_at_call_of 32 (Value.int .i64 y); refine (hcy _).mono ?_; rintro e w' ⟨rfl, rfl⟩)
    | (go_at_call 35; refine (hbr _).mono ?_; rintro e w2 ⟨rfl, hb2⟩; obtain ⟨hc2, hf2⟩ := bcell hb2; have hz2 : w.heap.size + 1 < w2.heap.size := by have := hb2.size; omega)
    | (go_at_call_of 32 (Value.int .i64 X); refine (c0 _).mono ?_; rintro e w' ⟨rfl, rfl⟩)
    | (go_at_call_of 32 (Value.int .i64 V); refine (c1 _).mono ?_; rintro e w' ⟨rfl, rfl⟩)
    | (go_at_call_of 32 (Value.int .i64 Y); refine (c2 _).mono ?_; rintro e w' ⟨rfl, rfl⟩)
    | (go_at_call_of 32 (Value.int .i64 Z); refine (c3 _).mono ?_; rintro e w' ⟨rfl, rfl⟩))
  have b2 := ((((Below.refl _ _).alloc (Nat.le_refl _) _).alloc (by simp) _).trans (hb1.mono (by simp; omega))).trans (hb2.mono (by omega))
  refine bodyPost_ret (v := .tuple #[.agg #[.int .i64 0, .int .i64 0, .int .i64 0, .int .i64 0], .int .i64 16]) (by simp [results, Tryz.results15, go_sem, hc1, hz1, Nat.lt_of_succ_lt hz1, hc2, hz2, Nat.lt_succ_of_lt hz2, Nat.lt_of_succ_lt hz2, Nat.lt_of_succ_lt (Nat.lt_succ_of_lt hz2)]) rfl ⟨rfl, ?_⟩
  exact ((((b2.setCell (by simp) _).setCell (by simp) _).setCell (by simp) _).setCell (by simp) _).alloc (by simp; omega) _

set_option maxHeartbeats 1000000 in
theorem brk_D1 (W H S x y X V Y Z : Int) (b1 b2 b3 : Bool) (w : World)
    (hk : ∀ w, Calls Tryz.prog 12 #[.agg #[.int .i64 W, .int .i64 H, .int .i64 S]] w fun e w' => e = .returned (.int .i64 0) ∧ Below w.heap.size w w')
    (hcx : ∀ w, Calls Tryz.prog 32 #[.int .i64 x] w fun e w' => e = .returned (.bool true) ∧ w = w') (hcy : ∀ w, Calls Tryz.prog 32 #[.int .i64 y] w fun e w' => e = .returned (.bool true) ∧ w = w')
    (hbr : ∀ w, Calls Tryz.prog 35 #[.agg #[.int .i64 W, .int .i64 H, .int .i64 S], .int .i64 x, .int .i64 y] w fun e w' => e = .returned (.agg #[.int .i64 X, .int .i64 Y, .int .i64 V, .int .i64 Z]) ∧ Below w.heap.size w w')
    (c0 : ∀ w, Calls Tryz.prog 32 #[.int .i64 X] w fun e w' => e = .returned (.bool true) ∧ w = w')
    (c1 : ∀ w, Calls Tryz.prog 32 #[.int .i64 V] w fun e w' => e = .returned (.bool false) ∧ w = w')
    (c2 : ∀ w, Calls Tryz.prog 32 #[.int .i64 Y] w fun e w' => e = .returned (.bool b2) ∧ w = w')
    (c3 : ∀ w, Calls Tryz.prog 32 #[.int .i64 Z] w fun e w' => e = .returned (.bool b3) ∧ w = w')
    : Calls Tryz.prog 15 #[.agg #[.int .i64 W, .int .i64 H, .int .i64 S], .int .i64 x, .int .i64 y] w fun e w' => e = .returned (.tuple #[.agg #[.int .i64 0, .int .i64 0, .int .i64 0, .int .i64 0], .int .i64 16]) ∧ Below w.heap.size w w' := by
  go_enter Tryz.func15, Tryz.ntmps15
  go_wp2_with (first
    | (go_at_call 12; refine (hk _).mono ?_; rintro e w1 ⟨rfl, hb1⟩; obtain ⟨hc1, hf1⟩ := bcell hb1; have hz1 : w.heap.size + 1 < w1.heap.size := by have := hb1.size; simp at this; omega)
    | (go_at_call_of 32 (Value.int .i64 x); refine (hcx _).mono ?_; rintro e w' ⟨rfl, rfl⟩)
    | (go_at_call_of 32 (Value.int .i64 y); refine (hcy _).mono ?_; rintro e w' ⟨rfl, rfl⟩)
    | (go_at_call 35; refine (hbr _).mono ?_; rintro e w2 ⟨rfl, hb2⟩; obtain ⟨hc2, hf2⟩ := bcell hb2; have hz2 : w.heap.size + 1 < w2.heap.size := by have := hb2.size; omega)
    | (go_at_call_of 32 (Value.int .i64 X); refine (c0 _).mono ?_; rintro e w' ⟨rfl, rfl⟩)
    | (go_at_call_of 32 (Value.int .i64 V); refine (c1 _).mono ?_; rintro e w' ⟨rfl, rfl⟩)
    | (go_at_call_of 32 (Value.int .i64 Y); refine (c2 _).mono ?_; rintro e w' ⟨rfl, rfl⟩)
    | (go_at_call_of 32 (Value.int .i64 Z); refine (c3 _).mono ?_; rintro e w' ⟨rfl, rfl⟩))
  have b2 := ((((Below.refl _ _).alloc (Nat.le_refl _) _).alloc (by simp) _).trans (hb1.mono (by simp; omega))).trans (hb2.mono (by omega))
  refine bodyPost_ret (v := .tuple #[.agg #[.int .i64 0, .int .i64 0, .int .i64 0, .int .i64 0], .int .i64 16]) (by simp [results, Tryz.results15, go_sem, hc1, hz1, Nat.lt_of_succ_lt hz1, hc2, hz2, Nat.lt_succ_of_lt hz2, Nat.lt_of_succ_lt hz2, Nat.lt_of_succ_lt (Nat.lt_succ_of_lt hz2)]) rfl ⟨rfl, ?_⟩
  exact ((((b2.setCell (by simp) _).setCell (by simp) _).setCell (by simp) _).setCell (by simp) _).alloc (by simp; omega) _

set_option maxHeartbeats 1000000 in
theorem brk_D2 (W H S x y X V Y Z : Int) (b1 b2 b3 : Bool) (w : World)
    (hk : ∀ w, Calls Tryz.prog 12 #[.agg #[.int .i64 W, .int .i64 H, .int .i64 S]] w fun e w' => e = .returned (.int .i64 0) ∧ Below w.heap.size w w')
    (hcx : ∀ w, Calls Tryz.prog 32 #[.int .i64 x] w fun e w' => e = .returned (.bool true) ∧ w = w') (hcy : ∀ w, Calls Tryz.prog 32 #[.int .i64 y] w fun e w' => e = .returned (.bool true) ∧ w = w')
    (hbr : ∀ w, Calls Tryz.prog 35 #[.agg #[.int .i64 W, .int .i64 H, .int .i64 S], .int .i64 x, .int .i64 y] w fun e w' => e = .returned (.agg #[.int .i64 X, .int .i64 Y, .int .i64 V, .int .i64 Z]) ∧ Below w.heap.size w w')
    (c0 : ∀ w, Calls Tryz.prog 32 #[.int .i64 X] w fun e w' => e = .returned (.bool true) ∧ w = w')
    (c1 : ∀ w, Calls Tryz.prog 32 #[.int .i64 V] w fun e w' => e = .returned (.bool true) ∧ w = w')
    (c2 : ∀ w, Calls Tryz.prog 32 #[.int .i64 Y] w fun e w' => e = .returned (.bool false) ∧ w = w')
    (c3 : ∀ w, Calls Tryz.prog 32 #[.int .i64 Z] w fun e w' => e = .returned (.bool b3) ∧ w = w')
    : Calls Tryz.prog 15 #[.agg #[.int .i64 W, .int .i64 H, .int .i64 S], .int .i64 x, .int .i64 y] w fun e w' => e = .returned (.tuple #[.agg #[.int .i64 0, .int .i64 0, .int .i64 0, .int .i64 0], .int .i64 16]) ∧ Below w.heap.size w w' := by
  go_enter Tryz.func15, Tryz.ntmps15
  go_wp2_with (first
    | (go_at_call 12; refine (hk _).mono ?_; rintro e w1 ⟨rfl, hb1⟩; obtain ⟨hc1, hf1⟩ := bcell hb1; have hz1 : w.heap.size + 1 < w1.heap.size := by have := hb1.size; simp at this; omega)
    | (go_at_call_of 32 (Value.int .i64 x); refine (hcx _).mono ?_; rintro e w' ⟨rfl, rfl⟩)
    | (go_at_call_of 32 (Value.int .i64 y); refine (hcy _).mono ?_; rintro e w' ⟨rfl, rfl⟩)
    | (go_at_call 35; refine (hbr _).mono ?_; rintro e w2 ⟨rfl, hb2⟩; obtain ⟨hc2, hf2⟩ := bcell hb2; have hz2 : w.heap.size + 1 < w2.heap.size := by have := hb2.size; omega)
    | (go_at_call_of 32 (Value.int .i64 X); refine (c0 _).mono ?_; rintro e w' ⟨rfl, rfl⟩)
    | (go_at_call_of 32 (Value.int .i64 V); refine (c1 _).mono ?_; rintro e w' ⟨rfl, rfl⟩)
    | (go_at_call_of 32 (Value.int .i64 Y); refine (c2 _).mono ?_; rintro e w' ⟨rfl, rfl⟩)
    | (go_at_call_of 32 (Value.int .i64 Z); refine (c3 _).mono ?_; rintro e w' ⟨rfl, rfl⟩))
  have b2 := ((((Below.refl _ _).alloc (Nat.le_refl _) _).alloc (by simp) _).trans (hb1.mono (by simp; omega))).trans (hb2.mono (by omega))
  refine bodyPost_ret (v := .tuple #[.agg #[.int .i64 0, .int .i64 0, .int .i64 0, .int .i64 0], .int .i64 16]) (by simp [results, Tryz.results15, go_sem, hc1, hz1, Nat.lt_of_succ_lt hz1, hc2, hz2, Nat.lt_succ_of_lt hz2, Nat.lt_of_succ_lt hz2, Nat.lt_of_succ_lt (Nat.lt_succ_of_lt hz2)]) rfl ⟨rfl, ?_⟩
  exact ((((b2.setCell (by simp) _).setCell (by simp) _).setCell (by simp) _).setCell (by simp) _).alloc (by simp; omega) _

set_option maxHeartbeats 1000000 in
theorem brk_D3 (W H S x y X V Y Z : Int) (b1 b2 b3 : Bool) (w : World)
    (hk : ∀ w, Calls Tryz.prog 12 #[.agg #[.int .i64 W, .int .i64 H, .int .i64 S]] w fun e w' => e = .returned (.int .i64 0) ∧ Below w.heap.size w w')
    (hcx : ∀ w, Calls Tryz.prog 32 #[.int .i64 x] w fun e w' => e = .returned (.bool true) ∧ w = w') (hcy : ∀ w, Calls Tryz.prog 32 #[.int .i64 y] w fun e w' => e = .returned (.bool true) ∧ w = w')
    (hbr : ∀ w, Calls Tryz.prog 35 #[.agg #[.int .i64 W, .int .i64 H, .int .i64 S], .int .i64 x, .int .i64 y] w fun e w' => e = .returned (.agg #[.int .i64 X, .int .i64 Y, .int .i64 V, .int .i64 Z]) ∧ Below w.heap.size w w')
    (c0 : ∀ w, Calls Tryz.prog 32 #[.int .i64 X] w fun e w' => e = .returned (.bool true) ∧ w = w')
    (c1 : ∀ w, Calls Tryz.prog 32 #[.int .i64 V] w fun e w' => e = .returned (.bool true) ∧ w = w')
    (c2 : ∀ w, Calls Tryz.prog 32 #[.int .i64 Y] w fun e w' => e = .returned (.bool true) ∧ w = w')
    (c3 : ∀ w, Calls Tryz.prog 32 #[.int .i64 Z] w fun e w' => e = .returned (.bool false) ∧ w = w')
    : Calls Tryz.prog 15 #[.agg #[.int .i64 W, .int .i64 H, .int .i64 S], .int .i64 x, .int .i64 y] w fun e w' => e = .returned (.tuple #[.agg #[.int .i64 0, .int .i64 0, .int .i64 0, .int .i64 0], .int .i64 16]) ∧ Below w.heap.size w w' := by
  go_enter Tryz.func15, Tryz.ntmps15
  go_wp2_with (first
    | (go_at_call 12; refine (hk _).mono ?_; rintro e w1 ⟨rfl, hb1⟩; obtain ⟨hc1, hf1⟩ := bcell hb1; have hz1 : w.heap.size + 1 < w1.heap.size := by have := hb1.size; simp at this; omega)
    | (go_at_call_of 32 (Value.int .i64 x); refine (hcx _).mono ?_; rintro e w' ⟨rfl, rfl⟩)
    | (go_at_call_of 32 (Value.int .i64 y); refine (hcy _).mono ?_; rintro e w' ⟨rfl, rfl⟩)
    | (go_at_call 35; refine (hbr _).mono ?_; rintro e w2 ⟨rfl, hb2⟩; obtain ⟨hc2, hf2⟩ := bcell hb2; have hz2 : w.heap.size + 1 < w2.heap.size := by have := hb2.size; omega)
    | (go_at_call_of 32 (Value.int .i64 X); refine (c0 _).mono ?_; rintro e w' ⟨rfl, rfl⟩)
    | (go_at_call_of 32 (Value.int .i64 V); refine (c1 _).mono ?_; rintro e w' ⟨rfl, rfl⟩)
    | (go_at_call_of 32 (Value.int .i64 Y); refine (c2 _).mono ?_; rintro e w' ⟨rfl, rfl⟩)
    | (go_at_call_of 32 (Value.int .i64 Z); refine (c3 _).mono ?_; rintro e w' ⟨rfl, rfl⟩))
  have b2 := ((((Below.refl _ _).alloc (Nat.le_refl _) _).alloc (by simp) _).trans (hb1.mono (by simp; omega))).trans (hb2.mono (by omega))
  refine bodyPost_ret (v := .tuple #[.agg #[.int .i64 0, .int .i64 0, .int .i64 0, .int .i64 0], .int .i64 16]) (by simp [results, Tryz.results15, go_sem, hc1, hz1, Nat.lt_of_succ_lt hz1, hc2, hz2, Nat.lt_succ_of_lt hz2, Nat.lt_of_succ_lt hz2, Nat.lt_of_succ_lt (Nat.lt_succ_of_lt hz2)]) rfl ⟨rfl, ?_⟩
  exact ((((b2.setCell (by simp) _).setCell (by simp) _).setCell (by simp) _).setCell (by simp) _).alloc (by simp; omega) _

set_option maxHeartbeats 1000000 in
theorem brk_D4 (W H S x y X V Y Z : Int) (b1 b2 b3 : Bool) (w : World)
    (hk : ∀ w, Calls Tryz.prog 12 #[.agg #[.int .i64 W, .int .i64 H, .int .i64 S]] w fun e w' => e = .returned (.int .i64 0) ∧ Below w.heap.size w w')
    (hcx : ∀ w, Calls Tryz.prog 32 #[.int .i64 x] w fun e w' => e = .returned (.bool true) ∧ w = w') (hcy : ∀ w, Calls Tryz.prog 32 #[.int .i64 y] w fun e w' => e = .returned (.bool true) ∧ w = w')
    (hbr : ∀ w, Calls Tryz.prog 35 #[.agg #[.int .i64 W, .int .i64 H, .int .i64 S], .int .i64 x, .int .i64 y] w fun e w' => e = .returned (.agg #[.int .i64 X, .int .i64 Y, .int .i64 V, .int .i64 Z]) ∧ Below w.heap.size w w')
    (c0 : ∀ w, Calls Tryz.prog 32 #[.int .i64 X] w fun e w' => e = .returned (.bool true) ∧ w = w')
    (c1 : ∀ w, Calls Tryz.prog 32 #[.int .i64 V] w fun e w' => e = .returned (.bool true) ∧ w = w')
    (c2 : ∀ w, Calls Tryz.prog 32 #[.int .i64 Y] w fun e w' => e = .returned (.bool true) ∧ w = w')
    (c3 : ∀ w, Calls Tryz.prog 32 #[.int .i64 Z] w fun e w' => e = .returned (.bool true) ∧ w = w')
    : Calls Tryz.prog 15 #[.agg #[.int .i64 W, .int .i64 H, .int .i64 S], .int .i64 x, .int .i64 y] w fun e w' => e = .returned (.tuple #[.agg #[.int .i64 X, .int .i64 Y, .int .i64 V, .int .i64 Z], .int .i64 0]) ∧ Below w.heap.size w w' := by
  go_enter Tryz.func15, Tryz.ntmps15
  go_wp2_with (first
    | (go_at_call 12; refine (hk _).mono ?_; rintro e w1 ⟨rfl, hb1⟩; obtain ⟨hc1, hf1⟩ := bcell hb1; have hz1 : w.heap.size + 1 < w1.heap.size := by have := hb1.size; simp at this; omega)
    | (go_at_call_of 32 (Value.int .i64 x); refine (hcx _).mono ?_; rintro e w' ⟨rfl, rfl⟩)
    | (go_at_call_of 32 (Value.int .i64 y); refine (hcy _).mono ?_; rintro e w' ⟨rfl, rfl⟩)
    | (go_at_call 35; refine (hbr _).mono ?_; rintro e w2 ⟨rfl, hb2⟩; obtain ⟨hc2, hf2⟩ := bcell hb2; have hz2 : w.heap.size + 1 < w2.heap.size := by have := hb2.size; omega)
    | (go_at_call_of 32 (Value.int .i64 X); refine (c0 _).mono ?_; rintro e w' ⟨rfl, rfl⟩)
    | (go_at_call_of 32 (Value.int .i64 V); refine (c1 _).mono ?_; rintro e w' ⟨rfl, rfl⟩)
    | (go_at_call_of 32 (Value.int .i64 Y); refine (c2 _).mono ?_; rintro e w' ⟨rfl, rfl⟩)
    | (go_at_call_of 32 (Value.int .i64 Z); refine (c3 _).mono ?_; rintro e w' ⟨rfl, rfl⟩))
  have b2 := ((((Below.refl _ _).alloc (Nat.le_refl _) _).alloc (by simp) _).trans (hb1.mono (by simp; omega))).trans (hb2.mono (by omega))
  refine bodyPost_ret (v := .tuple #[.agg #[.int .i64 X, .int .i64 Y, .int .i64 V, .int .i64 Z], .int .i64 0]) (by simp [results, Tryz.results15, go_sem, hc1, hz1, Nat.lt_of_succ_lt hz1, hc2, hz2, Nat.lt_succ_of_lt hz2, Nat.lt_of_succ_lt hz2, Nat.lt_of_succ_lt (Nat.lt_succ_of_lt hz2)]) rfl ⟨rfl, ?_⟩
  exact ((((b2.setCell (by simp) _).setCell (by simp) _).setCell (by simp) _).setCell (by simp) _).alloc (by simp; omega) _

theorem brk_D (W H S x y : Int) (w : World) (h : okPat W H S ∧ fineB x = true ∧ fineB y = true) :
    Calls Tryz.prog 15 #[.agg #[.int .i64 W, .int .i64 H, .int .i64 S], .int .i64 x, .int .i64 y] w fun e w' => e = .returned (.tuple #[.agg #[.int .i64 (br0 W H S x y), .int .i64 (br1 W H S x y), .int .i64 (br2 W H S x y), .int .i64 (br3 W H S x y)], .int .i64 (if brOK W H S x y then 0 else 16)]) ∧ Below w.heap.size w w' := by
  obtain ⟨hp, hx, hy⟩ := h
  have hat : atOK W H S x y := ⟨hp, by rw [hx, hy]; rfl⟩
  have hk := fun w => (pat_any W H S w).mono (R' := fun e w' => e = .returned (.int .i64 0) ∧ Below w.heap.size w w') fun e w' g => by rw [chk_ok hp] at g; exact g
  have hcx := fun w => (tfine_any x w).mono (R' := fun e w' => e = .returned (.bool true) ∧ w = w') fun e w' g => by rw [hx] at g; exact g
  have hcy := fun w => (tfine_any y w).mono (R' := fun e w' => e = .returned (.bool true) ∧ w = w') fun e w' g => by rw [hy] at g; exact g
  have hx' := fineB_of hx
  have hy' := fineB_of hy
  have hbr := fun w => brick_any W H S x y w hp (by omega) (by omega) hy'.1 hy'.2
  obtain ⟨X, hX⟩ : ∃ X, brX W H S x y = X := ⟨_, rfl⟩
  obtain ⟨Y, hY⟩ : ∃ Y, y * H = Y := ⟨_, rfl⟩
  obtain ⟨Z, hZ⟩ : ∃ Z, (y + 1) * H = Z := ⟨_, rfl⟩
  obtain ⟨V, hV⟩ : ∃ V, X + W = V := ⟨_, rfl⟩
  rw [hX, hY, hZ, hV] at hbr
  have c0 := fun w => tfine_any X w
  have c1 := fun w => tfine_any V w
  have c2 := fun w => tfine_any Y w
  have c3 := fun w => tfine_any Z w
  have hiff : brOK W H S x y ↔ (fineB X && fineB V && fineB Y && fineB Z) = true := by
    unfold brOK
    rw [hX, hV, hY, hZ]
    exact ⟨fun g => g.2, fun g => ⟨hat, g⟩⟩
  simp only [br0, br1, br2, br3, hX, hY, hZ, hV, hiff]
  generalize fineB X = b0 at *
  generalize fineB V = b1 at *
  generalize fineB Y = b2 at *
  generalize fineB Z = b3 at *
  cases b0
  · exact brk_D0 W H S x y X V Y Z b1 b2 b3 w hk hcx hcy hbr c0 c1 c2 c3
  cases b1
  · exact brk_D1 W H S x y X V Y Z false b2 b3 w hk hcx hcy hbr c0 c1 c2 c3
  cases b2
  · exact brk_D2 W H S x y X V Y Z false false b3 w hk hcx hcy hbr c0 c1 c2 c3
  cases b3
  · exact brk_D3 W H S x y X V Y Z false false false w hk hcx hcy hbr c0 c1 c2 c3
  · exact brk_D4 W H S x y X V Y Z false false false w hk hcx hcy hbr c0 c1 c2 c3

theorem brk_any (W H S x y : Int) (w : World) :
    Calls Tryz.prog 15 #[.agg #[.int .i64 W, .int .i64 H, .int .i64 S], .int .i64 x, .int .i64 y] w fun e w' => e = .returned (.tuple #[.agg #[.int .i64 (br0 W H S x y), .int .i64 (br1 W H S x y), .int .i64 (br2 W H S x y), .int .i64 (br3 W H S x y)], .int .i64 (brE W H S x y)]) ∧ Below w.heap.size w w' := by
  by_cases hp : okPat W H S
  · cases hx : fineB x
    · have h1 : ¬ atOK W H S x y := fun h => by have := h.2; simp [hx] at this
      have h2 : ¬ brOK W H S x y := fun h => h1 h.1
      simp only [br0, br1, br2, br3, brE, if_neg h1, if_neg h2, atE, if_pos hp, hx, Bool.false_and, Bool.false_eq_true, if_false]
      exact brk_B W H S x y w ⟨hp, hx⟩
    · cases hy : fineB y
      · have h1 : ¬ atOK W H S x y := fun h => by have := h.2; simp [hy] at this
        have h2 : ¬ brOK W H S x y := fun h => h1 h.1
        simp only [br0, br1, br2, br3, brE, if_neg h1, if_neg h2, atE, if_pos hp, hy, Bool.and_false, Bool.false_eq_true, if_false]
        exact brk_C W H S x y w ⟨hp, hx, hy⟩
      · have h1 : atOK W H S x y := ⟨hp, by rw [hx, hy]; rfl⟩
        simp only [brE, if_pos h1]
        exact brk_D W H S x y w ⟨hp, hx, hy⟩
  · have h1 : ¬ atOK W H S x y := fun h => hp h.1
    have h2 : ¬ brOK W H S x y := fun h => h1 h.1
    simp only [br0, br1, br2, br3, brE, if_neg h1, if_neg h2, atE, if_neg hp]
    exact brk_A W H S x y w hp

end Go.Proofs.YtlkaniojnaaocaaGreat

/- Brick of the reference of texture, whole. -/
namespace Go.Proofs.YtlkaniojnaaocaaGreat
open Go.RowKit
set_option linter.unusedVariables false
set_option linter.unusedSimpArgs false

end Go.Proofs.YtlkaniojnaaocaaGreat

/- The walks of the two functions that reckon a greatest common divisor, and of the two that make a ratio, at 0 ≤ num < den ≤ 1000. -/
namespace Go.Proofs.YtlkaniojnaaocaaGreat
open Go.RowKit
set_option linter.unusedVariables false
set_option linter.unusedSimpArgs false

set_option maxHeartbeats 400000 in
theorem gcd_any (a b : Nat) (w : World) (ha : a ≤ 1000000) (hb : b ≤ 1000000) :
    Calls Tryz.prog 94 #[.int .u64 a, .int .u64 b] w fun e w' => e = .returned (.int .u64 (Nat.gcd a b : Nat)) ∧ Below w.heap.size w w' := by
  obtain ⟨g, hg⟩ : ∃ g, Nat.gcd a b = g := ⟨_, rfl⟩
  rw [hg]
  have HG := hide hg
  clear hg
  go_enter Tryz.func94, Tryz.ntmps94
  go_wp2
  go_loopw [0, 1] (fun s0 s1 wr => ∃ x y : Nat, s0 = .int .u64 (x : Int) ∧ s1 = .int .u64 (y : Int) ∧ x ≤ 1000000 ∧ y ≤ 1000000 ∧ Hid (Nat.gcd x y = g) ∧ Below w.heap.size w wr) (fun _ s1 _ => (intOf s1).toNat)
  case atStart => exact ⟨a, b, rfl, rfl, ha, hb, HG, Below.refl _ _⟩
  case round =>
    obtain ⟨x, y, rfl, rfl, hx, hy, HX, hB⟩ := hrel
    by_cases h0 : y = 0
    · subst h0
      go_wp2
      go_ret
      have := HX.out
      rw [Nat.gcd_zero_right] at this
      exact ⟨ret_eq (int_eq (by rw [this])), hB⟩
    · have h0' : ((y : Int) != 0) = true := by simpa using h0
      have h1 : 1 ≤ (y : Int) := by omega
      have hm : x % y < y := Nat.mod_lt _ (by omega)
      clear h0
      go_wp2
      go_quiet (fail)
      go_wp2
      go_roundw
      case rel =>
        refine ⟨y, x % y, rfl, by rw [Int.natCast_emod], hy, by omega, ?_, below_drewN hB _⟩
        have := HX.out
        rw [Nat.gcd_comm, Nat.gcd_rec, Nat.gcd_comm] at this
        exact hide (by rw [Nat.gcd_comm]; rw [← this]; rw [Nat.gcd_comm])
      case measure => simp [intOf]; omega

theorem size_any (a : Int) (w : World) (h1 : 0 ≤ a) (h2 : a ≤ 1000000) : Calls Tryz.prog 93 #[.int .i64 a] w fun e w' => e = .returned (.int .u64 a) ∧ w = w' := by
  go_enter Tryz.func93, Tryz.ntmps93
  go_wp2
  go_ret
  exact ⟨rfl, rfl⟩

theorem div_bd (a g : Nat) (hg : 1 ≤ g) (ha : a ≤ 1000000) : 0 ≤ (a : Int) / (g : Int) ∧ (a : Int) / (g : Int) ≤ 1000000 := by
  have h := Nat.div_le_self a g
  have e : (a : Int) / (g : Int) = ((a / g : Nat) : Int) := by rw [Int.natCast_ediv]
  rw [e]
  exact ⟨Int.natCast_nonneg _, Int.ofNat_le.2 (Nat.le_trans h ha)⟩

set_option maxHeartbeats 1000000 in
theorem ratMk_any (a n g : Nat) (w : World) (ha : a ≤ 1000000) (hn : n ≤ 1000000) (h1 : 1 ≤ n) (hg : Hid (Nat.gcd a n = g)) :
    Calls Tryz.prog 65 #[.int .i64 a, .int .i64 n] w fun e w' => e = .returned (.tuple #[.agg #[.int .i64 ((a : Int) / (g : Int)), .int .i64 ((n : Int) / (g : Int))], .int .i64 0]) ∧ Below w.heap.size w w' := by
  have hg1 : 1 ≤ g := by have := hg.out; have := Nat.gcd_pos_of_pos_right a (n := n) (by omega); omega
  have hgi : 1 ≤ (g : Int) := by omega
  obtain ⟨d1, d1'⟩ := div_bd a g hg1 ha
  obtain ⟨d2, d2'⟩ := div_bd n g hg1 hn
  have hgl : g ≤ n := by have := hg.out; have := Nat.gcd_le_right (m := a) (n := n) (by omega); omega
  have hs1 := fun w => size_any a w (by omega) (by omega)
  have hs2 := fun w => size_any n w (by omega) (by omega)
  have hgc := fun w => (gcd_any a n w ha hn).mono (R' := fun e w' => e = .returned (.int .u64 g) ∧ Below w.heap.size w w') fun e w' h => by rw [hg.out] at h; exact h
  have hni : ((n : Int) == 0) = false := by simp; omega
  have hna : decide ((a : Int) < 0) = false := by simp
  have hnn : decide ((n : Int) < 0) = false := by simp
  clear hg
  go_enter Tryz.func65, Tryz.ntmps65
  go_wp2_with (first
    | (go_at_call_of 93 (Value.int .i64 (a : Int)); refine (hs1 _).mono ?_; rintro e w' ⟨rfl, rfl⟩)
    | (go_at_call_of 93 (Value.int .i64 (n : Int)); refine (hs2 _).mono ?_; rintro e w' ⟨rfl, rfl⟩)
    | (go_at_call 94; refine (hgc _).mono ?_; rintro e w1 ⟨rfl, hb1⟩; obtain ⟨hc1, hf1⟩ := bcell hb1; have hz1 : w.heap.size < w1.heap.size := by have := hb1.size; simp at this; omega))
  refine wp_hab fun hab => ?_
  refine wp_region_above (by kernel_rfl) (by kernel_rfl) ?_
  repeat (go_big_quiet_step (fail))
  refine wpQuiet_nil ?_
  refine above_ends fun w2 hb2 => ?_
  clear hab
  obtain ⟨hc2, hf2⟩ := bcell hb2
  have hz2 : w.heap.size < w2.heap.size := by have := hb2.size; omega
  go_wp2
  refine bodyPost_ret (v := .tuple #[.agg #[.int .i64 ((a : Int) / (g : Int)), .int .i64 ((n : Int) / (g : Int))], .int .i64 0]) (by simp [results, Tryz.results65, go_sem, hc1, hc2, hz1, hz2]) rfl ⟨rfl, ?_⟩
  have b2 := (((Below.refl _ _).alloc (Nat.le_refl _) _).trans (hb1.mono (by simp))).trans (hb2.mono (by omega))
  exact ((b2.setCell (by simp) _).setCell (by simp) _).alloc (by simp; omega) _

theorem coprime_div (a n g : Nat) (h1 : 1 ≤ n) (hg : Nat.gcd a n = g) : Nat.gcd (a / g) (n / g) = 1 := by
  subst hg
  rw [Nat.gcd_div (Nat.gcd_dvd_left a n) (Nat.gcd_dvd_right a n), Nat.div_self (Nat.gcd_pos_of_pos_right a (by omega))]

end Go.Proofs.YtlkaniojnaaocaaGreat

/- Coords of texture and of its reference. -/
namespace Go.Proofs.YtlkaniojnaaocaaGreat
open Go.RowKit
set_option linter.unusedVariables false
set_option linter.unusedSimpArgs false

/-- What Coords returns. -/
def coA (W H S x y : Int) : Nat := ((x - shiftI W S (rowI H y)) % W).toNat
def coB (H y : Int) : Nat := (y % H).toNat
def co0 (W H S x y : Int) : Int := if atOK W H S x y then (coA W H S x y : Int) / ((Nat.gcd (coA W H S x y) W.toNat : Nat) : Int) else 0
def co1 (W H S x y : Int) : Int := if atOK W H S x y then (W.toNat : Int) / ((Nat.gcd (coA W H S x y) W.toNat : Nat) : Int) else 0
def co2 (W H S x y : Int) : Int := if atOK W H S x y then (coB H y : Int) / ((Nat.gcd (coB H y) H.toNat : Nat) : Int) else 0
def co3 (W H S x y : Int) : Int := if atOK W H S x y then (H.toNat : Int) / ((Nat.gcd (coB H y) H.toNat : Nat) : Int) else 0

set_option maxHeartbeats 1000000 in
theorem coords_no (W H S x y c : Int) (w : World) (hc : (c != 0) = true)
    (hat : ∀ w, Calls Tryz.prog 13 #[.agg #[.int .i64 W, .int .i64 H, .int .i64 S], .int .i64 x, .int .i64 y] w fun e w' => e = .returned (.tuple #[.int .i64 0, .int .i64 0, .int .i64 c]) ∧ Below w.heap.size w w') :
    Calls Tryz.prog 40 #[.agg #[.int .i64 W, .int .i64 H, .int .i64 S], .int .i64 x, .int .i64 y] w fun e w' => e = .returned (.tuple #[.agg #[.int .i64 0, .int .i64 0], .agg #[.int .i64 0, .int .i64 0], .int .i64 c]) ∧ Below w.heap.size w w' := by
  go_enter Tryz.func40, Tryz.ntmps40
  go_wp2_with (go_at_call 13; refine (hat _).mono ?_; rintro e w1 ⟨rfl, hb1⟩; obtain ⟨hc1, hf1⟩ := bcell hb1; have hz1 : w.heap.size + 2 < w1.heap.size := by have := hb1.size; simp at this; omega)
  refine bodyPost_ret (v := .tuple #[.agg #[.int .i64 0, .int .i64 0], .agg #[.int .i64 0, .int .i64 0], .int .i64 c]) (by simp [results, Tryz.results40, go_sem, hc1, hz1, Nat.lt_of_succ_lt hz1]) rfl ⟨rfl, ?_⟩
  have b2 := ((((Below.refl _ _).alloc (Nat.le_refl _) _).alloc (by simp) _).alloc (by simp; omega) _).trans (hb1.mono (by simp; omega))
  exact (((b2.setCell (by first | (simp; done) | (simp; omega) | omega) _).setCell (by first | (simp; done) | (simp; omega) | omega) _).setCell (by first | (simp; done) | (simp; omega) | omega) _).setCell (by first | (simp; done) | (simp; omega) | omega) _
set_option maxHeartbeats 2000000 in
theorem coords_yes (W H S x y : Int) (c a g b k : Nat) (w : World) (h : atOK W H S x y) (hcA : coA W H S x y = a) (hcB : coB H y = b) (hg : Hid (Nat.gcd a W.toNat = g)) (hk : Hid (Nat.gcd b H.toNat = k)) :
    Calls Tryz.prog 40 #[.agg #[.int .i64 W, .int .i64 H, .int .i64 S], .int .i64 x, .int .i64 y] w fun e w' => e = .returned (.tuple #[.agg #[.int .i64 ((a : Int) / (g : Int)), .int .i64 ((W.toNat : Int) / (g : Int))], .agg #[.int .i64 ((b : Int) / (k : Int)), .int .i64 ((H.toNat : Int) / (k : Int))], .int .i64 0]) ∧ Below w.heap.size w w' := by
  obtain ⟨hp, hf⟩ := h
  simp only [Bool.and_eq_true] at hf
  have hx := fineB_of hf.1
  have hy := fineB_of hf.2
  have hat := fun w => at_ok W H S x y w hp hf.1 hf.2
  have hp' := hp
  unfold okPat at hp'
  have q1 : -1000000 ≤ rowI H y ∧ rowI H y ≤ 1000000 := ediv_bd y H 1000000 (by omega) hy.1 hy.2 (by omega)
  have hsb := shiftI_bd hp (rowI H y)
  have hsh := fun w => shift_any W H S (rowI H y) w hp q1.1 q1.2
  have r1 := emod_bd y H (by omega)
  have r2 := emod_bd (x - shiftI W S (rowI H y)) W (by omega)
  have eA : (x - shiftI W S (rowI H y)) % W = (a : Int) := by rw [← hcA]; unfold coA; omega
  have eB : y % H = (b : Int) := by rw [← hcB]; unfold coB; omega
  have hs1 := fun w => split_any (x - shiftI W S (rowI H y)) W w (by omega) (by omega) (by omega) (by omega)
  have hs2 := fun w => split_any y H w (by omega) (by omega) (by omega) (by omega)
  rw [eA] at hs1 r2
  rw [eB] at hs2 r1
  have eW : W = (W.toNat : Int) := by omega
  have eH : H = (H.toNat : Int) := by omega
  have hm1 := fun w => ratMk_any a W.toNat g w (by omega) (by omega) (by omega) hg
  have hm2 := fun w => ratMk_any b H.toNat k w (by omega) (by omega) (by omega) hk
  rw [← eW] at hm1
  rw [← eH] at hm2
  rw [← eW, ← eH]
  clear eW eH eA eB hcA hcB hf hp
  go_enter Tryz.func40, Tryz.ntmps40
  go_wp2_with (go_at_call 13; refine (hat _).mono ?_; rintro e w1 ⟨rfl, hb1⟩; obtain ⟨hc1, hf1⟩ := bcell hb1; have hz1 : w.heap.size + 2 < w1.heap.size := by have := hb1.size; simp at this; omega)
  have hl1 : w.heap.size < w1.heap.size ∧ w.heap.size + 1 < w1.heap.size := by omega
  refine wp_hab fun hab => ?_
  refine wp_region_above (by kernel_rfl) (by kernel_rfl) ?_
  repeat (go_big_quiet_step ((first | (go_at_call 34; exact above_of (hsh _)) | (go_at_call 33; exact above_of (hs1 _)))))
  refine wpQuiet_nil ?_
  refine above_ends fun w2 hb2 => ?_
  clear hab
  obtain ⟨hc2, hf2⟩ := bcell hb2
  have hz2 : w.heap.size + 2 < w2.heap.size ∧ w.heap.size < w2.heap.size ∧ w.heap.size + 1 < w2.heap.size := by have := hb2.size; omega
  have b2 := (((((Below.refl _ _).alloc (Nat.le_refl _) _).alloc (by simp) _).alloc (by simp; omega) _).trans (hb1.mono (by simp; omega))).trans (hb2.mono (by omega))
  go_wp2_with (first
    | (go_at_call 33; refine (hs2 _).mono ?_; rintro e w3 ⟨rfl, hb3⟩; obtain ⟨hc3, hf3⟩ := bcell hb3; have hz3 : w.heap.size + 2 < w3.heap.size ∧ w.heap.size < w3.heap.size ∧ w.heap.size + 1 < w3.heap.size := by have := hb3.size; omega)
    | (go_at_call_of 65 (Value.int .i64 W); refine (hm1 _).mono ?_; rintro e w4 ⟨rfl, hb4⟩; obtain ⟨hc4, hf4⟩ := bcell hb4; have hz4 : w.heap.size + 2 < w4.heap.size ∧ w.heap.size < w4.heap.size ∧ w.heap.size + 1 < w4.heap.size := by have := hb4.size; omega)
    | (go_at_call_of 65 (Value.int .i64 H); refine (hm2 _).mono ?_; rintro e w5 ⟨rfl, hb5⟩; obtain ⟨hc5, hf5⟩ := bcell hb5; have hz5 : w.heap.size + 2 < w5.heap.size ∧ w.heap.size < w5.heap.size ∧ w.heap.size + 1 < w5.heap.size := by have := hb5.size; simp at this; omega))
  refine wp_name fun w6 hw6 => ?_
  have b6 : Below w.heap.size w w6 := by
    rw [hw6]
    have b4 := (b2.trans (hb3.mono (by omega))).trans (hb4.mono (by omega))
    have b5 := ((b4.setCell (p := ⟨w.heap.size + 1, 0, none⟩) (by simp) (.int .i64 ((a : Int) / (g : Int)))).setCell (p := ⟨w.heap.size + 1, 1, none⟩) (by simp) (.int .i64 (W / (g : Int)))).trans (hb5.mono (by simp; omega))
    exact (b5.setCell (by simp; omega) _).setCell (by simp; omega) _
  have k0 : w6.cell? ⟨w.heap.size + 1, 0, none⟩ = some (.int .i64 ((a : Int) / (g : Int))) := by rw [hw6]; simp [go_sem, hc5, hz5, hz4, hc4, hc3, hz3, hc2, hz2, hc1, hz1, hl1]
  have k1 : w6.cell? ⟨w.heap.size + 1, 1, none⟩ = some (.int .i64 (W / (g : Int))) := by rw [hw6]; simp [go_sem, hc5, hz5, hz4, hc4, hc3, hz3, hc2, hz2, hc1, hz1, hl1]
  have k2 : w6.cell? ⟨w.heap.size + 2, 0, none⟩ = some (.int .i64 ((b : Int) / (k : Int))) := by rw [hw6]; simp [go_sem, hc5, hz5, hz4, hc4, hc3, hz3, hc2, hz2, hc1, hz1, hl1]
  have k3 : w6.cell? ⟨w.heap.size + 2, 1, none⟩ = some (.int .i64 (H / (k : Int))) := by rw [hw6]; simp [go_sem, hc5, hz5, hz4, hc4, hc3, hz3, hc2, hz2, hc1, hz1, hl1]
  have f0 : ∀ o, w6.frozen? ⟨w.heap.size + 1, o, none⟩ = false := by intro o; rw [hw6]; simp [go_sem, hf5, hz5, hz4, hf4, hf3, hz3, hf2, hz2, hf1, hz1, hl1]
  have f1 : ∀ o, w6.frozen? ⟨w.heap.size + 2, o, none⟩ = false := by intro o; rw [hw6]; simp [go_sem, hf5, hz5, hz4, hf4, hf3, hz3, hf2, hz2, hf1, hz1, hl1]
  clear hc1 hc2 hc3 hc4 hc5 hf1 hf2 hf3 hf4 hf5 hw6 b2 hb1 hb2 hb3 hb4 hb5
  go_region
  all_goals
    go_wp2
    refine bodyPost_ret (v := .tuple #[.agg #[.int .i64 ((a : Int) / (g : Int)), .int .i64 (W / (g : Int))], .agg #[.int .i64 ((b : Int) / (k : Int)), .int .i64 (H / (k : Int))], .int .i64 0]) (by simp [results, Tryz.results40, go_sem, k0, k1, k2, k3]) rfl ⟨rfl, ?_⟩
    first
      | exact (((b6.drew.setCell (by simp) _).setCell (by simp) _).setCell (by simp; omega) _).setCell (by simp; omega) _
      | exact (((b6.drew.setCell (by simp; omega) _).setCell (by simp; omega) _).setCell (by simp) _).setCell (by simp) _
      | exact ((((b6.setCell (by simp) _).setCell (by simp) _).setCell (by simp; omega) _).setCell (by simp; omega) _).drew
      | exact ((((b6.setCell (by simp; omega) _).setCell (by simp; omega) _).setCell (by simp) _).setCell (by simp) _).drew
end Go.Proofs.YtlkaniojnaaocaaGreat

/- Coords of the reference of texture; both Coords whole. -/
namespace Go.Proofs.YtlkaniojnaaocaaGreat
open Go.RowKit
set_option linter.unusedVariables false
set_option linter.unusedSimpArgs false

/-- Coords of texture, whole. -/
theorem coords_any (W H S x y : Int) (w : World) :
    Calls Tryz.prog 40 #[.agg #[.int .i64 W, .int .i64 H, .int .i64 S], .int .i64 x, .int .i64 y] w fun e w' => e = .returned (.tuple #[.agg #[.int .i64 (co0 W H S x y), .int .i64 (co1 W H S x y)], .agg #[.int .i64 (co2 W H S x y), .int .i64 (co3 W H S x y)], .int .i64 (atE W H S x y)]) ∧ Below w.heap.size w w' := by
  by_cases h : atOK W H S x y
  · have hE : atE W H S x y = 0 := by unfold atE; rw [if_pos h.1, if_pos h.2]
    simp only [co0, co1, co2, co3, if_pos h, hE]
    exact coords_yes W H S x y 0 _ _ _ _ w h rfl rfl (hide rfl) (hide rfl)
  · have hat := fun w => at_any W H S x y w
    simp only [atC, atR, if_neg h] at hat
    simp only [co0, co1, co2, co3, if_neg h]
    refine coords_no W H S x y _ w ?_ hat
    unfold atE
    split
    · rename_i hp
      rw [if_neg (fun hf => h ⟨hp, hf⟩)]
      rfl
    · rfl
end Go.Proofs.YtlkaniojnaaocaaGreat

/- TextureBricks: for any pattern and numbers, Check, At, Brick and Coords return what the reference returns. No condition. -/
namespace Go.Proofs.YtlkaniojnaaocaaGreat
open Go.RowKit
set_option linter.unusedVariables false
set_option linter.unusedSimpArgs false

end Go.Proofs.YtlkaniojnaaocaaGreat

/- A list of rectangles that has just been written out is read as a list. -/
namespace Go.Proofs.YtlkaniojnaaocaaGreat
open Go.RowKit
set_option linter.unusedVariables false
set_option linter.unusedSimpArgs false

theorem rd_lit (w : World) (l : List R4) (t : TypeId) (c : Nat) : RdK encR 4 (w.alloc (.cells (l.flatMap encR).toArray t)) (w.alloc (.cells (l.flatMap encR).toArray t)).heap.size (.slice (some ⟨w.heap.size, 0, none⟩) l.length c) l := by
  refine ⟨_, c, rfl, fun _ => ⟨w.heap.size, 0, rfl, by simp, fun j x hx i u hu => ?_⟩⟩
  have := news_new w (l.flatMap encR) t w.heap.size rfl _ _ (flat_get (k := 4) (fun _ => rfl) l j x i u hx hu)
  rw [addr_add] at this
  rwa [Nat.zero_add]
theorem rd_lit_at {w : World} {B : Nat} (hB : w.heap.size = B) (l : List R4) (t : TypeId) (c : Nat) : RdK encR 4 (w.alloc (.cells (l.flatMap encR).toArray t)) (w.alloc (.cells (l.flatMap encR).toArray t)).heap.size (.slice (some ⟨B, 0, none⟩) l.length c) l := by
  subst hB
  exact rd_lit w l t c
end Go.Proofs.YtlkaniojnaaocaaGreat
