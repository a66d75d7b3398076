/- Texts laid together: OffY, OffZ, DelR, RdLit, OffG, OffI, SlabB, MixTwo, JoinR, JoinU, OffO, MOffF, MRoofV, MJoin, RoofN. Lemmas for the statements of this seat; no condition. -/
import Derived.Test.YtdolpeljengpaaaGreatPk6
import Derived.Test.YtdolpeljengpaaaGreatPk2
import Derived.Test.YtdolpeljengpaaaGreatPk3
import Derived.Test.YtdolpeljengpaaaGreatPk4
import Derived.Lib.SliceRun
import Derived.Test.YtdolpeljengpaaaGreatPk1
import Derived.Deep.Cut

/- offset.missing. -/
namespace Go.Proofs.YtdolpeljengpaaaGreat
open Go.RowKit
set_option linter.unusedVariables false
set_option linter.unusedSimpArgs false

/-- In missing's loop: the result's box, the hull's box H, the list's box H + 1. -/
structure MR (w : World) (H : Nat) (h : R4) (L : List R4) (wr : World) : Prop where
  low : Below w.heap.size w wr
  gt : w.heap.size < H
  size : H + 2 ≤ wr.heap.size
  h0 : wr.cell? ⟨H, 0, none⟩ = some (.int .i64 h.x0)
  h1 : wr.cell? ⟨H, 1, none⟩ = some (.int .i64 h.y0)
  h2 : wr.cell? ⟨H, 2, none⟩ = some (.int .i64 h.x1)
  h3 : wr.cell? ⟨H, 3, none⟩ = some (.int .i64 h.y1)
  r0 : ∀ j, j < 4 → wr.cell? ⟨w.heap.size, j, none⟩ = some (.int .i64 0)
  rf : ∀ j, wr.frozen? ⟨w.heap.size, j, none⟩ = false
  out : ∃ vo, wr.cell? ⟨H + 1, 0, none⟩ = some vo ∧ wr.ownsRow (H + 2) 69 4 vo L.length (L.flatMap encR)
  fz : wr.frozen? ⟨H + 1, 0, none⟩ = false
theorem MR.below {w wr w2 : World} {H : Nat} {h : R4} {L : List R4} (m : MR w H h L wr) (hb : Below wr.heap.size wr w2) : MR w H h L w2 := by
  have hs := m.size
  have hg := m.gt
  have hc : ∀ q o, q < H + 2 → w2.cell? ⟨q, o, none⟩ = wr.cell? ⟨q, o, none⟩ := fun q o hq => hb.cell (p := ⟨q, o, none⟩) (by show q < _; omega)
  have hf : ∀ q o, q < H + 2 → w2.frozen? ⟨q, o, none⟩ = wr.frozen? ⟨q, o, none⟩ := fun q o hq => hb.frozen (p := ⟨q, o, none⟩) (by show q < _; omega)
  obtain ⟨vo, o1, o2⟩ := m.out
  exact ⟨m.low.trans (hb.mono m.low.size), hg, Nat.le_trans hs hb.size, (hc _ _ (by omega)).trans m.h0, (hc _ _ (by omega)).trans m.h1, (hc _ _ (by omega)).trans m.h2, (hc _ _ (by omega)).trans m.h3, fun j hj => (hc _ _ (by omega)).trans (m.r0 j hj), fun j => (hf _ _ (by omega)).trans (m.rf j), ⟨vo, (hc _ _ (by omega)).trans o1, own_below o2 hb⟩, (hf _ _ (by omega)).trans m.fz⟩
/-- Behind a call of the closure. -/
theorem MR.upd {w wr w2 : World} {H : Nat} {h : R4} {L L' : List R4} {vo vo' : Value} (m : MR w H h L wr) (ho : wr.ownsRow (H + 2) 69 4 vo L.length (L.flatMap encR)) (c : w2.cell? ⟨H + 1, 0, none⟩ = some vo') (f : w2.frozen? ⟨H + 1, 0, none⟩ = false) (ho' : w2.ownsRow (H + 2) 69 4 vo' L'.length (L'.flatMap encR)) (hu : Upd (H + 1) vo.ownBlock wr w2) : MR w H h L' w2 := by
  have hs := m.size
  have hg := m.gt
  have hr : ∀ k, vo.ownBlock = some k → H + 2 ≤ k := fun k hk => (ho.lt k hk).1
  have ne : ∀ q, q < H + 2 → vo.ownBlock ≠ some q := fun q hq e => by have := hr q e; omega
  have hc : ∀ q o, q < H + 1 → w2.cell? ⟨q, o, none⟩ = wr.cell? ⟨q, o, none⟩ := fun q o hq => hu.cell (by omega) (by omega) (ne q (by omega))
  have hf : ∀ q o, q < H + 1 → w2.frozen? ⟨q, o, none⟩ = wr.frozen? ⟨q, o, none⟩ := fun q o hq => hu.frozen (by omega) (by omega) (ne q (by omega))
  exact ⟨m.low.trans (hu.below (by omega) (by omega) (fun k hk => by have := hr k hk; omega)), hg, Nat.le_trans hs hu.size, (hc _ _ (by omega)).trans m.h0, (hc _ _ (by omega)).trans m.h1, (hc _ _ (by omega)).trans m.h2, (hc _ _ (by omega)).trans m.h3, fun j hj => (hc _ _ (by omega)).trans (m.r0 j hj), fun j => (hf _ _ (by omega)).trans (m.rf j), ⟨vo', c, ho'⟩, f⟩
/-- A rectangle's box, made behind the list's box; the closure leaves it. -/
structure BoxX (H B9 : Nat) (x : R4) (wr : World) : Prop where
  lo : H + 2 ≤ B9
  hi : B9 < wr.heap.size
  c0 : wr.cell? ⟨B9, 0, none⟩ = some (.int .i64 x.x0)
  c1 : wr.cell? ⟨B9, 1, none⟩ = some (.int .i64 x.y0)
  c2 : wr.cell? ⟨B9, 2, none⟩ = some (.int .i64 x.x1)
  c3 : wr.cell? ⟨B9, 3, none⟩ = some (.int .i64 x.y1)
  ne : ∀ vo, wr.cell? ⟨H + 1, 0, none⟩ = some vo → vo.ownBlock ≠ some B9
theorem BoxX.below {w wr w2 : World} {H B9 : Nat} {x h : R4} {L : List R4} (b : BoxX H B9 x wr) (m : MR w H h L wr) (hb : Below wr.heap.size wr w2) : BoxX H B9 x w2 := by
  have hs := m.size
  have hc : ∀ o, w2.cell? ⟨B9, o, none⟩ = wr.cell? ⟨B9, o, none⟩ := fun o => hb.cell (p := ⟨B9, o, none⟩) b.hi
  exact ⟨b.lo, Nat.lt_of_lt_of_le b.hi hb.size, (hc 0).trans b.c0, (hc 1).trans b.c1, (hc 2).trans b.c2, (hc 3).trans b.c3, fun vo hv => b.ne vo (((hb.cell (p := ⟨H + 1, 0, none⟩) (by show H + 1 < _; omega)).symm).trans hv)⟩
/-- What missing's closure leaves, in the loop's words. -/
theorem miss_call {w wr : World} {H B9 : Nat} {x h : R4} {L : List R4} (m : MR w H h L wr) (b : BoxX H B9 x wr) (hn : L.length ≤ 100000000) (z : R4) :
    Calls Tryz.prog 206 #[.agg #[.int .i64 z.x0, .int .i64 z.y0, .int .i64 z.x1, .int .i64 z.y1], .pointer (some ⟨H + 1, 0, none⟩)] wr fun e w' => e = .returned (.tuple #[]) ∧ MR w H h (L ++ nz z) w' ∧ BoxX H B9 x w' := by
  obtain ⟨vo, o1, o2⟩ := m.out
  have hs := m.size
  refine (missAdd_any (H + 2) (H + 1) vo L z wr o1 m.fz (by omega) hs o2 hn).mono ?_
  rintro e w' ⟨rfl, vo', c, f, ho', hu, hne⟩
  have hb9 : vo.ownBlock ≠ some B9 := b.ne vo o1
  have hlo := b.lo
  have hc : ∀ o, w'.cell? ⟨B9, o, none⟩ = wr.cell? ⟨B9, o, none⟩ := fun o => hu.cell b.hi (by omega) hb9
  refine ⟨rfl, m.upd o2 c f ho' hu, ⟨hlo, Nat.lt_of_lt_of_le b.hi hu.size, (hc 0).trans b.c0, (hc 1).trans b.c1, (hc 2).trans b.c2, (hc 3).trans b.c3, fun v hv => ?_⟩⟩
  rw [c] at hv
  injection hv with hv
  subst hv
  rcases hne with hne | hne
  · rw [hne]; exact hb9
  · intro e
    have := hne B9 e
    have := b.hi
    omega
theorem dec_eq {a b : Int} (h : a = b) : (a == b) = true := by simpa using h
theorem dec_ne {a b : Int} (h : a ≠ b) : (a == b) = false := by simpa using h
theorem dec_neq {a b : Int} (h : a ≠ b) : (a != b) = true := by simpa using h
theorem dec_neqf {a b : Int} (h : a = b) : (a != b) = false := by simpa using h
/-- What missing leaves. -/
def MissO (l : List R4) (w : World) (e : Ending) (w' : World) : Prop :=
  ∃ A c, e = .returned (.tuple #[.agg #[.int .i64 (hullL l).x0, .int .i64 (hullL l).y0, .int .i64 (hullL l).x1, .int .i64 (hullL l).y1], .slice A (missL (hullL l) none l).length c]) ∧ w'.ownsRow w.heap.size 69 4 (.slice A (missL (hullL l) none l).length c) (missL (hullL l) none l).length ((missL (hullL l) none l).flatMap encR) ∧ Below w.heap.size w w'
set_option maxRecDepth 100000 in
set_option maxHeartbeats 8000000 in
theorem omissing_any {w : World} {v : Value} {l : List R4} (hr : RdK encR 4 w w.heap.size v l) (hc0 : checkF l = 0) (hne : l ≠ []) :
    Calls Tryz.prog 171 #[v] w (MissO l w) := by
  have hl4 := (checkF_ok hc0).1
  have hH := fun (W : World) (hW : Below w.heap.size w W) => hull_any (w := W) ((hr.below hW).mono hW.size) (by omega)
  have hhF : hullF l = (hullL l, 0) := by unfold hullF; rw [if_pos hc0, if_neg hne]
  rw [hhF] at hH
  simp only [encR] at hH
  obtain ⟨A, c, hva, hcc⟩ := id hr
  subst hva
  have HMA := hide (missTo_all (hullL l) l)
  have HLN := hide (missTo_len (hullL l) l)
  have HST := hide (missTo_succ (hullL l) l)
  have HR := hide hcc
  have HH := hide hH
  have HA0 := hide (fun x (hx : l[0]? = some x) => mAt_zero (h := hullL l) hx)
  have HAS := hide (fun k p x (hp : l[k]? = some p) (hx : l[k + 1]? = some x) => mAt_succ (h := hullL l) hp hx)
  have lz : (l.length : Int) ≤ 400 := by omega
  clear hr hcc hH hhF hc0 hne
  unfold MissO
  generalize hullL l = h at *
  go_enter Tryz.func171, Tryz.ntmps171
  go_wp2_with (fail)
  obtain ⟨W0, hW0⟩ : ∃ W, W = w.alloc (.cells #[.int .i64 0, .int .i64 0, .int .i64 0, .int .i64 0] 69) := ⟨_, rfl⟩
  rw [← hW0]
  have hb0 : Below w.heap.size w W0 := by rw [hW0]; exact (Below.refl _ _).alloc (Nat.le_refl _) _
  have r0 : ∀ j, j < 4 → W0.cell? ⟨w.heap.size, j, none⟩ = some (.int .i64 0) := fun j hj => by
    rw [hW0]
    have : j = 0 ∨ j = 1 ∨ j = 2 ∨ j = 3 := by omega
    rcases this with rfl | rfl | rfl | rfl <;> simp [go_sem]
  have rf : ∀ j, W0.frozen? ⟨w.heap.size, j, none⟩ = false := fun j => by rw [hW0]; simp [go_sem]
  have hs0 : w.heap.size < W0.heap.size := by rw [hW0]; simp
  have HW0 := hide (And.intro hb0 (And.intro r0 rf))
  clear hW0 hb0 r0 rf
  refine (HH.out W0 HW0.out.1).mono ?_
  rintro e w1 ⟨rfl, hb1⟩
  have HB1 := hide hb1
  have hs1 : w.heap.size < w1.heap.size := Nat.lt_of_lt_of_le hs0 hb1.size
  clear hb1 hs0
  go_upto_region 4 with fail
  refine wp_name fun w2 hw2 => ?_
  have HM0 : Hid (MR w w1.heap.size h [] w2) := hide (by
    obtain ⟨q1, q2, q3⟩ := HW0.out
    have hb1 := HB1.out
    have hb2 : Below w1.heap.size w1 w2 := by
      rw [hw2]
      repeat (first | with_reducible exact Below.refl _ _ | with_reducible refine Below.setCell ?_ (by first | (simp; done) | (simp; omega)) _ | with_reducible refine Below.alloc ?_ (by first | omega | (simp; omega) | simp) _)
    refine ⟨(q1.trans (hb1.mono q1.size)).trans (hb2.mono (by omega)), hs1, by rw [hw2]; simp, by rw [hw2]; simp [go_sem], by rw [hw2]; simp [go_sem], by rw [hw2]; simp [go_sem], by rw [hw2]; simp [go_sem], fun j hj => ?_, fun j => ?_, ⟨.slice none 0 0, by rw [hw2]; simp [go_sem], World.ownsRow_nil _ _ _ _⟩, by rw [hw2]; simp [go_sem]⟩
    · exact (hb2.cell (p := ⟨w.heap.size, j, none⟩) hs1).trans ((hb1.cell (p := ⟨w.heap.size, j, none⟩) (lt_of_cell (q2 j hj))).trans (q2 j hj))
    · exact (hb2.frozen (p := ⟨w.heap.size, j, none⟩) hs1).trans ((hb1.frozen (p := ⟨w.heap.size, j, none⟩) (lt_of_cell (q2 0 (by omega)))).trans (q3 j)))
  generalize hHd : w1.heap.size = H at *
  clear hw2 HW0 HB1 hHd
  go_wp2_with (fail)
  go_loopw [20] (fun i wr => ∃ m : Nat, m ≤ l.length ∧ i = .int .i64 m ∧ Hid (MR w H h (missTo h l m) wr)) (fun i _ => l.length - (intOf i).toNat)
  case atStart => exact ⟨0, Nat.zero_le _, rfl, HM0⟩
  case round =>
    clear HM0
    obtain ⟨m, hm, rfl, HM⟩ := hrel
    by_cases hlt : m < l.length
    · obtain ⟨x, hx⟩ : ∃ p, l[m]? = some p := ⟨_, List.getElem?_eq_getElem hlt⟩
      obtain ⟨b, o, rfl, hbl, k9⟩ := HR.out (by intro e; rw [e] at hlt; simp at hlt)
      have HCL : Hid (∀ (W : World) (j : Nat) (y : R4), Below w.heap.size w W → l[j]? = some y → W.cell? ⟨b, o + j * 4, none⟩ = some (.int .i64 y.x0) ∧ W.cell? ⟨b, o + j * 4 + 1, none⟩ = some (.int .i64 y.y0) ∧ W.cell? ⟨b, o + j * 4 + 2, none⟩ = some (.int .i64 y.x1) ∧ W.cell? ⟨b, o + j * 4 + 3, none⟩ = some (.int .i64 y.y1)) := hide (fun W j y hW hy =>
        ⟨(hW.cell (p := ⟨b, _, none⟩) hbl).trans (k9 j _ hy 0 _ rfl), (hW.cell (p := ⟨b, _, none⟩) hbl).trans (k9 j _ hy 1 _ rfl), (hW.cell (p := ⟨b, _, none⟩) hbl).trans (k9 j _ hy 2 _ rfl), (hW.cell (p := ⟨b, _, none⟩) hbl).trans (k9 j _ hy 3 _ rfl)⟩)
      obtain ⟨d0, d1, d2, d3⟩ := HCL.out wr m x HM.out.low hx
      have hln := HLN.out m
      have HSM := hide (HST.out m)
      have HX := hide hx
      clear k9 hx
      obtain ⟨M, hM⟩ : ∃ M : Int, (m : Int) = M := ⟨_, rfl⟩
      rw [hM]
      have m1 : 0 ≤ M := by omega
      have m2 : M < (l.length : Int) := by omega
      have m3 : M.toNat = m := by omega
      have HMM := hide hM
      clear hM
      go_upto_region 7 with fail
      refine wp_name fun Z hZ => ?_
      have hbz : Below wr.heap.size wr Z := by rw [hZ]; exact (Below.refl _ _).alloc (Nat.le_refl _) _
      have HBX : Hid (BoxX H wr.heap.size x Z) := hide (by
        refine ⟨HM.out.size, by rw [hZ]; simp, by rw [hZ]; simp [go_sem], by rw [hZ]; simp [go_sem], by rw [hZ]; simp [go_sem], by rw [hZ]; simp [go_sem], fun vo hv e => ?_⟩
        obtain ⟨vo', o1, o2⟩ := HM.out.out
        have h1 := (hbz.cell (p := ⟨H + 1, 0, none⟩) (by have := HM.out.size; show H + 1 < _; omega)).trans o1
        rw [h1] at hv
        injection hv with hv
        subst hv
        have := (o2.lt _ e).2
        omega)
      have HMZ := hide (HM.out.below hbz)
      generalize hB9 : wr.heap.size = B9 at *
      clear hZ hbz d0 d1 d2 d3 HM m3 hB9
      have hlnz : (missTo h l m).length ≤ 1200 := by omega
      generalize hLL : missTo h l m = L at *
      clear hLL hln
      have hbH : b < H := by omega
      -- the three ways to the rectangle below
      have hcase : (∃ E0, Hid (M = 0) ∧ Hid (E0 = L ++ nz ⟨x.x0, h.y0, x.x1, x.y0⟩ ∧ missTo h l (m + 1) = E0 ++ topY h x l[m + 1]?)) ∨
          (∃ (k : Nat) (p : R4) (E0 : List R4), l[k]? = some p ∧ m = k + 1 ∧ p.x0 = x.x0 ∧ Hid (E0 = L ++ nz ⟨x.x0, p.y1, x.x1, x.y0⟩ ∧ missTo h l (m + 1) = E0 ++ topY h x l[m + 1]?)) ∨
          (∃ (k : Nat) (p : R4) (E0 : List R4), l[k]? = some p ∧ m = k + 1 ∧ p.x0 ≠ x.x0 ∧ Hid (E0 = (L ++ nz ⟨p.x1, h.y0, x.x0, h.y1⟩) ++ nz ⟨x.x0, h.y0, x.x1, x.y0⟩ ∧ missTo h l (m + 1) = E0 ++ topY h x l[m + 1]?)) := by
        have hx := HX.out
        cases m with
        | zero =>
          refine .inl ⟨_, hide (by have := HMM.out; omega), hide ⟨rfl, ?_⟩⟩
          rw [HSM.out, HA0.out x hx, List.append_assoc]
        | succ k =>
          obtain ⟨p, hp⟩ : ∃ p, l[k]? = some p := ⟨_, List.getElem?_eq_getElem (by omega)⟩
          by_cases he : p.x0 = x.x0
          · refine .inr (.inl ⟨k, p, _, hp, rfl, he, hide ⟨rfl, ?_⟩⟩)
            rw [HSM.out, HAS.out k p x hp hx, if_pos he, List.append_assoc]
          · refine .inr (.inr ⟨k, p, _, hp, rfl, he, hide ⟨rfl, ?_⟩⟩)
            rw [HSM.out, HAS.out k p x hp hx, if_neg he, List.append_assoc, List.append_assoc]
      clear HA0 HAS HSM HST
      rcases hcase with ⟨E0, hM0, HE⟩ | ⟨k, p, E0, hp, hk, he, HE⟩ | ⟨k, p, E0, hp, hk, he, HE⟩
      have g0 : (M == 0) = true := dec_eq hM0.out
      have g1 : ¬ (0 : Int) < M := by have := hM0.out; omega
      have e1 := HMZ.out.h1
      go_quiet (fail)
      go_upto_region 13 with fail
      refine wp_name fun Y hY => ?_
      have hby : Below Z.heap.size Z Y := by rw [hY]; exact below_drewN (Below.refl _ _) _
      have HMY := hide (HMZ.out.below hby)
      have HBY := hide (HBX.out.below HMZ.out hby)
      have hc := miss_call HMY.out HBY.out (by omega) ⟨x.x0, h.y0, x.x1, x.y0⟩
      simp only at hc
      have HC := hide hc
      have x0 := HBY.out.c0
      have x1 := HBY.out.c1
      have x2 := HBY.out.c2
      clear hY hby hc e1 g0 g1
      go_wp2_with (fail)
      refine HC.out.mono ?_
      rintro e V ⟨rfl, hmv, hbv⟩
      rw [← HE.out.1] at hmv
      have HMV := hide hmv
      have HBV := hide hbv
      clear hmv hbv HC x0 x1 x2 HMY HBY
      go_upto_region 14 with fail
      rotate_left 1
      have hMk : M = (k : Int) + 1 := by have := HMM.out; omega
      have g0 : (M == 0) = false := dec_ne (by omega)
      have g1 : (0 : Int) < M := by omega
      have i0 : 0 ≤ M - 1 := by omega
      have i1 : M - 1 < (l.length : Int) := by omega
      have i3 : (M - 1).toNat = k := by omega
      have i4 : IntKind.i64.wrap (M - 1) = M - 1 := IntWalk.i64_in _ (by omega)
      have i5 : 1 ≤ M := by omega
      have e1 := HMZ.out.h1
      obtain ⟨p0, p1, p2, p3⟩ := HCL.out Z k p HMZ.out.low hp
      have x0 := HBX.out.c0
      have hbZ : b < Z.heap.size := by have := HMZ.out.size; omega
      have HPK := hide (And.intro hp hk)
      clear hp hk hMk
      have g2 : (p.x0 != x.x0) = false := dec_neqf he
      have HEQ := hide he
      clear he
      go_quiet (fail)
      have i6 : (M - 1).toNat = k := i3
      go_upto_region 13 with fail
      refine wp_name fun Y hY => ?_
      have hby : Below Z.heap.size Z Y := by rw [hY]; exact below_drewN (Below.refl _ _) _
      have HMY := hide (HMZ.out.below hby)
      have HBY := hide (HBX.out.below HMZ.out hby)
      have hc := miss_call HMY.out HBY.out (by omega) ⟨x.x0, p.y1, x.x1, x.y0⟩
      simp only at hc
      have HC := hide hc
      have x0 := HBY.out.c0
      have x1 := HBY.out.c1
      have x2 := HBY.out.c2
      clear hY hby hc e1 g0 g1 g2 i0 i1 i3 i4 i5 i6 p0 p1 p2 p3 hbZ
      go_wp2_with (fail)
      refine HC.out.mono ?_
      rintro e V ⟨rfl, hmv, hbv⟩
      rw [← HE.out.1] at hmv
      have HMV := hide hmv
      have HBV := hide hbv
      clear hmv hbv HC x0 x1 x2 HMY HBY
      go_upto_region 14 with fail
      rotate_left 1
      have hMk : M = (k : Int) + 1 := by have := HMM.out; omega
      have g0 : (M == 0) = false := dec_ne (by omega)
      have g1 : (0 : Int) < M := by omega
      have i0 : 0 ≤ M - 1 := by omega
      have i1 : M - 1 < (l.length : Int) := by omega
      have i3 : (M - 1).toNat = k := by omega
      have i4 : IntKind.i64.wrap (M - 1) = M - 1 := IntWalk.i64_in _ (by omega)
      have i5 : 1 ≤ M := by omega
      have e1 := HMZ.out.h1
      obtain ⟨p0, p1, p2, p3⟩ := HCL.out Z k p HMZ.out.low hp
      have x0 := HBX.out.c0
      have hbZ : b < Z.heap.size := by have := HMZ.out.size; omega
      have HPK := hide (And.intro hp hk)
      clear hp hk hMk
      have g2 : (p.x0 != x.x0) = true := dec_neq he
      have HEQ := hide he
      clear he
      go_quiet (fail)
      go_upto_region 9 with fail
      refine wp_name fun Y hY => ?_
      have hby : Below Z.heap.size Z Y := by rw [hY]; exact below_drewN (Below.refl _ _) _
      have HMY := hide (HMZ.out.below hby)
      have HBY := hide (HBX.out.below HMZ.out hby)
      obtain ⟨p0, p1, p2, p3⟩ := HCL.out Y k p HMY.out.low HPK.out.1
      have x0 := HBY.out.c0
      have e1 := HMY.out.h1
      have e3 := HMY.out.h3
      have hc := fun (W : World) (hW : Below Y.heap.size Y W) => miss_call (HMY.out.below hW) (HBY.out.below HMY.out hW) (by omega) ⟨p.x1, h.y0, x.x0, h.y1⟩
      simp only at hc
      have HC := hide hc
      clear hY hby hc
      refine wp_region_tail_named 14 (by kernel_rfl) (by kernel_rfl) ?_
      rintro w' hw'
      have HW' : Hid (Below Y.heap.size Y w') := hide (by rw [hw']; exact (Below.refl _ _).drew)
      have p2 : w'.cell? ⟨b, o + k * 4 + 2, none⟩ = some (.int .i64 p.x1) := by rw [hw']; exact p2
      have e1 : w'.cell? ⟨H, 1, none⟩ = some (.int .i64 h.y0) := by rw [hw']; exact e1
      have x0 : w'.cell? ⟨B9, 0, none⟩ = some (.int .i64 x.x0) := by rw [hw']; exact x0
      have e3 : w'.cell? ⟨H, 3, none⟩ = some (.int .i64 h.y1) := by rw [hw']; exact e3
      clear hw'
      simp only [List.take_succ_cons, List.take_zero, List.drop_succ_cons, List.drop_zero]
      repeat still_step
      refine wpStill_nil ?_
      go_wp2_with (fail)
      refine (HC.out _ HW'.out).mono ?_
      rintro e U ⟨rfl, hmu, hbu⟩
      have HMU := hide hmu
      have HBU := hide hbu
      clear hmu hbu HC
      have e1 := HMU.out.h1
      clear p0 p1 p2 p3 x0 e3 HW'
      go_upto_region 13 with fail
      refine wp_name fun Y hY => ?_
      have hby : Below U.heap.size U Y := by rw [hY]; exact Below.refl _ _
      have HMY := hide (HMU.out.below hby)
      have HBY := hide (HBU.out.below HMU.out hby)
      have hc := miss_call HMY.out HBY.out (by rw [List.length_append]; have := nz_len ⟨p.x1, h.y0, x.x0, h.y1⟩; omega) ⟨x.x0, h.y0, x.x1, x.y0⟩
      simp only at hc
      have HC := hide hc
      have x0 := HBY.out.c0
      have x1 := HBY.out.c1
      have x2 := HBY.out.c2
      clear hY hby hc e1 g0 g1 g2 i0 i1 i3 i4 i5 hbZ HMU HBU
      go_wp2_with (fail)
      refine HC.out.mono ?_
      rintro e V ⟨rfl, hmv, hbv⟩
      rw [← HE.out.1] at hmv
      have HMV := hide hmv
      have HBV := hide hbv
      clear hmv hbv HC x0 x1 x2 HMY HBY
      go_upto_region 14 with fail
      rotate_left 1
      all_goals
        have hlE : E0.length ≤ 1300 := by
          have := HLN.out (m + 1)
          rw [HE.out.2, List.length_append] at this
          omega
        have f1 : IntKind.i64.wrap ((l.length : Int) - 1) = (l.length : Int) - 1 := IntWalk.i64_in _ (by omega)
        have hcase2 : (M = (l.length : Int) - 1 ∧ Hid (topY h x l[m + 1]? = nz ⟨x.x0, x.y1, x.x1, h.y1⟩)) ∨ (∃ q, l[m + 1]? = some q ∧ M ≠ (l.length : Int) - 1 ∧ q.x0 = x.x0 ∧ Hid (topY h x l[m + 1]? = [])) ∨ (∃ q, l[m + 1]? = some q ∧ M ≠ (l.length : Int) - 1 ∧ q.x0 ≠ x.x0 ∧ Hid (topY h x l[m + 1]? = nz ⟨x.x0, x.y1, x.x1, h.y1⟩)) := by
          have hM := HMM.out
          by_cases hl : m + 1 < l.length
          · obtain ⟨q, hq⟩ : ∃ p, l[m + 1]? = some p := ⟨_, List.getElem?_eq_getElem hl⟩
            by_cases he : q.x0 = x.x0
            · exact .inr (.inl ⟨q, hq, by omega, he, hide (by rw [hq]; exact if_pos he)⟩)
            · exact .inr (.inr ⟨q, hq, by omega, he, hide (by rw [hq]; exact if_neg he)⟩)
          · exact .inl ⟨by omega, hide (by rw [List.getElem?_eq_none (by omega)]; rfl)⟩
        rcases hcase2 with ⟨hl, HT⟩ | ⟨q, hq, hl, he, HT⟩ | ⟨q, hq, hl, he, HT⟩
        · have j0 : (M == (l.length : Int) - 1) = true := dec_eq hl
          clear hl
          go_quiet (fail)
          go_upto_region 15 with fail
          refine wp_name fun Y hY => ?_
          have hby : Below V.heap.size V Y := by rw [hY]; exact below_drewN (Below.refl _ _) _
          have HMY := hide (HMV.out.below hby)
          have HBY := hide (HBV.out.below HMV.out hby)
          have hc := miss_call HMY.out HBY.out (by omega) ⟨x.x0, x.y1, x.x1, h.y1⟩
          simp only at hc
          have HC := hide hc
          have x0 := HBY.out.c0
          have x2 := HBY.out.c2
          have x3 := HBY.out.c3
          have e3 := HMY.out.h3
          clear hY hby hc
          try clear j0
          try clear j1
          go_wp2_with (fail)
          refine HC.out.mono ?_
          rintro e U ⟨rfl, hmu, hbu⟩
          rw [← HT.out, ← HE.out.2] at hmu
          have HMU := hide hmu
          clear hmu hbu HC x0 x2 x3 e3 HMY HBY
          go_wp2_with (fail)
          go_roundw
          case rel => exact ⟨m + 1, by omega, int_eq (by have := HMM.out; omega), HMU⟩
          case measure => simp [intOf]; omega
        · have j0 : (M == (l.length : Int) - 1) = false := dec_ne (by omega)
          have hq1 : M + 1 < (l.length : Int) := by omega
          have q0 : 0 ≤ M + 1 := by omega
          have q3 : (M + 1).toNat = m + 1 := by have := HMM.out; omega
          have q4 : IntKind.i64.wrap (M + 1) = M + 1 := IntWalk.i64_in _ (by omega)
          obtain ⟨t0, t1, t2, t3⟩ := HCL.out V (m + 1) q HMV.out.low hq
          have x0 := HBV.out.c0
          have hbV : b < V.heap.size := by have := HMV.out.size; omega
          have HQ := hide hq
          clear hq
          have j1 : (q.x0 != x.x0) = false := dec_neqf he
          clear hl he
          go_quiet (fail)
          go_upto_region 16 with fail
          refine wp_name fun Y hY => ?_
          have hby : Below V.heap.size V Y := by rw [hY]; exact below_drewN (Below.refl _ _) _
          have hmy := HMV.out.below hby
          have h0 := HE.out.2
          rw [HT.out, List.append_nil] at h0
          rw [← h0] at hmy
          have HMY := hide hmy
          clear hY hby hmy h0 j0 j1 hq1 q0 q3 q4 t0 t1 t2 t3 x0 hbV
          go_wp2_with (fail)
          go_roundw
          case rel => exact ⟨m + 1, by omega, int_eq (by have := HMM.out; omega), HMY⟩
          case measure => simp [intOf]; omega
        · have j0 : (M == (l.length : Int) - 1) = false := dec_ne (by omega)
          have hq1 : M + 1 < (l.length : Int) := by omega
          have q0 : 0 ≤ M + 1 := by omega
          have q3 : (M + 1).toNat = m + 1 := by have := HMM.out; omega
          have q4 : IntKind.i64.wrap (M + 1) = M + 1 := IntWalk.i64_in _ (by omega)
          obtain ⟨t0, t1, t2, t3⟩ := HCL.out V (m + 1) q HMV.out.low hq
          have x0 := HBV.out.c0
          have hbV : b < V.heap.size := by have := HMV.out.size; omega
          have HQ := hide hq
          clear hq
          have j1 : (q.x0 != x.x0) = true := dec_neq he
          clear hl he
          go_quiet (fail)
          go_upto_region 15 with fail
          refine wp_name fun Y hY => ?_
          have hby : Below V.heap.size V Y := by rw [hY]; exact below_drewN (Below.refl _ _) _
          have HMY := hide (HMV.out.below hby)
          have HBY := hide (HBV.out.below HMV.out hby)
          have hc := miss_call HMY.out HBY.out (by omega) ⟨x.x0, x.y1, x.x1, h.y1⟩
          simp only at hc
          have HC := hide hc
          have x0 := HBY.out.c0
          have x2 := HBY.out.c2
          have x3 := HBY.out.c3
          have e3 := HMY.out.h3
          clear hY hby hc hq1 q0 q3 q4 t0 t1 t2 t3 hbV
          try clear j0
          try clear j1
          go_wp2_with (fail)
          refine HC.out.mono ?_
          rintro e U ⟨rfl, hmu, hbu⟩
          rw [← HT.out, ← HE.out.2] at hmu
          have HMU := hide hmu
          clear hmu hbu HC x0 x2 x3 e3 HMY HBY
          go_wp2_with (fail)
          go_roundw
          case rel => exact ⟨m + 1, by omega, int_eq (by have := HMM.out; omega), HMU⟩
          case measure => simp [intOf]; omega
    · obtain rfl : m = l.length := by omega
      have hlt2 : ¬ (l.length : Int) < (l.length : Int) := by omega
      rw [HMA.out] at HM
      go_upto_region 17 with fail
      have hln := HLN.out l.length
      rw [HMA.out] at hln
      obtain ⟨L, hLd⟩ : ∃ L, missL h none l = L := ⟨_, rfl⟩
      rw [hLd] at HM hln
      have HLD := hide hLd
      clear hLd HMA
      obtain ⟨vo, o1, o2⟩ := HM.out.out
      obtain ⟨Ao, co, hvo⟩ := own_form o2
      subst hvo
      have hg := HM.out.gt
      have hsz := HM.out.size
      have e0 := HM.out.h0
      have e1 := HM.out.h1
      have e2 := HM.out.h2
      have e3 := HM.out.h3
      have g0 := HM.out.r0 0 (by omega)
      have g1 := HM.out.r0 1 (by omega)
      have g2 := HM.out.r0 2 (by omega)
      have g3 := HM.out.r0 3 (by omega)
      have k0 := HM.out.rf 0
      have k1 := HM.out.rf 1
      have k2 := HM.out.rf 2
      have k3 := HM.out.rf 3
      have HO := hide o2
      clear o2 hlt2
      refine wp_region_mix [0, 1] [2, 3] (fun w' => (w'.cell? ⟨H, 0, none⟩ = some (.int .i64 h.x0) ∧ w'.cell? ⟨H, 1, none⟩ = some (.int .i64 h.y0) ∧ w'.cell? ⟨H, 2, none⟩ = some (.int .i64 h.x1) ∧ w'.cell? ⟨H, 3, none⟩ = some (.int .i64 h.y1)) ∧ w'.cell? ⟨H + 1, 0, none⟩ = some (.slice Ao L.length co)) (by kernel_rfl) (by kernel_rfl) ⟨⟨e0, e1, e2, e3⟩, o1⟩ ?_
      simp only [List.map_cons, List.map_nil, opAt, List.getElem?_cons_succ, List.getElem?_cons_zero, Option.getD_some]
      iterate 2
        refine ⟨?_, Or.inl ⟨by rfl, ?_⟩, ?_⟩
        rotate_left 1
        · intro w' hSw
          obtain ⟨⟨z0, z1, z2, z3⟩, z4⟩ := hSw
          go_simp
          first | done | with_reducible rfl
        simp only [Act.put, List.setIfInBounds_toArray, List.set_cons_zero, List.set_cons_succ]
      simp only [wpReads]
      intro K hK
      simp only [Act.put, List.setIfInBounds_toArray, List.set_cons_zero, List.set_cons_succ] at hK ⊢
      go_simp
      have far : ∀ q o (a b c d : Value), q ≠ w.heap.size → (((((wr.setCell ⟨w.heap.size, 0, none⟩ a).setCell ⟨w.heap.size, 1, none⟩ b).setCell ⟨w.heap.size, 2, none⟩ c).setCell ⟨w.heap.size, 3, none⟩ d).drew).cell? ⟨q, o, none⟩ = wr.cell? ⟨q, o, none⟩ := fun q o a b c d hq =>
        World.cell?_of_block (w := wr) (a := ⟨q, o, none⟩) ((Below.heap_setCell _ _ _ _ hq).trans ((Below.heap_setCell _ _ _ _ hq).trans ((Below.heap_setCell _ _ _ _ hq).trans (Below.heap_setCell _ _ _ _ hq))))
      refine hK _ _ (fun _ => ⟨⟨(far _ _ _ _ _ _ (by omega)).trans e0, (far _ _ _ _ _ _ (by omega)).trans e1, (far _ _ _ _ _ _ (by omega)).trans e2, (far _ _ _ _ _ _ (by omega)).trans e3⟩, (far _ _ _ _ _ _ (by omega)).trans o1⟩) ?_
      clear hK K far
      intro K hK
      simp only [Act.put, List.setIfInBounds_toArray, List.set_cons_zero, List.set_cons_succ] at hK ⊢
      go_simp
      refine hK _ _ (fun h => absurd rfl h) ?_
      clear hK K
      refine NoPanic.normal ?_
      have HME := hide HM.out.low
      clear HM
      go_wp2_with (fail)
      have hwl : w.heap.size < H := hg
      refine bodyPost_ret (v := .tuple #[.agg #[.int .i64 h.x0, .int .i64 h.y0, .int .i64 h.x1, .int .i64 h.y1], .slice Ao L.length co]) (by simp [results, Tryz.results171, go_sem, g0, g1, g2, g3]) rfl ?_
      rw [HLD.out]
      refine ⟨Ao, co, rfl, ?_, ?_⟩
      · have hlt : w.heap.size < H + 2 := by omega
        exact own_base (own_drew (ownsRow_setCell_below (ownsRow_setCell_below (ownsRow_setCell_below (ownsRow_setCell_below HO.out hlt _) hlt _) hlt _) hlt _)) (by omega)
      · exact (Below.setCell (Below.setCell (Below.setCell (Below.setCell HME.out (Nat.le_refl _) _) (Nat.le_refl _) _) (Nat.le_refl _) _) (Nat.le_refl _) _).drew
end Go.Proofs.YtdolpeljengpaaaGreat

/- offset.Grow. -/
namespace Go.Proofs.YtdolpeljengpaaaGreat
open Go.RowKit
set_option linter.unusedVariables false
set_option linter.unusedSimpArgs false

end Go.Proofs.YtdolpeljengpaaaGreat

/- slices.DeleteFunc at []Rect, on a row of the call's own; and a rectangle stored in its place. -/
namespace Go.Proofs.YtdolpeljengpaaaGreat
open Go.RowKit
set_option linter.unusedVariables false
set_option linter.unusedSimpArgs false

theorem flat_set4 (r : R4) : ∀ (l : List R4) (k : Nat), k < l.length → ((((l.flatMap encR).set (k * 4) (.int .i64 r.x0)).set (k * 4 + 1) (.int .i64 r.y0)).set (k * 4 + 2) (.int .i64 r.x1)).set (k * 4 + 3) (.int .i64 r.y1) = (l.set k r).flatMap encR
  | [], k, h => by simp at h
  | a :: l, 0, _ => rfl
  | a :: l, k + 1, h => by
    have ih := flat_set4 r l k (by simpa using h)
    rw [List.set_cons_succ, List.flatMap_cons, List.flatMap_cons, ← ih]
    have hl : (encR a).length = 4 := rfl
    rw [List.set_append_right _ _ (by rw [hl]; omega), List.set_append_right _ _ (by rw [hl]; omega), List.set_append_right _ _ (by rw [hl]; omega), List.set_append_right _ _ (by rw [hl]; omega)]
    rw [hl, show (k + 1) * 4 - 4 = k * 4 by omega, show (k + 1) * 4 + 1 - 4 = k * 4 + 1 by omega, show (k + 1) * 4 + 2 - 4 = k * 4 + 2 by omega, show (k + 1) * 4 + 3 - 4 = k * 4 + 3 by omega]
/-- A rectangle stored in its place. -/
theorem own_set4 {w : World} {B g n cap : Nat} {l : List R4} (h : w.ownsRow B 69 4 (.slice (some ⟨g, 0, none⟩) n cap) n (l.flatMap encR)) {k : Nat} (hk : k < l.length) (a b c d : Int) :
    ((((w.setCell ⟨g, k * 4, none⟩ (.int .i64 a)).setCell ⟨g, k * 4 + 1, none⟩ (.int .i64 b)).setCell ⟨g, k * 4 + 2, none⟩ (.int .i64 c)).setCell ⟨g, k * 4 + 3, none⟩ (.int .i64 d)).ownsRow B 69 4 (.slice (some ⟨g, 0, none⟩) n cap) n ((l.set k ⟨a, b, c, d⟩).flatMap encR) ∧
      w.grownBy ((((w.setCell ⟨g, k * 4, none⟩ (.int .i64 a)).setCell ⟨g, k * 4 + 1, none⟩ (.int .i64 b)).setCell ⟨g, k * 4 + 2, none⟩ (.int .i64 c)).setCell ⟨g, k * 4 + 3, none⟩ (.int .i64 d)) (some g) := by
  obtain ⟨a1, a2⟩ := h.stored (k * 4) (.int .i64 a)
  obtain ⟨b1, b2⟩ := a1.stored (k * 4 + 1) (.int .i64 b)
  obtain ⟨c1, c2⟩ := b1.stored (k * 4 + 2) (.int .i64 c)
  obtain ⟨d1, d2⟩ := c1.stored (k * 4 + 3) (.int .i64 d)
  rw [flat_set4 ⟨a, b, c, d⟩ l k hk] at d1
  exact ⟨d1, a2.trans (b2.trans (c2.trans d2))⟩
theorem flat_takeR : ∀ (l : List R4) (m : Nat), (l.take m).flatMap encR = (l.flatMap encR).take (m * 4)
  | [], m => by simp
  | a :: l, 0 => by simp
  | a :: l, m + 1 => by
    have hl : (encR a).length = 4 := rfl
    rw [List.take_succ_cons, List.flatMap_cons, List.flatMap_cons, flat_takeR l m, List.take_append, hl, show (m + 1) * 4 - 4 = m * 4 by omega, List.take_of_length_le (l := encR a) (by rw [hl]; omega)]
theorem flat_set2 (a b : Int) : ∀ (l : List R4) (k : Nat) (x : R4), l[k]? = some x → ((l.flatMap encR).set (k * 4) (.int .i64 a)).set (k * 4 + 2) (.int .i64 b) = (l.set k ⟨a, x.y0, b, x.y1⟩).flatMap encR
  | [], k, x, h => by simp at h
  | y :: l, 0, x, h => by
    simp at h; subst h; rfl
  | y :: l, k + 1, x, h => by
    have ih := flat_set2 a b l k x (by simpa using h)
    rw [List.set_cons_succ, List.flatMap_cons, List.flatMap_cons, ← ih]
    have hl : (encR y).length = 4 := rfl
    rw [List.set_append_right _ _ (by rw [hl]; omega), List.set_append_right _ _ (by rw [hl]; omega), hl, show (k + 1) * 4 - 4 = k * 4 by omega, show (k + 1) * 4 + 2 - 4 = k * 4 + 2 by omega]
/-- The two ends in x stored in their places. -/
theorem own_set2 {w : World} {B g n cap : Nat} {l : List R4} (h : w.ownsRow B 69 4 (.slice (some ⟨g, 0, none⟩) n cap) n (l.flatMap encR)) {k : Nat} {x : R4} (hx : l[k]? = some x) (a b : Int) :
    ((w.setCell ⟨g, k * 4, none⟩ (.int .i64 a)).setCell ⟨g, k * 4 + 2, none⟩ (.int .i64 b)).ownsRow B 69 4 (.slice (some ⟨g, 0, none⟩) n cap) n ((l.set k ⟨a, x.y0, b, x.y1⟩).flatMap encR) ∧ w.grownBy ((w.setCell ⟨g, k * 4, none⟩ (.int .i64 a)).setCell ⟨g, k * 4 + 2, none⟩ (.int .i64 b)) (some g) := by
  obtain ⟨a1, a2⟩ := h.stored (k * 4) (.int .i64 a)
  obtain ⟨b1, b2⟩ := a1.stored (k * 4 + 2) (.int .i64 b)
  rw [flat_set2 a b l k x hx] at b1
  exact ⟨b1, a2.trans b2⟩
/-- A list of which the first places have been turned. -/
def part4 (f : R4 → R4) (L : List R4) (m : Nat) : List R4 := (L.take m).map f ++ L.drop m
theorem part4_len (f : R4 → R4) (L : List R4) (m : Nat) : (part4 f L m).length = L.length := by
  unfold part4
  rw [List.length_append, List.length_map, List.length_take, List.length_drop]; omega
theorem part4_zero (f : R4 → R4) (L : List R4) : part4 f L 0 = L := by simp [part4]
theorem part4_all (f : R4 → R4) (L : List R4) : part4 f L L.length = L.map f := by simp [part4]
theorem part4_get {f : R4 → R4} {L : List R4} {m : Nat} {x : R4} (h : L[m]? = some x) : (part4 f L m)[m]? = some x := by
  obtain ⟨hm, _⟩ := List.getElem?_eq_some_iff.1 h
  unfold part4
  rw [List.getElem?_append_right (by rw [List.length_map, List.length_take]; omega), List.length_map, List.length_take, Nat.min_eq_left (by omega), Nat.sub_self, List.getElem?_drop, Nat.add_zero, h]
theorem part4_set {f : R4 → R4} {L : List R4} {m : Nat} {x : R4} (h : L[m]? = some x) : (part4 f L m).set m (f x) = part4 f L (m + 1) := by
  obtain ⟨hm, he⟩ := List.getElem?_eq_some_iff.1 h
  unfold part4
  rw [List.set_append_right _ _ (by rw [List.length_map, List.length_take]; omega), List.length_map, List.length_take, Nat.min_eq_left (by omega), Nat.sub_self, List.take_succ_eq_append_getElem hm, List.map_append, he, List.append_assoc]
  congr 1
  rw [List.drop_eq_getElem_cons hm]
  rfl
/-- The first part of a row of one's own. -/
theorem own_short {w : World} {B g n cap m : Nat} {xs : List Value} (h : w.ownsRow B 69 4 (.slice (some ⟨g, 0, none⟩) n cap) n xs) (hm : m ≤ n) : w.ownsRow B 69 4 (.slice (some ⟨g, 0, none⟩) m cap) m (xs.take (m * 4)) := by
  refine ⟨by rw [List.length_take, h.1, Nat.min_eq_left (by omega)], ?_⟩
  rcases h.2 with ⟨e, _⟩ | ⟨g', cap', cur, e, r1, r2, r3, r4, r5, r6⟩
  · cases e
  · refine .inr ⟨g', cap', cur, ?_, r1, r2, by omega, r4, r5, ?_⟩
    · injection e with e1 e2 e3
      rw [e1, e3]
    · rw [← r6, List.take_take, Nat.min_eq_left (by omega)]
theorem own_cap {w : World} {B g n cap : Nat} {xs : List Value} (h : w.ownsRow B 69 4 (.slice (some ⟨g, 0, none⟩) n cap) n xs) : n ≤ cap := by
  rcases h.2 with ⟨e, _⟩ | ⟨g', cap', cur, e, r1, r2, r3, r4, r5, r6⟩
  · cases e
  · injection e with e1 e2 e3
    omega
theorem own_setCells {B g n cap : Nat} : ∀ (vs : List Value) (o : Nat) {w : World} {xs : List Value}, w.ownsRow B 69 4 (.slice (some ⟨g, 0, none⟩) n cap) n xs → ∃ ys, ys.take o = xs.take o ∧ (w.setCells g o vs).ownsRow B 69 4 (.slice (some ⟨g, 0, none⟩) n cap) n ys ∧ w.grownBy (w.setCells g o vs) (some g)
  | [], o, w, xs, h => ⟨xs, rfl, h, grown_refl _ _⟩
  | v :: vs, o, w, xs, h => by
    obtain ⟨a1, a2⟩ := h.stored o v
    obtain ⟨ys, h1, h2, h3⟩ := own_setCells vs (o + 1) a1
    refine ⟨ys, ?_, h2, a2.trans h3⟩
    have e : ys.take o = (ys.take (o + 1)).take o := by rw [List.take_take, Nat.min_eq_left (by omega)]
    rw [e, h1, List.take_take, Nat.min_eq_left (by omega), List.take_set, List.set_eq_of_length_le (by rw [List.length_take]; omega)]
/-- 'clear' of rectangles. -/
theorem run_clear_rects (w : World) (ty : TypeId) (b o n c : Nat) (hn : 0 < n) (hc : ∀ j, j < n * 4 → (w.cell? ⟨b, o + j, none⟩).isSome = true) (hf : ∀ j, j < n * 4 → w.frozen? ⟨b, o + j, none⟩ = false) :
    (Builtin.clear_ #[26] ty #[.slice (some ⟨b, o, none⟩) n c]).run Tryz.prog w = .ok (.tuple #[]) (w.setCells b o (List.replicate (n * 4) (.int .i64 0))) := by
  obtain ⟨i1, gi, gz0, gz1, gz2⟩ := info_parts infoRc
  have hv : ∀ w, (zeroValue 69).run Tryz.prog w = .ok (.agg #[.int .i64 0, .int .i64 0, .int .i64 0, .int .i64 0]) w := fun w => by kernel_rfl
  have hzc : (Builtin.zeroCells (Value.agg #[.int .i64 0, .int .i64 0, .int .i64 0, .int .i64 0]).cells n).toList = List.replicate (n * 4) (.int .i64 0) := by
    have : (Value.agg #[.int .i64 0, .int .i64 0, .int .i64 0, .int .i64 0]).cells = #[.int .i64 0, .int .i64 0, .int .i64 0, .int .i64 0] := by kernel_rfl
    rw [this]
    apply List.ext_getElem
    · simp [Builtin.zeroCells]
    · intro i h1 h2
      simp only [Builtin.zeroCells, Array.toList_map, List.getElem_map, List.getElem_replicate]
      have h4 : ∀ k, k < 4 → (#[Value.int .i64 0, .int .i64 0, .int .i64 0, .int .i64 0] : Array Value)[k]! = .int .i64 0 := by
        intro k hk
        match k, hk with
        | 0, _ => rfl
        | 1, _ => rfl
        | 2, _ => rfl
        | 3, _ => rfl
      exact h4 _ (Nat.mod_lt _ (by simp))
  have hst := run_storeCells_cells (P := Tryz.prog) b o (List.replicate (n * 4) (.int .i64 0)) 0 w (by simpa using hc) (by simpa using hf) (by intro v hv'; rw [List.eq_of_mem_replicate hv']; rfl)
  simp only [Nat.add_zero] at hst
  obtain ⟨m, rfl⟩ : ∃ m, n = m + 1 := ⟨n - 1, by omega⟩
  simp [Builtin.clear_, run_underlying Tryz.underlying26, hv, hzc, hst]
/-- Old blocks are as they were, but for the row's. -/
def KeepO (v : Value) (w W : World) : Prop := w.heap.size ≤ W.heap.size ∧ ∀ q, q < w.heap.size → v.ownBlock ≠ some q → W.heap[q]? = w.heap[q]?
theorem KeepO.below {v : Value} {w W W2 : World} (h : KeepO v w W) (hb : Below W.heap.size W W2) : KeepO v w W2 := ⟨Nat.le_trans h.1 hb.size, fun q hq hn => (hb.block q (by have := h.1; omega)).trans (h.2 q hq hn)⟩
theorem KeepO.grown {v : Value} {w W W2 : World} (h : KeepO v w W) (hg : W.grownBy W2 v.ownBlock) : KeepO v w W2 := ⟨Nat.le_trans h.1 hg.size, fun q hq hn => (hg.block q (by have := h.1; omega) (fun e => hn e.symm)).trans (h.2 q hq hn)⟩
theorem KeepO.refl (v : Value) (w : World) : KeepO v w w := ⟨Nat.le_refl _, fun _ _ _ => rfl⟩
theorem KeepO.cell {v : Value} {w W : World} (h : KeepO v w W) {q o : Nat} (hq : q < w.heap.size) (hn : v.ownBlock ≠ some q) : W.cell? ⟨q, o, none⟩ = w.cell? ⟨q, o, none⟩ := World.cell?_of_block (w := w) (a := ⟨q, o, none⟩) (h.2 q hq hn)
theorem filt_take {l : List R4} (p : R4 → Bool) {j : Nat} {x : R4} (h : l[j]? = some x) : (l.take (j + 1)).filter p = (l.take j).filter p ++ (if p x then [x] else []) := by
  rw [List.take_add_one, h, List.filter_append]
  simp only [Option.toList_some, List.filter_cons, List.filter_nil]
set_option maxRecDepth 100000 in
set_option maxHeartbeats 4000000 in
/-- **slices.DeleteFunc here.** The predicate reads what lies below block B. -/
theorem delRect_any {w : World} {B c : Nat} {A : Option Addr} {l : List R4} (hown : w.ownsRow B 69 4 (.slice A l.length c) l.length (l.flatMap encR)) (hB : B ≤ w.heap.size) (hl : l.length ≤ 1000000) (f : Nat) (lb : Array Value) (p : R4 → Bool)
    (eg : ∀ args w, (callFunc f args).run Tryz.prog w = .ok (.enter f args) w)
    (hp : ∀ (W : World) (x : R4), x ∈ l → Below B w W → KeepO (.slice A l.length c) w W → Calls Tryz.prog f (#[.agg (encR x).toArray] ++ lb) W fun e w' => e = .returned (.bool (p x)) ∧ Below W.heap.size W w') :
    Calls Tryz.prog 173 #[.slice A l.length c, .func (.func f) #[] lb] w fun e w' => (∃ c, e = .returned (.slice A (l.filter fun x => !p x).length c) ∧ w'.ownsRow B 69 4 (.slice A (l.filter fun x => !p x).length c) (l.filter fun x => !p x).length ((l.filter fun x => !p x).flatMap encR)) ∧ Below B w w' ∧ KeepO (.slice A l.length c) w w' := by
  have hix := cfRect_idx (own_rd hown (fun _ => rfl)) (by omega) f lb p eg (fun W x hx hW => hp W x hx (hW.mono hB) ((KeepO.refl _ w).below hW))
  by_cases ha : l.any p = true
  · obtain ⟨x0, hx0, hpx0⟩ := List.any_eq_true.1 ha
    have hlt0 : l.findIdx p < l.length := List.findIdx_lt_length_of_exists ⟨x0, hx0, hpx0⟩
    have hid : idxI p l = (l.findIdx p : Nat) := by unfold idxI; rw [if_pos ha]
    have hpi : p l[l.findIdx p] = true := List.findIdx_getElem
    have hbf : ∀ j (hj : j < l.findIdx p), p (l[j]'(by omega)) = false := fun j hj => by
      have := List.not_of_lt_findIdx hj
      simpa using this
    have hf0 : (l.take (l.findIdx p + 1)).filter (fun x => !p x) = l.take (l.findIdx p) := by
      rw [filt_take (fun x => !p x) (List.getElem?_eq_getElem hlt0), hpi]
      simp only [Bool.not_true, Bool.false_eq_true, if_false, List.append_nil]
      refine List.filter_eq_self.2 fun a ha => ?_
      obtain ⟨j, hj, rfl⟩ := List.mem_iff_getElem.1 ha
      rw [List.length_take] at hj
      rw [List.getElem_take, hbf j (by omega)]
      rfl
    rw [hid] at hix
    clear hpi hbf hid
    generalize hn0 : l.findIdx p = n0 at *
    obtain ⟨g, cap, hv, hBg, hgw⟩ := hown.form (by omega)
    injection hv with e1 _ e3
    subst e1; subst e3
    have hcap := own_cap hown
    have HX := hide hix
    have HO := hide hown
    have HP := hide hp
    have HF0 := hide hf0
    have lz : (l.length : Int) ≤ 1000000 := by omega
    have hne1 : ((n0 : Int) == -1) = false := by simp
    clear hix hown hp hf0 ha hx0 hpx0 hn0
    go_enter Tryz.func173, Tryz.ntmps173
    go_wp2_with (fail)
    refine HX.out.mono ?_
    rintro e w1 ⟨rfl, hb1⟩
    have HB1 := hide (hb1.mono hB)
    have HO1 := hide (own_below HO.out hb1)
    have HK1 := hide ((KeepO.refl (.slice (some ⟨g, 0, none⟩) l.length c) w).below hb1)
    have hs1 : B ≤ w1.heap.size := Nat.le_trans hB hb1.size
    clear hb1 HO HX
    go_wp2_with (fail)
    go_loopw [5, 6] (fun iv jv wr => ∃ (i j : Nat) (L : List R4), j ≤ l.length ∧ i < j ∧ iv = .int .i64 i ∧ jv = .int .i64 j ∧ Hid (i = ((l.take j).filter fun x => !p x).length) ∧ L.length = l.length ∧ Hid (L.take i = (l.take j).filter fun x => !p x) ∧ Hid (∀ q, j ≤ q → L[q]? = l[q]?) ∧ Hid (wr.ownsRow B 69 4 (.slice (some ⟨g, 0, none⟩) l.length c) l.length (L.flatMap encR)) ∧ Hid (Below B w wr) ∧ Hid (KeepO (.slice (some ⟨g, 0, none⟩) l.length c) w wr)) (fun _ jv _ => l.length - (intOf jv).toNat)
    case atStart => exact ⟨n0, n0 + 1, l, by omega, by omega, rfl, by go_num, hide (by rw [HF0.out, List.length_take]; omega), rfl, hide (by rw [HF0.out]), hide (fun _ _ => rfl), HO1, HB1, HK1⟩
    case round =>
      clear HO1 HB1 HF0 HK1
      obtain ⟨i, j, L, hj, hij, rfl, rfl, HI, hLl, HT, HU, HO, HB, HKK⟩ := hrel
      have hBw : B ≤ wr.heap.size := by have := HB.out.size; omega
      by_cases hlt : j < l.length
      · have jz : (j : Int) < (l.length : Int) := by omega
        obtain ⟨x, hx⟩ : ∃ p, l[j]? = some p := ⟨_, List.getElem?_eq_getElem hlt⟩
        have hLx : L[j]? = some x := by rw [HU.out j (Nat.le_refl _), hx]
        have kc := fun (o : Nat) (u : Value) (hu : (encR x)[o]? = some u) => (HO.out.cells (g := g) rfl) _ _ (flat_get (k := 4) (fun _ => rfl) _ j x o u hLx hu)
        simp only [addr_add] at kc
        have d0 : wr.cell? ⟨g, j * 4, none⟩ = some (.int .i64 x.x0) := kc 0 _ rfl
        have d1 : wr.cell? ⟨g, j * 4 + 1, none⟩ = some (.int .i64 x.y0) := kc 1 _ rfl
        have d2 : wr.cell? ⟨g, j * 4 + 2, none⟩ = some (.int .i64 x.x1) := kc 2 _ rfl
        have d3 : wr.cell? ⟨g, j * 4 + 3, none⟩ = some (.int .i64 x.y1) := kc 3 _ rfl
        have HPX := hide (fun (W : World) (hW : Below B w W) (hk : KeepO (.slice (some ⟨g, 0, none⟩) l.length c) w W) => HP.out W x (List.mem_of_getElem? hx) hW hk)
        simp only [encR] at HPX
        have HFT := hide (filt_take (fun x => !p x) hx)
        have HX := hide hx
        clear kc hx hLx
        go_upto_region 8 with fail
        refine wp_name fun Z hZ => ?_
        have hbz : Below wr.heap.size wr Z := by rw [hZ]; exact (Below.refl _ _).alloc (Nat.le_refl _) _
        have z0 : Z.cell? ⟨wr.heap.size, 0, none⟩ = some (.int .i64 x.x0) := by rw [hZ]; simp [go_sem]
        have z1 : Z.cell? ⟨wr.heap.size, 1, none⟩ = some (.int .i64 x.y0) := by rw [hZ]; simp [go_sem]
        have z2 : Z.cell? ⟨wr.heap.size, 2, none⟩ = some (.int .i64 x.x1) := by rw [hZ]; simp [go_sem]
        have z3 : Z.cell? ⟨wr.heap.size, 3, none⟩ = some (.int .i64 x.y1) := by rw [hZ]; simp [go_sem]
        have hqz : wr.heap.size < Z.heap.size := by rw [hZ]; simp
        have HBZ := hide (HB.out.trans (hbz.mono hBw))
        have HOZ := hide (own_below HO.out hbz)
        have HKZ := hide (HKK.out.below hbz)
        have hBZs : B ≤ Z.heap.size := Nat.le_trans hBw hbz.size
        have hgq : g ≠ wr.heap.size := by have := (HO.out.lt g rfl).2; omega
        generalize hq9 : wr.heap.size = q9 at *
        clear hZ hbz d0 d1 d2 d3 HO HB HKK
        cases hpx : p x with
        | true =>
          have HPB := hide hpx
          have hcc := HPX.out Z HBZ.out HKZ.out
          rw [hpx] at hcc
          have HCC := hide hcc
          have HFT2 : Hid ((l.take (j + 1)).filter (fun x => !p x) = (l.take j).filter (fun x => !p x)) := hide (by rw [HFT.out, hpx]; simp)
          clear hcc hpx HPX HFT
          go_wp2_with (fail)
          refine HCC.out.mono ?_
          rintro e W2 ⟨rfl, hb2⟩
          have HB2 := hide (HBZ.out.trans (hb2.mono hBZs))
          have HO2 := hide (own_below HOZ.out hb2)
          have HK2 := hide (HKZ.out.below hb2)
          clear hb2 HCC HBZ HOZ z0 z1 z2 z3
          go_wp2_with (fail)
          go_roundw
          case rel => exact ⟨i, j + 1, L, by omega, by omega, rfl, by go_num, hide (by rw [HFT2.out]; exact HI.out), hLl, hide (by rw [HFT2.out]; exact HT.out), hide (fun q hq => HU.out q (by omega)), HO2, HB2, HK2⟩
          case measure => simp [intOf]; omega
        | false =>
          have HPB := hide hpx
          have hcc := HPX.out Z HBZ.out HKZ.out
          rw [hpx] at hcc
          have HCC := hide hcc
          have HFT2 : Hid ((l.take (j + 1)).filter (fun x => !p x) = (l.take j).filter (fun x => !p x) ++ [x]) := hide (by rw [HFT.out, hpx]; simp)
          clear hcc hpx HPX HFT
          go_wp2_with (fail)
          refine HCC.out.mono ?_
          rintro e W2 ⟨rfl, hb2⟩
          have HB2 := hide (HBZ.out.trans (hb2.mono hBZs))
          have HO2 := hide (own_below HOZ.out hb2)
          have HK2 := hide (HKZ.out.below hb2)
          have hB2s : B ≤ W2.heap.size := Nat.le_trans hBZs hb2.size
          have y0 := (hb2.cell (p := ⟨q9, 0, none⟩) hqz).trans z0
          have y1 := (hb2.cell (p := ⟨q9, 1, none⟩) hqz).trans z1
          have y2 := (hb2.cell (p := ⟨q9, 2, none⟩) hqz).trans z2
          have y3 := (hb2.cell (p := ⟨q9, 3, none⟩) hqz).trans z3
          have hiL : i < L.length := by omega
          obtain ⟨y, hy⟩ : ∃ p, L[i]? = some p := ⟨_, List.getElem?_eq_getElem hiL⟩
          have kc := fun (o : Nat) (u : Value) (hu : (encR y)[o]? = some u) => (HO2.out.cells (g := g) rfl) _ _ (flat_get (k := 4) (fun _ => rfl) _ i y o u hy hu)
          simp only [addr_add] at kc
          have s0 : W2.cell? ⟨g, i * 4, none⟩ = some (.int .i64 y.x0) := kc 0 _ rfl
          have s1 : W2.cell? ⟨g, i * 4 + 1, none⟩ = some (.int .i64 y.y0) := kc 1 _ rfl
          have s2 : W2.cell? ⟨g, i * 4 + 2, none⟩ = some (.int .i64 y.x1) := kc 2 _ rfl
          have s3 : W2.cell? ⟨g, i * 4 + 3, none⟩ = some (.int .i64 y.y1) := kc 3 _ rfl
          have f0 : W2.frozen? ⟨g, i * 4, none⟩ = false := HO2.out.frozenAt _
          have f1 : W2.frozen? ⟨g, i * 4 + 1, none⟩ = false := HO2.out.frozenAt _
          have f2 : W2.frozen? ⟨g, i * 4 + 2, none⟩ = false := HO2.out.frozenAt _
          have f3 : W2.frozen? ⟨g, i * 4 + 3, none⟩ = false := HO2.out.frozenAt _
          have iz : (i : Int) < (l.length : Int) := by omega
          obtain ⟨k1, k2⟩ := own_set4 HO2.out hiL x.x0 x.y0 x.x1 x.y1
          have HK1 := hide k1
          have HK3 := hide (HK2.out.grown k2)
          have HB3 := hide (HB2.out.grown k2 hB2s (fun q hq => by injection hq with hq; omega))
          clear hb2 HCC HBZ HOZ z0 z1 z2 z3 kc hy k1 k2
          go_wp2_with (fail)
          go_roundw
          case rel =>
            refine ⟨i + 1, j + 1, L.set i x, by omega, by omega, by go_num, by go_num, hide (by rw [HFT2.out, List.length_append, ← HI.out]; rfl), by rw [List.length_set]; exact hLl, hide ?_, hide (fun q hq => ?_), HK1, HB3, HK3⟩
            · rw [HFT2.out, List.take_add_one, List.getElem?_set_self hiL, List.take_set, List.set_eq_of_length_le (by rw [List.length_take]; omega), HT.out]; rfl
            · rw [List.getElem?_set_ne (by omega)]; exact HU.out q (by omega)
          case measure => simp [intOf]; omega
      · obtain rfl : j = l.length := by omega
        have hjz : ¬ (l.length : Int) < (l.length : Int) := by omega
        rw [List.take_length] at HI HT
        have hil : i < l.length := hij
        have iz : (i : Int) ≤ (l.length : Int) := by omega
        have hci : ¬ c = i := by omega
        have hci2 : i < c := by omega
        have hgc := HO.out.cells (g := g) rfl
        simp only [addr_add] at hgc
        have hxl : (L.flatMap encR).length = l.length * 4 := HO.out.1
        have hcl := run_clear_rects wr 0 g (i * 4) (l.length - i) (c - i) (by omega) (fun j hj => by
          rw [hgc (i * 4 + j) _ (List.getElem?_eq_getElem (by rw [hxl]; omega))]; rfl) (fun j hj => HO.out.frozenAt _)
        obtain ⟨ys, h1, h2, h3⟩ := own_setCells (List.replicate ((l.length - i) * 4) (.int .i64 0)) (i * 4) HO.out
        have HR := hide (own_short h2 (show i ≤ l.length by omega))
        have HE : Hid (ys.take (i * 4) = (l.filter fun x => !p x).flatMap encR) := hide (by rw [h1, ← flat_takeR, HT.out])
        have HB3 := hide (HB.out.grown h3 (by have := HB.out.size; omega) (fun q hq => by injection hq with hq; omega))
        have HK3 := hide (HKK.out.grown h3)
        clear hgc hxl h1 h2 h3 HO HKK
        generalize wr.setCells g (i * 4) (List.replicate ((l.length - i) * 4) (.int .i64 0)) = W3 at *
        have HI2 := hide HI.out
        clear HI HB
        go_wp2_with (fail)
        go_ret
        refine ⟨⟨c, by rw [← HI2.out]; rfl, ?_⟩, HB3.out, HK3.out⟩
        rw [← HE.out, ← HI2.out]
        exact HR.out
  · have hid : idxI p l = -1 := by unfold idxI; rw [if_neg ha]
    rw [hid] at hix
    have hfl : (l.filter fun x => !p x) = l := by
      refine List.filter_eq_self.2 fun a h => ?_
      have : p a = false := by
        cases hpa : p a with
        | false => rfl
        | true => exact absurd (List.any_eq_true.2 ⟨a, h, hpa⟩) ha
      rw [this]; rfl
    rw [hfl]
    have HX := hide hix
    have HO := hide hown
    clear hix hown hp hid ha hfl
    go_enter Tryz.func173, Tryz.ntmps173
    go_wp2_with (fail)
    refine HX.out.mono ?_
    rintro e w1 ⟨rfl, hb1⟩
    have HB1 := hide hb1
    clear hb1
    go_wp2_with (fail)
    go_ret
    exact ⟨⟨c, rfl, own_below HO.out HB1.out⟩, HB1.out.mono hB, (KeepO.refl _ w).below HB1.out⟩
end Go.Proofs.YtdolpeljengpaaaGreat

/- A list of rectangles that has just been written out is read as a list. -/
namespace Go.Proofs.YtdolpeljengpaaaGreat
open Go.RowKit
set_option linter.unusedVariables false
set_option linter.unusedSimpArgs false

theorem rd_lit (w : World) (l : List R4) (t : TypeId) (c : Nat) : RdK encR 4 (w.alloc (.cells (l.flatMap encR).toArray t)) (w.alloc (.cells (l.flatMap encR).toArray t)).heap.size (.slice (some ⟨w.heap.size, 0, none⟩) l.length c) l := by
  refine ⟨_, c, rfl, fun _ => ⟨w.heap.size, 0, rfl, by simp, fun j x hx i u hu => ?_⟩⟩
  have := news_new w (l.flatMap encR) t w.heap.size rfl _ _ (flat_get (k := 4) (fun _ => rfl) l j x i u hx hu)
  rw [addr_add] at this
  rwa [Nat.zero_add]
theorem rd_lit_at {w : World} {B : Nat} (hB : w.heap.size = B) (l : List R4) (t : TypeId) (c : Nat) : RdK encR 4 (w.alloc (.cells (l.flatMap encR).toArray t)) (w.alloc (.cells (l.flatMap encR).toArray t)).heap.size (.slice (some ⟨B, 0, none⟩) l.length c) l := by
  subst hB
  exact rd_lit w l t c
end Go.Proofs.YtdolpeljengpaaaGreat

/- offset.Shrink. -/
namespace Go.Proofs.YtdolpeljengpaaaGreat
open Go.RowKit
set_option linter.unusedVariables false
set_option linter.unusedSimpArgs false

set_option maxHeartbeats 1000000 in
theorem oShrC_any (k x : R4) (H : Nat) (w : World) (c0 : w.cell? ⟨H, 0, none⟩ = some (.int .i64 k.x0)) (c2 : w.cell? ⟨H, 2, none⟩ = some (.int .i64 k.x1)) :
    Calls Tryz.prog 174 #[.agg (encR x).toArray, .pointer (some ⟨H, 0, none⟩)] w fun e w' => e = .returned (.bool (outX k x)) ∧ Below w.heap.size w w' := by
  have hH : H < w.heap.size := lt_of_cell c0
  have HX : Hid (outX k x = (decide (x.x1 ≤ k.x0) || decide (k.x1 ≤ x.x0))) := hide rfl
  obtain ⟨x0, y0, x1, y1⟩ := x
  show Calls Tryz.prog _ #[.agg #[.int .i64 x0, .int .i64 y0, .int .i64 x1, .int .i64 y1], .pointer (some ⟨H, 0, none⟩)] w _
  simp only at HX
  by_cases h1 : x1 ≤ k.x0
  · have HE : Hid (outX k ⟨x0, y0, x1, y1⟩ = true) := hide (by rw [HX.out, decide_eq_true h1]; rfl)
    go_enter Tryz.func174, Tryz.ntmps174
    go_wp2
    go_ret
    exact ⟨by rw [HE.out]; rfl, (Below.refl _ _).alloc (Nat.le_refl _) _⟩
  · by_cases h2 : k.x1 ≤ x0
    · have HE : Hid (outX k ⟨x0, y0, x1, y1⟩ = true) := hide (by rw [HX.out, decide_eq_true h2, Bool.or_true])
      go_enter Tryz.func174, Tryz.ntmps174
      go_wp2
      go_ret
      exact ⟨by rw [HE.out]; rfl, (Below.refl _ _).alloc (Nat.le_refl _) _⟩
    · have HE : Hid (outX k ⟨x0, y0, x1, y1⟩ = false) := hide (by rw [HX.out, decide_eq_false h1, decide_eq_false h2]; rfl)
      go_enter Tryz.func174, Tryz.ntmps174
      go_wp2
      go_ret
      exact ⟨by rw [HE.out]; rfl, (Below.refl _ _).alloc (Nat.le_refl _) _⟩
/-- The row of holes, and the frame in block H. -/
structure SH (w : World) (B : Nat) (v : Value) (X : List R4) (H : Nat) (k : R4) (wr : World) : Prop where
  low : Below w.heap.size w wr
  bw : w.heap.size ≤ B
  own : wr.ownsRow B 69 4 v X.length (X.flatMap encR)
  lo : B ≤ H
  lt : H < wr.heap.size
  ne : v.ownBlock ≠ some H
  c0 : wr.cell? ⟨H, 0, none⟩ = some (.int .i64 k.x0)
  c1 : wr.cell? ⟨H, 1, none⟩ = some (.int .i64 k.y0)
  c2 : wr.cell? ⟨H, 2, none⟩ = some (.int .i64 k.x1)
  c3 : wr.cell? ⟨H, 3, none⟩ = some (.int .i64 k.y1)
theorem SH.below {w wr w2 : World} {B H : Nat} {v : Value} {X : List R4} {k : R4} (h : SH w B v X H k wr) (hb : Below wr.heap.size wr w2) : SH w B v X H k w2 := by
  have hc : ∀ o, w2.cell? ⟨H, o, none⟩ = wr.cell? ⟨H, o, none⟩ := fun o => hb.cell (p := ⟨H, o, none⟩) h.lt
  exact ⟨h.low.trans (hb.mono h.low.size), h.bw, own_below h.own hb, h.lo, Nat.lt_of_lt_of_le h.lt hb.size, h.ne, (hc 0).trans h.c0, (hc 1).trans h.c1, (hc 2).trans h.c2, (hc 3).trans h.c3⟩
theorem SH.set {w wr w2 : World} {B H : Nat} {v : Value} {X X' : List R4} {k : R4} (h : SH w B v X H k wr) (hg : wr.grownBy w2 v.ownBlock) (ho : w2.ownsRow B 69 4 v X'.length (X'.flatMap encR)) : SH w B v X' H k w2 := by
  have hc : ∀ o, w2.cell? ⟨H, o, none⟩ = wr.cell? ⟨H, o, none⟩ := fun o => World.cell?_of_block (w := wr) (a := ⟨H, o, none⟩) (hg.block H h.lt (fun e => h.ne e.symm))
  have hbw := h.bw
  exact ⟨h.low.grown hg h.low.size (fun q hq => by have := (h.own.lt q hq).1; omega), h.bw, ho, h.lo, Nat.lt_of_lt_of_le h.lt hg.size, h.ne, (hc 0).trans h.c0, (hc 1).trans h.c1, (hc 2).trans h.c2, (hc 3).trans h.c3⟩
theorem SH.del {w wr w2 : World} {B H c c' n : Nat} {A : Option Addr} {X X' : List R4} {k : R4} (h : SH w B (.slice A n c) X H k wr) (hk : KeepO (.slice A n c) wr w2) (hb : Below B wr w2) (ho : w2.ownsRow B 69 4 (.slice A X'.length c') X'.length (X'.flatMap encR)) : SH w B (.slice A X'.length c') X' H k w2 := by
  have hc : ∀ o, w2.cell? ⟨H, o, none⟩ = wr.cell? ⟨H, o, none⟩ := fun o => hk.cell h.lt h.ne
  have hne : (Value.slice A X'.length c').ownBlock ≠ some H := by
    have := h.ne
    cases A with
    | none => simp [Value.ownBlock]
    | some a => simpa [Value.ownBlock] using this
  exact ⟨h.low.trans (hb.mono h.bw), h.bw, ho, h.lo, Nat.lt_of_lt_of_le h.lt hb.size, hne, (hc 0).trans h.c0, (hc 1).trans h.c1, (hc 2).trans h.c2, (hc 3).trans h.c3⟩
theorem miss_bd {l : List R4} (hv : ∀ r ∈ l, valid4 r) (hne : l ≠ []) : ∀ z ∈ missL (hullL l) none l, wf4 z ∧ (-1000000 ≤ z.x0 ∧ z.x0 ≤ 1000000) ∧ (-1000000 ≤ z.y0 ∧ z.y0 ≤ 1000000) ∧ (-1000000 ≤ z.x1 ∧ z.x1 ≤ 1000000) ∧ (-1000000 ≤ z.y1 ∧ z.y1 ≤ 1000000) := fun z hz => by
  obtain ⟨h1, h2, h3, h4, h5⟩ := miss_ok (hullL_ok hne) z hz
  obtain ⟨cx, cy⟩ := cuts_in hv
  exact ⟨h1, cx _ (by simp [h2]), cy _ (by simp [h4]), cx _ (by simp [h3]), cy _ (by simp [h5])⟩
theorem hull_bd {l : List R4} (hv : ∀ r ∈ l, valid4 r) (hne : l ≠ []) : (-1000000 ≤ (hullL l).x0 ∧ (hullL l).x0 ≤ 1000000) ∧ (-1000000 ≤ (hullL l).y0 ∧ (hullL l).y0 ≤ 1000000) ∧ (-1000000 ≤ (hullL l).x1 ∧ (hullL l).x1 ≤ 1000000) ∧ (-1000000 ≤ (hullL l).y1 ∧ (hullL l).y1 ≤ 1000000) := by
  have hh := hullL_ok hne
  obtain ⟨r0, m0, e0⟩ := hh.a0
  obtain ⟨r1, m1, e1⟩ := hh.a1
  obtain ⟨r2, m2, e2⟩ := hh.a2
  obtain ⟨r3, m3, e3⟩ := hh.a3
  obtain ⟨_, _, ⟨a1, a2⟩, _⟩ := hv r0 m0
  obtain ⟨_, _, _, _, ⟨b1, b2⟩, _⟩ := hv r1 m1
  obtain ⟨_, _, _, ⟨c1, c2⟩, _⟩ := hv r2 m2
  obtain ⟨_, _, _, _, _, ⟨d1, d2⟩⟩ := hv r3 m3
  omega
set_option maxRecDepth 100000 in
set_option maxHeartbeats 8000000 in
theorem oShrink_any {w : World} {v : Value} {l : List R4} (hr : RdK encR 4 w w.heap.size v l) (hl : l.length ≤ 100000000) (d : Int) :
    Calls Tryz.prog 131 #[v, .int .i64 d] w fun e w' => RegRet w.heap.size (shrF l d) e w' ∧ Below w.heap.size w w' := by
  have hck := fun (W : World) (hW : Below w.heap.size w W) => ochecked_any (w := W) ((hr.below hW).mono hW.size) hl d
  by_cases h0 : chkD l d = 0
  · obtain ⟨hc, d1, d2⟩ := chkD_ok h0
    obtain ⟨l4, lv, _⟩ := checkF_ok hc
    have hF : shrF l d = if 400 < (shrR l d).length then ([], 4) else (shrR l d, 0) := if_pos h0
    rw [h0] at hck
    by_cases hne : l = []
    · have hS : shrF l d = ([], 0) := by
        rw [hF]
        have : shrR l d = [] := if_pos hne
        rw [this]; rfl
      have hlen : l.length = 0 := by rw [hne]; rfl
      obtain ⟨A, c, hv, hcc⟩ := id hr
      subst hv
      rw [hlen] at hck ⊢
      have HC := hide hck
      have HF := hide hS
      clear hck hcc hF hS lv hc hr h0 hne hlen
      go_enter Tryz.func131, Tryz.ntmps131
      go_wp2_with (fail)
      refine (HC.out _ (Below.refl _ _)).mono ?_
      rintro e w1 ⟨rfl, hb1⟩
      have HB1 := hide hb1
      clear hb1
      go_wp2_with (fail)
      go_ret2
      exact ⟨⟨none, 0, by rw [HF.out]; rfl, by rw [HF.out]; exact World.ownsRow_nil _ _ _ _⟩, HB1.out⟩
    · have hlp : 0 < l.length := List.length_pos_iff.2 hne
      have hms := fun (W : World) (hW : Below w.heap.size w W) => omissing_any (w := W) ((hr.below hW).mono hW.size) hc hne
      have hmb := miss_bd lv hne
      have hhb := hull_bd lv hne
      have hml := missTo_len (hullL l) l l.length
      rw [missTo_all] at hml
      have hSR : shrR l d = if (growR (-d) (hullL l)).x1 ≤ (growR (-d) (hullL l)).x0 ∨ (growR (-d) (hullL l)).y1 ≤ (growR (-d) (hullL l)).y0 then [] else rjoin hSub [growR (-d) (hullL l)] (clipH (growR (-d) (hullL l)) ((missL (hullL l) none l).map (growR d))) := if_neg hne
      unfold MissO at hms
      obtain ⟨A, c, hv, hcc⟩ := id hr
      subst hv
      have HC := hide hck
      have HF := hide hF
      have HSR := hide hSR
      have HMS := hide hms
      have HMB := hide hmb
      clear hck hcc hF hSR hms hmb lv hc hr h0 hne
      generalize hullL l = h at *
      generalize missL h none l = L at *
      have lz : (l.length : Int) ≤ 400 := by omega
      have lz2 : (0 : Int) < (l.length : Int) := by omega
      have Lz : L.length ≤ 1200 := by omega
      obtain ⟨⟨u1, u2⟩, ⟨u3, u4⟩, ⟨u5, u6⟩, u7, u8⟩ := hhb
      have HG1 := hide (fun W => ogrown_any h (-d) ⟨by omega, by omega, by omega, by omega⟩ ⟨by omega, by omega⟩ W)
      go_enter Tryz.func131, Tryz.ntmps131
      go_wp2_with (fail)
      refine (HC.out _ (Below.refl _ _)).mono ?_
      rintro e w1 ⟨rfl, hb1⟩
      have HB1 := hide hb1
      have hs1 : w.heap.size ≤ w1.heap.size := hb1.size
      clear hb1
      go_wp2_with (fail)
      refine (HMS.out _ HB1.out).mono ?_
      rintro e w2 ⟨A2, c2, rfl, ho2, hb2⟩
      have HO2 := hide ho2
      have HB2 := hide (HB1.out.trans (hb2.mono hs1))
      have hs2 : w1.heap.size ≤ w2.heap.size := hb2.size
      clear ho2 hb2 HMS HC
      go_wp2_with (fail)
      refine (HG1.out _).mono ?_
      rintro e w3 ⟨rfl, hb3⟩
      have hb23 : Below w2.heap.size w2 w3 := ((Below.refl _ _).alloc (Nat.le_refl _) _).trans (hb3.mono (by simp))
      have k0 : w3.cell? ⟨w2.heap.size, 0, none⟩ = some (.int .i64 h.x0) := (hb3.cell (p := ⟨w2.heap.size, 0, none⟩) (by simp)).trans (by simp [go_sem])
      have k1 : w3.cell? ⟨w2.heap.size, 1, none⟩ = some (.int .i64 h.y0) := (hb3.cell (p := ⟨w2.heap.size, 1, none⟩) (by simp)).trans (by simp [go_sem])
      have k2 : w3.cell? ⟨w2.heap.size, 2, none⟩ = some (.int .i64 h.x1) := (hb3.cell (p := ⟨w2.heap.size, 2, none⟩) (by simp)).trans (by simp [go_sem])
      have k3 : w3.cell? ⟨w2.heap.size, 3, none⟩ = some (.int .i64 h.y1) := (hb3.cell (p := ⟨w2.heap.size, 3, none⟩) (by simp)).trans (by simp [go_sem])
      have f0 : w3.frozen? ⟨w2.heap.size, 0, none⟩ = false := (hb3.frozen (p := ⟨w2.heap.size, 0, none⟩) (by simp)).trans (by simp [go_sem])
      have f1 : w3.frozen? ⟨w2.heap.size, 1, none⟩ = false := (hb3.frozen (p := ⟨w2.heap.size, 1, none⟩) (by simp)).trans (by simp [go_sem])
      have f2 : w3.frozen? ⟨w2.heap.size, 2, none⟩ = false := (hb3.frozen (p := ⟨w2.heap.size, 2, none⟩) (by simp)).trans (by simp [go_sem])
      have f3 : w3.frozen? ⟨w2.heap.size, 3, none⟩ = false := (hb3.frozen (p := ⟨w2.heap.size, 3, none⟩) (by simp)).trans (by simp [go_sem])
      have hs3 : w2.heap.size < w3.heap.size := lt_of_cell k0
      have HB23 := hide hb23
      clear hb3 hb23 HG1
      obtain ⟨k, hk⟩ : ∃ k, k = growR (-d) h := ⟨_, rfl⟩
      have e0 : h.x0 - -d = k.x0 := by rw [hk]; rfl
      have e1 : h.y0 - -d = k.y0 := by rw [hk]; rfl
      have e2 : h.x1 + -d = k.x1 := by rw [hk]; rfl
      have e3 : h.y1 + -d = k.y1 := by rw [hk]; rfl
      rw [e0, e1, e2, e3]
      have hkb : (-2000000 ≤ k.x0 ∧ k.x0 ≤ 2000000) ∧ (-2000000 ≤ k.y0 ∧ k.y0 ≤ 2000000) ∧ (-2000000 ≤ k.x1 ∧ k.x1 ≤ 2000000) ∧ (-2000000 ≤ k.y1 ∧ k.y1 ≤ 2000000) := by omega
      rw [← hk] at HSR
      clear hk e0 e1 e2 e3
      go_upto_region 8 with fail
      refine wp_name fun Y hY => ?_
      have HSH : Hid (SH w w1.heap.size (.slice A2 L.length c2) L w2.heap.size k Y) := hide (by
        have hb4 : Below w2.heap.size w3 Y := by
          rw [hY]
          repeat (first | with_reducible exact Below.refl _ _ | with_reducible refine Below.setCell ?_ (by first | (simp; done) | (simp; omega)) _)
        have hb5 : Below w2.heap.size w2 Y := HB23.out.trans hb4
        refine ⟨HB2.out.trans (hb5.mono (by omega)), hs1, own_below HO2.out hb5, hs2, by rw [hY]; simp; omega, fun e => ?_, by rw [hY]; simp [go_sem, k0], by rw [hY]; simp [go_sem, k1], by rw [hY]; simp [go_sem, k2], by rw [hY]; simp [go_sem, k3]⟩
        have := (HO2.out.lt _ e).2
        omega)
      generalize hH7 : w2.heap.size = H7 at *
      generalize hBB : w1.heap.size = B at *
      clear hY k0 k1 k2 k3 f0 f1 f2 f3 HB23 HO2 HB2 HB1 hH7 hBB
      have c0 := HSH.out.c0
      have c1 := HSH.out.c1
      have c2' := HSH.out.c2
      have c3 := HSH.out.c3
      by_cases hdg : k.x1 ≤ k.x0 ∨ k.y1 ≤ k.y0
      · have HG : Hid (shrF l d = ([], 0)) := hide (by rw [HF.out, HSR.out, if_pos hdg]; rfl)
        by_cases t1 : k.x1 ≤ k.x0
        · go_wp2_with (fail)
          go_ret2
          exact ⟨⟨none, 0, by rw [HG.out]; rfl, by rw [HG.out]; exact World.ownsRow_nil _ _ _ _⟩, HSH.out.low⟩
        · have t2 : k.y1 ≤ k.y0 := by omega
          clear hdg
          go_wp2_with (fail)
          go_ret2
          exact ⟨⟨none, 0, by rw [HG.out]; rfl, by rw [HG.out]; exact World.ownsRow_nil _ _ _ _⟩, HSH.out.low⟩
      · have HG : Hid (shrF l d = carveF [k] (clipH k (L.map (growR d)))) := hide (by rw [HF.out, HSR.out, if_neg hdg]; rfl)
        have t1 : ¬ k.x1 ≤ k.x0 := by omega
        have t2 : ¬ k.y1 ≤ k.y0 := by omega
        clear hdg
        go_wp2_with (fail)
        clear c0 c1 c2' c3
        go_loopw [45] (fun i wr => ∃ m : Nat, m ≤ L.length ∧ i = .int .i64 m ∧ Hid (SH w B (.slice A2 L.length c2) (part4 (growR d) L m) H7 k wr)) (fun i _ => L.length - (intOf i).toNat)
        case atStart => exact ⟨0, Nat.zero_le _, rfl, hide (by rw [part4_zero]; exact HSH.out)⟩
        case round =>
          clear HSH
          obtain ⟨m, hm, rfl, HS⟩ := hrel
          by_cases hlt : m < L.length
          · have mz : (m : Int) < (L.length : Int) := by omega
            obtain ⟨x, hx⟩ : ∃ p, L[m]? = some p := ⟨_, List.getElem?_eq_getElem hlt⟩
            have hpx := part4_get (f := growR d) hx
            have hps := part4_set (f := growR d) hx
            have hpl := part4_len (growR d) L m
            obtain ⟨b1, ⟨b2, b3⟩, ⟨b4, b5⟩, ⟨b6, b7⟩, b8, b9⟩ := HMB.out x (List.mem_of_getElem? hx)
            have HGX := hide (fun W => ogrown_any x d ⟨by omega, by omega, by omega, by omega⟩ ⟨by omega, by omega⟩ W)
            obtain ⟨g, cap, hv, hBg, hgw⟩ := HS.out.own.form (by rw [hpl]; omega)
            injection hv with e1 e2 e3
            clear e2
            subst e1; subst e3
            have kc := fun (W : World) (h : W.ownsRow B 69 4 (.slice (some ⟨g, 0, none⟩) L.length c2) L.length ((part4 (growR d) L m).flatMap encR)) (o : Nat) (u : Value) (hu : (encR x)[o]? = some u) => (h.cells (g := g) rfl) _ _ (flat_get (k := 4) (fun _ => rfl) _ m x o u hpx hu)
            simp only [addr_add] at kc
            have KC := hide kc
            have hown := own_n HS.out.own hpl
            have HOW := hide hown
            have r0 := kc wr hown 0 _ rfl
            have r1 := kc wr hown 1 _ rfl
            have r2 := kc wr hown 2 _ rfl
            have r3 := kc wr hown 3 _ rfl
            have HPS := hide hps
            have HPL := hide hpl
            have hm4 : m < (part4 (growR d) L m).length := by omega
            clear kc hown hx hpx hps hpl
            simp only [Nat.add_zero] at r0
            go_wp2_with (fail)
            refine (HGX.out _).mono ?_
            rintro e W2 ⟨rfl, hb⟩
            have hb2 : Below wr.heap.size wr W2 := ((Below.refl _ _).alloc (Nat.le_refl _) _).trans (hb.mono (by simp))
            have HS2 := hide (HS.out.below hb2)
            have hown2 := own_below HOW.out hb2
            have s0 := KC.out W2 hown2 0 _ rfl
            have s1 := KC.out W2 hown2 1 _ rfl
            have s2 := KC.out W2 hown2 2 _ rfl
            have s3 := KC.out W2 hown2 3 _ rfl
            simp only [Nat.add_zero] at s0
            have f0 : W2.frozen? ⟨g, m * 4, none⟩ = false := hown2.frozenAt _
            have f1 : W2.frozen? ⟨g, m * 4 + 1, none⟩ = false := hown2.frozenAt _
            have f2 : W2.frozen? ⟨g, m * 4 + 2, none⟩ = false := hown2.frozenAt _
            have f3 : W2.frozen? ⟨g, m * 4 + 3, none⟩ = false := hown2.frozenAt _
            obtain ⟨o1, o2⟩ := own_set4 hown2 hm4 (x.x0 - d) (x.y0 - d) (x.x1 + d) (x.y1 + d)
            have e4 : (part4 (growR d) L m).set m ⟨x.x0 - d, x.y0 - d, x.x1 + d, x.y1 + d⟩ = part4 (growR d) L (m + 1) := HPS.out
            rw [e4] at o1
            have HS3 := hide (HS2.out.set o2 (own_n o1 (part4_len (growR d) L (m + 1)).symm))
            clear hb hb2 hown2 o1 o2 e4 HGX HS HS2 r0 r1 r2 r3
            go_wp2_with (fail)
            go_roundw
            case rel => exact ⟨m + 1, by omega, by go_num, HS3⟩
            case measure => simp [intOf]; omega
          · obtain rfl : m = L.length := by omega
            have mz : ¬ (L.length : Int) < (L.length : Int) := by omega
            rw [part4_all] at HS
            have hXl : (L.map (growR d)).length = L.length := by rw [List.length_map]
            have hown := own_n HS.out.own hXl
            have hne7 : ∀ n c, (Value.slice A2 n c).ownBlock ≠ some H7 := fun n c => by
              have := HS.out.ne
              cases A2 with
              | none => simp [Value.ownBlock]
              | some a => simpa [Value.ownBlock] using this
            have eg : ∀ args w, (callFunc 174 args).run Tryz.prog w = .ok (.enter 174 args) w := enters_of Tryz.func174 (by kernel_rfl) rfl
            have hdel := delRect_any (A := A2) (c := c2) (l := L.map (growR d)) (by rw [hXl]; exact hown) (Nat.le_trans HS.out.lo (Nat.le_of_lt HS.out.lt)) (by rw [hXl]; omega) 174 #[.pointer (some ⟨H7, 0, none⟩)] (outX k) eg
              (fun W x _ _ hk => oShrC_any k x H7 W ((hk.cell HS.out.lt (hne7 _ _)).trans HS.out.c0) ((hk.cell HS.out.lt (hne7 _ _)).trans HS.out.c2))
            rw [hXl] at hdel
            have HDEL := hide hdel
            have HFL := hide (List.length_filter_le (fun x => !outX k x) (L.map (growR d)))
            have HCL : Hid (clipH k (L.map (growR d)) = ((L.map (growR d)).filter fun x => !outX k x).map (clip1 k)) := hide rfl
            have HCW := hide (clip_wf (k := k) (by omega) (L := L.map (growR d)) (fun z hz => by
              obtain ⟨q, hq, rfl⟩ := List.mem_map.1 hz
              exact grow_wf (HMB.out q hq).1 d1))
            have HXB : Hid (∀ z ∈ (L.map (growR d)).filter fun x => !outX k x, (-2000000 ≤ z.y0 ∧ z.y0 ≤ 2000000) ∧ (-2000000 ≤ z.y1 ∧ z.y1 ≤ 2000000)) := hide (fun z hz => by
              obtain ⟨q, hq, rfl⟩ := List.mem_map.1 (List.mem_filter.1 hz).1
              obtain ⟨b1, ⟨b2, b3⟩, ⟨b4, b5⟩, ⟨b6, b7⟩, b8, b9⟩ := HMB.out q hq
              unfold growR; simp only; omega)
            clear hdel hown eg hXl HSR HF HMB hne7
            rw [HCL.out] at HG HCW
            have hfl := HFL.out
            rw [List.length_map] at hfl
            go_wp2_with (fail)
            refine HDEL.out.mono ?_
            rintro e W4 ⟨⟨c4, rfl, ho4⟩, hb4, hk4⟩
            have HS4 := hide (HS.out.del hk4 hb4 ho4)
            clear ho4 hb4 hk4 HDEL HS HCL HFL
            generalize ((L.map (growR d)).filter fun x => !outX k x) = F at *
            go_wp2_with (fail)
            go_loopw [62] (fun i wr => ∃ m : Nat, m ≤ F.length ∧ i = .int .i64 m ∧ Hid (SH w B (.slice A2 F.length c4) (part4 (clip1 k) F m) H7 k wr)) (fun i _ => F.length - (intOf i).toNat)
            case atStart => exact ⟨0, Nat.zero_le _, rfl, hide (by rw [part4_zero]; exact HS4.out)⟩
            case round =>
              clear HS4
              obtain ⟨m, hm, rfl, HS⟩ := hrel
              by_cases hlt : m < F.length
              · have mz : (m : Int) < (F.length : Int) := by omega
                obtain ⟨x, hx⟩ : ∃ p, F[m]? = some p := ⟨_, List.getElem?_eq_getElem hlt⟩
                have hpx := part4_get (f := clip1 k) hx
                have hps := part4_set (f := clip1 k) hx
                have hpl := part4_len (clip1 k) F m
                obtain ⟨g, cap, hv, hBg, hgw⟩ := HS.out.own.form (by rw [hpl]; omega)
                injection hv with e1 e2 e3
                clear e2
                subst e1; subst e3
                have kc := fun (W : World) (h : W.ownsRow B 69 4 (.slice (some ⟨g, 0, none⟩) F.length c4) F.length ((part4 (clip1 k) F m).flatMap encR)) (o : Nat) (u : Value) (hu : (encR x)[o]? = some u) => (h.cells (g := g) rfl) _ _ (flat_get (k := 4) (fun _ => rfl) _ m x o u hpx hu)
                simp only [addr_add] at kc
                have KC := hide kc
                have hown := own_n HS.out.own hpl
                have HOW := hide hown
                have r0 := kc wr hown 0 _ rfl
                have r1 := kc wr hown 1 _ rfl
                have r2 := kc wr hown 2 _ rfl
                have r3 := kc wr hown 3 _ rfl
                have HPS := hide hps
                have HPX := hide hpx
                have hH7g : H7 ≠ g := fun e => HS.out.ne (by rw [e]; rfl)
                clear kc hown hx hpx hps hpl
                simp only [Nat.add_zero] at r0
                go_upto_region 19 with fail
                refine wp_name fun Z hZ => ?_
                have hbz : Below wr.heap.size wr Z := by rw [hZ]; exact (Below.refl _ _).alloc (Nat.le_refl _) _
                have z0 : Z.cell? ⟨wr.heap.size, 0, none⟩ = some (.int .i64 x.x0) := by rw [hZ]; simp [go_sem]
                have z2 : Z.cell? ⟨wr.heap.size, 2, none⟩ = some (.int .i64 x.x1) := by rw [hZ]; simp [go_sem]
                have HSZ := hide (HS.out.below hbz)
                have hownZ := own_below HOW.out hbz
                have s0 := KC.out Z hownZ 0 _ rfl
                have s2 := KC.out Z hownZ 2 _ rfl
                simp only [Nat.add_zero] at s0
                have f0 : Z.frozen? ⟨g, m * 4, none⟩ = false := hownZ.frozenAt _
                have f2 : Z.frozen? ⟨g, m * 4 + 2, none⟩ = false := hownZ.frozenAt _
                obtain ⟨o1, o2⟩ := own_set2 hownZ HPX.out (max x.x0 k.x0) (min x.x1 k.x1)
                have e4 : (part4 (clip1 k) F m).set m ⟨max x.x0 k.x0, x.y0, min x.x1 k.x1, x.y1⟩ = part4 (clip1 k) F (m + 1) := HPS.out
                rw [e4] at o1
                have HS3 := hide ((HSZ.out.set o2 (own_n o1 (part4_len (clip1 k) F (m + 1)).symm)).below (Below.refl _ _).drew)
                have k0 := HSZ.out.c0
                have k2 := HSZ.out.c2
                have hgq : wr.heap.size ≠ g := by omega
                generalize hq9 : wr.heap.size = q9 at *
                clear hZ hbz r0 r1 r2 r3 HS hownZ o1 o2 e4 hq9
                refine wp_region_mix [0, 1, 2, 3, 4, 5, 6, 7, 8, 9, 10, 11, 12, 13, 14, 15] [16, 17, 18, 19] (fun w' => (w'.cell? ⟨q9, 0, none⟩ = some (.int .i64 x.x0) ∧ w'.cell? ⟨q9, 2, none⟩ = some (.int .i64 x.x1)) ∧ w'.cell? ⟨H7, 0, none⟩ = some (.int .i64 k.x0) ∧ w'.cell? ⟨H7, 2, none⟩ = some (.int .i64 k.x1)) (by kernel_rfl) (by kernel_rfl) ⟨⟨z0, z2⟩, k0, k2⟩ ?_
                simp only [List.map_cons, List.map_nil, opAt, List.getElem?_cons_succ, List.getElem?_cons_zero, Option.getD_some]
                have m0 : (0 : Int) ≤ (m : Int) := by omega
                iterate 16
                  refine ⟨?_, Or.inl ⟨by rfl, ?_⟩, ?_⟩
                  rotate_left 1
                  · intro w' hSw
                    obtain ⟨⟨z0, z1⟩, z2, z3⟩ := hSw
                    go_simp
                    first | done | with_reducible rfl
                  simp only [Act.put, List.setIfInBounds_toArray, List.set_cons_zero, List.set_cons_succ]
                simp only [wpReads]
                intro K hK
                simp only [Act.put, List.setIfInBounds_toArray, List.set_cons_zero, List.set_cons_succ] at hK ⊢
                go_simp
                have far : ∀ q o (u : Value), q ≠ g → ((Z.setCell ⟨g, m * 4, none⟩ u).drew).cell? ⟨q, o, none⟩ = Z.cell? ⟨q, o, none⟩ := fun q o u hq => World.cell?_of_block (w := Z) (a := ⟨q, o, none⟩) (Below.heap_setCell _ _ _ _ hq)
                refine hK _ _ (fun _ => ⟨⟨(far _ _ _ hgq).trans z0, (far _ _ _ hgq).trans z2⟩, (far _ _ _ hH7g).trans k0, (far _ _ _ hH7g).trans k2⟩) ?_
                clear hK K
                intro K hK
                simp only [Act.put, List.setIfInBounds_toArray, List.set_cons_zero, List.set_cons_succ] at hK ⊢
                go_simp
                refine hK _ _ (fun _ => ⟨⟨(far _ _ _ hgq).trans z0, (far _ _ _ hgq).trans z2⟩, (far _ _ _ hH7g).trans k0, (far _ _ _ hH7g).trans k2⟩) ?_
                clear hK K
                intro K hK
                simp only [Act.put, List.setIfInBounds_toArray, List.set_cons_zero, List.set_cons_succ] at hK ⊢
                go_simp
                refine hK _ _ (fun _ => ⟨⟨(far _ _ _ hgq).trans z0, (far _ _ _ hgq).trans z2⟩, (far _ _ _ hH7g).trans k0, (far _ _ _ hH7g).trans k2⟩) ?_
                clear hK K far
                intro K hK
                simp only [Act.put, List.setIfInBounds_toArray, List.set_cons_zero, List.set_cons_succ] at hK ⊢
                go_simp
                refine hK _ _ (fun h => absurd rfl h) ?_
                clear hK K
                refine NoPanic.normal ?_
                clear z0 z2 k0 k2 s0 s2 f0 f2
                go_wp2_with (fail)
                go_roundw
                case rel => exact ⟨m + 1, by omega, by go_num, HS3⟩
                case measure => simp [intOf]; omega
              · obtain rfl : m = F.length := by omega
                have mz : ¬ (F.length : Int) < (F.length : Int) := by omega
                rw [part4_all] at HS
                have hXl : (F.map (clip1 k)).length = F.length := by rw [List.length_map]
                have c0 := HS.out.c0
                have c1 := HS.out.c1
                have c2' := HS.out.c2
                have c3 := HS.out.c3
                go_wp2_with (fail)
                obtain ⟨Z, hZ⟩ : ∃ Z, Z = wr.alloc (.cells #[.int .i64 k.x0, .int .i64 k.y0, .int .i64 k.x1, .int .i64 k.y1] 69) := ⟨_, rfl⟩
                rw [← hZ]
                have hbz : Below wr.heap.size wr Z := by rw [hZ]; exact (Below.refl _ _).alloc (Nat.le_refl _) _
                have hra : RdK encR 4 Z Z.heap.size (.slice (some ⟨wr.heap.size, 0, none⟩) 1 1) [k] := by rw [hZ]; exact rd_lit_at rfl [k] 69 1
                have HSZ := hide (HS.out.below hbz)
                have hrb := own_rd HSZ.out.own (fun _ => rfl)
                have hcv := carve_any hra hrb (by simp) (by rw [hXl]; omega) (fun r hr => by rw [List.mem_singleton] at hr; subst hr; exact ⟨by omega, by omega⟩) HCW.out (fun r hr => by rw [List.mem_singleton] at hr; subst hr; omega) (fun r hr => by
                  obtain ⟨q, hq, rfl⟩ := List.mem_map.1 hr
                  have := HXB.out q hq
                  unfold clip1; simp only; omega)
                have HCV := hide hcv
                have hbz2 := HSZ.out.low.size
                clear hZ hbz hra hrb hcv HS c0 c1 c2' c3
                refine HCV.out.mono ?_
                rintro e w5 ⟨⟨A5, c5, rfl, ho5⟩, hb5⟩
                have HO5 := hide (own_base ho5 hbz2)
                have HB5 := hide (HSZ.out.low.trans (hb5.mono hbz2))
                clear ho5 hb5 HSZ HCV hXl
                go_wp2_with (fail)
                go_ret2
                exact ⟨⟨A5, c5, by rw [HG.out]; rfl, by rw [HG.out]; exact HO5.out⟩, HB5.out⟩
  · have HF : Hid (shrF l d = ([], chkD l d)) := hide (if_neg h0)
    have hz : (chkD l d != 0) = true := by simpa using h0
    obtain ⟨A, c, hv, hcc⟩ := id hr
    subst hv
    have HC := hide hck
    clear hck h0 hr hcc
    generalize chkD l d = k at *
    go_enter Tryz.func131, Tryz.ntmps131
    go_wp2_with (fail)
    refine (HC.out _ (Below.refl _ _)).mono ?_
    rintro e w1 ⟨rfl, hb1⟩
    have HB1 := hide hb1
    clear hb1
    go_wp2_with (fail)
    go_ret2
    exact ⟨⟨none, 0, by rw [HF.out]; rfl, by rw [HF.out]; exact World.ownsRow_nil _ _ _ _⟩, HB1.out⟩
end Go.Proofs.YtdolpeljengpaaaGreat

/- offset.Depth. -/
namespace Go.Proofs.YtdolpeljengpaaaGreat
open Go.RowKit
set_option linter.unusedVariables false
set_option linter.unusedSimpArgs false

end Go.Proofs.YtdolpeljengpaaaGreat

/- region.slabs at Region, and its iterator. -/
namespace Go.Proofs.YtdolpeljengpaaaGreat
open Go.RowKit
set_option linter.unusedVariables false
set_option linter.unusedSimpArgs false
attribute [local go_sem] Oper.semAt_some

end Go.Proofs.YtdolpeljengpaaaGreat

/- A region that draws its order: reads, a chain (a call) that keeps their condition, reads of slots in any order, and a last operation. The law, in a round and outside of one. -/
namespace Go.Proofs.YtdolpeljengpaaaGreat
open Go.RowKit
set_option linter.unusedVariables false
set_option linter.unusedSimpArgs false

section
variable {P : Program} {Q : Exit → Act → World → Prop} {md : Region.Mode} {S : World → Prop}

def mixCB (md : Region.Mode) (ops : Array Oper) (R2 T2 : List Nat) : List Nat → Array Bool → Bool
  | [], l => mixRB md ops T2 R2 l
  | t :: r, l => (Region.ready md ops l == [t]) && mixCB md ops R2 T2 r (l.setIfInBounds t true)
def mixHB (md : Region.Mode) (ops : Array Oper) (T R2 T2 : List Nat) : List Nat → Array Bool → Bool
  | [], l => mixCB md ops R2 T2 T l
  | i :: r, l => Region.free md ops l i && (Region.ready md ops l).contains i && waitsFor md ops (ops.size - 1) i && mixHB md ops T R2 T2 r (l.setIfInBounds i true)
def mixTwoB (md : Region.Mode) (ops : Array Oper) (R T R2 T2 : List Nat) : Bool := Region.noSelect ops && decide (R.length + (T.length + (R2.length + T2.length)) = ops.size) && (T2.getLast? == some (ops.size - 1)) && mixHB md ops T R2 T2 R (Array.replicate ops.size false)

/-- One operation behind the other; behind each, S is shown anew. -/
def wpChain (P : Program) (ops : Array Oper) (S : World → Prop) (Q : Exit → Act → World → Prop) (K : Act → World → Prop) : List Oper → Act → World → Prop
  | [], a, w => K a w
  | o :: r, a, w => ∀ K' : Act → World → Prop, (∀ a' w', S w' → wpChain P ops S Q K r a' w' → K' a' w') → if Region.wanted o (yielded ops a.tmps) = true then o.wp P a w K' Q else K' (a.put o.dst undef) w

end
end Go.Proofs.YtdolpeljengpaaaGreat

/- region.joined: two regions joined, slab by slab. -/
namespace Go.Proofs.YtdolpeljengpaaaGreat
open Go.RowKit
set_option linter.unusedVariables false
set_option linter.unusedSimpArgs false
attribute [local go_sem] Oper.semAt_some

end Go.Proofs.YtdolpeljengpaaaGreat

/- region.Union, Meet and Minus. -/
namespace Go.Proofs.YtdolpeljengpaaaGreat
open Go.RowKit
set_option linter.unusedVariables false
set_option linter.unusedSimpArgs false

end Go.Proofs.YtdolpeljengpaaaGreat

/- Open, Close, Border, Margin of offset and of its reference. -/
namespace Go.Proofs.YtdolpeljengpaaaGreat
open Go.RowKit
set_option linter.unusedVariables false
set_option linter.unusedSimpArgs false

def openF (l : List R4) (d : Int) : List R4 × Int := if (shrF l d).2 = 0 then growF (shrF l d).1 d else ([], (shrF l d).2)
def closeF (l : List R4) (d : Int) : List R4 × Int := if (growF l d).2 = 0 then shrF (growF l d).1 d else ([], (growF l d).2)
def borderF (l : List R4) (d : Int) : List R4 × Int := if (shrF l d).2 = 0 then joinF hSub l (shrF l d).1 else ([], (shrF l d).2)
def marginF (l : List R4) (d : Int) : List R4 × Int := if (growF l d).2 = 0 then joinF hSub (growF l d).1 l else ([], (growF l d).2)
end Go.Proofs.YtdolpeljengpaaaGreat

/- Plain: what growing, shrinking, opening, closing and depths give: points, codes, the algebra of near and full. -/
namespace Go.Proofs.YtdolpeljengpaaaGreat
open Go.RowKit
set_option linter.unusedVariables false
set_option linter.unusedSimpArgs false

theorem full_mem {l : List R4} {d : Int} (hd : 0 ≤ d) {x y : Int} (h : full l d x y) : pmem l x y := h x y (by omega) (by omega) (by omega) (by omega)
theorem growF_ok {l R : List R4} {d : Int} (h : growF l d = (R, 0)) : checkF l = 0 ∧ 0 ≤ d ∧ d ≤ 1000000 ∧ checkF R = 0 ∧ R.length ≤ 400 ∧ ∀ x y, pmem R x y ↔ near l d x y := by
  unfold growF at h
  by_cases h0 : chkD l d = 0
  · obtain ⟨hc, d0, d1⟩ := chkD_ok h0
    rw [if_pos h0] at h
    cases ha : l.any (farR d) with
    | true => rw [ha] at h; simp at h
    | false =>
      rw [ha, if_neg (by simp)] at h
      have hcv : carveF (l.map (growR d)) [] = if 400 < (growL l d).length then ([], 4) else (growL l d, 0) := rfl
      rw [hcv] at h
      by_cases hl : 400 < (growL l d).length
      · rw [if_pos hl] at h; simp at h
      · rw [if_neg hl] at h
        injection h with h _
        subst h
        have hw := check_wf hc
        obtain ⟨g1, g2⟩ := grow_ok hw d0
        refine ⟨hc, d0, d1, can_check g1 (sub_valid (m := l.map (growR d)) (can_wf g1) (fun r hr => ?_) fun x y hx => (near_grow hw d0 x y).1 ((g2 x y).1 hx)) (by omega), by omega, g2⟩
        obtain ⟨q, hq, rfl⟩ := List.mem_map.1 hr
        have hf := (List.any_eq_false.1 ha) q hq
        have hv := (checkF_ok hc).2.1 q hq
        simp only [farR, Bool.or_eq_true, decide_eq_true_eq] at hf
        simp only [valid4, fineP, growR] at hv ⊢
        omega
  · rw [if_neg h0] at h
    injection h with _ h
    exact absurd h h0
theorem shrF_ok {l R : List R4} {d : Int} (h : shrF l d = (R, 0)) : checkF l = 0 ∧ 0 ≤ d ∧ d ≤ 1000000 ∧ checkF R = 0 ∧ R.length ≤ 400 ∧ ∀ x y, pmem R x y ↔ full l d x y := by
  unfold shrF at h
  by_cases h0 : chkD l d = 0
  · obtain ⟨hc, d0, d1⟩ := chkD_ok h0
    rw [if_pos h0] at h
    by_cases hl : 400 < (shrR l d).length
    · rw [if_pos hl] at h; simp at h
    · rw [if_neg hl] at h
      injection h with h _
      subst h
      obtain ⟨g1, g2⟩ := shr_ok (check_rcan hc) d0
      exact ⟨hc, d0, d1, can_check g1 (sub_valid (m := l) (can_wf g1) (checkF_ok hc).2.1 fun x y hx => full_mem d0 ((g2 x y).1 hx)) (by omega), by omega, g2⟩
  · rw [if_neg h0] at h
    injection h with _ h
    exact absurd h h0
/-- No rectangle lies beyond m. -/
def Bnd (l : List R4) (m : Int) : Prop := ∀ r ∈ l, -m ≤ r.x0 ∧ -m ≤ r.y0 ∧ r.x1 ≤ m ∧ r.y1 ≤ m
theorem chkD_zero {l : List R4} (hc : checkF l = 0) {d : Int} (d0 : 0 ≤ d) (d1 : d ≤ 1000000) : chkD l d = 0 := by
  unfold chkD
  rw [if_pos hc, if_neg (by omega)]
theorem growF_code {l : List R4} (hc : checkF l = 0) {d m : Int} (d0 : 0 ≤ d) (d1 : d ≤ 1000000) (hb : Bnd l m) (hm : m + d ≤ 1000000) : growF l d = ([], 4) ∨ ∃ R, growF l d = (R, 0) := by
  unfold growF
  have ha : l.any (farR d) = false := by
    rw [List.any_eq_false]
    intro r hr
    have := hb r hr
    simp only [farR, Bool.or_eq_true, decide_eq_true_eq]
    omega
  rw [if_pos (chkD_zero hc d0 d1), ha, if_neg (by simp)]
  unfold carveF
  split
  · exact .inl rfl
  · exact .inr ⟨_, rfl⟩
/-- What law.go's fit asks. -/
def FitO (l : List R4) (d : Int) : Prop := l.length ≤ 30 ∧ checkF l = 0 ∧ 0 ≤ d ∧ d ≤ 100 ∧ Bnd l 1000
theorem FitO.grow {l : List R4} {d : Int} (h : FitO l d) : growF l d = ([], 4) ∨ ∃ R, growF l d = (R, 0) ∧ checkF R = 0 ∧ R.length ≤ 400 ∧ ∀ x y, pmem R x y ↔ near l d x y := by
  rcases growF_code h.2.1 h.2.2.1 (by have := h.2.2.2.1; omega) h.2.2.2.2 (by have := h.2.2.2.1; omega) with e | ⟨R, e⟩
  · exact .inl e
  · exact .inr ⟨R, e, (growF_ok e).2.2.2⟩
end Go.Proofs.YtdolpeljengpaaaGreat

/- Plain: the volume under a roof: the sum by halves over the levels of a region of four times the size is that of the triangles. -/
namespace Go.Proofs.YtdolpeljengpaaaGreat
open Go.RowKit
set_option linter.unusedVariables false
set_option linter.unusedSimpArgs false

def sumH (f : Nat → Int) : Nat → Int
  | 0 => 0
  | n + 1 => sumH f n + f n
theorem sumH_congr {f g : Nat → Int} : ∀ {n : Nat}, (∀ i, i < n → f i = g i) → sumH f n = sumH g n
  | 0, _ => rfl
  | n + 1, h => by
    have h1 := sumH_congr (f := f) (g := g) (n := n) (fun i a => h i (by omega))
    have h2 := h n (by omega)
    simp only [sumH, h1, h2]
theorem sumH_add (f g : Nat → Int) : ∀ n : Nat, sumH (fun i => f i + g i) n = sumH f n + sumH g n
  | 0 => rfl
  | n + 1 => by simp only [sumH, sumH_add f g n]; omega
theorem sumH_mul (c : Int) (f : Nat → Int) : ∀ n : Nat, sumH (fun i => c * f i) n = c * sumH f n
  | 0 => by simp [sumH]
  | n + 1 => by simp only [sumH, sumH_mul c f n, Int.mul_add]
theorem sumH_pair (f : Nat → Int) : ∀ n : Nat, sumH f (2 * n) = sumH (fun k => f (2 * k) + f (2 * k + 1)) n
  | 0 => rfl
  | n + 1 => by
    rw [show 2 * (n + 1) = 2 * n + 1 + 1 by omega]
    simp only [sumH, sumH_pair f n]
    omega
theorem sumH_lt (h : Nat) : ∀ n : Nat, sumH (fun k => ind (k + 1 ≤ h)) n = ((min h n : Nat) : Int)
  | 0 => by simp [sumH]
  | n + 1 => by
    simp only [sumH, sumH_lt h n]
    by_cases e : n + 1 ≤ h
    · rw [ind_t e]; omega
    · rw [ind_f e]; omega
theorem sumH_vol (m : Nat) (f : Nat → Int → Int → Int) : ∀ n : Nat, sumH (fun d => vol m (f d)) n = vol m (fun x y => sumH (fun d => f d x y) n)
  | 0 => by simp only [sumH]; exact (vol_zero m).symm
  | n + 1 => by
    simp only [sumH]
    rw [sumH_vol m f n, ← vol_add]
theorem sumZ_pair (f : Int → Int) (lo : Int) : ∀ n : Nat, sumZ f (2 * lo) (2 * n) = sumZ (fun x => f (2 * x) + f (2 * x + 1)) lo n
  | 0 => rfl
  | n + 1 => by
    rw [show 2 * (n + 1) = 2 * n + 1 + 1 by omega]
    simp only [sumZ, sumZ_pair f lo n]
    rw [show (2 * lo + ((2 * n : Nat) : Int)) = 2 * (lo + n) by omega, show (2 * lo + ((2 * n + 1 : Nat) : Int)) = 2 * (lo + n) + 1 by omega]
    omega
theorem vol_pair (m : Nat) (f : Int → Int → Int) : vol (2 * m) f = vol m (fun x y => f (2 * x) (2 * y) + f (2 * x) (2 * y + 1) + f (2 * x + 1) (2 * y) + f (2 * x + 1) (2 * y + 1)) := by
  unfold vol
  rw [show (-((2 * m : Nat) : Int)) = 2 * (-(m : Int)) by omega, sumZ_pair]
  refine sumZ_congr fun x _ _ => ?_
  rw [sumZ_pair, sumZ_pair, ← sumZ_add]
  exact sumZ_congr fun y _ _ => by dsimp only; omega
def quad4 (r : R4) : R4 := ⟨4 * r.x0, 4 * r.y0, 4 * r.x1, 4 * r.y1⟩
def quadL (l : List R4) : List R4 := l.map quad4
theorem rin_quad (r : R4) (X Y : Int) : rin (quad4 r) X Y ↔ rin r (X / 4) (Y / 4) := by
  unfold rin quad4
  simp only
  omega
theorem pmem_wide (l : List R4) (X Y : Int) : pmem (quadL l) X Y ↔ pmem l (X / 4) (Y / 4) := by
  unfold pmem quadL
  constructor
  · rintro ⟨z, hz, h⟩
    obtain ⟨r, hr, rfl⟩ := List.mem_map.1 hz
    exact ⟨r, hr, (rin_quad r X Y).1 h⟩
  · rintro ⟨r, hr, h⟩
    exact ⟨quad4 r, List.mem_map_of_mem hr, (rin_quad r X Y).2 h⟩
/-- All lattice points of a block belong to the region. -/
def blkIn (l : List R4) (a b c d : Int) : Prop := ∀ U V, a ≤ U → U ≤ b → c ≤ V → V ≤ d → pmem l U V
theorem full_blk (l : List R4) {d : Int} (i j : Int) (hd : 0 ≤ d) : full (quadL l) d i j ↔ blkIn l ((i - d) / 4) ((i + d) / 4) ((j - d) / 4) ((j + d) / 4) := by
  constructor
  · intro h U V a b c e
    have := h (max (4 * U) (i - d)) (max (4 * V) (j - d)) (by omega) (by omega) (by omega) (by omega)
    rw [pmem_wide] at this
    rwa [show max (4 * U) (i - d) / 4 = U by omega, show max (4 * V) (j - d) / 4 = V by omega] at this
  · intro h u v a b c e
    rw [pmem_wide]
    exact h _ _ (by omega) (by omega) (by omega) (by omega)
theorem height_blk {l : List R4} (hc : checkF l = 0) {x y : Int} (hx : -2000001 ≤ x ∧ x ≤ 2000001) (hy : -2000001 ≤ y ∧ y ≤ 2000001) {k : Nat} (hk : k ≤ 2000000) : k + 1 ≤ heightF l x y ↔ blkIn l ((x - k - 1) / 2) ((x + k) / 2) ((y - k - 1) / 2) ((y + k) / 2) := by
  rw [height_sq hc hx hy (by omega) (by omega)]
  constructor
  · intro h U V a b c e
    have := h (max (2 * U) (x - ((k + 1 : Nat) : Int))) (max (2 * V) (y - ((k + 1 : Nat) : Int))) (by omega) (by omega) (by omega) (by omega)
    rwa [show max (2 * U) (x - ((k + 1 : Nat) : Int)) / 2 = U by omega, show max (2 * V) (y - ((k + 1 : Nat) : Int)) / 2 = V by omega] at this
  · intro h X Y a b c e
    exact h _ _ (by omega) (by omega) (by omega) (by omega)
def hHz (l : List R4) (x y : Int) : Int := (heightF l x y : Nat)
/-- Eight times the volume of the triangles over a square of the side 1/2, three times. -/
def triH (h : Int → Int → Nat) (x y : Int) : Int := if (x + y) % 2 = 0 then 2 * (h x y : Int) + 2 * (h (x + 1) (y + 1) : Int) + (h (x + 1) y : Int) + (h x (y + 1) : Int) else (h x y : Int) + (h (x + 1) (y + 1) : Int) + 2 * (h (x + 1) y : Int) + 2 * (h x (y + 1) : Int)
def triT (l : List R4) (x y : Int) : Int := triH (heightF l) x y
def wtV (d : Nat) : Int := if d % 2 = 1 then 4 else if 0 < d then 2 else 1
theorem wt_tel (p : Nat → Int) : ∀ n : Nat, sumH (fun k => p k + p (k + 1)) (n + 1) = sumH (fun k => wtV (2 * k) * p k) (n + 1) + p (n + 1)
  | 0 => by simp [sumH, wtV]
  | n + 1 => by
    have ih := wt_tel p n
    rw [sumH, ih, sumH.eq_2 (fun k => wtV (2 * k) * p k) (n + 1)]
    have e : wtV (2 * (n + 1)) = 2 := by
      unfold wtV
      rw [if_neg (by omega), if_pos (by omega)]
    rw [e]
    omega
theorem blk_same {l : List R4} {a b c d a' b' c' d' : Int} (h1 : a = a') (h2 : b = b') (h3 : c = c') (h4 : d = d') : blkIn l a b c d ↔ blkIn l a' b' c' d' := by
  subst h1; subst h2; subst h3; subst h4; exact Iff.rfl
/-- The law over one square of the side 1/2. -/
theorem half_sum {l : List R4} (ht : Int → Int → Nat) (hbk : ∀ (u v : Int), -2000001 ≤ u ∧ u ≤ 2000001 → -2000001 ≤ v ∧ v ≤ 2000001 → ∀ k : Nat, k ≤ 2000000 → (k + 1 ≤ ht u v ↔ blkIn l ((u - k - 1) / 2) ((u + k) / 2) ((v - k - 1) / 2) ((v + k) / 2))) {x y : Int} (hx : -2000000 ≤ x ∧ x ≤ 2000000) (hy : -2000000 ≤ y ∧ y ≤ 2000000) (Rs : Nat → List R4) (hR : ∀ d i j, pmem (Rs d) i j ↔ full (quadL l) d i j) {n : Nat} (hn : n < 2000000)
    (h0 : ∀ u v, -2000001 ≤ u → u ≤ 2000001 → -2000001 ≤ v → v ≤ 2000001 → ht u v ≤ n) :
    sumH (fun d => wtV d * (ind (pmem (Rs d) (2 * x) (2 * y)) + ind (pmem (Rs d) (2 * x) (2 * y + 1)) + ind (pmem (Rs d) (2 * x + 1) (2 * y)) + ind (pmem (Rs d) (2 * x + 1) (2 * y + 1)))) (2 * (n + 1)) = 4 * triH ht x y := by
  have hev : ∀ (k : Nat) (e f : Int), 0 ≤ e → e ≤ 1 → 0 ≤ f → f ≤ 1 → (pmem (Rs (2 * k)) (2 * x + e) (2 * y + f) ↔ blkIn l ((x - k) / 2) ((x + k) / 2) ((y - k) / 2) ((y + k) / 2)) := fun k e f e0 e1 f0 f1 => by
    rw [hR, full_blk l _ _ (by omega)]
    exact blk_same (by omega) (by omega) (by omega) (by omega)
  have hod : ∀ (k : Nat) (e f : Int), k ≤ 2000000 → 0 ≤ e → e ≤ 1 → 0 ≤ f → f ≤ 1 → (pmem (Rs (2 * k + 1)) (2 * x + e) (2 * y + f) ↔ k + 1 ≤ ht (x + e) (y + f)) := fun k e f hk e0 e1 f0 f1 => by
    rw [hR, full_blk l _ _ (by omega), hbk _ _ (by omega) (by omega) _ hk]
    exact blk_same (by omega) (by omega) (by omega) (by omega)
  have p1 : ∀ k, ind (pmem (Rs (2 * k)) (2 * x) (2 * y + 1)) = ind (pmem (Rs (2 * k)) (2 * x) (2 * y)) := fun k => ind_iff (by
    have a := hev k 0 1 (by omega) (by omega) (by omega) (by omega)
    have b := hev k 0 0 (by omega) (by omega) (by omega) (by omega)
    rw [Int.add_zero] at a b
    rw [Int.add_zero] at b
    rw [a, b])
  have p2 : ∀ k, ind (pmem (Rs (2 * k)) (2 * x + 1) (2 * y)) = ind (pmem (Rs (2 * k)) (2 * x) (2 * y)) := fun k => ind_iff (by
    have a := hev k 1 0 (by omega) (by omega) (by omega) (by omega)
    have b := hev k 0 0 (by omega) (by omega) (by omega) (by omega)
    rw [Int.add_zero] at a b
    rw [Int.add_zero] at b
    rw [a, b])
  have p3 : ∀ k, ind (pmem (Rs (2 * k)) (2 * x + 1) (2 * y + 1)) = ind (pmem (Rs (2 * k)) (2 * x) (2 * y)) := fun k => ind_iff (by
    have a := hev k 1 1 (by omega) (by omega) (by omega) (by omega)
    have b := hev k 0 0 (by omega) (by omega) (by omega) (by omega)
    rw [Int.add_zero] at b
    rw [Int.add_zero] at b
    rw [a, b])
  have hev0 : ∀ k : Nat, pmem (Rs (2 * k)) (2 * x) (2 * y) ↔ blkIn l ((x - k) / 2) ((x + k) / 2) ((y - k) / 2) ((y + k) / 2) := fun k => by
    have b := hev k 0 0 (by omega) (by omega) (by omega) (by omega)
    rw [Int.add_zero] at b
    rw [Int.add_zero] at b
    exact b
  have q0 : ∀ k, k < n + 1 → ind (pmem (Rs (2 * k + 1)) (2 * x) (2 * y)) = ind (k + 1 ≤ ht x y) := fun k hk => ind_iff (by
    have b := hod k 0 0 (by omega) (by omega) (by omega) (by omega) (by omega)
    simp only [Int.add_zero] at b
    exact b)
  have q1 : ∀ k, k < n + 1 → ind (pmem (Rs (2 * k + 1)) (2 * x) (2 * y + 1)) = ind (k + 1 ≤ ht x (y + 1)) := fun k hk => ind_iff (by
    have b := hod k 0 1 (by omega) (by omega) (by omega) (by omega) (by omega)
    simp only [Int.add_zero] at b
    exact b)
  have q2 : ∀ k, k < n + 1 → ind (pmem (Rs (2 * k + 1)) (2 * x + 1) (2 * y)) = ind (k + 1 ≤ ht (x + 1) y) := fun k hk => ind_iff (by
    have b := hod k 1 0 (by omega) (by omega) (by omega) (by omega) (by omega)
    simp only [Int.add_zero] at b
    exact b)
  have q3 : ∀ k, k < n + 1 → ind (pmem (Rs (2 * k + 1)) (2 * x + 1) (2 * y + 1)) = ind (k + 1 ≤ ht (x + 1) (y + 1)) := fun k hk => ind_iff (hod k 1 1 (by omega) (by omega) (by omega) (by omega) (by omega))
  have e0 := h0 x y (by omega) (by omega) (by omega) (by omega)
  have e1 := h0 x (y + 1) (by omega) (by omega) (by omega) (by omega)
  have e2 := h0 (x + 1) y (by omega) (by omega) (by omega) (by omega)
  have e3 := h0 (x + 1) (y + 1) (by omega) (by omega) (by omega) (by omega)
  have hw1 : ∀ k, wtV (2 * k + 1) = 4 := fun k => by unfold wtV; rw [if_pos (by omega)]
  -- the top is empty
  have hcx : ∀ k : Nat, k ≤ 2000000 → (k + 1 ≤ ht x y ↔ blkIn l ((x - k - 1) / 2) ((x + k) / 2) ((y - k - 1) / 2) ((y + k) / 2)) := fun k hk => hbk _ _ (by omega) (by omega) _ hk
  have hcy : ∀ k : Nat, k ≤ 2000000 → (k + 1 ≤ ht x (y + 1) ↔ blkIn l ((x - k - 1) / 2) ((x + k) / 2) ((y - k) / 2) ((y + k + 1) / 2)) := fun k hk => (hbk _ _ (by omega) (by omega) _ hk).trans (blk_same (by omega) (by omega) (by omega) (by omega))
  have hcz : ∀ k : Nat, k ≤ 2000000 → (k + 1 ≤ ht (x + 1) y ↔ blkIn l ((x - k) / 2) ((x + k + 1) / 2) ((y - k - 1) / 2) ((y + k) / 2)) := fun k hk => (hbk _ _ (by omega) (by omega) _ hk).trans (blk_same (by omega) (by omega) (by omega) (by omega))
  have hcw : ∀ k : Nat, k ≤ 2000000 → (k + 1 ≤ ht (x + 1) (y + 1) ↔ blkIn l ((x - k) / 2) ((x + k + 1) / 2) ((y - k) / 2) ((y + k + 1) / 2)) := fun k hk => (hbk _ _ (by omega) (by omega) _ hk).trans (blk_same (by omega) (by omega) (by omega) (by omega))
  have key : sumH (fun k => wtV (2 * k) * ind (pmem (Rs (2 * k)) (2 * x) (2 * y))) (n + 1) = if (x + y) % 2 = 0 then (ht x y : Int) + (ht (x + 1) (y + 1) : Int) else (ht (x + 1) y : Int) + (ht x (y + 1) : Int) := by
    have HTEL := wt_tel (fun k => ind (pmem (Rs (2 * k)) (2 * x) (2 * y))) n
    by_cases hxy : (x + y) % 2 = 0
    · rw [if_pos hxy]
      have hz : ind (pmem (Rs (2 * (n + 1))) (2 * x) (2 * y)) = 0 := ind_f fun h => by
        rw [hev0] at h
        by_cases hp : (x - ((n + 1 : Nat) : Int)) % 2 = 0
        · have := (hcw (n + 1) (by omega)).2 ((blk_same (by omega) (by omega) (by omega) (by omega)).1 h)
          omega
        · have := (hcx (n + 1) (by omega)).2 ((blk_same (by omega) (by omega) (by omega) (by omega)).1 h)
          omega
      rw [hz, Int.add_zero] at HTEL
      rw [← HTEL, sumH_congr (g := fun k => ind (k + 1 ≤ ht x y) + ind (k + 1 ≤ ht (x + 1) (y + 1))) fun k hk => ?_, sumH_add, sumH_lt, sumH_lt]
      · omega
      · by_cases hp : (x - (k : Int)) % 2 = 0
        · rw [Int.add_comm]
          congr 1
          · exact ind_iff (by rw [hev0, hcx k (by omega)]; exact blk_same (by omega) (by omega) (by omega) (by omega))
          · exact ind_iff (by rw [hev0, hcw k (by omega)]; exact blk_same (by omega) (by omega) (by omega) (by omega))
        · congr 1
          · exact ind_iff (by rw [hev0, hcx k (by omega)]; exact blk_same (by omega) (by omega) (by omega) (by omega))
          · exact ind_iff (by rw [hev0, hcw k (by omega)]; exact blk_same (by omega) (by omega) (by omega) (by omega))
    · rw [if_neg hxy]
      have hz : ind (pmem (Rs (2 * (n + 1))) (2 * x) (2 * y)) = 0 := ind_f fun h => by
        rw [hev0] at h
        by_cases hp : (x - ((n + 1 : Nat) : Int)) % 2 = 0
        · have := (hcz (n + 1) (by omega)).2 ((blk_same (by omega) (by omega) (by omega) (by omega)).1 h)
          omega
        · have := (hcy (n + 1) (by omega)).2 ((blk_same (by omega) (by omega) (by omega) (by omega)).1 h)
          omega
      rw [hz, Int.add_zero] at HTEL
      rw [← HTEL, sumH_congr (g := fun k => ind (k + 1 ≤ ht (x + 1) y) + ind (k + 1 ≤ ht x (y + 1))) fun k hk => ?_, sumH_add, sumH_lt, sumH_lt]
      · omega
      · by_cases hp : (x - (k : Int)) % 2 = 0
        · congr 1
          · exact ind_iff (by rw [hev0, hcz k (by omega)]; exact blk_same (by omega) (by omega) (by omega) (by omega))
          · exact ind_iff (by rw [hev0, hcy k (by omega)]; exact blk_same (by omega) (by omega) (by omega) (by omega))
        · rw [Int.add_comm]
          congr 1
          · exact ind_iff (by rw [hev0, hcz k (by omega)]; exact blk_same (by omega) (by omega) (by omega) (by omega))
          · exact ind_iff (by rw [hev0, hcy k (by omega)]; exact blk_same (by omega) (by omega) (by omega) (by omega))
  rw [sumH_pair, sumH_congr (g := fun k => 4 * (wtV (2 * k) * ind (pmem (Rs (2 * k)) (2 * x) (2 * y))) + (4 * (ind (k + 1 ≤ ht x y) + ind (k + 1 ≤ ht x (y + 1))) + 4 * (ind (k + 1 ≤ ht (x + 1) y) + ind (k + 1 ≤ ht (x + 1) (y + 1))))) fun k hk => ?_]
  · rw [sumH_add, sumH_mul, key, sumH_add, sumH_mul, sumH_mul, sumH_add, sumH_add, sumH_lt, sumH_lt, sumH_lt, sumH_lt]
    unfold triH
    split <;> omega
  · simp only [p1, p2, p3, q0 k hk, q1 k hk, q2 k hk, q3 k hk, hw1]
    generalize ind (pmem (Rs (2 * k)) (2 * x) (2 * y)) = A
    generalize wtV (2 * k) = B
    rw [show A + A + A + A = 4 * A by omega, show B * (4 * A) = 4 * (B * A) from Int.mul_left_comm _ _ _]
    omega
/-- **The law.** -/
theorem vol_levels {l : List R4} (hc : checkF l = 0) (Rs : Nat → List R4) (hR : ∀ d i j, pmem (Rs d) i j ↔ full (quadL l) d i j) {n m : Nat} (hn : n < 2000000) (hm : m ≤ 2000000)
    (h0 : ∀ u v, -2000001 ≤ u → u ≤ 2000001 → -2000001 ≤ v → v ≤ 2000001 → heightF l u v ≤ n) :
    sumH (fun d => wtV d * vol (2 * m) (fun i j => ind (pmem (Rs d) i j))) (2 * (n + 1)) = 4 * vol m (triT l) := by
  have e : ∀ d, wtV d * vol (2 * m) (fun i j => ind (pmem (Rs d) i j)) = vol m (fun x y => wtV d * (ind (pmem (Rs d) (2 * x) (2 * y)) + ind (pmem (Rs d) (2 * x) (2 * y + 1)) + ind (pmem (Rs d) (2 * x + 1) (2 * y)) + ind (pmem (Rs d) (2 * x + 1) (2 * y + 1)))) := fun d => by
    rw [vol_pair]
    unfold vol
    rw [← sumZ_mul]
    exact sumZ_congr fun x _ _ => by rw [← sumZ_mul]
  rw [sumH_congr fun d _ => e d, sumH_vol m (fun d x y => wtV d * (ind (pmem (Rs d) (2 * x) (2 * y)) + ind (pmem (Rs d) (2 * x) (2 * y + 1)) + ind (pmem (Rs d) (2 * x + 1) (2 * y)) + ind (pmem (Rs d) (2 * x + 1) (2 * y + 1)))),
    vol_congr (g := fun x y => 4 * triT l x y) fun x y a b c d => half_sum (heightF l) (fun u v hu hv k hk => height_blk hc hu hv hk) (by omega) (by omega) Rs hR hn h0]
  unfold vol
  rw [← sumZ_mul]
  exact sumZ_congr fun x _ _ => sumZ_mul _ _ _ _
end Go.Proofs.YtdolpeljengpaaaGreat

/- Plain: what a join is; areas of regions. -/
namespace Go.Proofs.YtdolpeljengpaaaGreat
open Go.RowKit
set_option linter.unusedVariables false
set_option linter.unusedSimpArgs false

end Go.Proofs.YtdolpeljengpaaaGreat

/- gambrelref12.Near at 25: at most twelve rectangles near the origin, or a list that is too long. -/
namespace Go.Proofs.YtdolpeljengpaaaGreat
open Go.RowKit
set_option linter.unusedVariables false
set_option linter.unusedSimpArgs false

def near4 (n : Int) (r : R4) : Prop := (-n ≤ r.x0 ∧ r.x0 ≤ n) ∧ (-n ≤ r.y0 ∧ r.y0 ≤ n) ∧ (-n ≤ r.x1 ∧ r.x1 ≤ n) ∧ (-n ≤ r.y1 ∧ r.y1 ≤ n)
def NearOK (n : Int) (l : List R4) : Prop := (400 < l.length ∧ l.length ≤ 420) ∨ (l.length ≤ 12 ∧ ∀ r ∈ l, near4 n r)
end Go.Proofs.YtdolpeljengpaaaGreat
