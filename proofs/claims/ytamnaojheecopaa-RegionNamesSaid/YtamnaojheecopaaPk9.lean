/- Texts laid together: LookH, Row, Open. Lemmas for the statements of this seat; no condition. -/
import Derived.Test.YtamnaojheecopaaPk6
import Derived.Test.YtamnaojheecopaaPk1
import Derived.ProofKit
import Derived.Lib.SmallJoins
import Derived.Deep.Slices
import Derived.Deep.Fields
import Derived.ChangeSame

/- region.Hull and the reference's Hull. -/
namespace Go.Proofs.Ytamnaojheecopaa
open Go.RowKit
set_option linter.unusedVariables false
set_option linter.unusedSimpArgs false

/-- The result's box R and the hull's box H, between two rectangles. -/
structure HullR (w : World) (H : Nat) (P : R4) (wr : World) : Prop where
  low : Below w.heap.size w wr
  gt : w.heap.size < H
  lt : H < wr.heap.size
  c : wr.cell? ⟨H, 0, none⟩ = some (.int .i64 P.x0) ∧ wr.cell? ⟨H, 1, none⟩ = some (.int .i64 P.y0) ∧ wr.cell? ⟨H, 2, none⟩ = some (.int .i64 P.x1) ∧ wr.cell? ⟨H, 3, none⟩ = some (.int .i64 P.y1)
  f : ∀ j, wr.frozen? ⟨H, j, none⟩ = false
  r : wr.cell? ⟨w.heap.size, 0, none⟩ = some (.int .i64 0) ∧ wr.cell? ⟨w.heap.size, 1, none⟩ = some (.int .i64 0) ∧ wr.cell? ⟨w.heap.size, 2, none⟩ = some (.int .i64 0) ∧ wr.cell? ⟨w.heap.size, 3, none⟩ = some (.int .i64 0)
  fr : ∀ j, wr.frozen? ⟨w.heap.size, j, none⟩ = false
theorem HullR.below {w wr w2 : World} {H : Nat} {P : R4} (h : HullR w H P wr) (hb : Below wr.heap.size wr w2) : HullR w H P w2 := by
  have hl := h.lt
  have hg := h.gt
  have k1 := fun j => hb.cell (p := ⟨H, j, none⟩) hl
  have k2 := fun j => hb.frozen (p := ⟨H, j, none⟩) hl
  have k3 := fun j => hb.cell (p := ⟨w.heap.size, j, none⟩) (by show w.heap.size < _; omega)
  have k4 := fun j => hb.frozen (p := ⟨w.heap.size, j, none⟩) (by show w.heap.size < _; omega)
  exact ⟨h.low.trans (hb.mono h.low.size), hg, Nat.lt_of_lt_of_le hl hb.size, ⟨(k1 0).trans h.c.1, (k1 1).trans h.c.2.1, (k1 2).trans h.c.2.2.1, (k1 3).trans h.c.2.2.2⟩, fun j => (k2 j).trans (h.f j), ⟨(k3 0).trans h.r.1, (k3 1).trans h.r.2.1, (k3 2).trans h.r.2.2.1, (k3 3).trans h.r.2.2.2⟩, fun j => (k4 j).trans (h.fr j)⟩
theorem HullR.set {w wr : World} {H : Nat} {P : R4} (h : HullR w H P wr) (a b c d : Int) : HullR w H ⟨a, b, c, d⟩ ((((wr.setCell ⟨H, 0, none⟩ (.int .i64 a)).setCell ⟨H, 1, none⟩ (.int .i64 b)).setCell ⟨H, 2, none⟩ (.int .i64 c)).setCell ⟨H, 3, none⟩ (.int .i64 d)) := by
  have hl := h.lt
  have hg := h.gt
  obtain ⟨c0, c1, c2, c3⟩ := h.c
  obtain ⟨r0, r1, r2, r3⟩ := h.r
  have ne : w.heap.size ≠ H := by omega
  have ge : w.heap.size ≤ H := by omega
  refine ⟨(((h.low.setCell ge _).setCell ge _).setCell ge _).setCell ge _, hg, by simpa [World.setCell] using hl, ⟨by simp [go_sem, c0], by simp [go_sem, c1], by simp [go_sem, c2], by simp [go_sem, c3]⟩, fun j => ?_, ⟨by simp [go_sem, r0, ne], by simp [go_sem, r1, ne], by simp [go_sem, r2, ne], by simp [go_sem, r3, ne]⟩, fun j => ?_⟩
  · rw [World.frozen?_setCell, World.frozen?_setCell, World.frozen?_setCell, World.frozen?_setCell]; exact h.f j
  · rw [World.frozen?_setCell, World.frozen?_setCell, World.frozen?_setCell, World.frozen?_setCell]; exact h.fr j

set_option maxRecDepth 100000 in
set_option maxHeartbeats 4000000 in
theorem hull_any {w : World} {v : Value} {l : List R4} (hr : RdK encR 4 w w.heap.size v l) (hl : l.length ≤ 100000000) :
    Calls Try.prog 20 #[v] w fun e w' => e = .returned (.tuple #[.agg (encR (hullF l).1).toArray, .int .i64 (hullF l).2]) ∧ Below w.heap.size w w' := by
  have hck := fun (W : World) (hW : Below w.heap.size w W) => check_any (w := W) ((hr.below hW).mono hW.size) hl
  obtain ⟨A, c, hv, hc⟩ := id hr
  subst hv
  have HCK := hide hck
  have HRC := hide hc
  clear hck hr hc
  have hb0 : Below w.heap.size w (w.alloc (.cells #[.int .i64 0, .int .i64 0, .int .i64 0, .int .i64 0] 43)) := (Below.refl _ _).alloc (Nat.le_refl _) _
  have HB0 := hide hb0
  clear hb0
  have key : ∀ w1, Below (w.alloc (.cells #[.int .i64 0, .int .i64 0, .int .i64 0, .int .i64 0] 43)).heap.size (w.alloc (.cells #[.int .i64 0, .int .i64 0, .int .i64 0, .int .i64 0] 43)) w1 →
      (w1.cell? ⟨w.heap.size, 0, none⟩ = some (.int .i64 0) ∧ w1.cell? ⟨w.heap.size, 1, none⟩ = some (.int .i64 0) ∧ w1.cell? ⟨w.heap.size, 2, none⟩ = some (.int .i64 0) ∧ w1.cell? ⟨w.heap.size, 3, none⟩ = some (.int .i64 0)) ∧ ∀ j, w1.frozen? ⟨w.heap.size, j, none⟩ = false := by
    intro w1 hb
    have hc := fun j => hb.cell (p := ⟨w.heap.size, j, none⟩) (by simp)
    have hf := fun j => hb.frozen (p := ⟨w.heap.size, j, none⟩) (by simp)
    exact ⟨⟨(hc 0).trans (by simp [go_sem]), (hc 1).trans (by simp [go_sem]), (hc 2).trans (by simp [go_sem]), (hc 3).trans (by simp [go_sem])⟩, fun j => (hf j).trans (by simp [go_sem])⟩
  have KEY := hide key
  clear key
  by_cases h0 : checkF l = 0
  · obtain ⟨k1, k2, _⟩ := checkF_ok h0
    rw [h0] at HCK
    have H0 := hide h0
    clear k2 h0
    by_cases hle : l = []
    · have HF : Hid (hullF l = (⟨0, 0, 0, 0⟩, 6)) := hide (by unfold hullF; rw [if_pos H0.out, if_pos hle])
      subst hle
      go_enter Try.func20, Try.ntmps20
      go_wp2_with (fail)
      refine (HCK.out _ HB0.out).mono ?_
      rintro e w1 ⟨rfl, hb1⟩
      obtain ⟨⟨r0, r1, r2, r3⟩, hf⟩ := KEY.out w1 hb1
      have f0 := hf 0
      have f1 := hf 1
      have f2 := hf 2
      have f3 := hf 3
      have HB1 := hide hb1
      clear hb1 hf
      go_wp2_with (fail)
      refine bodyPost_ret (v := .tuple #[.agg #[.int .i64 0, .int .i64 0, .int .i64 0, .int .i64 0], .int .i64 6]) (by simp [results, Try.results20, go_sem, r0, r1, r2, r3]) rfl ⟨by rw [HF.out]; rfl, ?_⟩
      exact ((((HB0.out.trans (HB1.out.mono (by simp))).setCell (Nat.le_refl _) _).setCell (Nat.le_refl _) _).setCell (Nat.le_refl _) _).setCell (Nat.le_refl _) _
    · have HF : Hid (hullF l = (hullL l, 0)) := hide (by unfold hullF; rw [if_pos H0.out, if_neg hle])
      have hlp : 0 < l.length := List.length_pos_iff.2 hle
      have hlz : (0 : Int) < (l.length : Int) := by omega
      have hne0 : ((l.length : Int) == 0) = false := by simp; omega
      obtain ⟨⟨a0, b0, a1, b1⟩, hp⟩ : ∃ p, l[0]? = some p := ⟨_, List.getElem?_eq_getElem hlp⟩
      obtain ⟨b, o, rfl, hbl, k⟩ := HRC.out hle
      have HD : Hid (∀ W, Below w.heap.size w W → W.cell? ⟨b, o, none⟩ = some (.int .i64 a0) ∧ W.cell? ⟨b, o + 1, none⟩ = some (.int .i64 b0) ∧ W.cell? ⟨b, o + 2, none⟩ = some (.int .i64 a1) ∧ W.cell? ⟨b, o + 3, none⟩ = some (.int .i64 b1)) := hide fun W hW =>
        ⟨(hW.cell (p := ⟨b, _, none⟩) hbl).trans (by simpa using k 0 _ hp 0 _ rfl), (hW.cell (p := ⟨b, _, none⟩) hbl).trans (by simpa using k 0 _ hp 1 _ rfl), (hW.cell (p := ⟨b, _, none⟩) hbl).trans (by simpa using k 0 _ hp 2 _ rfl), (hW.cell (p := ⟨b, _, none⟩) hbl).trans (by simpa using k 0 _ hp 3 _ rfl)⟩
      have HH0 : Hid (hullP l 0 = ⟨a0, b0, a1, b1⟩) := hide (by
        cases l with
        | nil => exact absurd rfl hle
        | cons r l => simp at hp; subst hp; rfl)
      clear hp k hle
      go_enter Try.func20, Try.ntmps20
      go_wp2_with (fail)
      refine (HCK.out _ HB0.out).mono ?_
      rintro e w1 ⟨rfl, hb1⟩
      have hlow := HB0.out.trans (hb1.mono (by simp))
      obtain ⟨d0, d1, d2, d3⟩ := HD.out w1 hlow
      have hs1 : w.heap.size < w1.heap.size := by have := hb1.size; simp at this; omega
      have HI : Hid (HullR w w1.heap.size (hullP l 0) (w1.alloc (.cells #[.int .i64 a0, .int .i64 b0, .int .i64 a1, .int .i64 b1] 43))) := hide (by
        obtain ⟨hr4, hf4⟩ := KEY.out w1 hb1
        have kb : Below w1.heap.size w1 (w1.alloc (.cells #[.int .i64 a0, .int .i64 b0, .int .i64 a1, .int .i64 b1] 43)) := (Below.refl _ _).alloc (Nat.le_refl _) _
        have k3 := fun j => kb.cell (p := ⟨w.heap.size, j, none⟩) hs1
        have k4 := fun j => kb.frozen (p := ⟨w.heap.size, j, none⟩) hs1
        rw [HH0.out]
        exact ⟨hlow.trans (kb.mono (by omega)), hs1, by simp, ⟨by simp [go_sem], by simp [go_sem], by simp [go_sem], by simp [go_sem]⟩, fun j => by simp [go_sem], ⟨(k3 0).trans hr4.1, (k3 1).trans hr4.2.1, (k3 2).trans hr4.2.2.1, (k3 3).trans hr4.2.2.2⟩, fun j => (k4 j).trans (hf4 j)⟩)
      have HHb := hide hs1
      clear hb1 hlow
      go_wp2_with (fail)
      obtain ⟨H, hH⟩ : ∃ H, w1.heap.size = H := ⟨_, rfl⟩
      rw [hH] at HI ⊢
      clear hH d0 d1 d2 d3
      go_loopw [23] (fun i wr => ∃ m : Nat, m ≤ l.length ∧ i = .int .i64 m ∧ Hid (HullR w H (hullP l m) wr)) (fun i _ => l.length - (intOf i).toNat)
      case atStart => exact ⟨0, Nat.zero_le _, rfl, HI⟩
      case round =>
        clear HI HH0
        obtain ⟨m, hm, rfl, HI⟩ := hrel
        by_cases hlt : m < l.length
        · obtain ⟨⟨x0, y0, x1, y1⟩, hp⟩ : ∃ p, l[m]? = some p := ⟨_, List.getElem?_eq_getElem hlt⟩
          obtain ⟨b', o', hbo, hbl', k⟩ := HRC.out (by intro e; rw [e] at hlt; simp at hlt)
          injection hbo with hbo
          injection hbo with hbo1 hbo2
          subst hbo1; subst hbo2
          have d0 : wr.cell? ⟨b, o + m * 4, none⟩ = some (.int .i64 x0) := (HI.out.low.cell (p := ⟨b, _, none⟩) hbl).trans (k m _ hp 0 _ rfl)
          have d1 : wr.cell? ⟨b, o + m * 4 + 1, none⟩ = some (.int .i64 y0) := (HI.out.low.cell (p := ⟨b, _, none⟩) hbl).trans (k m _ hp 1 _ rfl)
          have d2 : wr.cell? ⟨b, o + m * 4 + 2, none⟩ = some (.int .i64 x1) := (HI.out.low.cell (p := ⟨b, _, none⟩) hbl).trans (k m _ hp 2 _ rfl)
          have d3 : wr.cell? ⟨b, o + m * 4 + 3, none⟩ = some (.int .i64 y1) := (HI.out.low.cell (p := ⟨b, _, none⟩) hbl).trans (k m _ hp 3 _ rfl)
          have mz : (m : Int) < (l.length : Int) := by omega
          have HS := hide (hullP_step hp)
          clear k hp
          generalize hullP l m = P at *
          obtain ⟨p0, p1, p2, p3⟩ := P
          obtain ⟨c0, c1, c2, c3⟩ := HI.out.c
          have f0 := HI.out.f 0
          have f1 := HI.out.f 1
          have f2 := HI.out.f 2
          have f3 := HI.out.f 3
          have hltH := HI.out.lt
          have hneH : H ≠ wr.heap.size := by omega
          have hneH2 : wr.heap.size ≠ H := by omega
          simp only at c0 c1 c2 c3
          go_wp2
          go_roundw
          case rel => exact ⟨m + 1, by omega, by go_num, hide (by rw [HS.out]; exact (HI.out.set _ _ _ _).below ((Below.refl _ _).alloc (Nat.le_refl _) _))⟩
          case measure => simp [intOf]; omega
        · have mz : ¬ (m : Int) < (l.length : Int) := by omega
          have hall := hullP_all (l := l) (m := m) (by omega)
          have HA := hide hall
          clear hall
          generalize hullP l m = P at *
          obtain ⟨p0, p1, p2, p3⟩ := P
          obtain ⟨c0, c1, c2, c3⟩ := HI.out.c
          obtain ⟨r0, r1, r2, r3⟩ := HI.out.r
          have f0 := HI.out.fr 0
          have f1 := HI.out.fr 1
          have f2 := HI.out.fr 2
          have f3 := HI.out.fr 3
          simp only at c0 c1 c2 c3
          have HF2 : Hid (hullF l = (⟨p0, p1, p2, p3⟩, 0)) := hide (by rw [HF.out, ← HA.out])
          go_wp2
          refine bodyPost_ret (v := .tuple #[.agg #[.int .i64 p0, .int .i64 p1, .int .i64 p2, .int .i64 p3], .int .i64 0]) (by simp [results, Try.results20, go_sem, r0, r1, r2, r3]) rfl ⟨by rw [HF2.out]; rfl, ?_⟩
          exact (((HI.out.low.setCell (Nat.le_refl _) _).setCell (Nat.le_refl _) _).setCell (Nat.le_refl _) _).setCell (Nat.le_refl _) _
  · have HF : Hid (hullF l = (⟨0, 0, 0, 0⟩, checkF l)) := hide (if_neg h0)
    generalize checkF l = ck at *
    have hne : (ck != 0) = true := by simpa using h0
    clear h0
    go_enter Try.func20, Try.ntmps20
    go_wp2_with (fail)
    refine (HCK.out _ HB0.out).mono ?_
    rintro e w1 ⟨rfl, hb1⟩
    obtain ⟨⟨r0, r1, r2, r3⟩, hf⟩ := KEY.out w1 hb1
    have f0 := hf 0
    have f1 := hf 1
    have f2 := hf 2
    have f3 := hf 3
    have HB1 := hide hb1
    clear hb1 hf
    go_wp2_with (fail)
    refine bodyPost_ret (v := .tuple #[.agg #[.int .i64 0, .int .i64 0, .int .i64 0, .int .i64 0], .int .i64 ck]) (by simp [results, Try.results20, go_sem, r0, r1, r2, r3]) rfl ⟨by rw [HF.out]; rfl, ?_⟩
    exact ((((HB0.out.trans (HB1.out.mono (by simp))).setCell (Nat.le_refl _) _).setCell (Nat.le_refl _) _).setCell (Nat.le_refl _) _).setCell (Nat.le_refl _) _

set_option maxRecDepth 100000 in
set_option maxHeartbeats 4000000 in
theorem rHull_any {w : World} {v : Value} {l : List R4} (hr : RdK encR 4 w w.heap.size v l) (hl : l.length ≤ 100000000) :
    Calls Try.prog 21 #[v] w fun e w' => e = .returned (.tuple #[.agg (encR (hullF l).1).toArray, .int .i64 (hullF l).2]) ∧ Below w.heap.size w w' := by
  have hck := fun (W : World) (hW : Below w.heap.size w W) => rCheck_any (w := W) ((hr.below hW).mono hW.size) hl
  obtain ⟨A, c, hv, hc⟩ := id hr
  subst hv
  have HCK := hide hck
  have HR := hide hr
  clear hck hr hc
  have hb0 : Below w.heap.size w (w.alloc (.cells #[.int .i64 0, .int .i64 0, .int .i64 0, .int .i64 0] 43)) := (Below.refl _ _).alloc (Nat.le_refl _) _
  have HB0 := hide hb0
  clear hb0
  have key : ∀ w1, Below (w.alloc (.cells #[.int .i64 0, .int .i64 0, .int .i64 0, .int .i64 0] 43)).heap.size (w.alloc (.cells #[.int .i64 0, .int .i64 0, .int .i64 0, .int .i64 0] 43)) w1 →
      (w1.cell? ⟨w.heap.size, 0, none⟩ = some (.int .i64 0) ∧ w1.cell? ⟨w.heap.size, 1, none⟩ = some (.int .i64 0) ∧ w1.cell? ⟨w.heap.size, 2, none⟩ = some (.int .i64 0) ∧ w1.cell? ⟨w.heap.size, 3, none⟩ = some (.int .i64 0)) ∧ ∀ j, w1.frozen? ⟨w.heap.size, j, none⟩ = false := by
    intro w1 hb
    have hc := fun j => hb.cell (p := ⟨w.heap.size, j, none⟩) (by simp)
    have hf := fun j => hb.frozen (p := ⟨w.heap.size, j, none⟩) (by simp)
    exact ⟨⟨(hc 0).trans (by simp [go_sem]), (hc 1).trans (by simp [go_sem]), (hc 2).trans (by simp [go_sem]), (hc 3).trans (by simp [go_sem])⟩, fun j => (hf j).trans (by simp [go_sem])⟩
  have KEY := hide key
  clear key
  by_cases h0 : checkF l = 0
  · obtain ⟨k1, k2, _⟩ := checkF_ok h0
    rw [h0] at HCK
    have H0 := hide h0
    clear h0
    by_cases hle : l = []
    · have HF : Hid (hullF l = (⟨0, 0, 0, 0⟩, 6)) := hide (by unfold hullF; rw [if_pos H0.out, if_pos hle])
      subst hle
      clear k2
      go_enter Try.func21, Try.ntmps21
      go_wp2_with (fail)
      refine (HCK.out _ HB0.out).mono ?_
      rintro e w1 ⟨rfl, hb1⟩
      obtain ⟨⟨r0, r1, r2, r3⟩, hf⟩ := KEY.out w1 hb1
      have f0 := hf 0
      have f1 := hf 1
      have f2 := hf 2
      have f3 := hf 3
      have HB1 := hide hb1
      clear hb1 hf
      go_wp2_with (fail)
      refine bodyPost_ret (v := .tuple #[.agg #[.int .i64 0, .int .i64 0, .int .i64 0, .int .i64 0], .int .i64 6]) (by simp [results, Try.results21, go_sem, r0, r1, r2, r3]) rfl ⟨by rw [HF.out]; rfl, ?_⟩
      exact ((((HB0.out.trans (HB1.out.mono (by simp))).setCell (Nat.le_refl _) _).setCell (Nat.le_refl _) _).setCell (Nat.le_refl _) _).setCell (Nat.le_refl _) _
    · have HF : Hid (hullF l = (hullL l, 0)) := hide (by unfold hullF; rw [if_pos H0.out, if_neg hle])
      have hlp : 0 < l.length := List.length_pos_iff.2 hle
      have hne0 : ((l.length : Int) == 0) = false := by simp; omega
      have hcuts := hull_cuts hle (fun r hr => ⟨(k2 r hr).1, (k2 r hr).2.1⟩)
      have hX := fun (W : World) (hW : Below w.heap.size w W) => rXs_any (w := W) ((HR.out.below hW).mono hW.size) (RdK.nil (α := R4) none 0) (Nat.le_refl _) (by omega) (by simp)
      have hY := fun (W : World) (hW : Below w.heap.size w W) => rYs_any (w := W) ((HR.out.below hW).mono hW.size) (RdK.nil (α := R4) none 0) (Nat.le_refl _) (by omega) (by simp)
      have hxl : (srt (cutsL l ++ cutsL [])).length ≤ 1000 := by have := srt_len (cutsL l ++ cutsL []); rw [List.length_append, cutsL_len, cutsL_len] at this; simp at this; omega
      have hyl : (srt (cutsY l ++ cutsY [])).length ≤ 1000 := by have := srt_len (cutsY l ++ cutsY []); rw [List.length_append, cutsY_len, cutsY_len] at this; simp at this; omega
      generalize srt (cutsL l ++ cutsL []) = xs at *
      generalize srt (cutsY l ++ cutsY []) = ys at *
      generalize hullL l = P at *
      obtain ⟨p0, p1, p2, p3⟩ := P
      obtain ⟨⟨e0, e2, lx⟩, e1, e3, ly⟩ := hcuts
      obtain ⟨nx, hnx⟩ : ∃ nx, xs.length = nx + 1 := ⟨xs.length - 1, by omega⟩
      obtain ⟨ny, hny⟩ : ∃ ny, ys.length = ny + 1 := ⟨ys.length - 1, by omega⟩
      rw [hnx, Nat.add_sub_cancel] at e2
      rw [hny, Nat.add_sub_cancel] at e3
      have hnx2 : nx ≤ 1000 := by omega
      have hny2 : ny ≤ 1000 := by omega
      have HE := hide (And.intro (And.intro e0 e2) (And.intro e1 e3))
      have HNX := hide hnx
      have HNY := hide hny
      have HX := hide hX
      have HY := hide hY
      clear hle k2 hX hY e0 e1 e2 e3 hnx hny hxl hyl lx ly
      go_enter Try.func21, Try.ntmps21
      go_wp2_with (fail)
      refine (HCK.out _ HB0.out).mono ?_
      rintro e w1 ⟨rfl, hb1⟩
      have HB1 := hide (HB0.out.trans (hb1.mono (by simp)))
      have HB1' := hide hb1
      clear hb1
      go_wp2_with (fail)
      refine (HX.out _ HB1.out).mono ?_
      rintro e w2 ⟨vx, rfl, ox, hb2⟩
      have HB2 := hide (HB1.out.trans (hb2.mono HB1.out.size))
      have HB2' := hide (HB1'.out.trans (hb2.mono HB1'.out.size))
      obtain ⟨gx, cpx, hvx, hgx0, hgx⟩ := ox.form (by rw [HNX.out]; omega)
      subst hvx
      have OX := hide ox
      clear hb2 ox
      go_wp2_with (fail)
      refine (HY.out _ HB2.out).mono ?_
      rintro e w3 ⟨vy, rfl, oy, hb3⟩
      obtain ⟨gy, cpy, hvy, hgy0, hgy⟩ := oy.form (by rw [HNY.out]; omega)
      subst hvy
      have ox3 := own_below OX.out hb3
      have x0 : w3.cell? ⟨gx, 0, none⟩ = some (.int .i64 p0) := by
        have := (ox3.cells (g := gx) rfl) 0 (iv p0) (by rw [List.getElem?_map, HE.out.1.1]; rfl)
        rwa [addr_add] at this
      have x2 : w3.cell? ⟨gx, nx, none⟩ = some (.int .i64 p2) := by
        have := (ox3.cells (g := gx) rfl) nx (iv p2) (by rw [List.getElem?_map, HE.out.1.2]; rfl)
        rwa [addr_add] at this
      have x1 : w3.cell? ⟨gy, 0, none⟩ = some (.int .i64 p1) := by
        have := (oy.cells (g := gy) rfl) 0 (iv p1) (by rw [List.getElem?_map, HE.out.2.1]; rfl)
        rwa [addr_add] at this
      have x3 : w3.cell? ⟨gy, ny, none⟩ = some (.int .i64 p3) := by
        have := (oy.cells (g := gy) rfl) ny (iv p3) (by rw [List.getElem?_map, HE.out.2.2]; rfl)
        rwa [addr_add] at this
      have HB3 := hide (HB2.out.trans (hb3.mono HB2.out.size))
      have hs1 : w.heap.size < w1.heap.size := by have := HB1'.out.size; simp at this; omega
      have hs2 := HB2'.out.size
      have hs3 := HB2.out.size
      have nx1 : gx ≠ w.heap.size := by omega
      have ny1 : gy ≠ w.heap.size := by simp at hs2; omega
      have nx2 : w.heap.size ≠ gx := fun e => nx1 e.symm
      have ny2 : w.heap.size ≠ gy := fun e => ny1 e.symm
      obtain ⟨⟨r0, r1, r2, r3⟩, hf⟩ := KEY.out w3 (HB2'.out.trans (hb3.mono HB2'.out.size))
      have f0 := hf 0
      have f1 := hf 1
      have f2 := hf 2
      have f3 := hf 3
      clear hb3 oy ox3 hf
      rw [HNX.out, HNY.out]
      have t1 : IntKind.i64.wrap (nx : Int) = nx := by simp [IntKind.wrap, IntKind.bits, IntKind.signed]; omega
      have t2 : IntKind.i64.wrap (ny : Int) = ny := by simp [IntKind.wrap, IntKind.bits, IntKind.signed]; omega
      have q1 : (0 : Int) ≤ (nx : Int) := by omega
      have q2 : (0 : Int) ≤ (ny : Int) := by omega
      have q3 : (nx : Int) < (nx : Int) + 1 := by omega
      have q4 : (ny : Int) < (ny : Int) + 1 := by omega
      have q5 : (0 : Int) < (nx : Int) + 1 := by omega
      have q6 : (0 : Int) < (ny : Int) + 1 := by omega
      go_wp2_with (fail)
      refine wp_region_mix [0, 1, 2, 3, 4, 5, 6, 7, 8, 9, 10, 11, 12, 13, 14, 15, 16, 17, 18] [19, 20] (fun w' => (w'.cell? ⟨gx, 0, none⟩ = some (.int .i64 p0) ∧ w'.cell? ⟨gx, nx, none⟩ = some (.int .i64 p2)) ∧ w'.cell? ⟨gy, 0, none⟩ = some (.int .i64 p1) ∧ w'.cell? ⟨gy, ny, none⟩ = some (.int .i64 p3)) (by kernel_rfl) (by kernel_rfl) ⟨⟨x0, x2⟩, x1, x3⟩ ?_
      simp only [List.map_cons, List.map_nil, opAt, List.getElem?_cons_succ, List.getElem?_cons_zero, Option.getD_some]
      iterate 19
        refine ⟨?_, Or.inl ⟨by rfl, ?_⟩, ?_⟩
        rotate_left 1
        · intro w' hSw
          obtain ⟨⟨z1, z2⟩, z3, z4⟩ := hSw
          go_simp
          first | done | with_reducible rfl
        simp only [Act.put, List.setIfInBounds_toArray, List.set_cons_zero, List.set_cons_succ]
      clear t1 t2 q1 q2 q3 q4 q5 q6
      simp only [wpReads]
      intro K hK
      simp only [Act.put, List.setIfInBounds_toArray, List.set_cons_zero, List.set_cons_succ] at hK ⊢
      go_simp
      refine hK _ _ (fun _ => ⟨⟨by go_keep, by go_keep⟩, by go_keep, by go_keep⟩) ?_
      clear hK K
      intro K hK
      simp only [Act.put, List.setIfInBounds_toArray, List.set_cons_zero, List.set_cons_succ] at hK ⊢
      go_simp
      refine hK _ _ (fun h => absurd rfl h) ?_
      clear hK K
      refine NoPanic.normal ?_
      go_wp2_with (fail)
      refine bodyPost_ret (v := .tuple #[.agg #[.int .i64 p0, .int .i64 p1, .int .i64 p2, .int .i64 p3], .int .i64 0]) (by simp [results, Try.results21, go_sem, r0, r1, r2, r3]) rfl ⟨by rw [HF.out]; rfl, ?_⟩
      exact ((((HB3.out.drew).setCell (Nat.le_refl _) _).setCell (Nat.le_refl _) _).setCell (Nat.le_refl _) _).setCell (Nat.le_refl _) _
  · have HF : Hid (hullF l = (⟨0, 0, 0, 0⟩, checkF l)) := hide (if_neg h0)
    generalize checkF l = ck at *
    have hne : (ck != 0) = true := by simpa using h0
    clear h0
    go_enter Try.func21, Try.ntmps21
    go_wp2_with (fail)
    refine (HCK.out _ HB0.out).mono ?_
    rintro e w1 ⟨rfl, hb1⟩
    have HB1 := hide (HB0.out.trans (hb1.mono (by simp)))
    have HB1' := hide hb1
    clear hb1
    go_wp2_with (fail)
    refine (HCK.out _ HB1.out).mono ?_
    rintro e w2 ⟨rfl, hb2⟩
    obtain ⟨⟨r0, r1, r2, r3⟩, hf⟩ := KEY.out w2 (HB1'.out.trans (hb2.mono HB1'.out.size))
    have f0 := hf 0
    have f1 := hf 1
    have f2 := hf 2
    have f3 := hf 3
    have HB2 := hide (HB1.out.trans (hb2.mono HB1.out.size))
    clear hb2 hf
    go_wp2_with (fail)
    refine bodyPost_ret (v := .tuple #[.agg #[.int .i64 0, .int .i64 0, .int .i64 0, .int .i64 0], .int .i64 ck]) (by simp [results, Try.results21, go_sem, r0, r1, r2, r3]) rfl ⟨by rw [HF.out]; rfl, ?_⟩
    exact (((HB2.out.setCell (Nat.le_refl _) _).setCell (Nat.le_refl _) _).setCell (Nat.le_refl _) _).setCell (Nat.le_refl _) _
end Go.Proofs.Ytamnaojheecopaa

/- The last step from a walk to a given statement, for every law of the seat: the call returns true, and what lay in memory lies as it lay. -/
namespace Go.Proofs.Ytamnaojheecopaa
open Go.ChangeShapes Go.WideShapes Go.ChangeAt Go.RowKit Go.Joins Go.Deep
set_option linter.unusedVariables false
set_option linter.unusedSimpArgs false

theorem own : ownKnob Try.prog.godebug = none := by kernel_rfl
theorem laidOut : laidOutB Try.prog = true := by kernel_rfl

section
variable {H : Type} {enc : TypeId × Value → H}
theorem trodAll_carry {P : Program} (hl : laidOutB P = true) {W W' : World} (hb : Below W.heap.size W W') :
    ∀ (ts : List TypeId) (vs : List Value) (ds : List (DataW H)) (ps : List MemPlace), (ts.all fun t => P.readableRec t && decide (t < P.types.size)) = true →
      DataW.TrodAll enc P W 0 (fun _ => true) true ts vs ds ps → (∀ x ∈ ps, x.block < W.heap.size) → DataW.TrodAll enc P W' 0 (fun b => decide (b < W.heap.size)) true ts vs ds ps
  | [], [], [], ps, _, h, _ => h
  | [], [], _ :: _, _, _, h, _ => h.elim
  | [], _ :: _, _, _, _, h, _ => h.elim
  | _ :: _, [], _, _, _, h, _ => h.elim
  | _ :: _, _ :: _, [], _, _, h, _ => h.elim
  | t :: ts, v :: vs, d :: ds, ps, hr, h, hlt => by
    obtain ⟨p, q, h1, h2, rfl⟩ := h
    simp only [List.all_cons, Bool.and_eq_true, decide_eq_true_eq] at hr
    refine ⟨p, q, Below.trod hl hr.1.1 hr.1.2 h1 hb (fun x hx => hlt x (by simp [hx])), trodAll_carry hl hb ts vs ds q ?_ h2 (fun x hx => hlt x (by simp [hx])), rfl⟩
    simpa using hr.2

theorem law_post {P : Program} {f : Func} {s : ChangeSpec} {W W' : World} {args : Array Value} {ds gs : List (DataW H)} {before : List MemPlace} {tb : TypeId}
    (hl : laidOutB P = true) (hr : (f.params.toList.all fun t => P.readableRec t && decide (t < P.types.size)) = true) (hres : f.resultTypes = #[tb]) (hbool : P.underlying tb = some .bool)
    (hvars : s.vars = []) (hW : DataW.Whole enc P f.params.toList s.vars false W args.toList ds gs before)
    (hsr : (s.fn H (ds ++ gs)).results = [.lit (.bool true)]) (hsa : (s.fn H (ds ++ gs)).args = ds) (hsv : (s.fn H (ds ++ gs)).vars = [])
    (hb : Below W.heap.size W W') : s.post enc P f false true false false W args (.bool true) W' := by
  have hlt : ∀ p ∈ before, p.block < W.heap.size := fun p hp => hW.lt p hp
  have hW0 := hW
  obtain ⟨p, q, hA, hV, rfl, hz, hn⟩ := hW
  refine ⟨ds, gs, p ++ q, [], p, [], hW0, ?_, ?_, ?_, hb.frame _, fun h => by cases h⟩
  · rw [hsr, hres]
    exact trodAll_mk1 (shut_bool hbool true)
  · rw [hsa]
    exact trodAll_carry hl hb _ _ _ _ hr hA (fun x hx => hlt x (by simp [hx]))
  · rw [hsv, hvars]
    rfl
end
end Go.Proofs.Ytamnaojheecopaa

/- An argument that is a list of structs of ints, read as a list. -/
namespace Go.Proofs.Ytamnaojheecopaa
open Go.ChangeShapes Go.WideShapes Go.ChangeAt Go.RowKit Go.Joins Go.Deep
set_option linter.unusedVariables false
set_option linter.unusedSimpArgs false

section
variable {H : Type} {enc : TypeId × Value → H} {P : Program} {w : World} {base : Nat} {spare : Nat → Bool} {held : Bool}
/-- The fields of a struct of ints: each one cell, an int. -/
theorem trod_int_fields {t : TypeId} {fs : Array Field} {n : Nat} {cs : List Value} {y : DataW H × List MemPlace} (he : P.underlying t = some (.struct fs)) (hone : oneCellFields P fs = true) (hint : ∀ (j : Nat) (f : Field), fs[j]? = some f → P.underlying f.type = some (.int .i64))
    (hl : cs.length = fs.size) (h : DataW.trod enc P w base spare held n t cs = some y) : ∀ j, j < fs.size → ∃ z : Int, cs[j]? = some (.int .i64 z) := by
  obtain ⟨ys, n', _, _, _, hyl, hf⟩ := DataW.trod_struct he h
  intro j hj
  have hjf : fs[j]? = some fs[j] := Array.getElem?_eq_getElem hj
  obtain ⟨ho, hk⟩ := hone_of hone j _ hjf
  have h1 := hf j _ hjf
  rw [ho, hk] at h1
  have hd : (cs.drop j).take 1 = [cs[j]'(by omega)] := by rw [List.drop_eq_getElem_cons (by omega)]; rfl
  rw [hd] at h1
  have hy : ys[j]? = some (ys[j]'(by omega)) := List.getElem?_eq_getElem (by omega)
  rw [hy] at h1
  obtain ⟨z, hz, _⟩ := DataW.trod_int (hint j _ hjf) h1
  have hz' : cs[j]'(by omega) = .int .i64 z := by simpa using hz
  exact ⟨z, by rw [List.getElem?_eq_getElem (by omega), hz']⟩
/-- A slice of structs of k ints: its cells. -/
theorem trod_rows {t e : TypeId} {fs : Array Field} {v : Value} {d : DataW H} {p : List MemPlace} {r : Reach} {b0 : Nat} (ht : P.underlying t = some (.slice e)) (he : P.underlying e = some (.struct fs)) (hone : oneCellFields P fs = true)
    (hint : ∀ (j : Nat) (f : Field), fs[j]? = some f → P.underlying f.type = some (.int .i64)) (hC : P.cellsOf e = fs.size) (hk : 0 < fs.size) (hv : Value.okWide P w r b0 t v) (h : DataW.Trod enc P w base spare held t v d p) :
    ∃ (A : Option Addr) (n c : Nat) (F : Nat → Nat → Int), v = .slice A n c ∧ n ≤ maxLen ∧ (0 < n → ∃ b off, A = some ⟨b, off, none⟩ ∧ b < w.heap.size ∧ ∀ i j, i < n → j < fs.size → w.cell? ⟨b, off + i * fs.size + j, none⟩ = some (.int .i64 (F i j))) := by
  obtain ⟨A, n, c, rfl⟩ := okWide_slice ht hv
  obtain ⟨fuel, hf⟩ := h
  rcases open_slice ht hf with ⟨hcs, _⟩ | ⟨a, len, cap, m, nn, D, Pl, hcs, hb, hl, hm, hmm, hx, hi⟩
  · simp [Value.cells] at hcs
    obtain ⟨rfl, rfl, rfl⟩ := hcs
    exact ⟨none, 0, 0, fun _ _ => 0, rfl, Nat.zero_le _, fun h => absurd h (Nat.lt_irrefl 0)⟩
  · simp [Value.cells] at hcs
    obtain ⟨rfl, rfl, rfl⟩ := hcs
    have hlm : n ≤ m := by rw [hmm]; split <;> omega
    have key : ∀ i, i < n → ∀ j, j < fs.size → ∃ z : Int, w.cell? (a.add (i * fs.size + j)) = some (.int .i64 z) := by
      intro i hin j hj
      obtain ⟨cs', hc, ht'⟩ := hi i (by omega)
      rw [hC] at hc
      obtain ⟨_, hcl, hat⟩ := World.cells?_some hc
      obtain ⟨z, hz⟩ := trod_int_fields he hone hint hcl ht' j hj
      have := hat j hj
      rw [← Go.Deep.add_add, this, hz]
      exact ⟨z, rfl⟩
    refine ⟨some a, n, c, fun i j => if h : i < n ∧ j < fs.size then Classical.choose (key i h.1 j h.2) else 0, rfl, by omega, fun hn => ?_⟩
    obtain ⟨z0, h0⟩ := key 0 hn 0 hk
    have hadd0 : a.add (0 * fs.size + 0) = a := by simp [Addr.add]
    rw [hadd0] at h0
    obtain ⟨b, off, sp⟩ := a
    have hsp : sp = none := by
      unfold World.cell? at h0
      cases sp with
      | none => rfl
      | some x => split at h0 <;> simp at h0
    subst hsp
    refine ⟨b, off, rfl, ?_, fun i j hin hj => ?_⟩
    · unfold World.cell? at h0
      split at h0
      · rename_i hh
        exact (Array.getElem?_eq_some_iff.1 hh).1
      · cases h0
    · have hz := Classical.choose_spec (key i hin j hj)
      have e1 : (⟨b, off, none⟩ : Addr).add (i * fs.size + j) = ⟨b, off + i * fs.size + j, none⟩ := by unfold Addr.add; split <;> simp_all [Nat.add_assoc]
      rw [← e1]
      simp only [dif_pos (And.intro hin hj)]
      exact hz
/-- .. rectangles. -/
theorem trod_rects {t e : TypeId} {fs : Array Field} {v : Value} {d : DataW H} {p : List MemPlace} {r : Reach} {b0 : Nat} (ht : P.underlying t = some (.slice e)) (he : P.underlying e = some (.struct fs)) (hone : oneCellFields P fs = true)
    (hint : ∀ (j : Nat) (f : Field), fs[j]? = some f → P.underlying f.type = some (.int .i64)) (hC : P.cellsOf e = 4) (hk : fs.size = 4) (hv : Value.okWide P w r b0 t v) (h : DataW.Trod enc P w base spare held t v d p) :
    ∃ l : List R4, RdK encR 4 w w.heap.size v l ∧ l.length ≤ maxLen := by
  obtain ⟨A, n, c, F, rfl, hn, hF⟩ := trod_rows ht he hone hint (hC.trans hk.symm) (by omega) hv h
  rw [hk] at hF
  refine ⟨(List.range n).map fun i => ⟨F i 0, F i 1, F i 2, F i 3⟩, ⟨A, c, by simp, fun hl => ?_⟩, by simpa using hn⟩
  have hn0 : 0 < n := by
    rcases Nat.eq_zero_or_pos n with h | h
    · subst h; exact absurd rfl hl
    · exact h
  obtain ⟨b, off, hA, hb, hc⟩ := hF hn0
  refine ⟨b, off, hA, hb, fun j x hj i u hu => ?_⟩
  have hjn : j < n := by have := (List.getElem?_eq_some_iff.1 hj).1; simpa using this
  rw [List.getElem?_map, List.getElem?_range hjn] at hj
  simp only [Option.map_some, Option.some.injEq] at hj
  subst hj
  have hi : i < 4 := (List.getElem?_eq_some_iff.1 hu).1
  rw [hc j i hjn hi]
  match i, hi with
  | 0, _ => exact hu
  | 1, _ => exact hu
  | 2, _ => exact hu
  | 3, _ => exact hu
end
theorem int_bd {n : Int} (h : (Lit.int .i64 n).wf = true) : -9223372036854775808 ≤ n ∧ n ≤ 9223372036854775807 := by
  simp [Lit.wf, IntKind.min, IntKind.max, IntKind.signed, IntKind.bits] at h
  omega
theorem rect_fields : ∀ (j : Nat) (f : Field), (match Try.prog.underlying 43 with | some (.struct fs) => fs | _ => #[])[j]? = some f → Try.prog.underlying f.type = some (.int .i64) := by
  rw [Try.underlying43]
  intro j f hf
  match j, hf with
  | 0, hf => simp at hf; subst hf; exact Try.underlying3
  | 1, hf => simp at hf; subst hf; exact Try.underlying3
  | 2, hf => simp at hf; subst hf; exact Try.underlying3
  | 3, hf => simp at hf; subst hf; exact Try.underlying3
  | j + 4, hf => simp at hf
end Go.Proofs.Ytamnaojheecopaa
