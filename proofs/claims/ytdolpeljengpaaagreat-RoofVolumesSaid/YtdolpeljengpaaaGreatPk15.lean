/- Texts laid together: RoofK, RoofQ, RoofU, Row, Open, Regs, RegsB, App, LawMakes, LawRLev. Lemmas for the statements of this seat; no condition. -/
import Derived.Test.YtdolpeljengpaaaGreatPk13
import Derived.Test.YtdolpeljengpaaaGreatPk14
import Derived.Test.YtdolpeljengpaaaGreatPk1
import Derived.ProofKit
import Derived.Lib.SmallJoins
import Derived.Deep.Slices
import Derived.Deep.Fields
import Derived.ChangeSame
import Derived.Test.YtdolpeljengpaaaGreatPk4
import Derived.Maps.AppendAt
import Derived.Laws.AppendOwnNone
import Derived.Test.YtdolpeljengpaaaGreatPk6

/- The reference's Peak and Volume. -/
namespace Go.Proofs.YtdolpeljengpaaaGreat
open Go.RowKit
set_option linter.unusedVariables false
set_option linter.unusedSimpArgs false

theorem peak_nil : peakF [] = 0 := by
  unfold peakF
  exact List.countP_eq_zero.2 fun i _ => by simp [fitsF]
/-- b is the greatest height of the half points looked at: all of the first i columns, and j of the next one. -/
structure Bst (H : Int → Int → Int) (P a c n : Int) (i j : Nat) (b : Int) : Prop where
  lo : 0 ≤ b
  hi : b ≤ P
  cols : ∀ i' j' : Nat, i' < i → (j' : Int) ≤ n → H (a + i') (c + j') ≤ b
  col : ∀ j' : Nat, j' < j → H (a + i) (c + j') ≤ b
theorem Bst.start {H : Int → Int → Int} {P a c n : Int} (hP : 0 ≤ P) : Bst H P a c n 0 0 0 := ⟨Int.le_refl _, hP, fun _ _ h => absurd h (Nat.not_lt_zero _), fun _ h => absurd h (Nat.not_lt_zero _)⟩
theorem Bst.row {H : Int → Int → Int} {P a c n : Int} {i j : Nat} {b z : Int} (h : Bst H P a c n i j b) (hz : z = H (a + i) (c + j)) (hp : z ≤ P) : Bst H P a c n i (j + 1) (max b z) := by
  have h1 := h.lo
  have h2 := h.hi
  refine ⟨by omega, by omega, fun i' j' a c => by have := h.cols i' j' a c; omega, fun j' hj => ?_⟩
  by_cases e : j' = j
  · subst e; rw [← hz]; omega
  · have := h.col j' (by omega); omega
theorem Bst.next {H : Int → Int → Int} {P a c n : Int} {i j : Nat} {b : Int} (h : Bst H P a c n i j b) (hj : n < j) : Bst H P a c n (i + 1) 0 b := by
  refine ⟨h.lo, h.hi, fun i' j' a c => ?_, fun _ h => absurd h (Nat.not_lt_zero _)⟩
  by_cases e : i' = i
  · subst e; exact h.col j' (by omega)
  · exact h.cols i' j' (by omega) c
theorem Bst.done {H : Int → Int → Int} {P a c n m : Int} {i : Nat} {b : Int} (hpk : 0 < P → ∃ x y, (a ≤ x ∧ x ≤ a + m) ∧ (c ≤ y ∧ y ≤ c + n) ∧ P ≤ H x y) (h : Bst H P a c n i 0 b) (hi : m < i) : b = P := by
  have h1 := h.lo
  have h2 := h.hi
  by_cases hp : 0 < P
  · obtain ⟨x, y, ⟨x1, x2⟩, ⟨y1, y2⟩, hle⟩ := hpk hp
    have := h.cols (x - a).toNat (y - c).toNat (by omega) (by omega)
    rw [show a + ((x - a).toNat : Int) = x by omega, show c + ((y - c).toNat : Int) = y by omega] at this
    omega
  · omega
theorem peak_at {l : List R4} (hc : checkF l = 0) (hne : l ≠ []) : 0 < ((peakF l : Nat) : Int) → ∃ x y, (2 * (hullL l).x0 ≤ x ∧ x ≤ 2 * (hullL l).x0 + (2 * (hullL l).x1 - 2 * (hullL l).x0)) ∧ (2 * (hullL l).y0 ≤ y ∧ y ≤ 2 * (hullL l).y0 + (2 * (hullL l).y1 - 2 * (hullL l).y0)) ∧ ((peakF l : Nat) : Int) ≤ hZ l x y := by
  intro hp
  obtain ⟨a, c, hsq, hle⟩ := peak_height hc (Int.natCast_pos.1 hp)
  have hz : ((peakF l : Nat) : Int) ≤ hZ l (2 * a + (peakF l : Nat)) (2 * c + (peakF l : Nat)) := Int.ofNat_le.2 hle
  clear hle
  revert hz hsq hp
  generalize hZ l = H
  generalize peakF l = k
  intro hp hsq hz
  have k1 := pm_hull hne (hsq a c (by omega) (by omega) (by omega) (by omega))
  have k2 := pm_hull hne (hsq (a + k - 1) (c + k - 1) (by omega) (by omega) (by omega) (by omega))
  exact ⟨_, _, ⟨by omega, by omega⟩, ⟨by omega, by omega⟩, hz⟩
theorem hZ_bd {l : List R4} (hc : checkF l = 0) {x y : Int} (hx : -2000001 ≤ x ∧ x ≤ 2000001) (hy : -2000001 ≤ y ∧ y ≤ 2000001) : 0 ≤ hZ l x y ∧ hZ l x y ≤ (peakF l : Nat) ∧ hZ l x y ≤ 2000000 := by
  have h1 := height_peak hc hx hy
  have h2 := peak_le (checkF_ok hc).2.1 (check_rcan hc).apart
  unfold hZ
  generalize heightF l x y = p at *
  generalize peakF l = q at *
  omega
theorem hull_in {l : List R4} (hc : checkF l = 0) (hne : l ≠ []) : (-1000000 ≤ (hullL l).x0 ∧ (hullL l).x0 < (hullL l).x1 ∧ (hullL l).x1 ≤ 1000000) ∧ (-1000000 ≤ (hullL l).y0 ∧ (hullL l).y0 < (hullL l).y1 ∧ (hullL l).y1 ≤ 1000000) := by
  have hv := (checkF_ok hc).2.1
  obtain ⟨⟨a, ha, ea⟩, ⟨b, hb2, eb⟩, ⟨c, hc2, ec⟩, ⟨d, hd, ed⟩, hall⟩ := hullL_ok hne
  obtain ⟨v1, v2, ⟨v3, v4⟩, ⟨v5, v6⟩, ⟨v7, v8⟩, v9, v10⟩ := hv a ha
  obtain ⟨u1, u2, ⟨u3, u4⟩, ⟨u5, u6⟩, ⟨u7, u8⟩, u9, u10⟩ := hv b hb2
  obtain ⟨w1, w2, ⟨w3, w4⟩, ⟨w5, w6⟩, ⟨w7, w8⟩, w9, w10⟩ := hv c hc2
  obtain ⟨x1, x2, ⟨x3, x4⟩, ⟨x5, x6⟩, ⟨x7, x8⟩, x9, x10⟩ := hv d hd
  have k1 := hall a ha
  have k2 := hall b hb2
  omega

set_option maxRecDepth 100000 in
set_option maxHeartbeats 8000000 in
theorem rPeak_any {w : World} {v : Value} {l : List R4} (hr : RdK encR 4 w w.heap.size v l) (hl : l.length ≤ 100000000) :
    Calls Tryz.prog 36 #[v] w fun e w' => e = .returned (.tuple #[.int .i64 (peakR l).1, .int .i64 (peakR l).2]) ∧ Below w.heap.size w w' := by
  have HCK : Hid (∀ W : World, Below w.heap.size w W → Calls Tryz.prog 53 #[v] W fun e w' => e = .returned (.int .i64 (checkF l)) ∧ Below W.heap.size W w') := hide (fun W hW => rCheck_any ((hr.below hW).mono hW.size) hl)
  have HHU := hide (fun (W : World) (hW : Below w.heap.size w W) => rHull_any ((hr.below hW).mono hW.size) hl)
  by_cases hc : checkF l = 0
  · have hpk := peak_le (checkF_ok hc).2.1 (check_rcan hc).apart
    have HF : Hid (peakR l = (((peakF l : Nat) : Int), 0)) := hide (if_pos hc)
    have HMI : Hid (∀ W : World, Below w.heap.size w W → Calls Tryz.prog 79 #[v] W fun e w' => (∃ A c, e = .returned (.slice A (missF l).length c) ∧ RdK encR 4 w' w'.heap.size (.slice A (missF l).length c) (missF l)) ∧ Below W.heap.size W w') := hide (fun W hW => rMissing_any ((hr.below hW).mono hW.size) (by have := (checkF_ok hc).1; omega))
    by_cases hne : l = []
    · have hh : hullF l = (⟨0, 0, 0, 0⟩, 6) := by unfold hullF; rw [if_pos hc, if_pos hne]
      have hp0 : peakF l = 0 := by rw [hne]; exact peak_nil
      have HU : Hid (∀ W : World, Below w.heap.size w W → Calls Tryz.prog 78 #[v] W fun e w' => e = .returned (.tuple #[.agg #[.int .i64 0, .int .i64 0, .int .i64 0, .int .i64 0], .int .i64 6]) ∧ Below W.heap.size W w') := hide (fun W hW => by have := HHU.out W hW; rw [hh] at this; exact this)
      obtain ⟨A, c, rfl, _⟩ := id hr
      rw [hc] at HCK
      rw [hp0] at HF
      clear HHU hh hc hne hr hl hpk hp0 HMI
      generalize peakR l = PR at *
      go_enter Tryz.func36, Tryz.ntmps36
      go_wp2_with (fail)
      refine (HCK.out _ (Below.refl _ _)).mono ?_
      rintro e w1 ⟨rfl, hb⟩
      have HB := hide hb
      clear hb HCK
      go_wp2_with (fail)
      refine (HU.out _ HB.out).mono ?_
      rintro e w2 ⟨rfl, hb⟩
      have HB2 := hide (HB.out.trans (hb.mono HB.out.size))
      clear hb HB HU
      go_upto_region 4 with fail
      refine wp_name fun Z hZ => ?_
      have hbz : Below w2.heap.size w2 Z := by rw [hZ]; exact (Below.refl _ _).alloc (Nat.le_refl _) _
      have HB3 := hide (HB2.out.trans (hbz.mono HB2.out.size))
      clear hZ hbz HB2
      go_wp2_with (fail)
      go_ret2
      exact ⟨by rw [HF.out]; rfl, HB3.out⟩
    · have hh : hullF l = (hullL l, 0) := by unfold hullF; rw [if_pos hc, if_neg hne]
      have hin := hull_in hc hne
      have HPK := hide (peak_at hc hne)
      have HHB := hide (fun (x y : Int) => @hZ_bd l hc x y)
      have HHI := hide (fun (W : World) (v : Value) (hm : RdK encR 4 W W.heap.size v (missF l)) (x y : Int) => high_hid hc hm x y)
      rcases hq : hullL l with ⟨h0, h1, h2, h3⟩
      have HU : Hid (∀ W : World, Below w.heap.size w W → Calls Tryz.prog 78 #[v] W fun e w' => e = .returned (.tuple #[.agg #[.int .i64 h0, .int .i64 h1, .int .i64 h2, .int .i64 h3], .int .i64 0]) ∧ Below W.heap.size W w') := hide (fun W hW => by have := HHU.out W hW; rw [hh, hq] at this; exact this)
      rw [hq] at hin HPK
      simp only at hin HPK
      obtain ⟨A, c, rfl, _⟩ := id hr
      rw [hc] at HCK
      obtain ⟨⟨n0, n1, n2⟩, n3, n4, n5⟩ := hin
      clear HHU hh hc hne hr hl hq
      generalize peakR l = PR at *
      generalize hZ l = H at *
      generalize missF l = ML at *
      generalize peakF l = PF at *
      obtain ⟨BS, hBS⟩ : ∃ BS, BS = Bst H ((PF : Nat) : Int) (2 * h0) (2 * h1) (2 * h3 - 2 * h1) := ⟨_, rfl⟩
      have HST : Hid (∀ (i j : Nat) (b z : Int), BS i j b → z = H (2 * h0 + i) (2 * h1 + j) → z ≤ (PF : Nat) → BS i (j + 1) (max b z)) := hide (by rw [hBS]; exact fun i j b z h e p => h.row e p)
      have HNX : Hid (∀ (i j : Nat) (b : Int), BS i j b → 2 * h3 - 2 * h1 < j → BS (i + 1) 0 b) := hide (by rw [hBS]; exact fun i j b h e => h.next e)
      have HDN : Hid (∀ (i : Nat) (b : Int), BS i 0 b → 2 * h2 - 2 * h0 < i → b = (PF : Nat)) := hide (by rw [hBS]; exact fun i b h e => Bst.done HPK.out h e)
      have HS0 : Hid (BS 0 0 0) := hide (by rw [hBS]; exact Bst.start (by omega))
      have HBL : Hid (∀ (i j : Nat) (b : Int), BS i j b → 0 ≤ b ∧ b ≤ (PF : Nat)) := hide (by rw [hBS]; exact fun i j b h => ⟨h.lo, h.hi⟩)
      clear hBS HPK
      go_enter Tryz.func36, Tryz.ntmps36
      go_wp2_with (fail)
      refine (HCK.out _ (Below.refl _ _)).mono ?_
      rintro e w1 ⟨rfl, hb⟩
      have HB := hide hb
      clear hb HCK
      go_wp2_with (fail)
      refine (HU.out _ HB.out).mono ?_
      rintro e w2 ⟨rfl, hb⟩
      have HB2 := hide (HB.out.trans (hb.mono HB.out.size))
      clear hb HB HU
      go_upto_region 4 with fail
      refine wp_name fun Z hZ => ?_
      have hbz : Below w2.heap.size w2 Z := by rw [hZ]; exact (Below.refl _ _).alloc (Nat.le_refl _) _
      have z0 : Z.cell? ⟨w2.heap.size, 0, none⟩ = some (.int .i64 h0) := by rw [hZ]; simp [go_sem]
      have z1 : Z.cell? ⟨w2.heap.size, 1, none⟩ = some (.int .i64 h1) := by rw [hZ]; simp [go_sem]
      have z2 : Z.cell? ⟨w2.heap.size, 2, none⟩ = some (.int .i64 h2) := by rw [hZ]; simp [go_sem]
      have z3 : Z.cell? ⟨w2.heap.size, 3, none⟩ = some (.int .i64 h3) := by rw [hZ]; simp [go_sem]
      have lz : w2.heap.size < Z.heap.size := by rw [hZ]; simp
      have HB3 := hide (HB2.out.trans (hbz.mono HB2.out.size))
      have HZ : Hid (∀ W, Below Z.heap.size Z W → W.cell? ⟨w2.heap.size, 0, none⟩ = some (.int .i64 h0) ∧ W.cell? ⟨w2.heap.size, 1, none⟩ = some (.int .i64 h1) ∧ W.cell? ⟨w2.heap.size, 2, none⟩ = some (.int .i64 h2) ∧ W.cell? ⟨w2.heap.size, 3, none⟩ = some (.int .i64 h3)) := hide (fun W hW =>
        ⟨(hW.cell (p := ⟨_, 0, none⟩) lz).trans z0, (hW.cell (p := ⟨_, 1, none⟩) lz).trans z1, (hW.cell (p := ⟨_, 2, none⟩) lz).trans z2, (hW.cell (p := ⟨_, 3, none⟩) lz).trans z3⟩)
      generalize w2.heap.size = q at *
      clear hZ hbz HB2 z0 z1 z2 z3 lz
      go_wp2_with (fail)
      refine (HMI.out _ HB3.out).mono ?_
      rintro e w3 ⟨⟨Am, cm, rfl, hm⟩, hb⟩
      have HM := hide hm
      have HBZ := hide hb
      obtain ⟨y0, y1, y2, y3⟩ := HZ.out _ hb
      clear hb hm HMI
      go_upto_region 9 with fail
      clear y0 y1 y2 y3
      go_loopw [7, 8] (fun p x wr => ∃ (i : Nat) (b : Int), (i : Int) ≤ 2 * h2 - 2 * h0 + 1 ∧ x = .int .i64 (2 * h0 + i) ∧ p = .int .i64 b ∧ Hid (BS i 0 b) ∧ Hid (Below Z.heap.size Z wr) ∧ Hid (RdK encR 4 wr wr.heap.size (.slice Am ML.length cm) ML)) (fun _ x _ => (2 * h2 + 1 - intOf x).toNat)
      case atStart => exact ⟨0, 0, by omega, by simp, rfl, HS0, HBZ, HM⟩
      case round =>
        clear HBZ HM HS0
        obtain ⟨i, b, hi, rfl, rfl, HB0, HBZ, HM⟩ := hrel
        obtain ⟨y0, y1, y2, y3⟩ := HZ.out _ HBZ.out
        obtain ⟨b1, b2⟩ := HBL.out _ _ _ HB0.out
        by_cases hlt : (i : Int) ≤ 2 * h2 - 2 * h0
        · have hx : 2 * h0 + (i : Int) ≤ 2 * h2 := by omega
          go_upto_region 12 with fail
          clear y0 y1 y2 y3 b1 b2
          go_loopw [7, 9] (fun p y wr => ∃ (j : Nat) (b : Int), (j : Int) ≤ 2 * h3 - 2 * h1 + 1 ∧ y = .int .i64 (2 * h1 + j) ∧ p = .int .i64 b ∧ Hid (BS i j b) ∧ Hid (Below Z.heap.size Z wr) ∧ Hid (RdK encR 4 wr wr.heap.size (.slice Am ML.length cm) ML)) (fun _ y _ => (2 * h3 + 1 - intOf y).toNat)
          case atStart => exact ⟨0, b, by omega, by simp, rfl, HB0, HBZ, HM⟩
          case round =>
            clear HBZ HM HB0
            obtain ⟨j, b', hj, rfl, rfl, HB0, HBZ, HM⟩ := hrel
            obtain ⟨y0, y1, y2, y3⟩ := HZ.out _ HBZ.out
            obtain ⟨b1, b2⟩ := HBL.out _ _ _ HB0.out
            by_cases hlj : (j : Int) ≤ 2 * h3 - 2 * h1
            · have hy : 2 * h1 + (j : Int) ≤ 2 * h3 := by omega
              have HC := hide (HHI.out wr _ HM.out (2 * h0 + i) (2 * h1 + j) (by omega) (by omega))
              obtain ⟨k1, k2, k3⟩ := HHB.out (2 * h0 + i) (2 * h1 + j) (by omega) (by omega)
              have HN := hide (HST.out i j b' (H (2 * h0 + i) (2 * h1 + j)) HB0.out rfl k2)
              generalize H (2 * h0 + (i : Int)) (2 * h1 + (j : Int)) = hv at *
              clear HB0
              go_wp2_with (fail)
              refine HC.out.mono ?_
              rintro e w5 ⟨rfl, hb⟩
              have HBZ5 := hide (HBZ.out.trans (hb.mono HBZ.out.size))
              have HM5 := hide ((HM.out.below hb).mono hb.size)
              clear hb HC HBZ HM y0 y1 y2 y3
              go_wp2_with (fail)
              go_roundw
              case rel => exact ⟨j + 1, max b' hv, by omega, int_eq (by omega), rfl, HN, HBZ5, HM5⟩
              case measure => simp [intOf]; omega
            · have hy : 2 * h3 < 2 * h1 + (j : Int) := by omega
              have HN := hide (HNX.out i j b' HB0.out (by omega))
              clear HB0
              go_wp2_with (fail)
              go_roundw
              case rel => exact ⟨i + 1, b', by omega, int_eq (by omega), rfl, HN, HBZ, HM⟩
              case measure => simp [intOf]; omega
        · have hx : 2 * h2 < 2 * h0 + (i : Int) := by omega
          have he := HDN.out i b HB0.out (by omega)
          subst he
          clear HB0 HDN HNX HST b1 b2
          have HBE := hide (HB3.out.trans (HBZ.out.mono HB3.out.size))
          go_wp2_with (fail)
          go_ret2
          exact ⟨by rw [HF.out]; rfl, HBE.out⟩
  · have HF : Hid (peakR l = (0, checkF l)) := hide (if_neg hc)
    have hne : (checkF l != 0) = true := by simpa using hc
    obtain ⟨A, c, rfl, _⟩ := id hr
    clear hc hr hl HHU
    generalize peakR l = PR at *
    generalize checkF l = ck at *
    go_enter Tryz.func36, Tryz.ntmps36
    go_wp2_with (fail)
    refine (HCK.out _ (Below.refl _ _)).mono ?_
    rintro e w1 ⟨rfl, hb⟩
    have HB := hide hb
    clear hb
    go_wp2_with (fail)
    refine (HCK.out _ HB.out).mono ?_
    rintro e w2 ⟨rfl, hb⟩
    have HB2 := hide (HB.out.trans (hb.mono HB.out.size))
    clear hb HB HCK
    go_wp2_with (fail)
    go_ret2
    exact ⟨by rw [HF.out]; rfl, HB2.out⟩
end Go.Proofs.YtdolpeljengpaaaGreat

/- The reference's Volume. -/
namespace Go.Proofs.YtdolpeljengpaaaGreat
open Go.RowKit
set_option linter.unusedVariables false
set_option linter.unusedSimpArgs false

theorem tmod2 (z : Int) : (z.tmod 2 == 0) = decide (z % 2 = 0) := by
  have h : z.tmod 2 = 0 ↔ z % 2 = 0 := by
    constructor
    · intro h
      have := Int.dvd_of_tmod_eq_zero h
      omega
    · intro h
      exact Int.tmod_eq_zero_of_dvd (by omega)
  rw [Bool.eq_iff_iff]
  simp [h]
theorem tri_hz (l : List R4) (x y : Int) : triT l x y = if (x + y) % 2 = 0 then 2 * hZ l x y + 2 * hZ l (x + 1) (y + 1) + hZ l (x + 1) y + hZ l x (y + 1) else hZ l x y + hZ l (x + 1) (y + 1) + 2 * hZ l (x + 1) y + 2 * hZ l x (y + 1) := rfl
theorem hZ_near {l : List R4} (hc : checkF l = 0) (hb : ∀ r ∈ l, near4 25 r) {x y : Int} (hx : -2000001 ≤ x ∧ x ≤ 2000001) (hy : -2000001 ≤ y ∧ y ≤ 2000001) : 0 ≤ hZ l x y ∧ hZ l x y ≤ 50 := by
  have := height_near hc (m := 25) (by omega) (near_25 hb) hx hy
  unfold hZ
  omega
set_option maxRecDepth 100000 in
set_option maxHeartbeats 8000000 in
theorem rVolume_any {w : World} {v : Value} {l : List R4} (hr : RdK encR 4 w w.heap.size v l) (hl : l.length ≤ 100000000) (hn : measF l = 0 → l.length ≤ 12 ∧ ∀ r ∈ l, near4 25 r) :
    Calls Tryz.prog 40 #[v] w fun e w' => e = .returned (.tuple #[.agg #[.int .i64 (volR l).1.1, .int .i64 (volR l).1.2], .int .i64 (volR l).2]) ∧ Below w.heap.size w w' := by
  have HME := hide (fun (W : World) (hW : Below w.heap.size w W) => rmeasured_any ((hr.below hW).mono hW.size) hl)
  have HHU := hide (fun (W : World) (hW : Below w.heap.size w W) => rHull_any ((hr.below hW).mono hW.size) hl)
  by_cases hm0 : measF l = 0
  · obtain ⟨hl12, hb⟩ := hn hm0
    have hc : checkF l = 0 := by rw [meas_near hb] at hm0; exact hm0
    have HF : Hid (volR l = (((((volT l).toNat : Nat) : Int) / ((volG l : Nat) : Int), ((48 : Nat) : Int) / ((volG l : Nat) : Int)), (0 : Int))) := hide (if_pos hm0)
    have HMI : Hid (∀ W : World, Below w.heap.size w W → Calls Tryz.prog 79 #[v] W fun e w' => (∃ A c, e = .returned (.slice A (missF l).length c) ∧ RdK encR 4 w' w'.heap.size (.slice A (missF l).length c) (missF l)) ∧ Below W.heap.size W w') := hide (fun W hW => rMissing_any ((hr.below hW).mono hW.size) (by omega))
    rw [hm0] at HME
    by_cases hne : l = []
    · have hh : hullF l = (⟨0, 0, 0, 0⟩, 6) := by unfold hullF; rw [if_pos hc, if_pos hne]
      have hv0 : volR l = ((0, 1), 0) := by rw [HF.out, hne]; rfl
      have HV := hide hv0
      have HU : Hid (∀ W : World, Below w.heap.size w W → Calls Tryz.prog 78 #[v] W fun e w' => e = .returned (.tuple #[.agg #[.int .i64 0, .int .i64 0, .int .i64 0, .int .i64 0], .int .i64 6]) ∧ Below W.heap.size W w') := hide (fun W hW => by have := HHU.out W hW; rw [hh] at this; exact this)
      obtain ⟨A, c, rfl, _⟩ := id hr
      clear HHU hh hc hne hr hl hm0 hn hb hv0 HF HMI
      generalize volR l = VR at *
      go_enter Tryz.func40, Tryz.ntmps40
      go_upto_region 1 with fail
      refine wp_name fun Y hY => ?_
      have hby : Below w.heap.size w Y := by rw [hY]; exact (Below.refl _ _).alloc (Nat.le_refl _) _
      have a0 : Y.cell? ⟨w.heap.size, 0, none⟩ = some (.int .i64 0) := by rw [hY]; simp [go_sem]
      have a1 : Y.cell? ⟨w.heap.size, 1, none⟩ = some (.int .i64 0) := by rw [hY]; simp [go_sem]
      have f0 : Y.frozen? ⟨w.heap.size, 0, none⟩ = false := by rw [hY]; simp [go_sem]
      have f1 : Y.frozen? ⟨w.heap.size, 1, none⟩ = false := by rw [hY]; simp [go_sem]
      have ly : w.heap.size < Y.heap.size := by rw [hY]; simp
      have HBY := hide hby
      clear hY hby
      go_wp2_with (fail)
      refine (HME.out _ HBY.out).mono ?_
      rintro e w1 ⟨rfl, hb⟩
      have HB := hide hb
      clear hb HME
      go_wp2_with (fail)
      refine (HU.out _ (HBY.out.trans (HB.out.mono HBY.out.size))).mono ?_
      rintro e w2 ⟨rfl, hb⟩
      have HB2 := hide (HB.out.trans (hb.mono HB.out.size))
      clear hb HB HU
      go_upto_region 4 with fail
      refine wp_name fun Z hZ => ?_
      have hbz : Below w2.heap.size w2 Z := by rw [hZ]; exact (Below.refl _ _).alloc (Nat.le_refl _) _
      have hb3 := HB2.out.trans (hbz.mono HB2.out.size)
      have b0 := (hb3.cell (p := ⟨w.heap.size, 0, none⟩) ly).trans a0
      have b1 := (hb3.cell (p := ⟨w.heap.size, 1, none⟩) ly).trans a1
      have g0 := (hb3.frozen (p := ⟨w.heap.size, 0, none⟩) ly).trans f0
      have g1 := (hb3.frozen (p := ⟨w.heap.size, 1, none⟩) ly).trans f1
      have HB3 := hide (HBY.out.trans (hb3.mono HBY.out.size))
      clear hZ hbz HB2 hb3 a0 a1 f0 f1 HBY
      go_wp2_with (fail)
      refine bodyPost_ret (v := .tuple #[.agg #[.int .i64 0, .int .i64 1], .int .i64 0]) (by simp [results, Tryz.results40, go_sem, b0, b1, g0, g1]) rfl ⟨by rw [HV.out], ?_⟩
      exact (HB3.out.setCell (p := ⟨w.heap.size, 0, none⟩) (Nat.le_refl _) _).setCell (p := ⟨w.heap.size, 1, none⟩) (Nat.le_refl _) _
    · have hh : hullF l = (hullL l, 0) := by unfold hullF; rw [if_pos hc, if_neg hne]
      have hin := hull_in hc hne
      obtain ⟨⟨i1, i2, i3⟩, i4, i5, i6⟩ := hull_near25 hne hc hb
      have HROW : Hid (∀ i : Nat, rowT l (i + 1) = rowT l i + colT l (2 * (hullL l).x0 + i) (2 * (hullL l).y1 - 2 * (hullL l).y0).toNat) := hide (fun i => rfl)
      have HCOL : Hid (∀ (x : Int) (j : Nat), colT l x (j + 1) = colT l x j + triT l x (2 * (hullL l).y0 + j)) := hide (fun x j => rfl)
      have HR0 : Hid (rowT l 0 = 0) := hide rfl
      have HC0 : Hid (∀ x, colT l x 0 = 0) := hide (fun _ => rfl)
      have HRB := hide (fun (i : Nat) (h : i ≤ 100) => row_bd hne hc hb h)
      have HCB := hide (fun (x : Int) (hx : -2000000 ≤ x ∧ x ≤ 2000000) (j : Nat) (h : j ≤ 100) => col_bd hne hc hb hx h)
      have HTR := hide (fun (x y : Int) => tri_hz l x y)
      have HHB := hide (fun (x y : Int) => @hZ_near l hc hb x y)
      have HHI := hide (fun (W : World) (v : Value) (hm : RdK encR 4 W W.heap.size v (missF l)) (x y : Int) => high_hid hc hm x y)
      have HVT : Hid (volT l = rowT l (2 * (hullL l).x1 - 2 * (hullL l).x0).toNat) := hide rfl
      have HG : Hid (Nat.gcd (volT l).toNat 48 = volG l) := hide rfl
      rcases hq : hullL l with ⟨h0, h1, h2, h3⟩
      have HU : Hid (∀ W : World, Below w.heap.size w W → Calls Tryz.prog 78 #[v] W fun e w' => e = .returned (.tuple #[.agg #[.int .i64 h0, .int .i64 h1, .int .i64 h2, .int .i64 h3], .int .i64 0]) ∧ Below W.heap.size W w') := hide (fun W hW => by have := HHU.out W hW; rw [hh, hq] at this; exact this)
      rw [hq] at hin i1 i2 i3 i4 i5 i6 HROW HCOL HVT
      simp only at hin i1 i2 i3 i4 i5 i6 HROW HCOL HVT
      obtain ⟨A, c, rfl, _⟩ := id hr
      obtain ⟨⟨n0, n1, n2⟩, n3, n4, n5⟩ := hin
      clear HHU hh hc hne hr hl hq hm0 hn hb
      generalize volR l = VR at *
      generalize volG l = VG at *
      generalize volT l = VT at *
      generalize hZ l = H at *
      generalize triT l = TT at *
      generalize rowT l = RT at *
      generalize colT l = CT at *
      generalize missF l = ML at *
      go_enter Tryz.func40, Tryz.ntmps40
      go_upto_region 1 with fail
      refine wp_name fun Y hY => ?_
      have hby : Below w.heap.size w Y := by rw [hY]; exact (Below.refl _ _).alloc (Nat.le_refl _) _
      have a0 : Y.cell? ⟨w.heap.size, 0, none⟩ = some (.int .i64 0) := by rw [hY]; simp [go_sem]
      have a1 : Y.cell? ⟨w.heap.size, 1, none⟩ = some (.int .i64 0) := by rw [hY]; simp [go_sem]
      have f0 : Y.frozen? ⟨w.heap.size, 0, none⟩ = false := by rw [hY]; simp [go_sem]
      have f1 : Y.frozen? ⟨w.heap.size, 1, none⟩ = false := by rw [hY]; simp [go_sem]
      have ly : w.heap.size < Y.heap.size := by rw [hY]; simp
      have HBY := hide hby
      clear hY hby
      go_wp2_with (fail)
      refine (HME.out _ HBY.out).mono ?_
      rintro e w1 ⟨rfl, hb⟩
      have HB := hide hb
      clear hb HME
      go_wp2_with (fail)
      refine (HU.out _ (HBY.out.trans (HB.out.mono HBY.out.size))).mono ?_
      rintro e w2 ⟨rfl, hb⟩
      have HB2 := hide (HB.out.trans (hb.mono HB.out.size))
      clear hb HB HU
      go_upto_region 4 with fail
      refine wp_name fun Z hZ => ?_
      have hbz : Below w2.heap.size w2 Z := by rw [hZ]; exact (Below.refl _ _).alloc (Nat.le_refl _) _
      have z0 : Z.cell? ⟨w2.heap.size, 0, none⟩ = some (.int .i64 h0) := by rw [hZ]; simp [go_sem]
      have z1 : Z.cell? ⟨w2.heap.size, 1, none⟩ = some (.int .i64 h1) := by rw [hZ]; simp [go_sem]
      have z2 : Z.cell? ⟨w2.heap.size, 2, none⟩ = some (.int .i64 h2) := by rw [hZ]; simp [go_sem]
      have z3 : Z.cell? ⟨w2.heap.size, 3, none⟩ = some (.int .i64 h3) := by rw [hZ]; simp [go_sem]
      have lz : w2.heap.size < Z.heap.size := by rw [hZ]; simp
      have hb3 := HB2.out.trans (hbz.mono HB2.out.size)
      have b0 := (hb3.cell (p := ⟨w.heap.size, 0, none⟩) ly).trans a0
      have b1 := (hb3.cell (p := ⟨w.heap.size, 1, none⟩) ly).trans a1
      have g0 := (hb3.frozen (p := ⟨w.heap.size, 0, none⟩) ly).trans f0
      have g1 := (hb3.frozen (p := ⟨w.heap.size, 1, none⟩) ly).trans f1
      have lzw : w.heap.size < Z.heap.size := Nat.lt_of_lt_of_le ly hb3.size
      have HB3 := hide (HBY.out.trans (hb3.mono HBY.out.size))
      have HZ : Hid (∀ W, Below Z.heap.size Z W → W.cell? ⟨w2.heap.size, 0, none⟩ = some (.int .i64 h0) ∧ W.cell? ⟨w2.heap.size, 1, none⟩ = some (.int .i64 h1) ∧ W.cell? ⟨w2.heap.size, 2, none⟩ = some (.int .i64 h2) ∧ W.cell? ⟨w2.heap.size, 3, none⟩ = some (.int .i64 h3)) := hide (fun W hW =>
        ⟨(hW.cell (p := ⟨_, 0, none⟩) lz).trans z0, (hW.cell (p := ⟨_, 1, none⟩) lz).trans z1, (hW.cell (p := ⟨_, 2, none⟩) lz).trans z2, (hW.cell (p := ⟨_, 3, none⟩) lz).trans z3⟩)
      have HZR : Hid (∀ W, Below Z.heap.size Z W → W.cell? ⟨w.heap.size, 0, none⟩ = some (.int .i64 0) ∧ W.cell? ⟨w.heap.size, 1, none⟩ = some (.int .i64 0) ∧ W.frozen? ⟨w.heap.size, 0, none⟩ = false ∧ W.frozen? ⟨w.heap.size, 1, none⟩ = false) := hide (fun W hW =>
        ⟨(hW.cell (p := ⟨_, 0, none⟩) lzw).trans b0, (hW.cell (p := ⟨_, 1, none⟩) lzw).trans b1, (hW.frozen (p := ⟨_, 0, none⟩) lzw).trans g0, (hW.frozen (p := ⟨_, 1, none⟩) lzw).trans g1⟩)
      generalize w2.heap.size = q at *
      clear hZ hbz HB2 z0 z1 z2 z3 lz hb3 b0 b1 g0 g1 lzw a0 a1 f0 f1 ly HBY
      go_wp2_with (fail)
      refine (HMI.out _ HB3.out).mono ?_
      rintro e w3 ⟨⟨Am, cm, rfl, hm⟩, hb⟩
      have HM := hide hm
      have HBZ := hide hb
      obtain ⟨y0, y1, y2, y3⟩ := HZ.out _ hb
      clear hb hm HMI
      go_upto_region 9 with fail
      clear y0 y1 y2 y3
      go_loopw [7, 8] (fun p x wr => ∃ (i : Nat), (i : Int) ≤ 2 * h2 - 2 * h0 ∧ x = .int .i64 (2 * h0 + i) ∧ p = .int .i64 (RT i) ∧ Hid (Below Z.heap.size Z wr) ∧ Hid (RdK encR 4 wr wr.heap.size (.slice Am ML.length cm) ML)) (fun _ x _ => (2 * h2 - intOf x).toNat)
      case atStart => exact ⟨0, by omega, by simp, by rw [HR0.out], HBZ, HM⟩
      case round =>
        clear HBZ HM
        obtain ⟨i, hi, rfl, rfl, HBZ, HM⟩ := hrel
        obtain ⟨y0, y1, y2, y3⟩ := HZ.out _ HBZ.out
        obtain ⟨b1, b2⟩ := HRB.out i (by omega)
        have HIX : Hid (∀ X : Int, 2 * h0 + (i : Int) = X → ∀ Y : Nat, RT (i + 1) = RT i + CT X (2 * h3 - 2 * h1).toNat) := hide (fun X e _ => by rw [← e]; exact HROW.out i)
        by_cases hlt : (i : Int) < 2 * h2 - 2 * h0
        · obtain ⟨X, hX⟩ : ∃ X, 2 * h0 + (i : Int) = X := ⟨_, rfl⟩
          have HI2 := hide (HIX.out X hX 0)
          have HXE : Hid (2 * h0 + ((i + 1 : Nat) : Int) = X + 1) := hide (by omega)
          rw [hX]
          have hx : X < 2 * h2 := by omega
          have hx2 : -50 ≤ X := by omega
          clear HIX
          go_upto_region 12 with fail
          clear y0 y1 y2 y3
          generalize RT i = Ri at *
          go_loopw [7, 9] (fun p y wr => ∃ (j : Nat), (j : Int) ≤ 2 * h3 - 2 * h1 ∧ y = .int .i64 (2 * h1 + j) ∧ p = .int .i64 (Ri + CT X j) ∧ Hid (Below Z.heap.size Z wr) ∧ Hid (RdK encR 4 wr wr.heap.size (.slice Am ML.length cm) ML)) (fun _ y _ => (2 * h3 - intOf y).toNat)
          case atStart => exact ⟨0, by omega, by simp, by rw [HC0.out, Int.add_zero], HBZ, HM⟩
          case round =>
            clear HBZ HM
            obtain ⟨j, hj, rfl, rfl, HBZ, HM⟩ := hrel
            obtain ⟨y0, y1, y2, y3⟩ := HZ.out _ HBZ.out
            obtain ⟨d1, d2⟩ := HCB.out X (by omega) j (by omega)
            by_cases hlj : (j : Int) < 2 * h3 - 2 * h1
            · have hcl := HCOL.out X j
              obtain ⟨Y, hY⟩ : ∃ Y, 2 * h1 + (j : Int) = Y := ⟨_, rfl⟩
              rw [hY] at hcl ⊢
              have HYE : Hid (2 * h1 + ((j + 1 : Nat) : Int) = Y + 1) := hide (by omega)
              have hy : Y < 2 * h3 := by omega
              have hy2 : -50 ≤ Y := by omega
              have htr := HTR.out X Y
              have HA := hide (HHI.out)
              obtain ⟨p1, p2⟩ := HHB.out X Y (by omega) (by omega)
              obtain ⟨p3, p4⟩ := HHB.out (X + 1) (Y + 1) (by omega) (by omega)
              obtain ⟨p5, p6⟩ := HHB.out (X + 1) Y (by omega) (by omega)
              obtain ⟨p7, p8⟩ := HHB.out X (Y + 1) (by omega) (by omega)
              have K1 := hide (fun (W : World) (hm : RdK encR 4 W W.heap.size (.slice Am ML.length cm) ML) => HHI.out W _ hm X Y (by omega) (by omega))
              have K2 := hide (fun (W : World) (hm : RdK encR 4 W W.heap.size (.slice Am ML.length cm) ML) => HHI.out W _ hm (X + 1) (Y + 1) (by omega) (by omega))
              have K3 := hide (fun (W : World) (hm : RdK encR 4 W W.heap.size (.slice Am ML.length cm) ML) => HHI.out W _ hm (X + 1) Y (by omega) (by omega))
              have K4 := hide (fun (W : World) (hm : RdK encR 4 W W.heap.size (.slice Am ML.length cm) ML) => HHI.out W _ hm X (Y + 1) (by omega) (by omega))
              rw [htr] at hcl
              have HCL := hide hcl
              have ht := tmod2 (X + Y)
              clear hcl htr hX hY
              generalize H X Y = k1 at *
              generalize H (X + 1) (Y + 1) = k2 at *
              generalize H (X + 1) Y = k3 at *
              generalize H X (Y + 1) = k4 at *
              generalize CT X j = Cj at *
              by_cases hev : (X + Y) % 2 = 0
              · have hs : CT X (j + 1) = Cj + (2 * k1 + 2 * k2 + k3 + k4) := by rw [HCL.out, if_pos hev]
                have HS := hide hs
                rw [decide_eq_true hev] at ht
                clear hs hev HCL
                go_wp2_with (fail)
                refine (K1.out _ HM.out).mono ?_
                rintro e w5 ⟨rfl, hb⟩
                replace HBZ := hide (HBZ.out.trans (hb.mono HBZ.out.size))
                replace HM := hide ((HM.out.below hb).mono hb.size)
                clear hb y0 y1 y2 y3
                go_wp2_with (fail)
                refine (K2.out _ HM.out).mono ?_
                rintro e w6 ⟨rfl, hb⟩
                replace HBZ := hide (HBZ.out.trans (hb.mono HBZ.out.size))
                replace HM := hide ((HM.out.below hb).mono hb.size)
                clear hb
                go_wp2_with (fail)
                refine (K3.out _ HM.out).mono ?_
                rintro e w7 ⟨rfl, hb⟩
                replace HBZ := hide (HBZ.out.trans (hb.mono HBZ.out.size))
                replace HM := hide ((HM.out.below hb).mono hb.size)
                clear hb
                go_wp2_with (fail)
                refine (K4.out _ HM.out).mono ?_
                rintro e w8 ⟨rfl, hb⟩
                replace HBZ := hide (HBZ.out.trans (hb.mono HBZ.out.size))
                replace HM := hide ((HM.out.below hb).mono hb.size)
                clear hb
                go_wp2_with (fail)
                go_roundw
                case rel => exact ⟨j + 1, by omega, by rw [HYE.out], by rw [HS.out]; exact int_eq (by omega), HBZ, HM⟩
                case measure => simp [intOf]; omega
              · have hs : CT X (j + 1) = Cj + (k1 + k2 + 2 * k3 + 2 * k4) := by rw [HCL.out, if_neg hev]
                have HS := hide hs
                rw [decide_eq_false hev] at ht
                clear hs hev HCL
                go_wp2_with (fail)
                refine (K1.out _ HM.out).mono ?_
                rintro e w5 ⟨rfl, hb⟩
                replace HBZ := hide (HBZ.out.trans (hb.mono HBZ.out.size))
                replace HM := hide ((HM.out.below hb).mono hb.size)
                clear hb y0 y1 y2 y3
                go_wp2_with (fail)
                refine (K2.out _ HM.out).mono ?_
                rintro e w6 ⟨rfl, hb⟩
                replace HBZ := hide (HBZ.out.trans (hb.mono HBZ.out.size))
                replace HM := hide ((HM.out.below hb).mono hb.size)
                clear hb
                go_wp2_with (fail)
                refine (K3.out _ HM.out).mono ?_
                rintro e w7 ⟨rfl, hb⟩
                replace HBZ := hide (HBZ.out.trans (hb.mono HBZ.out.size))
                replace HM := hide ((HM.out.below hb).mono hb.size)
                clear hb
                go_wp2_with (fail)
                refine (K4.out _ HM.out).mono ?_
                rintro e w8 ⟨rfl, hb⟩
                replace HBZ := hide (HBZ.out.trans (hb.mono HBZ.out.size))
                replace HM := hide ((HM.out.below hb).mono hb.size)
                clear hb
                go_wp2_with (fail)
                go_roundw
                case rel => exact ⟨j + 1, by omega, by rw [HYE.out], by rw [HS.out]; exact int_eq (by omega), HBZ, HM⟩
                case measure => simp [intOf]; omega
            · have hje : (j : Int) = 2 * h3 - 2 * h1 := by omega
              have hjn : j = (2 * h3 - 2 * h1).toNat := by omega
              have hy : 2 * h3 ≤ 2 * h1 + (j : Int) := by omega
              have hs : RT (i + 1) = Ri + CT X j := by rw [HI2.out, hjn]
              have HS := hide hs
              clear hs hjn hlj hX
              go_wp2_with (fail)
              go_roundw
              case rel => exact ⟨i + 1, by omega, by rw [HXE.out], by rw [HS.out], HBZ, HM⟩
              case measure => simp [intOf]; omega
        · have hx : 2 * h2 ≤ 2 * h0 + (i : Int) := by omega
          have hie : i = (2 * h2 - 2 * h0).toNat := by omega
          have hvt : VT = RT i := by rw [HVT.out, ← hie]
          obtain ⟨n, hn⟩ : ∃ n : Nat, RT i = n := ⟨(RT i).toNat, by omega⟩
          have hG := HG.out
          rw [hvt, hn, Int.toNat_natCast] at hG
          have HMK := hide (fun (W : World) => rmake_any n 48 VG W (by omega) (by omega) (by omega) (hide hG))
          have HFV : Hid (VR = ((((n : Nat) : Int) / ((VG : Nat) : Int), ((48 : Nat) : Int) / ((VG : Nat) : Int)), (0 : Int))) := hide (by rw [HF.out, hvt, hn, Int.toNat_natCast])
          obtain ⟨r0, r1, r2, r3⟩ := HZR.out _ HBZ.out
          have HBE := hide (HB3.out.trans (HBZ.out.mono HB3.out.size))
          rw [hn]
          clear hG hvt HF HVT HIX hie hn
          have lw : w.heap.size < wr.heap.size := lt_of_cell r0
          go_wp2_with (fail)
          refine (HMK.out _).mono ?_
          rintro e w4 ⟨rfl, hb⟩
          have k0 := (hb.cell (p := ⟨w.heap.size, 0, none⟩) lw).trans r0
          have k1 := (hb.cell (p := ⟨w.heap.size, 1, none⟩) lw).trans r1
          have k2 := (hb.frozen (p := ⟨w.heap.size, 0, none⟩) lw).trans r2
          have k3 := (hb.frozen (p := ⟨w.heap.size, 1, none⟩) lw).trans r3
          have HBX := hide (HBE.out.trans (hb.mono HBE.out.size))
          clear hb r0 r1 r2 r3 y0 y1 y2 y3 lw HBE
          go_wp2_with (fail)
          refine bodyPost_ret (v := .tuple #[.agg #[.int .i64 ((n : Int) / (VG : Int)), .int .i64 (((48 : Nat) : Int) / (VG : Int))], .int .i64 0]) (by simp [results, Tryz.results40, go_sem, k0, k1, k2, k3]) rfl ⟨by rw [HFV.out], ?_⟩
          exact (HBX.out.setCell (p := ⟨w.heap.size, 0, none⟩) (Nat.le_refl _) _).setCell (p := ⟨w.heap.size, 1, none⟩) (Nat.le_refl _) _
  · have HF : Hid (volR l = ((0, 0), measF l)) := hide (if_neg hm0)
    have hne : (measF l != 0) = true := by simpa using hm0
    obtain ⟨A, c, rfl, _⟩ := id hr
    clear hm0 hr hl HHU hn
    generalize volR l = VR at *
    generalize measF l = ck at *
    go_enter Tryz.func40, Tryz.ntmps40
    go_upto_region 1 with fail
    refine wp_name fun Y hY => ?_
    have hby : Below w.heap.size w Y := by rw [hY]; exact (Below.refl _ _).alloc (Nat.le_refl _) _
    have a0 : Y.cell? ⟨w.heap.size, 0, none⟩ = some (.int .i64 0) := by rw [hY]; simp [go_sem]
    have a1 : Y.cell? ⟨w.heap.size, 1, none⟩ = some (.int .i64 0) := by rw [hY]; simp [go_sem]
    have f0 : Y.frozen? ⟨w.heap.size, 0, none⟩ = false := by rw [hY]; simp [go_sem]
    have f1 : Y.frozen? ⟨w.heap.size, 1, none⟩ = false := by rw [hY]; simp [go_sem]
    have ly : w.heap.size < Y.heap.size := by rw [hY]; simp
    have HBY := hide hby
    clear hY hby
    go_wp2_with (fail)
    refine (HME.out _ HBY.out).mono ?_
    rintro e w1 ⟨rfl, hb⟩
    have HB := hide hb
    clear hb
    go_wp2_with (fail)
    refine (HME.out _ (HBY.out.trans (HB.out.mono HBY.out.size))).mono ?_
    rintro e w2 ⟨rfl, hb⟩
    have hb2 := HB.out.trans (hb.mono HB.out.size)
    have b0 := (hb2.cell (p := ⟨w.heap.size, 0, none⟩) ly).trans a0
    have b1 := (hb2.cell (p := ⟨w.heap.size, 1, none⟩) ly).trans a1
    have g0 := (hb2.frozen (p := ⟨w.heap.size, 0, none⟩) ly).trans f0
    have g1 := (hb2.frozen (p := ⟨w.heap.size, 1, none⟩) ly).trans f1
    have HB2 := hide (HBY.out.trans (hb2.mono HBY.out.size))
    clear hb hb2 HB HME a0 a1 f0 f1 HBY
    go_wp2_with (fail)
    refine bodyPost_ret (v := .tuple #[.agg #[.int .i64 0, .int .i64 0], .int .i64 ck]) (by simp [results, Tryz.results40, go_sem, b0, b1, g0, g1]) rfl ⟨by rw [HF.out], ?_⟩
    exact (HB2.out.setCell (p := ⟨w.heap.size, 0, none⟩) (Nat.le_refl _) _).setCell (p := ⟨w.heap.size, 1, none⟩) (Nat.le_refl _) _
end Go.Proofs.YtdolpeljengpaaaGreat

/- roof.Volume. -/
namespace Go.Proofs.YtdolpeljengpaaaGreat
open Go.RowKit
set_option linter.unusedVariables false
set_option linter.unusedSimpArgs false
attribute [local go_sem] Oper.semAt_some

set_option maxHeartbeats 4000000 in
theorem quad1_any (a b c d : Int) (ha : -1000000 ≤ a ∧ a ≤ 1000000) (hb : -1000000 ≤ b ∧ b ≤ 1000000) (hc : -1000000 ≤ c ∧ c ≤ 1000000) (hd : -1000000 ≤ d ∧ d ≤ 1000000) (w : World) :
    Calls Tryz.prog 85 #[.agg #[.int .i64 a, .int .i64 b, .int .i64 c, .int .i64 d]] w fun e w' => e = .returned (.agg #[.int .i64 (4 * a), .int .i64 (4 * b), .int .i64 (4 * c), .int .i64 (4 * d)]) ∧ Below w.heap.size w w' := by
  obtain ⟨a1, a2⟩ := ha
  obtain ⟨b1, b2⟩ := hb
  obtain ⟨c1, c2⟩ := hc
  obtain ⟨d1, d2⟩ := hd
  go_enter Tryz.func85, Tryz.ntmps85
  go_upto_region 1 with fail
  refine wp_name fun Z hZ => ?_
  have hbz : Below w.heap.size w Z := by rw [hZ]; exact ((Below.refl _ _).alloc (Nat.le_refl _) _).alloc (by simp) _
  have z0 : Z.cell? ⟨w.heap.size, 0, none⟩ = some (.int .i64 a) := by rw [hZ]; simp [go_sem]
  have z1 : Z.cell? ⟨w.heap.size, 1, none⟩ = some (.int .i64 b) := by rw [hZ]; simp [go_sem]
  have z2 : Z.cell? ⟨w.heap.size, 2, none⟩ = some (.int .i64 c) := by rw [hZ]; simp [go_sem]
  have z3 : Z.cell? ⟨w.heap.size, 3, none⟩ = some (.int .i64 d) := by rw [hZ]; simp [go_sem]
  have r0 : Z.cell? ⟨w.heap.size + 1, 0, none⟩ = some (.int .i64 0) := by rw [hZ]; simp [go_sem]
  have r1 : Z.cell? ⟨w.heap.size + 1, 1, none⟩ = some (.int .i64 0) := by rw [hZ]; simp [go_sem]
  have r2 : Z.cell? ⟨w.heap.size + 1, 2, none⟩ = some (.int .i64 0) := by rw [hZ]; simp [go_sem]
  have r3 : Z.cell? ⟨w.heap.size + 1, 3, none⟩ = some (.int .i64 0) := by rw [hZ]; simp [go_sem]
  have f0 : ∀ j, Z.frozen? ⟨w.heap.size + 1, j, none⟩ = false := fun j => by rw [hZ]; simp [go_sem]
  have e0 := f0 0
  have e1 := f0 1
  have e2 := f0 2
  have e3 := f0 3
  have HB := hide hbz
  clear hZ hbz f0
  go_wp2_with (fail)
  refine bodyPost_ret (v := .agg #[.int .i64 (4 * a), .int .i64 (4 * b), .int .i64 (4 * c), .int .i64 (4 * d)]) (by simp [results, Tryz.results85, go_sem, r0, r1, r2, r3, e0, e1, e2, e3]) rfl ⟨rfl, ?_⟩
  exact (((HB.out.setCell (p := ⟨w.heap.size + 1, 0, none⟩) (Nat.le_succ _) _).setCell (p := ⟨w.heap.size + 1, 1, none⟩) (Nat.le_succ _) _).setCell (p := ⟨w.heap.size + 1, 2, none⟩) (Nat.le_succ _) _).setCell (p := ⟨w.heap.size + 1, 3, none⟩) (Nat.le_succ _) _

/-- The two boxes from bb on hold the sum and the step. -/
structure SV (bb Bo : Nat) (W0 : World) (s d : Int) (W : World) : Prop where
  lo : bb + 1 < Bo
  size : Bo ≤ W.heap.size
  c0 : W.cell? ⟨bb, 0, none⟩ = some (.int .i64 s)
  c1 : W.cell? ⟨bb + 1, 0, none⟩ = some (.int .i64 d)
  f0 : W.frozen? ⟨bb, 0, none⟩ = false
  f1 : W.frozen? ⟨bb + 1, 0, none⟩ = false
  low : Below bb W0 W
theorem SV.below {bb Bo : Nat} {W0 A B : World} {s d : Int} (h : SV bb Bo W0 s d A) (hb : Below A.heap.size A B) : SV bb Bo W0 s d B := by
  have hlo := h.lo
  have hsz := h.size
  exact ⟨h.lo, Nat.le_trans h.size hb.size, (hb.cell (p := ⟨bb, 0, none⟩) (by show bb < _; omega)).trans h.c0, (hb.cell (p := ⟨bb + 1, 0, none⟩) (by show bb + 1 < _; omega)).trans h.c1, (hb.frozen (p := ⟨bb, 0, none⟩) (by show bb < _; omega)).trans h.f0, (hb.frozen (p := ⟨bb + 1, 0, none⟩) (by show bb + 1 < _; omega)).trans h.f1, h.low.trans (hb.mono (by omega))⟩
theorem SV.putObj {bb Bo : Nat} {W0 A : World} {s d : Int} (h : SV bb Bo W0 s d A) {l : Nat} {o o' : Obj} (hw : Bo ≤ l) (hl : A.heap[l]? = some o) (ho : o.isCells = false) (ho' : o'.isCells = false) : SV bb Bo W0 s d (A.putObj l o') := by
  have hlo := h.lo
  exact ⟨h.lo, by simpa using h.size, (cell_putObj (o' := o') hl ho ho' _).1.trans h.c0, (cell_putObj (o' := o') hl ho ho' _).1.trans h.c1, (cell_putObj (o' := o') hl ho ho' _).2.trans h.f0, (cell_putObj (o' := o') hl ho ho' _).2.trans h.f1, below_putObj h.low (by omega) _⟩
theorem SV.grown {bb Bo : Nat} {W0 A B : World} {s d : Int} (h : SV bb Bo W0 s d A) {l : Nat} (hw : Bo ≤ l) (hg : A.grownBy B (some l)) : SV bb Bo W0 s d B := by
  have hlo := h.lo
  have hsz := h.size
  have hk : ∀ q, q < bb + 2 → B.heap[q]? = A.heap[q]? := fun q hq => hg.block q (by omega) (fun e => by injection e with e; omega)
  exact ⟨h.lo, Nat.le_trans h.size hg.size, (World.cell?_of_block (w := A) (a := ⟨bb, 0, none⟩) (hk bb (by omega))).trans h.c0, (World.cell?_of_block (w := A) (a := ⟨bb + 1, 0, none⟩) (hk (bb + 1) (by omega))).trans h.c1, (World.frozen?_of_block (w := A) (a := ⟨bb, 0, none⟩) (hk bb (by omega))).trans h.f0,
    (World.frozen?_of_block (w := A) (a := ⟨bb + 1, 0, none⟩) (hk (bb + 1) (by omega))).trans h.f1, h.low.grown hg (by omega) (fun k hk => by injection hk with hk; omega)⟩
theorem SV.step {bb Bo : Nat} {W0 wr wa : World} {s d : Int} (h : SV bb Bo W0 s d wr) (ha : Below wr.heap.size wr wa) (s' d' : Int) :
    SV bb Bo W0 s' d' ((wa.setCell ⟨bb, 0, none⟩ (.int .i64 s')).setCell ⟨bb + 1, 0, none⟩ (.int .i64 d')) ∧ KeepsOthers wr ((wa.setCell ⟨bb, 0, none⟩ (.int .i64 s')).setCell ⟨bb + 1, 0, none⟩ (.int .i64 d')) ∧ KpR bb 2 Bo wr ((wa.setCell ⟨bb, 0, none⟩ (.int .i64 s')).setCell ⟨bb + 1, 0, none⟩ (.int .i64 d')) := by
  have h2 := h.below ha
  have hlo := h.lo
  have hsz := h.size
  have k0 := h2.c0
  have k1 := h2.c1
  have far : ∀ q o, q ≠ bb → q ≠ bb + 1 → ((wa.setCell ⟨bb, 0, none⟩ (.int .i64 s')).setCell ⟨bb + 1, 0, none⟩ (.int .i64 d')).cell? ⟨q, o, none⟩ = wa.cell? ⟨q, o, none⟩ := fun q o n1 n2 =>
    World.cell?_of_block (w := wa) (a := ⟨q, o, none⟩) ((Below.heap_setCell _ _ _ _ n2).trans (Below.heap_setCell _ _ _ _ n1))
  refine ⟨⟨hlo, ?_, by simp [go_sem, k0, k1], by simp [go_sem, k0, k1], by rw [World.frozen?_setCell, World.frozen?_setCell]; exact h2.f0, by rw [World.frozen?_setCell, World.frozen?_setCell]; exact h2.f1, ?_⟩, ?_, ?_, fun b o h1 h3 => ?_⟩
  · have := ha.size; simp [World.setCell]; omega
  · exact (h2.low.setCell (p := ⟨bb, 0, none⟩) (Nat.le_refl _) _).setCell (p := ⟨bb + 1, 0, none⟩) (Nat.le_succ _) _
  · exact ((keeps_below ha).trans (KeepsOthers.setCell _ _ _)).trans (KeepsOthers.setCell _ _ _)
  · have := ha.size; simp [World.setCell]; omega
  · exact (far b o (by omega) (by omega)).trans (ha.cell (p := ⟨b, o, none⟩) (by show b < _; omega))
theorem range_at {N d : Nat} {pre post : List Nat} (h : List.range N = pre ++ d :: post) : d = pre.length ∧ pre.length < N := by
  have h1 : (List.range N)[pre.length]? = some d := by rw [h, List.getElem?_append_right (Nat.le_refl _)]; simp
  obtain ⟨h2, h3⟩ := List.getElem?_eq_some_iff.1 h1
  rw [List.getElem_range] at h3
  rw [List.length_range] at h2
  exact ⟨h3.symm, h2⟩
theorem tmod_one (d : Nat) : (((d : Nat) : Int).tmod 2 == 1) = decide (d % 2 = 1) := by
  have h : ((d : Nat) : Int).tmod 2 = ((d % 2 : Nat) : Int) := by
    rw [Int.tmod_eq_emod_of_nonneg (by omega)]
    omega
  rw [h, Bool.eq_iff_iff]
  simp
  omega
theorem emod_one (d : Nat) : (((d : Nat) : Int) % 2 == 1) = decide (d % 2 = 1) := by
  rw [Bool.eq_iff_iff]
  simp
  omega
theorem quad_take {l : List R4} {m : Nat} {r : R4} (h : l[m]? = some r) : (quadL (l.take (m + 1))).flatMap encR = (quadL (l.take m)).flatMap encR ++ [.int .i64 (4 * r.x0), .int .i64 (4 * r.y0), .int .i64 (4 * r.x1), .int .i64 (4 * r.y1)] := by
  unfold quadL
  rw [List.take_add_one, h, List.map_append, List.flatMap_append]
  simp [encR, quad4]

set_option maxRecDepth 100000 in
set_option maxHeartbeats 8000000 in
theorem oVolume_any {w : World} {v : Value} {l : List R4} (hr : RdK encR 4 w w.heap.size v l) (hl : l.length ≤ 100000000) (hn : measF l = 0 → l.length ≤ 12 ∧ ∀ r ∈ l, near4 25 r) :
    Calls Tryz.prog 39 #[v] w fun e w' => e = .returned (.tuple #[.agg #[.int .i64 (volR l).1.1, .int .i64 (volR l).1.2], .int .i64 (volR l).2]) ∧ Below w.heap.size w w' := by
  have HME := hide (fun (W : World) (hW : Below w.heap.size w W) => omeasured_any ((hr.below hW).mono hW.size) hl)
  obtain ⟨A0, c0, hv, hcc⟩ := id hr
  subst hv
  by_cases hm : measF l = 0
  · obtain ⟨hl12, hb⟩ := hn hm
    have hc : checkF l = 0 := by rw [meas_near hb] at hm; exact hm
    have hqc := wide_chk hc hb
    have hql : (quadL l).length ≤ 12 := by rw [wide_len]; exact hl12
    have hqn := wide_near4 hb
    obtain ⟨N, hN1, hN⟩ := lev_of hqc hql (m := 100) (by omega) hqn
    obtain ⟨hN2, hvs, hv0, hv3⟩ := vol_lev_all hc hl12 hb hN
    have HSD := hide (fun (d : Nat) (hd : d ≤ N) => (near_shr hqc hql hqn d (by omega)).1)
    have HBD := hide (volS_bd hc hl12 hb)
    have HST := hide (volS_step l)
    have HAR : Hid (∀ d : Nat, d ≤ N → checkF (levS (quadL l) d) = 0 ∧ (levS (quadL l) d).length ≤ 400) := hide (fun d hd => ⟨lev_check hqc hql hqn d (by omega), (near_shr hqc hql hqn d (by omega)).2.2⟩)
    have HF : Hid (volR l = (((((volT l).toNat : Nat) : Int) / ((volG l : Nat) : Int), ((48 : Nat) : Int) / ((volG l : Nat) : Int)), (0 : Int))) := hide (if_pos hm)
    have HV : Hid (∀ r ∈ l, valid4 r) := hide (checkF_ok hc).2.1
    have HG := hide (gcd_four (volT l).toNat)
    have HGE : Hid (Nat.gcd (volT l).toNat 48 = volG l) := hide rfl
    have hqe : (quadL l).length = l.length := wide_len l
    have HTK : Hid (quadL (l.take l.length) = quadL l) := hide (by rw [List.take_length])
    rw [hm] at HME
    obtain ⟨i1, gi, gz0, gz1, gz2⟩ := info_parts infoRc
    have HRC := hide hcc
    have HN := hide hN
    have HVS := hide hvs
    clear hr hN hvs hn hm hb hc hqc hqn hcc
    generalize volR l = VR at *
    refine (callsIn_wide (n := 0)).1 ?_
    refine callsIn_of_wp_marks Tryz.func39 rfl trivial ?_
    simp only [Tryz.ntmps39, List.size_toArray, List.length_cons, List.length_nil, Nat.reduceAdd, Nat.reduceSub, Array.replicate_succ, Array.replicate_zero, List.push_toArray, List.append_toArray, List.nil_append, List.cons_append]
    refine wpIn_wide.2 ?_
    go_upto_region 1 with fail
    refine wp_name fun Z hZ => ?_
    have hbz : Below w.heap.size w Z := by rw [hZ]; exact ((Below.refl _ _).alloc (Nat.le_refl _) _).alloc (by simp) _
    have z0 : Z.cell? ⟨w.heap.size, 0, none⟩ = some (.int .i64 0) := by rw [hZ]; simp [go_sem]
    have z1 : Z.cell? ⟨w.heap.size, 1, none⟩ = some (.int .i64 0) := by rw [hZ]; simp [go_sem]
    have z2 : Z.cell? ⟨w.heap.size + 1, 0, none⟩ = some (.int .i64 0) := by rw [hZ]; simp [go_sem]
    have f0 : Z.frozen? ⟨w.heap.size, 0, none⟩ = false := by rw [hZ]; simp [go_sem]
    have f1 : Z.frozen? ⟨w.heap.size, 1, none⟩ = false := by rw [hZ]; simp [go_sem]
    have f2 : Z.frozen? ⟨w.heap.size + 1, 0, none⟩ = false := by rw [hZ]; simp [go_sem]
    have lz : Z.heap.size = w.heap.size + 2 := by rw [hZ]; simp
    have HBZ := hide hbz
    have HRES : Hid (∀ W, Below Z.heap.size Z W → (W.cell? ⟨w.heap.size, 0, none⟩ = some (.int .i64 0) ∧ W.cell? ⟨w.heap.size, 1, none⟩ = some (.int .i64 0) ∧ W.cell? ⟨w.heap.size + 1, 0, none⟩ = some (.int .i64 0)) ∧ W.frozen? ⟨w.heap.size, 0, none⟩ = false ∧ W.frozen? ⟨w.heap.size, 1, none⟩ = false ∧ W.frozen? ⟨w.heap.size + 1, 0, none⟩ = false) := hide (fun W hW =>
      ⟨⟨(hW.cell (p := ⟨w.heap.size, 0, none⟩) (by show w.heap.size < Z.heap.size; omega)).trans z0, (hW.cell (p := ⟨w.heap.size, 1, none⟩) (by show w.heap.size < Z.heap.size; omega)).trans z1, (hW.cell (p := ⟨w.heap.size + 1, 0, none⟩) (by show w.heap.size + 1 < Z.heap.size; omega)).trans z2⟩,
        (hW.frozen (p := ⟨w.heap.size, 0, none⟩) (by show w.heap.size < Z.heap.size; omega)).trans f0, (hW.frozen (p := ⟨w.heap.size, 1, none⟩) (by show w.heap.size < Z.heap.size; omega)).trans f1, (hW.frozen (p := ⟨w.heap.size + 1, 0, none⟩) (by show w.heap.size + 1 < Z.heap.size; omega)).trans f2⟩)
    clear hZ hbz z0 z1 z2 f0 f1 f2
    go_wp2_with (fail)
    refine (HME.out Z HBZ.out).mono ?_
    rintro e w1 ⟨rfl, hb1⟩
    have hs1 := hb1.size
    have HB1 := hide hb1
    have hlw : w.heap.size + 2 ≤ w1.heap.size := by omega
    clear hb1 HME
    go_wp2_with (fail)
    go_loopw [6, 23] (fun o i wr => ∃ m : Nat, m ≤ l.length ∧ i = .int .i64 m ∧ ∃ Aw cw, o = .slice Aw m cw ∧ Hid (wr.ownsRow w1.heap.size 69 4 (.slice Aw m cw) m ((quadL (l.take m)).flatMap encR)) ∧ Hid (Below w1.heap.size w1 wr)) (fun _ i _ => l.length - (intOf i).toNat)
    case atStart => exact ⟨0, Nat.zero_le _, rfl, none, 0, rfl, hide (World.ownsRow_nil _ _ _ _), hide (Below.refl _ _)⟩
    case round =>
      obtain ⟨m, hm, rfl, Aw, cw, rfl, HO, HB⟩ := hrel
      have hszr := HB.out.size
      by_cases hlt : m < l.length
      · have mz : (m : Int) < (l.length : Int) := by omega
        obtain ⟨⟨p0, p1, p2, p3⟩, hp⟩ : ∃ p, l[m]? = some p := ⟨_, List.getElem?_eq_getElem hlt⟩
        obtain ⟨b, o, rfl, hbl, k⟩ := HRC.out (by intro e; rw [e] at hlt; simp at hlt)
        have hbz1 : b < Z.heap.size := by omega
        have hbw1 : b < w1.heap.size := by omega
        have rd : ∀ q, wr.cell? ⟨b, q, none⟩ = w.cell? ⟨b, q, none⟩ := fun q => (HB.out.cell (p := ⟨b, q, none⟩) hbw1).trans ((HB1.out.cell (p := ⟨b, q, none⟩) hbz1).trans (HBZ.out.cell (p := ⟨b, q, none⟩) hbl))
        have d0 : wr.cell? ⟨b, o + m * 4, none⟩ = some (.int .i64 p0) := (rd _).trans (k m _ hp 0 _ rfl)
        have d1 : wr.cell? ⟨b, o + m * 4 + 1, none⟩ = some (.int .i64 p1) := (rd _).trans (k m _ hp 1 _ rfl)
        have d2 : wr.cell? ⟨b, o + m * 4 + 2, none⟩ = some (.int .i64 p2) := (rd _).trans (k m _ hp 2 _ rfl)
        have d3 : wr.cell? ⟨b, o + m * 4 + 3, none⟩ = some (.int .i64 p3) := (rd _).trans (k m _ hp 3 _ rfl)
        obtain ⟨v1, v2, v3, v4, v5, v6⟩ := HV.out _ (List.mem_of_getElem? hp)
        have HQ := hide (fun W => quad1_any p0 p1 p2 p3 v3 v5 v4 v6 W)
        have HT := hide (quad_take hp)
        clear k hp rd v1 v2 v3 v4 v5 v6
        go_upto_region 9 with fail
        refine wp_name fun Y hY => ?_
        have hby : Below wr.heap.size wr Y := by rw [hY]; exact (Below.refl _ _).alloc (Nat.le_refl _) _
        have y0 : Y.cell? ⟨wr.heap.size, 0, none⟩ = some (.int .i64 p0) := by rw [hY]; simp [go_sem]
        have y1 : Y.cell? ⟨wr.heap.size, 1, none⟩ = some (.int .i64 p1) := by rw [hY]; simp [go_sem]
        have y2 : Y.cell? ⟨wr.heap.size, 2, none⟩ = some (.int .i64 p2) := by rw [hY]; simp [go_sem]
        have y3 : Y.cell? ⟨wr.heap.size, 3, none⟩ = some (.int .i64 p3) := by rw [hY]; simp [go_sem]
        have HOY := hide (own_below HO.out hby)
        have HBY := hide (HB.out.trans (hby.mono hszr))
        clear hY hby d0 d1 d2 d3 HO HB
        go_wp2_with (fail)
        refine (HQ.out _).mono ?_
        rintro e w5 ⟨rfl, hb5⟩
        have HO5 := hide (own_below HOY.out hb5)
        have HB5 := hide (HBY.out.trans (hb5.mono HBY.out.size))
        have hs5 := HB5.out.size
        clear hb5 HOY HBY y0 y1 y2 y3
        go_wp2_with (at_builtin; refine wpList_append_lies _ rfl (.tmp 27) (.tmp 31) 27 rfl w1.heap.size 69 i1 (.agg #[.int .i64 0, .int .i64 0, .int .i64 0, .int .i64 0]) 4 32 Tryz.underlying27 gi gz0 gz1 gz2 rfl (by decide) _ m _ rfl (HO5.out.alloc _) ⟨w5.heap.size, 0, none⟩ 1 1 [.int .i64 (4 * p0), .int .i64 (4 * p1), .int .i64 (4 * p2), .int .i64 (4 * p3)] rfl rfl (news_new w5 _ _ _ rfl) (ints_one rfl) (by omega) (by unfold maxLen; omega) (by omega) (by simp; omega) _ rfl ?_)
        intro g9 cap9 w9 hown9 hgrow9 hor9 hlt9
        rw [← HT.out] at hown9
        have HO9 := hide hown9
        have HB9 := hide ((HB5.out.alloc hs5 (.cells #[.int .i64 (4 * p0), .int .i64 (4 * p1), .int .i64 (4 * p2), .int .i64 (4 * p3)] 69)).grown hgrow9 (by simp; omega) (fun q hq => (HO5.out.lt q hq).1))
        clear hown9 hgrow9 hor9 hlt9
        go_wp2_with (fail)
        go_roundw
        case rel => exact ⟨m + 1, by omega, by go_num, _, _, rfl, HO9, HB9⟩
        case measure => simp [intOf]; omega
      · obtain rfl : m = l.length := by omega
        have mz : ¬ (l.length : Int) < (l.length : Int) := by omega
        rw [HTK.out] at HO
        obtain ⟨W0, hW0⟩ : ∃ W0, W0 = ((wr.alloc (.cells #[.int .i64 0] 2)).alloc (.cells #[.int .i64 0] 3)).alloc (.cells #[.slice Aw l.length cw] 27) := ⟨_, rfl⟩
        have hb0 : Below wr.heap.size wr W0 := by rw [hW0]; exact (((Below.refl _ _).alloc (Nat.le_refl _) _).alloc (by simp) _).alloc (by simp; omega) _
        have s0 : W0.heap.size = wr.heap.size + 3 := by rw [hW0]; simp
        have y0 : W0.cell? ⟨wr.heap.size, 0, none⟩ = some (.int .i64 0) := by rw [hW0]; simp [go_sem]
        have y1 : W0.cell? ⟨wr.heap.size + 1, 0, none⟩ = some (.int .i64 0) := by rw [hW0]; simp [go_sem]
        have y2 : W0.cell? ⟨wr.heap.size + 1 + 1, 0, none⟩ = some (.slice Aw l.length cw) := by rw [hW0]; simp [go_sem]
        have yf : W0.frozen? ⟨wr.heap.size, 0, none⟩ = false := by rw [hW0]; simp [go_sem]
        have yg : W0.frozen? ⟨wr.heap.size + 1, 0, none⟩ = false := by rw [hW0]; simp [go_sem]
        have HBW : Hid (Below Z.heap.size Z W0) := hide ((HB1.out.trans (HB.out.mono HB1.out.size)).trans (hb0.mono (by omega)))
        have hrdq : RdK encR 4 W0 wr.heap.size (.slice Aw (quadL l).length cw) (quadL l) := by
          have h := HO.out
          rw [← hqe] at h
          exact (own_rd h (fun _ => rfl)).below hb0
        rw [← hqe] at y2
        have hit := levelsIt (l := quadL l) (N := N) (bb := wr.heap.size) (k := 2) (br := wr.heap.size + 1 + 1) W0 (by omega) HN.out (by omega) HSD.out y2 (.inr (by omega)) hrdq (by omega)
        have hI0 : SV wr.heap.size W0.heap.size W0 (volS l 0) (0 : Nat) W0 := ⟨by omega, Nat.le_refl _, y0, y1, yf, yg, Below.refl _ _⟩
        clear hb0 y0 y1 y2 yf yg HO HB hrdq HB1
        go_wp2_with (go_at_call 82; refine (olevels_any _ _ _ _).mono ?_; rintro e w2 ⟨rfl, rfl⟩)
        rw [← hW0]
        clear hW0
        refine (wpIn_wide (n := 0)).1 ?_
        refine wp_range rfl (enters_of Tryz.func130 (by kernel_rfl) rfl) hit (Below.refl _ _) (fun x args A hx => by obtain ⟨_, _, rfl, _⟩ := hx; rfl) KpR.trans ?_
          (fun pre A => SV wr.heap.size W0.heap.size W0 (volS l pre.length) ((pre.length : Nat) : Int) A) (fun _ _ => False) (fun pre A B h hb => h.below hb) (fun pre A l o o' h hw hl ho ho' => h.putObj hw hl ho ho') (fun _ _ _ _ _ h => h.elim) hI0 ?_ ?_ (fun _ _ _ _ h => h.elim)
        · intro A l o o' hw h1 h2 h3
          exact ⟨by simp, fun b off hb _ => (cell_putObj h1 h2 h3 _).1⟩
        · rintro l2 pre d args A hSV ⟨post, hpost⟩ ⟨A2, c2, rfl, hrow⟩ hl1 ⟨ol, hl2, hl3⟩
          obtain ⟨rfl, hpl⟩ := range_at hpost
          have hszA := hSV.size
          have hlo := hSV.lo
          have HL1 := hide hSV
          have HROW := hide hrow
          have HL2 := hide hl2
          clear hSV hrow hit hI0 hl2 hpost
          gi_wp2
          refine ⟨KeepsFrom.of_below' (Below.refl _ _), KpR.below hszA (Below.refl _ _), ?_⟩
          intro A3 g2 s2 e2 f2
          have HL := hide (HL1.out.grown (by omega) g2)
          have HRW := hide (own_grown_obj HROW.out g2 HL2.out hl3)
          clear g2 s2 e2 f2 HL1 HROW HL2
          obtain ⟨hck, hlen⟩ := HAR.out pre.length (by omega)
          have har := area_any (own_rd HRW.out (fun _ => rfl)) (by omega)
          have haf : areaF (levS (quadL l) pre.length) = (areaS (levS (quadL l) pre.length), 0) := by unfold areaF; rw [if_pos hck]
          rw [haf] at har
          obtain ⟨⟨u1, u2⟩, u3, u4⟩ := HBD.out pre.length (by omega)
          have HSE := hide (HST.out pre.length)
          have HA := hide har
          have htm := tmod_one pre.length
          have hte := emod_one pre.length
          have hsz3 := HL.out.size
          clear hck hlen har haf
          generalize areaS (levS (quadL l) pre.length) = a at *
          generalize volS l pre.length = s at *
          have hplz : ((pre.length : Nat) : Int) ≤ 101 := by omega
          have hpl0 : (0 : Int) ≤ ((pre.length : Nat) : Int) := by omega
          gi_upto_region 17 with fail
          gi_upto_region 19 with (first
            | (refine ⟨trivial, rfl, ?_⟩)
            | (gi_at_call 30; refine (CallsIn.inRound l2 (callsIn_wide.2 HA.out)).mono ?_; rintro e' A4 ⟨rfl, hb4⟩))
          have HL4 := hide (HL.out.below hb4)
          have HS4 := hide (fun (s' d' : Int) => HL.out.step hb4 s' d')
          have x0 := HL4.out.c0
          have x1 := HL4.out.c1
          have x2 := HL4.out.f0
          have x3 := HL4.out.f1
          clear hb4 HA HL HRW
          by_cases hodd : pre.length % 2 = 1
          · have hv : volS l (pre.length + 1) = s + 4 * a := by rw [HSE.out]; unfold wtV; rw [if_pos hodd]
            have HVV := hide hv
            rw [decide_eq_true hodd] at htm hte
            clear hv hodd HSE
            gi_wp2
            obtain ⟨q1, q2, q3⟩ := HS4.out (s + 4 * a) ((pre.length : Nat) + 1)
            refine ⟨q2.from _, q3, ?_⟩
            show SV wr.heap.size W0.heap.size W0 (volS l (pre ++ [pre.length]).length) (((pre ++ [pre.length]).length : Nat) : Int) _
            rw [List.length_append, List.length_singleton, HVV.out]
            exact q1
          · rw [decide_eq_false hodd] at htm hte
            by_cases hpos : 0 < pre.length
            · have hv : volS l (pre.length + 1) = s + 2 * a := by rw [HSE.out]; unfold wtV; rw [if_neg hodd, if_pos hpos]
              have HVV := hide hv
              have hpz : (0 : Int) < ((pre.length : Nat) : Int) := by omega
              clear hv hodd HSE hpos
              gi_wp2
              obtain ⟨q1, q2, q3⟩ := HS4.out (s + 2 * a) ((pre.length : Nat) + 1)
              refine ⟨q2.from _, q3, ?_⟩
              show SV wr.heap.size W0.heap.size W0 (volS l (pre ++ [pre.length]).length) (((pre ++ [pre.length]).length : Nat) : Int) _
              rw [List.length_append, List.length_singleton, HVV.out]
              exact q1
            · have hv : volS l (pre.length + 1) = s + a := by rw [HSE.out]; unfold wtV; rw [if_neg hodd, if_neg hpos]; omega
              have HVV := hide hv
              have hpz : ((pre.length : Nat) : Int) ≤ 0 := by omega
              clear hv hodd HSE hpos
              gi_wp2
              obtain ⟨q1, q2, q3⟩ := HS4.out (s + a) ((pre.length : Nat) + 1)
              refine ⟨q2.from _, q3, ?_⟩
              show SV wr.heap.size W0.heap.size W0 (volS l (pre ++ [pre.length]).length) (((pre ++ [pre.length]).length : Nat) : Int) _
              rw [List.length_append, List.length_singleton, HVV.out]
              exact q1
        · rintro D W hD hSV hK
          have hlen : (List.range N).length = N := List.length_range
          have hSV2 : SV wr.heap.size W0.heap.size W0 (volS l N) ((N : Nat) : Int) W := by have h : SV wr.heap.size W0.heap.size W0 (volS l (List.range N).length) (((List.range N).length : Nat) : Int) W := hSV; rwa [hlen] at h
          rw [HVS.out] at hSV2
          obtain ⟨n, hn⟩ : ∃ n : Nat, volT l = n := ⟨(volT l).toNat, by omega⟩
          have hG := HG.out
          have hGE := HGE.out
          rw [hn, Int.toNat_natCast] at hG hGE
          rw [hGE] at hG
          rw [hn, show 4 * ((n : Nat) : Int) = ((4 * n : Nat) : Int) by omega] at hSV2
          have hmk := fun W => ratMk_any (4 * n) 192 (4 * volG l) W (by omega) (by omega) (by omega) (hide hG)
          have e1 := div_four n (volG l)
          have e2 : (((192 : Nat) : Int) / ((4 * volG l : Nat) : Int)) = (48 : Int) / ((volG l : Nat) : Int) := div_four 48 (volG l)
          rw [e1, e2] at hmk
          have HFV : Hid (VR = ((((n : Nat) : Int) / ((volG l : Nat) : Int), (48 : Int) / ((volG l : Nat) : Int)), (0 : Int))) := hide (by rw [HF.out, hn, Int.toNat_natCast]; rfl)
          have HMK := hide hmk
          generalize volG l = VG at *
          have hloW := hSV2.low
          have hszW := hSV2.size
          have x0 := hSV2.c0
          have hbZW : Below Z.heap.size Z W := HBW.out.trans (hloW.mono (by omega))
          obtain ⟨⟨b0, b1, b2⟩, d0, d1, d2⟩ := HRES.out W hbZW
          have HLW := hide (HBZ.out.trans (hbZW.mono HBZ.out.size))
          have HK := hide hK
          have hDw : D ≠ w.heap.size ∧ D ≠ w.heap.size + 1 := by omega
          have hwW : w.heap.size + 1 < W.heap.size := by omega
          clear hSV hSV2 hloW hit hI0 hK hmk e1 e2 hG hGE HF hbZW
          simp only [Exit.inBlock, Exit.then]
          go_wp2_with (fail)
          refine (HMK.out W).mono ?_
          rintro e W2 ⟨rfl, hb2⟩
          have b0 := (hb2.cell (p := ⟨w.heap.size, 0, none⟩) (by show w.heap.size < W.heap.size; omega)).trans b0
          have b1 := (hb2.cell (p := ⟨w.heap.size, 1, none⟩) (by show w.heap.size < W.heap.size; omega)).trans b1
          have b2 := (hb2.cell (p := ⟨w.heap.size + 1, 0, none⟩) hwW).trans b2
          have d0 := (hb2.frozen (p := ⟨w.heap.size, 0, none⟩) (by show w.heap.size < W.heap.size; omega)).trans d0
          have d1 := (hb2.frozen (p := ⟨w.heap.size, 1, none⟩) (by show w.heap.size < W.heap.size; omega)).trans d1
          have d2 := (hb2.frozen (p := ⟨w.heap.size + 1, 0, none⟩) hwW).trans d2
          have HK2 := hide ((hb2.block D (Array.getElem?_eq_some_iff.1 HK.out).1).trans HK.out)
          have HLW2 := hide (HLW.out.trans (hb2.mono HLW.out.size))
          clear hb2 x0
          go_wp2_with (fail)
          obtain ⟨W3, hW3⟩ : ∃ W3, W3 = ((W2.setCell ⟨w.heap.size, 0, none⟩ (.int .i64 ((n : Int) / (VG : Int)))).setCell ⟨w.heap.size, 1, none⟩ (.int .i64 ((48 : Int) / (VG : Int)))).setCell ⟨w.heap.size + 1, 0, none⟩ (.int .i64 0) := ⟨_, rfl⟩
          have r0 : W3.cell? ⟨w.heap.size, 0, none⟩ = some (.int .i64 ((n : Int) / (VG : Int))) := by rw [hW3]; simp [go_sem, b0, b1, b2, d0, d1, d2]
          have r1 : W3.cell? ⟨w.heap.size, 1, none⟩ = some (.int .i64 ((48 : Int) / (VG : Int))) := by rw [hW3]; simp [go_sem, b0, b1, b2, d0, d1, d2]
          have r2 : W3.cell? ⟨w.heap.size + 1, 0, none⟩ = some (.int .i64 0) := by rw [hW3]; simp [go_sem, b0, b1, b2, d0, d1, d2]
          have cD : W3.heap[D]? = some (.deferred (some [])) := by rw [hW3]; exact (Below.heap_setCell _ _ _ _ (by show D ≠ w.heap.size + 1; omega)).trans ((Below.heap_setCell _ _ _ _ (by show D ≠ w.heap.size; omega)).trans ((Below.heap_setCell _ _ _ _ (by show D ≠ w.heap.size; omega)).trans HK2.out))
          have hbL : Below w.heap.size w W3 := by rw [hW3]; exact ((HLW2.out.setCell (p := ⟨w.heap.size, 0, none⟩) (Nat.le_refl _) _).setCell (p := ⟨w.heap.size, 1, none⟩) (Nat.le_refl _) _).setCell (p := ⟨w.heap.size + 1, 0, none⟩) (Nat.le_succ _) _
          rw [← hW3]
          clear hW3 b0 b1 b2 d0 d1 d2
          refine ⟨by simp, .inl ⟨_, _, rfl, run_takeDeferred cD, ?_⟩⟩
          have e6 := (cell_putObj (o' := .deferred none) cD rfl rfl ⟨w.heap.size, 0, none⟩).1.trans r0
          have e7 := (cell_putObj (o' := .deferred none) cD rfl rfl ⟨w.heap.size, 1, none⟩).1.trans r1
          have e8 := (cell_putObj (o' := .deferred none) cD rfl rfl ⟨w.heap.size + 1, 0, none⟩).1.trans r2
          refine ⟨.tuple #[.agg #[.int .i64 ((n : Int) / (VG : Int)), .int .i64 ((48 : Int) / (VG : Int))], .int .i64 0], by simp [results, Tryz.results39, go_sem, e6, e7, e8], by rw [HFV.out], below_putObj hbL (by omega) _⟩
  · have HF : Hid (volR l = ((0, 0), measF l)) := hide (if_neg hm)
    have hne : (measF l != 0) = true := by simpa using hm
    clear hm hr hn hcc
    generalize volR l = VR at *
    generalize measF l = ck at *
    go_enter Tryz.func39, Tryz.ntmps39
    go_upto_region 1 with fail
    refine wp_name fun Z hZ => ?_
    have hbz : Below w.heap.size w Z := by rw [hZ]; exact ((Below.refl _ _).alloc (Nat.le_refl _) _).alloc (by simp) _
    have z0 : Z.cell? ⟨w.heap.size, 0, none⟩ = some (.int .i64 0) := by rw [hZ]; simp [go_sem]
    have z1 : Z.cell? ⟨w.heap.size, 1, none⟩ = some (.int .i64 0) := by rw [hZ]; simp [go_sem]
    have z2 : Z.cell? ⟨w.heap.size + 1, 0, none⟩ = some (.int .i64 0) := by rw [hZ]; simp [go_sem]
    have f0 : Z.frozen? ⟨w.heap.size, 0, none⟩ = false := by rw [hZ]; simp [go_sem]
    have f1 : Z.frozen? ⟨w.heap.size, 1, none⟩ = false := by rw [hZ]; simp [go_sem]
    have f2 : Z.frozen? ⟨w.heap.size + 1, 0, none⟩ = false := by rw [hZ]; simp [go_sem]
    have lz : Z.heap.size = w.heap.size + 2 := by rw [hZ]; simp
    have HBZ := hide hbz
    clear hZ hbz
    go_wp2_with (fail)
    refine (HME.out Z HBZ.out).mono ?_
    rintro e w1 ⟨rfl, hb1⟩
    have b0 := (hb1.cell (p := ⟨w.heap.size, 0, none⟩) (by show w.heap.size < Z.heap.size; omega)).trans z0
    have b1 := (hb1.cell (p := ⟨w.heap.size, 1, none⟩) (by show w.heap.size < Z.heap.size; omega)).trans z1
    have b2 := (hb1.cell (p := ⟨w.heap.size + 1, 0, none⟩) (by show w.heap.size + 1 < Z.heap.size; omega)).trans z2
    have d0 := (hb1.frozen (p := ⟨w.heap.size, 0, none⟩) (by show w.heap.size < Z.heap.size; omega)).trans f0
    have d1 := (hb1.frozen (p := ⟨w.heap.size, 1, none⟩) (by show w.heap.size < Z.heap.size; omega)).trans f1
    have d2 := (hb1.frozen (p := ⟨w.heap.size + 1, 0, none⟩) (by show w.heap.size + 1 < Z.heap.size; omega)).trans f2
    have HB1 := hide (HBZ.out.trans (hb1.mono HBZ.out.size))
    clear hb1 z0 z1 z2 f0 f1 f2 lz HBZ HME
    go_wp2_with (fail)
    refine bodyPost_ret (v := .tuple #[.agg #[.int .i64 0, .int .i64 0], .int .i64 ck]) (by simp [results, Tryz.results39, go_sem, b0, b1, b2, d0, d1, d2]) rfl ⟨by rw [HF.out], ?_⟩
    exact ((HB1.out.setCell (p := ⟨w.heap.size, 0, none⟩) (Nat.le_refl _) _).setCell (p := ⟨w.heap.size, 1, none⟩) (Nat.le_refl _) _).setCell (p := ⟨w.heap.size + 1, 0, none⟩) (Nat.le_succ _) _
end Go.Proofs.YtdolpeljengpaaaGreat

/- The last step from a walk to a given statement, for every law of the seat: the call returns true, and what lay in memory lies as it lay. -/
namespace Go.Proofs.YtdolpeljengpaaaGreat
open Go.ChangeShapes Go.WideShapes Go.ChangeAt Go.RowKit Go.Joins Go.Deep
set_option linter.unusedVariables false
set_option linter.unusedSimpArgs false

theorem own : ownKnob Tryz.prog.godebug = none := by kernel_rfl
theorem laidOut : laidOutB Tryz.prog = true := by kernel_rfl

section
variable {H : Type} {enc : TypeId × Value → H}
theorem trodAll_carry {P : Program} (hl : laidOutB P = true) {W W' : World} (hb : Below W.heap.size W W') :
    ∀ (ts : List TypeId) (vs : List Value) (ds : List (DataW H)) (ps : List MemPlace), (ts.all fun t => P.readableRec t && decide (t < P.types.size)) = true →
      DataW.TrodAll enc P W 0 (fun _ => true) true ts vs ds ps → (∀ x ∈ ps, x.block < W.heap.size) → DataW.TrodAll enc P W' 0 (fun b => decide (b < W.heap.size)) true ts vs ds ps
  | [], [], [], ps, _, h, _ => h
  | [], [], _ :: _, _, _, h, _ => h.elim
  | [], _ :: _, _, _, _, h, _ => h.elim
  | _ :: _, [], _, _, _, h, _ => h.elim
  | _ :: _, _ :: _, [], _, _, h, _ => h.elim
  | t :: ts, v :: vs, d :: ds, ps, hr, h, hlt => by
    obtain ⟨p, q, h1, h2, rfl⟩ := h
    simp only [List.all_cons, Bool.and_eq_true, decide_eq_true_eq] at hr
    refine ⟨p, q, Below.trod hl hr.1.1 hr.1.2 h1 hb (fun x hx => hlt x (by simp [hx])), trodAll_carry hl hb ts vs ds q ?_ h2 (fun x hx => hlt x (by simp [hx])), rfl⟩
    simpa using hr.2

theorem law_post {P : Program} {f : Func} {s : ChangeSpec} {W W' : World} {args : Array Value} {ds gs : List (DataW H)} {before : List MemPlace} {tb : TypeId}
    (hl : laidOutB P = true) (hr : (f.params.toList.all fun t => P.readableRec t && decide (t < P.types.size)) = true) (hres : f.resultTypes = #[tb]) (hbool : P.underlying tb = some .bool)
    (hvars : s.vars = []) (hW : DataW.Whole enc P f.params.toList s.vars false W args.toList ds gs before)
    (hsr : (s.fn H (ds ++ gs)).results = [.lit (.bool true)]) (hsa : (s.fn H (ds ++ gs)).args = ds) (hsv : (s.fn H (ds ++ gs)).vars = [])
    (hb : Below W.heap.size W W') : s.post enc P f false true false false W args (.bool true) W' := by
  have hlt : ∀ p ∈ before, p.block < W.heap.size := fun p hp => hW.lt p hp
  have hW0 := hW
  obtain ⟨p, q, hA, hV, rfl, hz, hn⟩ := hW
  refine ⟨ds, gs, p ++ q, [], p, [], hW0, ?_, ?_, ?_, hb.frame _, fun h => by cases h⟩
  · rw [hsr, hres]
    exact trodAll_mk1 (shut_bool hbool true)
  · rw [hsa]
    exact trodAll_carry hl hb _ _ _ _ hr hA (fun x hx => hlt x (by simp [hx]))
  · rw [hsv, hvars]
    rfl
end
end Go.Proofs.YtdolpeljengpaaaGreat

/- An argument that is a list of structs of ints, read as a list. -/
namespace Go.Proofs.YtdolpeljengpaaaGreat
open Go.ChangeShapes Go.WideShapes Go.ChangeAt Go.RowKit Go.Joins Go.Deep
set_option linter.unusedVariables false
set_option linter.unusedSimpArgs false

section
variable {H : Type} {enc : TypeId × Value → H} {P : Program} {w : World} {base : Nat} {spare : Nat → Bool} {held : Bool}
/-- The fields of a struct of ints: each one cell, an int. -/
theorem trod_int_fields {t : TypeId} {fs : Array Field} {n : Nat} {cs : List Value} {y : DataW H × List MemPlace} (he : P.underlying t = some (.struct fs)) (hone : oneCellFields P fs = true) (hint : ∀ (j : Nat) (f : Field), fs[j]? = some f → P.underlying f.type = some (.int .i64))
    (hl : cs.length = fs.size) (h : DataW.trod enc P w base spare held n t cs = some y) : ∀ j, j < fs.size → ∃ z : Int, cs[j]? = some (.int .i64 z) := by
  obtain ⟨ys, n', _, _, _, hyl, hf⟩ := DataW.trod_struct he h
  intro j hj
  have hjf : fs[j]? = some fs[j] := Array.getElem?_eq_getElem hj
  obtain ⟨ho, hk⟩ := hone_of hone j _ hjf
  have h1 := hf j _ hjf
  rw [ho, hk] at h1
  have hd : (cs.drop j).take 1 = [cs[j]'(by omega)] := by rw [List.drop_eq_getElem_cons (by omega)]; rfl
  rw [hd] at h1
  have hy : ys[j]? = some (ys[j]'(by omega)) := List.getElem?_eq_getElem (by omega)
  rw [hy] at h1
  obtain ⟨z, hz, _⟩ := DataW.trod_int (hint j _ hjf) h1
  have hz' : cs[j]'(by omega) = .int .i64 z := by simpa using hz
  exact ⟨z, by rw [List.getElem?_eq_getElem (by omega), hz']⟩
/-- A slice of structs of k ints: its cells. -/
theorem trod_rows {t e : TypeId} {fs : Array Field} {v : Value} {d : DataW H} {p : List MemPlace} {r : Reach} {b0 : Nat} (ht : P.underlying t = some (.slice e)) (he : P.underlying e = some (.struct fs)) (hone : oneCellFields P fs = true)
    (hint : ∀ (j : Nat) (f : Field), fs[j]? = some f → P.underlying f.type = some (.int .i64)) (hC : P.cellsOf e = fs.size) (hk : 0 < fs.size) (hv : Value.okWide P w r b0 t v) (h : DataW.Trod enc P w base spare held t v d p) :
    ∃ (A : Option Addr) (n c : Nat) (F : Nat → Nat → Int), v = .slice A n c ∧ n ≤ maxLen ∧ (0 < n → ∃ b off, A = some ⟨b, off, none⟩ ∧ b < w.heap.size ∧ ∀ i j, i < n → j < fs.size → w.cell? ⟨b, off + i * fs.size + j, none⟩ = some (.int .i64 (F i j))) := by
  obtain ⟨A, n, c, rfl⟩ := okWide_slice ht hv
  obtain ⟨fuel, hf⟩ := h
  rcases open_slice ht hf with ⟨hcs, _⟩ | ⟨a, len, cap, m, nn, D, Pl, hcs, hb, hl, hm, hmm, hx, hi⟩
  · simp [Value.cells] at hcs
    obtain ⟨rfl, rfl, rfl⟩ := hcs
    exact ⟨none, 0, 0, fun _ _ => 0, rfl, Nat.zero_le _, fun h => absurd h (Nat.lt_irrefl 0)⟩
  · simp [Value.cells] at hcs
    obtain ⟨rfl, rfl, rfl⟩ := hcs
    have hlm : n ≤ m := by rw [hmm]; split <;> omega
    have key : ∀ i, i < n → ∀ j, j < fs.size → ∃ z : Int, w.cell? (a.add (i * fs.size + j)) = some (.int .i64 z) := by
      intro i hin j hj
      obtain ⟨cs', hc, ht'⟩ := hi i (by omega)
      rw [hC] at hc
      obtain ⟨_, hcl, hat⟩ := World.cells?_some hc
      obtain ⟨z, hz⟩ := trod_int_fields he hone hint hcl ht' j hj
      have := hat j hj
      rw [← Go.Deep.add_add, this, hz]
      exact ⟨z, rfl⟩
    refine ⟨some a, n, c, fun i j => if h : i < n ∧ j < fs.size then Classical.choose (key i h.1 j h.2) else 0, rfl, by omega, fun hn => ?_⟩
    obtain ⟨z0, h0⟩ := key 0 hn 0 hk
    have hadd0 : a.add (0 * fs.size + 0) = a := by simp [Addr.add]
    rw [hadd0] at h0
    obtain ⟨b, off, sp⟩ := a
    have hsp : sp = none := by
      unfold World.cell? at h0
      cases sp with
      | none => rfl
      | some x => split at h0 <;> simp at h0
    subst hsp
    refine ⟨b, off, rfl, ?_, fun i j hin hj => ?_⟩
    · unfold World.cell? at h0
      split at h0
      · rename_i hh
        exact (Array.getElem?_eq_some_iff.1 hh).1
      · cases h0
    · have hz := Classical.choose_spec (key i hin j hj)
      have e1 : (⟨b, off, none⟩ : Addr).add (i * fs.size + j) = ⟨b, off + i * fs.size + j, none⟩ := by unfold Addr.add; split <;> simp_all [Nat.add_assoc]
      rw [← e1]
      simp only [dif_pos (And.intro hin hj)]
      exact hz
/-- .. rectangles. -/
theorem trod_rects {t e : TypeId} {fs : Array Field} {v : Value} {d : DataW H} {p : List MemPlace} {r : Reach} {b0 : Nat} (ht : P.underlying t = some (.slice e)) (he : P.underlying e = some (.struct fs)) (hone : oneCellFields P fs = true)
    (hint : ∀ (j : Nat) (f : Field), fs[j]? = some f → P.underlying f.type = some (.int .i64)) (hC : P.cellsOf e = 4) (hk : fs.size = 4) (hv : Value.okWide P w r b0 t v) (h : DataW.Trod enc P w base spare held t v d p) :
    ∃ l : List R4, RdK encR 4 w w.heap.size v l ∧ l.length ≤ maxLen := by
  obtain ⟨A, n, c, F, rfl, hn, hF⟩ := trod_rows ht he hone hint (hC.trans hk.symm) (by omega) hv h
  rw [hk] at hF
  refine ⟨(List.range n).map fun i => ⟨F i 0, F i 1, F i 2, F i 3⟩, ⟨A, c, by simp, fun hl => ?_⟩, by simpa using hn⟩
  have hn0 : 0 < n := by
    rcases Nat.eq_zero_or_pos n with h | h
    · subst h; exact absurd rfl hl
    · exact h
  obtain ⟨b, off, hA, hb, hc⟩ := hF hn0
  refine ⟨b, off, hA, hb, fun j x hj i u hu => ?_⟩
  have hjn : j < n := by have := (List.getElem?_eq_some_iff.1 hj).1; simpa using this
  rw [List.getElem?_map, List.getElem?_range hjn] at hj
  simp only [Option.map_some, Option.some.injEq] at hj
  subst hj
  have hi : i < 4 := (List.getElem?_eq_some_iff.1 hu).1
  rw [hc j i hjn hi]
  match i, hi with
  | 0, _ => exact hu
  | 1, _ => exact hu
  | 2, _ => exact hu
  | 3, _ => exact hu
end
theorem int_bd {n : Int} (h : (Lit.int .i64 n).wf = true) : -9223372036854775808 ≤ n ∧ n ≤ 9223372036854775807 := by
  simp [Lit.wf, IntKind.min, IntKind.max, IntKind.signed, IntKind.bits] at h
  omega
theorem rect_fields : ∀ (j : Nat) (f : Field), (match Tryz.prog.underlying 69 with | some (.struct fs) => fs | _ => #[])[j]? = some f → Tryz.prog.underlying f.type = some (.int .i64) := by
  rw [Tryz.underlying69]
  intro j f hf
  match j, hf with
  | 0, hf => simp at hf; subst hf; exact Tryz.underlying3
  | 1, hf => simp at hf; subst hf; exact Tryz.underlying3
  | 2, hf => simp at hf; subst hf; exact Tryz.underlying3
  | 3, hf => simp at hf; subst hf; exact Tryz.underlying3
  | j + 4, hf => simp at hf
end Go.Proofs.YtdolpeljengpaaaGreat

/- A slice that reads as a list of lists of rectangles; an argument that is one, read as such. -/
namespace Go.Proofs.YtdolpeljengpaaaGreat
open Go.ChangeShapes Go.WideShapes Go.ChangeAt Go.RowKit Go.Joins Go.Deep
set_option linter.unusedVariables false
set_option linter.unusedSimpArgs false

/-- The slice v reads as the lists bs, all of it below block B. -/
def RdRR (w : World) (B : Nat) (v : Value) (bs : List (List R4)) : Prop :=
  ∃ A c, v = .slice A bs.length c ∧ (bs ≠ [] → ∃ b off, A = some ⟨b, off, none⟩ ∧ b < B ∧ ∀ j x, bs[j]? = some x → ∃ u, w.cell? ⟨b, off + j, none⟩ = some u ∧ RdK encR 4 w B u x)
theorem RdRR.keep {w w' : World} {B : Nat} {v : Value} {bs : List (List R4)} (h : RdRR w B v bs) (hk : ∀ b o, b < B → w'.cell? ⟨b, o, none⟩ = w.cell? ⟨b, o, none⟩) : RdRR w' B v bs := by
  obtain ⟨A, c, hv, h⟩ := h
  refine ⟨A, c, hv, fun hl => ?_⟩
  obtain ⟨b, off, hA, hb, hc⟩ := h hl
  refine ⟨b, off, hA, hb, fun j x hx => ?_⟩
  obtain ⟨u, h1, h2⟩ := hc j x hx
  exact ⟨u, (hk b _ hb).trans h1, h2.keep hk⟩
theorem RdRR.mono {w : World} {B B' : Nat} {v : Value} {bs : List (List R4)} (h : RdRR w B v bs) (hB : B ≤ B') : RdRR w B' v bs := by
  obtain ⟨A, c, hv, h⟩ := h
  refine ⟨A, c, hv, fun hl => ?_⟩
  obtain ⟨b, off, hA, hb, hc⟩ := h hl
  refine ⟨b, off, hA, by omega, fun j x hx => ?_⟩
  obtain ⟨u, h1, h2⟩ := hc j x hx
  exact ⟨u, h1, h2.mono hB⟩
theorem RdRR.below {w w' : World} {B : Nat} {v : Value} {bs : List (List R4)} (h : RdRR w B v bs) (hb : Below B w w') : RdRR w' B v bs := h.keep fun b o hlt => hb.cell (p := ⟨b, o, none⟩) hlt
section
variable {H : Type} {enc : TypeId × Value → H} {P : Program} {w : World} {base : Nat} {spare : Nat → Bool} {held : Bool}
theorem cell_plain {a : Addr} {u : Value} (h : w.cell? a = some u) : ∃ b off, a = ⟨b, off, none⟩ ∧ b < w.heap.size := by
  obtain ⟨b, off, sp⟩ := a
  have hsp : sp = none := by
    unfold World.cell? at h
    cases sp with
    | none => rfl
    | some x => split at h <;> simp at h
  subst hsp
  refine ⟨b, off, rfl, ?_⟩
  unfold World.cell? at h
  split at h
  · rename_i hh
    exact (Array.getElem?_eq_some_iff.1 hh).1
  · cases h
/-- One value that reads as a list of rectangles. -/
theorem trod_rects1 {t e : TypeId} {fs : Array Field} {v : Value} {fuel : Nat} {x : DataW H × List MemPlace} (ht : P.underlying t = some (.slice e)) (he : P.underlying e = some (.struct fs)) (hone : oneCellFields P fs = true)
    (hint : ∀ (j : Nat) (f : Field), fs[j]? = some f → P.underlying f.type = some (.int .i64)) (hC : P.cellsOf e = 4) (hk : fs.size = 4) (hf : DataW.trod enc P w base spare held fuel t [v] = some x) :
    ∃ l : List R4, RdK encR 4 w w.heap.size v l ∧ l.length ≤ maxLen := by
  rcases open_slice ht hf with ⟨hcs, _⟩ | ⟨a, n, cap, m, nn, D, Pl, hcs, hb, hl, hm, hmm, hx, hi⟩
  · simp at hcs
    subst hcs
    exact ⟨[], RdK.nil _ _, Nat.zero_le _⟩
  · simp at hcs
    subst hcs
    have hlm : n ≤ m := by rw [hmm]; split <;> omega
    have key : ∀ i, i < n → ∀ j, j < 4 → ∃ z : Int, w.cell? (a.add (i * 4 + j)) = some (.int .i64 z) := by
      intro i hin j hj
      obtain ⟨cs', hc, ht'⟩ := hi i (by omega)
      rw [hC] at hc
      obtain ⟨_, hcl, hat⟩ := World.cells?_some hc
      obtain ⟨z, hz⟩ := trod_int_fields he hone hint (by rw [hk]; exact hcl) ht' j (by omega)
      have := hat j hj
      rw [← Go.Deep.add_add, this, hz]
      exact ⟨z, rfl⟩
    refine ⟨(List.range n).map fun i => ⟨if h : i < n then Classical.choose (key i h 0 (by omega)) else 0, if h : i < n then Classical.choose (key i h 1 (by omega)) else 0, if h : i < n then Classical.choose (key i h 2 (by omega)) else 0, if h : i < n then Classical.choose (key i h 3 (by omega)) else 0⟩, ⟨some a, cap, by simp, fun hl0 => ?_⟩, by simp; omega⟩
    have hn : 0 < n := by
      rcases Nat.eq_zero_or_pos n with h | h
      · subst h; exact absurd rfl hl0
      · exact h
    obtain ⟨z0, h0⟩ := key 0 hn 0 (by omega)
    have hadd0 : a.add (0 * 4 + 0) = a := by simp [Addr.add]
    rw [hadd0] at h0
    obtain ⟨b, off, rfl, hbs⟩ := cell_plain h0
    refine ⟨b, off, rfl, hbs, fun j x hj i u hu => ?_⟩
    have hjn : j < n := by have := (List.getElem?_eq_some_iff.1 hj).1; simpa using this
    rw [List.getElem?_map, List.getElem?_range hjn] at hj
    simp only [Option.map_some, Option.some.injEq, dif_pos hjn] at hj
    subst hj
    have e1 : ∀ k, (⟨b, off, none⟩ : Addr).add (j * 4 + k) = ⟨b, off + j * 4 + k, none⟩ := fun k => by unfold Addr.add; split <;> simp_all [Nat.add_assoc]
    have hi : i < 4 := (List.getElem?_eq_some_iff.1 hu).1
    rw [← e1]
    match i, hi with
    | 0, _ => rw [Classical.choose_spec (key j hjn 0 (by omega))]; exact hu
    | 1, _ => rw [Classical.choose_spec (key j hjn 1 (by omega))]; exact hu
    | 2, _ => rw [Classical.choose_spec (key j hjn 2 (by omega))]; exact hu
    | 3, _ => rw [Classical.choose_spec (key j hjn 3 (by omega))]; exact hu
/-- An argument that is a list of lists of rectangles. -/
theorem trod_regs {t e ee : TypeId} {fs : Array Field} {v : Value} {d : DataW H} {p : List MemPlace} {r : Reach} {b0 : Nat} (ht : P.underlying t = some (.slice e)) (hE : P.underlying e = some (.slice ee)) (hC1 : P.cellsOf e = 1) (he : P.underlying ee = some (.struct fs)) (hone : oneCellFields P fs = true)
    (hint : ∀ (j : Nat) (f : Field), fs[j]? = some f → P.underlying f.type = some (.int .i64)) (hC : P.cellsOf ee = 4) (hk : fs.size = 4) (hv : Value.okWide P w r b0 t v) (h : DataW.Trod enc P w base spare held t v d p) :
    ∃ bs : List (List R4), RdRR w w.heap.size v bs ∧ bs.length ≤ maxLen ∧ ∀ b ∈ bs, b.length ≤ maxLen := by
  obtain ⟨A, n, c, rfl⟩ := okWide_slice ht hv
  obtain ⟨fuel, hf⟩ := h
  rcases open_slice1 ht hC1 hf with ⟨hcs, _⟩ | ⟨a, len, cap, m, nn, V, D, Pl, hcs, hb, hl, hm, hmm, hx, hi⟩
  · simp [Value.cells] at hcs
    obtain ⟨rfl, rfl, rfl⟩ := hcs
    exact ⟨[], ⟨none, 0, rfl, fun h => absurd rfl h⟩, Nat.zero_le _, by simp⟩
  · simp [Value.cells] at hcs
    obtain ⟨rfl, rfl, rfl⟩ := hcs
    have hlm : n ≤ m := by rw [hmm]; split <;> omega
    have key : ∀ i, ∃ l : List R4, i < n → RdK encR 4 w w.heap.size (V i) l ∧ l.length ≤ maxLen := fun i => by
      by_cases h : i < n
      · obtain ⟨l, h1⟩ := trod_rects1 hE he hone hint hC hk (hi i (by omega)).2
        exact ⟨l, fun _ => h1⟩
      · exact ⟨[], fun g => absurd g h⟩
    refine ⟨(List.range n).map fun i => Classical.choose (key i), ⟨some a, c, by simp, fun hl0 => ?_⟩, by simp; omega, fun b hb => ?_⟩
    · have hn : 0 < n := by
        rcases Nat.eq_zero_or_pos n with h | h
        · subst h; exact absurd rfl hl0
        · exact h
      have h0 := (hi 0 (by omega)).1
      have hadd0 : a.add 0 = a := by simp [Addr.add]
      rw [hadd0] at h0
      obtain ⟨b, off, rfl, hbs⟩ := cell_plain h0
      refine ⟨b, off, rfl, hbs, fun j x hj => ?_⟩
      have hjn : j < n := by have := (List.getElem?_eq_some_iff.1 hj).1; simpa using this
      rw [List.getElem?_map, List.getElem?_range hjn] at hj
      simp only [Option.map_some, Option.some.injEq] at hj
      subst hj
      have e1 : (⟨b, off, none⟩ : Addr).add j = ⟨b, off + j, none⟩ := by unfold Addr.add; split <;> simp_all
      exact ⟨V j, e1 ▸ (hi j (by omega)).1, (Classical.choose_spec (key j) hjn).1⟩
    · obtain ⟨i, hi', rfl⟩ := List.mem_map.1 hb
      exact (Classical.choose_spec (key i) (by simpa using hi')).2
end
end Go.Proofs.YtdolpeljengpaaaGreat

/- A list of regions that a call has laid, read as such. -/
namespace Go.Proofs.YtdolpeljengpaaaGreat
open Go.RowKit
set_option linter.unusedVariables false
set_option linter.unusedSimpArgs false

theorem regs_rd {B : Nat} {R : List (List R4)} {A : Option Addr} {c : Nat} {vs : List Value} {w : World} (ho : w.ownsRow B 27 1 (.slice A R.length c) R.length vs) (hr : ∀ (i : Nat) (r : List R4), R[i]? = some r → ∃ v, vs[i]? = some v ∧ w.ownsRow B 69 4 v r.length (r.flatMap encR)) : RdRR w w.heap.size (.slice A R.length c) R := by
  refine ⟨A, c, rfl, fun hl => ?_⟩
  have hp : 0 < R.length := List.length_pos_iff.2 hl
  obtain ⟨g, cap, hv, hB, hg⟩ := ho.form (by omega)
  injection hv with e1 _ e3
  subst e1; subst e3
  refine ⟨g, 0, rfl, (ho.lt g rfl).2, fun j x hx => ?_⟩
  obtain ⟨v, h3, h4⟩ := hr j x hx
  refine ⟨v, ?_, own_rd h4 (fun _ => rfl)⟩
  have := (ho.cells (g := g) rfl) j _ h3
  rw [addr_add] at this
  rwa [Nat.zero_add]
theorem RegsRet.rd {B : Nat} {x : List (List R4) × Int} {e : Ending} {w : World} (h : RegsRet B x e w) : ∃ A c, e = .returned (.tuple #[.slice A x.1.length c, .int .i64 x.2]) ∧ RdRR w w.heap.size (.slice A x.1.length c) x.1 := by
  obtain ⟨A, c, vs, h1, h2, h3⟩ := h
  exact ⟨A, c, h1, regs_rd h2 h3⟩
/-- A cell of a list of regions. -/
theorem RdRR.get {w : World} {A : Option Addr} {n c : Nat} {bs : List (List R4)} (h : RdRR w w.heap.size (.slice A n c) bs) {j : Nat} {x : List R4} (hx : bs[j]? = some x) : ∃ b off A2 c2, A = some ⟨b, off, none⟩ ∧ b < w.heap.size ∧ w.cell? ⟨b, off + j, none⟩ = some (.slice A2 x.length c2) ∧ RdK encR 4 w w.heap.size (.slice A2 x.length c2) x := by
  obtain ⟨A1, c1, hv, h⟩ := h
  injection hv with e1 _ _
  subst e1
  obtain ⟨b, off, rfl, hb, k⟩ := h (by intro e; rw [e] at hx; simp at hx)
  obtain ⟨u, h1, h2⟩ := k j x hx
  obtain ⟨A2, c2, rfl, _⟩ := id h2
  exact ⟨b, off, A2, c2, rfl, hb, h1, h2⟩
end Go.Proofs.YtdolpeljengpaaaGreat

/- append(x, y...) where y reads as a list, empty or nil let in; and the reference's Twin. -/
namespace Go.Proofs.YtdolpeljengpaaaGreat
open Go.RowKit
set_option linter.unusedVariables false
set_option linter.unusedSimpArgs false

section
variable {P : Program} {α : Type} {enc : α → List Value} {k : Nat}
theorem run_app_rd (w : World) (henc : ∀ x, (enc x).length = k) (hint : ∀ (l : List α), ∀ u ∈ l.flatMap enc, u.oneCell' = true) (base : Nat) (t ty e : TypeId) (i : TypeInfo) (z : Value) (bytes : Nat)
    (ht : P.underlying t = some (.slice e)) (hi : P.info? e = some i) (hz : i.zero = some z) (hsize : i.size = k) (hby : i.bytes = bytes) (hzs : z.cells.size = k) (hsz : 0 < k)
    (v : Value) (n : Nat) (xs : List Value) (hown : w.ownsRow base e k v n xs) (B : Nat) (x : Value) (l : List α) (hr : RdK enc k w B x l) (h63 : n + l.length ≤ maxLen) (hbytes : (n + l.length) * bytes ≤ 140737488355328) (hbase : base ≤ w.heap.size) :
    ∃ v' w', (Builtin.append_ #[t, t] ty #[v, x]).run P w = .ok v' w' ∧ w'.ownsRow base e k v' (n + l.length) (xs ++ l.flatMap enc) ∧ w.grownBy w' v.ownBlock := by
  obtain ⟨A, c, rfl, hc⟩ := hr
  have key : ∀ ad : Addr, (∀ j u, (l.flatMap enc)[j]? = some u → w.cell? (ad.add j) = some u) → ∃ v' w', (Builtin.append_ #[t, t] ty #[v, .slice (some ad) l.length c]).run P w = .ok v' w' ∧ w'.ownsRow base e k v' (n + l.length) (xs ++ l.flatMap enc) ∧ w.grownBy w' v.ownBlock := by
    intro ad had
    obtain ⟨v', w', h1, h2, h3, _, _⟩ := run_append_own_at (P := P) w base t ty e i z k bytes ht hi hz hsize hby hzs hsz v n xs hown ad l.length c (l.flatMap enc) (by rw [flat_len henc]) had (hint l) h63 hbytes hbase
    exact ⟨v', w', h1, h2, h3⟩
  by_cases hl : l = []
  · subst hl
    cases A with
    | some ad => exact key ad (by simp)
    | none =>
      refine ⟨v, w, ?_, by simpa using hown, grown_refl _ _⟩
      rcases hown.2 with ⟨rfl, rfl⟩ | ⟨g, cap, cur, rfl, _, _, hnc, _⟩
      · simp [Builtin.append_, run_underlying ht, sizeOf, typeInfo, hi, Builtin.lenOf, Builtin.firstCells]
      · simp [Builtin.append_, run_underlying ht, sizeOf, typeInfo, hi, Builtin.lenOf, Builtin.firstCells, hnc, storeCells]
  · obtain ⟨b, off, rfl, hb, hcell⟩ := hc hl
    refine key _ fun j u hu => ?_
    have hj : j < (l.flatMap enc).length := (List.getElem?_eq_some_iff.1 hu).1
    rw [flat_len henc] at hj
    have hq : j / k < l.length := (Nat.div_lt_iff_lt_mul hsz).2 hj
    have e1 : j / k * k + j % k = j := by rw [Nat.mul_comm]; exact Nat.div_add_mod j k
    have hu2 : (enc l[j / k])[j % k]? = some u := by
      have h1 := List.getElem?_eq_getElem (l := enc l[j / k]) (i := j % k) (by rw [henc]; exact Nat.mod_lt _ hsz)
      have h2 := flat_get henc l (j / k) _ (j % k) _ (List.getElem?_eq_getElem hq) h1
      rw [e1, hu] at h2
      rw [h1]; exact h2.symm
    have := hcell (j / k) _ (List.getElem?_eq_getElem hq) (j % k) u hu2
    rw [Nat.add_assoc, e1] at this
    have e2 : (⟨b, off, none⟩ : Addr).add j = ⟨b, off + j, none⟩ := by unfold Addr.add; split <;> simp_all
    rw [e2]; exact this

theorem wp_app_rd (w : World) {o : Oper} {a : Act} {K : Act → World → Prop} {Q : Exit → Act → World → Prop} (henc : ∀ x, (enc x).length = k) (hint : ∀ (l : List α), ∀ u ∈ l.flatMap enc, u.oneCell' = true) (s x : Operand) (t : TypeId)
    (ho : o.op = .call { callee := .builtin .append, args := #[s, x], argTypes := #[t, t] }) (base : Nat) (e : TypeId) (i : TypeInfo) (z : Value) (bytes : Nat)
    (ht : P.underlying t = some (.slice e)) (hi : P.info? e = some i) (hz : i.zero = some z) (hsize : i.size = k) (hby : i.bytes = bytes) (hzs : z.cells.size = k) (hsz : 0 < k)
    (v : Value) (n : Nat) (xs : List Value) (hs : a.eval s = v) (hown : w.ownsRow base e k v n xs) (B : Nat) (l : List α) (hr : RdK enc k w B (a.eval x) l) (h63 : n + l.length ≤ maxLen) (hbytes : (n + l.length) * bytes ≤ 140737488355328) (hbase : base ≤ w.heap.size)
    (h : ∀ v' w', w'.ownsRow base e k v' (n + l.length) (xs ++ l.flatMap enc) → w.grownBy w' v.ownBlock → K (a.put o.dst v') w') : o.wp P a w K Q := by
  obtain ⟨v', w', hrun, h2, h3⟩ := run_app_rd (P := P) w henc hint base t o.type e i z bytes ht hi hz hsize hby hzs hsz v n xs hown B _ l hr h63 hbytes hbase
  unfold Oper.wp execOp
  simp only [ho, resolve, invoke, builtin, Sem.run_bind, Sem.run_pure, Result.andThen_ok, List.map_toArray, List.map_cons, List.map_nil, hs, hrun]
  exact h v' w' h2 h3
theorem wpList_app_rd {w : World} {ops : Array Oper} {rest : List Oper} {o : Oper} {a : Act} {Q : Exit → Act → World → Prop} (hgd : o.guard = none) (henc : ∀ x, (enc x).length = k) (hint : ∀ (l : List α), ∀ u ∈ l.flatMap enc, u.oneCell' = true) (s x : Operand) (t : TypeId)
    (ho : o.op = .call { callee := .builtin .append, args := #[s, x], argTypes := #[t, t] }) (base : Nat) (e : TypeId) (i : TypeInfo) (z : Value) (bytes : Nat)
    (ht : P.underlying t = some (.slice e)) (hi : P.info? e = some i) (hz : i.zero = some z) (hsize : i.size = k) (hby : i.bytes = bytes) (hzs : z.cells.size = k) (hsz : 0 < k)
    (v : Value) (n : Nat) (xs : List Value) (hs : a.eval s = v) (hown : w.ownsRow base e k v n xs) (B : Nat) (l : List α) (hr : RdK enc k w B (a.eval x) l) (h63 : n + l.length ≤ maxLen) (hbytes : (n + l.length) * bytes ≤ 140737488355328) (hbase : base ≤ w.heap.size)
    (h : ∀ v' w', w'.ownsRow base e k v' (n + l.length) (xs ++ l.flatMap enc) → w.grownBy w' v.ownBlock → wpList P ops Q rest (a.put o.dst v') w') : wpList P ops Q (o :: rest) a w :=
  wpList_plain hgd fun _ hK => wp_app_rd w henc hint s x t ho base e i z bytes ht hi hz hsize hby hzs hsz v n xs hs hown B l hr h63 hbytes hbase fun v' w' h2 h3 => hK _ _ (h v' w' h2 h3)
end
theorem one_encR (l : List R4) : ∀ u ∈ l.flatMap encR, u.oneCell' = true := by
  intro u hu
  obtain ⟨r, _, hr⟩ := List.mem_flatMap.1 hu
  simp only [encR, List.mem_cons, List.not_mem_nil, or_false] at hr
  rcases hr with rfl | rfl | rfl | rfl <;> rfl

set_option maxHeartbeats 1000000 in
theorem rTwin_any {w : World} {v : Value} {l : List R4} (hr : RdK encR 4 w w.heap.size v l) (hl : l.length ≤ 100000000) :
    Calls Tryz.prog 34 #[v] w fun e w' => ∃ vo, e = .returned vo ∧ w'.ownsRow w.heap.size 69 4 vo l.length (l.flatMap encR) ∧ Below w.heap.size w w' := by
  obtain ⟨i1, gi, gz0, gz1, gz2⟩ := info_parts infoRc
  obtain ⟨A, c, hv, _⟩ := id hr
  subst hv
  have HR := hide hr
  clear hr
  go_enter Tryz.func34, Tryz.ntmps34
  go_wp2_with (at_builtin; go_loud (refine wpList_app_rd (enc := encR) (k := 4) (l := l) rfl (fun _ => rfl) one_encR (.tmp 3) (.tmp 4) 26 rfl w.heap.size 69 i1 (.agg #[.int .i64 0, .int .i64 0, .int .i64 0, .int .i64 0]) 32 Tryz.underlying26 gi gz0 gz1 gz2 rfl (by decide) (.slice (some ⟨w.heap.size, 0, none⟩) 0 0) 0 [] rfl ⟨by simp, .inr ⟨w.heap.size, 0, #[], rfl, Nat.le_refl _, World.alloc_heap_new _ _, Nat.le_refl _, by simp [maxLen], by simp, by simp⟩⟩ w.heap.size (HR.out.below ((Below.refl _ _).alloc (Nat.le_refl _) _)) (by unfold maxLen; omega) (by omega) (by simp) ?_))
  intro v2 w2 hown2 hg2
  have hb2 : Below w.heap.size w w2 := ((Below.refl _ _).alloc (Nat.le_refl _) _).grown hg2 (by simp) (fun q hq => by simp [Value.ownBlock] at hq; omega)
  have HO := hide hown2
  clear hown2 hg2
  go_wp2
  go_ret
  exact ⟨_, rfl, own_n (by simpa using HO.out) (by simp), hb2⟩
end Go.Proofs.YtdolpeljengpaaaGreat

/- RegionMakes' walk: Check, Make, Has, Area and Same against the reference. -/
namespace Go.Proofs.YtdolpeljengpaaaGreat
open Go.RowKit
set_option linter.unusedVariables false
set_option linter.unusedSimpArgs false

theorem not_great {n : Nat} (h : ¬ greatP n) : n ≤ 420 := by unfold greatP at h; omega
theorem rSameSelf {w : World} {v v' : Value} {l : List R4} (h : RdK encR 4 w w.heap.size v l) (h' : RdK encR 4 w w.heap.size v' l) (hl : l.length ≤ 100000000) :
    Calls Tryz.prog 19 #[v, v'] w fun e w' => e = .returned (.bool true) ∧ Below w.heap.size w w' := by
  have := rSameRects_any h h' hl (Nat.le_refl _) (Nat.le_refl _)
  rwa [decide_eq_true rfl] at this

end Go.Proofs.YtdolpeljengpaaaGreat

/- The walks of the laws RoofLevels and RoofVolumes. -/
namespace Go.Proofs.YtdolpeljengpaaaGreat
open Go.RowKit
set_option linter.unusedVariables false
set_option linter.unusedSimpArgs false

theorem near_ok {l : List R4} (h : NearOK 25 l) : (measF l = 0 → l.length ≤ 12 ∧ ∀ r ∈ l, near4 25 r) ∧ l.length ≤ 420 := by
  rcases h with ⟨h1, h2⟩ | ⟨h1, h2⟩
  · refine ⟨fun hm => ?_, h2⟩
    have hc : checkF l = 4 := if_pos h1
    unfold measF at hm
    rw [hc] at hm
    simp at hm
  · exact ⟨fun _ => ⟨h1, h2⟩, by omega⟩
theorem lev_hyp {l : List R4} (h : NearOK 25 l) : ∃ N, (measF l = 0 → l.length ≤ 400 ∧ N ≤ 1000000 ∧ levN (levS l) N ∧ ∀ d : Nat, d ≤ N → shrF l (d : Int) = (levS l d, 0)) ∧ (levR l N).1.length ≤ 1000 ∧ ∀ r ∈ (levR l N).1, r.length ≤ 400 := by
  obtain ⟨h1, _⟩ := near_ok h
  by_cases hm : measF l = 0
  · obtain ⟨h2, h3⟩ := h1 hm
    have hc : checkF l = 0 := by rw [meas_near h3] at hm; exact hm
    obtain ⟨N, hN1, hN⟩ := lev_of hc h2 (m := 25) (by omega) (near_25 h3)
    refine ⟨N, fun _ => ⟨by omega, by omega, hN, fun d hd => (near_shr hc h2 (near_25 h3) d (by omega)).1⟩, ?_, ?_⟩
    · unfold levR
      rw [if_pos hm]
      simp
      omega
    · unfold levR
      rw [if_pos hm]
      intro r hr
      obtain ⟨d, hd, rfl⟩ := List.mem_map.1 hr
      rw [List.mem_range] at hd
      exact (near_shr hc h2 (near_25 h3) d (by omega)).2.2
  · refine ⟨0, fun h => absurd h hm, ?_, ?_⟩
    · unfold levR
      rw [if_neg hm]
      simp
    · unfold levR
      rw [if_neg hm]
      simp
set_option maxRecDepth 100000 in
set_option maxHeartbeats 8000000 in
theorem rlevels_walk {w : World} {v : Value} {l : List R4} (hr : RdK encR 4 w w.heap.size v l) (hl : l.length ≤ maxLen) :
    Calls Tryz.prog 6 #[v] w fun e w' => e = .returned (.bool true) ∧ Below w.heap.size w w' := by
  have HNE := hide (near12_any hr hl)
  obtain ⟨A, c, hv, _⟩ := id hr
  subst hv
  have HR := hide hr
  clear hr hl
  go_enter Tryz.func6, Tryz.ntmps6
  go_wp2_with (fail)
  refine HNE.out.mono ?_
  rintro e w1 (⟨rfl, hb⟩ | ⟨rfl, hn, hb⟩)
  · have HB := hide hb
    clear hb HNE HR
    go_wp2_with (fail)
    go_ret
    exact ⟨rfl, HB.out⟩
  · obtain ⟨hh, hlen⟩ := near_ok hn
    obtain ⟨N, hN, hNl, hNr⟩ := lev_hyp hn
    have HB := hide hb
    have HTW := hide (rTwin_any ((HR.out.below hb).mono hb.size) (by omega))
    have HH := hide hN
    have HNR := hide hNr
    have HPK := hide (fun (W : World) (hW : Below w.heap.size w W) => rPeak_any ((HR.out.below hW).mono hW.size) (by omega))
    have HLV := hide (fun (W : World) (hW : Below w.heap.size w W) => rLevels_any ((HR.out.below hW).mono hW.size) (by omega) HH.out)
    have HPO := hide (fun (W : World) (v : Value) (h : RdK encR 4 W W.heap.size v l) => oPeak_any h (by omega))
    have HLO := hide (fun (W : World) (v : Value) (h : RdK encR 4 W W.heap.size v l) => oLevels_any h (by omega) HH.out)
    have HSS := hide (fun (W : World) (v v' : Value) (h : RdK encR 4 W W.heap.size v l) (h' : RdK encR 4 W W.heap.size v' l) => rSameSelf h h' (by omega))
    clear hb hn hh hN hNr HNE HH
    generalize peakR l = PR at *
    generalize levR l N = LR at *
    go_wp2_with (fail)
    refine HTW.out.mono ?_
    rintro e w2 ⟨vo, rfl, ho, hb⟩
    obtain ⟨Ao, co, hvo⟩ := own_form ho
    subst hvo
    have HO := hide (own_base (base := w.heap.size) ho HB.out.size)
    have HB2 := hide (HB.out.trans (hb.mono HB.out.size))
    clear hb ho HTW HB
    go_wp2_with (fail)
    refine (HPO.out _ _ (own_rd HO.out (fun _ => rfl))).mono ?_
    rintro e w3 ⟨rfl, hb⟩
    replace HO := hide (own_below HO.out hb)
    replace HB2 := hide (HB2.out.trans (hb.mono HB2.out.size))
    clear hb
    go_wp2_with (fail)
    refine (HPK.out _ HB2.out).mono ?_
    rintro e w4 ⟨rfl, hb⟩
    replace HO := hide (own_below HO.out hb)
    replace HB2 := hide (HB2.out.trans (hb.mono HB2.out.size))
    clear hb
    go_wp2_with (fail)
    refine (HLO.out _ _ (own_rd HO.out (fun _ => rfl))).mono ?_
    rintro e w5 ⟨hret, hb⟩
    obtain ⟨A5, c5, he, hrd⟩ := hret.rd
    subst he
    replace HO := hide (own_below HO.out hb)
    replace HB2 := hide (HB2.out.trans (hb.mono HB2.out.size))
    have HR5 := hide hrd
    clear hb hret hrd
    go_wp2_with (fail)
    refine (HLV.out _ HB2.out).mono ?_
    rintro e w6 ⟨hret, hb⟩
    obtain ⟨A6, c6, he, hrd⟩ := hret.rd
    subst he
    replace HO := hide (own_below HO.out hb)
    replace HB2 := hide (HB2.out.trans (hb.mono HB2.out.size))
    replace HR5 := hide ((HR5.out.below hb).mono hb.size)
    have HR6 := hide hrd
    clear hb hret hrd HPO HPK HLO HLV
    go_wp2_with (fail)
    refine (HSS.out _ _ _ (own_rd HO.out (fun _ => rfl)) ((HR.out.below HB2.out).mono HB2.out.size)).mono ?_
    rintro e w7 ⟨rfl, hb⟩
    replace HB2 := hide (HB2.out.trans (hb.mono HB2.out.size))
    replace HR5 := hide ((HR5.out.below hb).mono hb.size)
    replace HR6 := hide ((HR6.out.below hb).mono hb.size)
    clear hb HO HR HSS
    go_wp2_with (fail)
    go_loopw [12] (fun i wr => ∃ m : Nat, m ≤ LR.1.length ∧ i = .int .i64 m ∧ Hid (Below w.heap.size w wr) ∧ Hid (RdRR wr wr.heap.size (.slice A5 LR.1.length c5) LR.1) ∧ Hid (RdRR wr wr.heap.size (.slice A6 LR.1.length c6) LR.1)) (fun i _ => LR.1.length - (intOf i).toNat)
    case atStart => exact ⟨0, Nat.zero_le _, rfl, HB2, HR5, HR6⟩
    case round =>
      clear HB2 HR5 HR6
      obtain ⟨m, hm, rfl, HB, HR5, HR6⟩ := hrel
      by_cases hlt : m < LR.1.length
      · have mz : (m : Int) < (LR.1.length : Int) := by omega
        obtain ⟨q, hq⟩ : ∃ q, LR.1[m]? = some q := ⟨_, List.getElem?_eq_getElem hlt⟩
        obtain ⟨b5, o5, X5, y5, rfl, hb5, k5, r5⟩ := HR5.out.get hq
        obtain ⟨b6, o6, X6, y6, rfl, hb6, k6, r6⟩ := HR6.out.get hq
        have hql := HNR.out q (List.mem_of_getElem? hq)
        have HC := hide (fun (x : Above wr) => rSameSelf ((r5.below x.keeps).mono x.keeps.size) ((r6.below x.keeps).mono x.keeps.size) (by omega))
        have m0 : (0 : Int) ≤ (m : Int) := by omega
        clear hq r5 r6
        go_upto_region 13 with fail
        refine wp_hab fun hab => ?_
        refine wp_region_above (by kernel_rfl) (by kernel_rfl) ?_
        repeat (go_big_quiet_step ((go_at_call 19; exact above_of (HC.out _))))
        refine wpQuiet_nil ?_
        refine above_ends fun w8 hb => ?_
        have HB8 := hide (HB.out.trans (hb.mono HB.out.size))
        have H5 := hide ((HR5.out.below hb).mono hb.size)
        have H6 := hide ((HR6.out.below hb).mono hb.size)
        clear hab hb k5 k6 HC
        go_wp2_with (fail)
        go_roundw
        case rel => exact ⟨m + 1, by omega, by go_num, HB8, H5, H6⟩
        case measure => simp [intOf]; omega
      · obtain rfl : m = LR.1.length := by omega
        go_wp2_with (fail)
        go_ret
        exact ⟨rfl, HB.out⟩
set_option maxRecDepth 100000 in
set_option maxHeartbeats 8000000 in
theorem rvolumes_walk {w : World} {v : Value} {l : List R4} (hr : RdK encR 4 w w.heap.size v l) (hl : l.length ≤ maxLen) :
    Calls Tryz.prog 7 #[v] w fun e w' => e = .returned (.bool true) ∧ Below w.heap.size w w' := by
  have HNE := hide (near12_any hr hl)
  obtain ⟨A, c, hv, _⟩ := id hr
  subst hv
  have HR := hide hr
  clear hr hl
  go_enter Tryz.func7, Tryz.ntmps7
  go_wp2_with (fail)
  refine HNE.out.mono ?_
  rintro e w1 (⟨rfl, hb⟩ | ⟨rfl, hn, hb⟩)
  · have HB := hide hb
    clear hb HNE HR
    go_wp2_with (fail)
    go_ret
    exact ⟨rfl, HB.out⟩
  · obtain ⟨hh, hlen⟩ := near_ok hn
    have HB := hide hb
    have HH := hide hh
    have HVR := hide (fun (W : World) (hW : Below w.heap.size w W) => rVolume_any ((HR.out.below hW).mono hW.size) (by omega) HH.out)
    have HVO := hide (fun (W : World) (hW : Below w.heap.size w W) => oVolume_any ((HR.out.below hW).mono hW.size) (by omega) HH.out)
    clear hb hn hh HNE HH HR
    generalize (volR l).1.1 = p at *
    generalize (volR l).1.2 = q at *
    generalize (volR l).2 = k at *
    go_wp2_with (fail)
    refine (HVO.out _ HB.out).mono ?_
    rintro e w2 ⟨rfl, hb⟩
    replace HB := hide (HB.out.trans (hb.mono HB.out.size))
    clear hb HVO
    go_upto_region 4 with fail
    refine wp_name fun Z hZ => ?_
    have hbz : Below w2.heap.size w2 Z := by rw [hZ]; exact (Below.refl _ _).alloc (Nat.le_refl _) _
    have z0 : Z.cell? ⟨w2.heap.size, 0, none⟩ = some (.int .i64 p) := by rw [hZ]; simp [go_sem]
    have z1 : Z.cell? ⟨w2.heap.size, 1, none⟩ = some (.int .i64 q) := by rw [hZ]; simp [go_sem]
    have lz : w2.heap.size < Z.heap.size := by rw [hZ]; simp
    replace HB := hide (HB.out.trans (hbz.mono HB.out.size))
    generalize w2.heap.size = g at *
    clear hZ hbz
    go_wp2_with (fail)
    refine (HVR.out _ HB.out).mono ?_
    rintro e w3 ⟨rfl, hb⟩
    replace HB := hide (HB.out.trans (hb.mono HB.out.size))
    have z0 := (hb.cell (p := ⟨g, 0, none⟩) lz).trans z0
    have z1 := (hb.cell (p := ⟨g, 1, none⟩) lz).trans z1
    have lz3 : g < w3.heap.size := Nat.lt_of_lt_of_le lz hb.size
    clear hb HVR lz
    go_upto_region 5 with fail
    refine wp_name fun Y hY => ?_
    have hby : Below w3.heap.size w3 Y := by rw [hY]; exact (Below.refl _ _).alloc (Nat.le_refl _) _
    have y0 : Y.cell? ⟨w3.heap.size, 0, none⟩ = some (.int .i64 p) := by rw [hY]; simp [go_sem]
    have y1 : Y.cell? ⟨w3.heap.size, 1, none⟩ = some (.int .i64 q) := by rw [hY]; simp [go_sem]
    have z0 := (hby.cell (p := ⟨g, 0, none⟩) lz3).trans z0
    have z1 := (hby.cell (p := ⟨g, 1, none⟩) lz3).trans z1
    replace HB := hide (HB.out.trans (hby.mono HB.out.size))
    generalize w3.heap.size = g2 at *
    clear hY hby
    go_wp2_with (fail)
    go_ret
    exact ⟨by simp, HB.out⟩
end Go.Proofs.YtdolpeljengpaaaGreat
