/- RoofNames' walk, and the chapter's examples: law.go's rect and alive. -/
import Derived.Test.YtdolpeljengpaaaGreatPk9
import Derived.Test.YtdolpeljengpaaaGreatPk7
namespace Go.Proofs.YtdolpeljengpaaaGreat
open Go.RowKit
set_option linter.unusedVariables false
set_option linter.unusedSimpArgs false

theorem hR_val {l : List R4} {x y v : Int} (hc : checkF l = 0) (hb : -2000000 ≤ x ∧ x ≤ 2000000 ∧ -2000000 ≤ y ∧ y ≤ 2000000) (hv : highF (missF l) x y = v) : heightR l x y = (v, 0) := by
  unfold heightR
  rw [if_neg (by rw [hc]; simp), if_pos hb, height_eq hc (by omega) (by omega), hv]
theorem hR_bad {l : List R4} {x y k : Int} (hc : checkF l = k) (hk : k ≠ 0) : heightR l x y = (0, k) := by
  unfold heightR
  rw [hc, if_pos hk]
theorem hR_out {l : List R4} {x y : Int} (hc : checkF l = 0) (hb : ¬ (-2000000 ≤ x ∧ x ≤ 2000000 ∧ -2000000 ≤ y ∧ y ≤ 2000000)) : heightR l x y = (0, 2) := by
  unfold heightR
  rw [if_neg (by rw [hc]; simp), if_neg hb]
theorem hZ_val {l : List R4} {x y v : Int} (hc : checkF l = 0) (hx : -2000001 ≤ x ∧ x ≤ 2000001) (hy : -2000001 ≤ y ∧ y ≤ 2000001) (hv : highF (missF l) x y = v) : hZ l x y = v := (height_eq hc hx hy).trans hv
theorem sq_one {r : R4} {a b k : Int} (hk : 1 ≤ k) : sqIn [r] a b k ↔ (r.x0 ≤ a ∧ a + k ≤ r.x1) ∧ r.y0 ≤ b ∧ b + k ≤ r.y1 := by
  constructor
  · intro h
    obtain ⟨q, hq, h1⟩ := h a b (by omega) (by omega) (by omega) (by omega)
    obtain ⟨t, ht, h2⟩ := h (a + k - 1) (b + k - 1) (by omega) (by omega) (by omega) (by omega)
    rw [List.mem_singleton] at hq ht
    subst hq; subst ht
    unfold rin at h1 h2
    omega
  · intro h X Y a1 a2 a3 a4
    exact ⟨r, List.mem_singleton.2 rfl, by unfold rin; omega⟩
theorem peak_one {r : R4} (hc : checkF [r] = 0) : peakF [r] = (min (r.x1 - r.x0) (r.y1 - r.y0)).toNat := by
  have hv := (checkF_ok hc).2.1
  have hs := (check_rcan hc).apart
  obtain ⟨v1, v2, ⟨v3, v4⟩, ⟨v5, v6⟩, ⟨v7, v8⟩, v9, v10⟩ := hv r (List.mem_singleton.2 rfl)
  have hlt := fun (s : Nat) (h : s < 2000001) => @peak_lt [r] hv hs s h
  obtain ⟨k, hk⟩ : ∃ k : Nat, ((k : Nat) : Int) = min (r.x1 - r.x0) (r.y1 - r.y0) := ⟨(min (r.x1 - r.x0) (r.y1 - r.y0)).toNat, by omega⟩
  rw [← hk, Int.toNat_natCast]
  revert hlt
  generalize peakF [r] = P
  intro hlt
  have h1 : ¬ k < P := fun h => by
    obtain ⟨a, b, h⟩ := (hlt k (by omega)).1 h
    have := (sq_one (by omega)).1 h
    omega
  have h2 : k - 1 < P := (hlt (k - 1) (by omega)).2 ⟨r.x0, r.y0, (sq_one (by omega)).2 (by omega)⟩
  omega
theorem peakR_val {l : List R4} {n : Nat} (hc : checkF l = 0) (h : peakF l = n) : peakR l = ((n : Int), 0) := by
  unfold peakR
  rw [if_pos hc, h]
def triI (h : Int → Int → Int) (x y : Int) : Int := if (x + y) % 2 = 0 then 2 * h x y + 2 * h (x + 1) (y + 1) + h (x + 1) y + h x (y + 1) else h x y + h (x + 1) (y + 1) + 2 * h (x + 1) y + 2 * h x (y + 1)
def volI (h : Int → Int → Int) (H : R4) : Int := sumZ (fun x => sumZ (fun y => triI h x y) (2 * H.y0) (2 * H.y1 - 2 * H.y0).toNat) (2 * H.x0) (2 * H.x1 - 2 * H.x0).toNat
theorem volT_I {l : List R4} (hc : checkF l = 0) (hne : l ≠ []) : volT l = volI (highF (missF l)) (hullL l) := by
  obtain ⟨⟨a1, a2, a3⟩, b1, b2, b3⟩ := hull_in hc hne
  unfold volT rowT volI
  refine sumZ_congr fun x q1 q2 => ?_
  unfold colT
  refine sumZ_congr fun y q3 q4 => ?_
  unfold triT triH triI
  rw [height_eq hc (by omega) (by omega), height_eq hc (by omega) (by omega), height_eq hc (by omega) (by omega), height_eq hc (by omega) (by omega)]
theorem volR_val {l : List R4} {t : Int} {n d : Int} (hm : measF l = 0) (hv : volT l = t) (h1 : ((t.toNat : Nat) : Int) / ((Nat.gcd t.toNat 48 : Nat) : Int) = n) (h2 : ((48 : Nat) : Int) / ((Nat.gcd t.toNat 48 : Nat) : Int) = d) : volR l = ((n, d), 0) := by
  unfold volR volG
  rw [if_pos hm, hv, h1, h2]
theorem volR_bad {l : List R4} {k : Int} (hm : measF l = k) (hk : k ≠ 0) : volR l = ((0, 0), k) := by
  unfold volR
  rw [hm, if_neg hk]
theorem fallsR_val {l : List R4} {x y h a b c d v : Int} (hc : checkF l = 0) (hb : -2000000 ≤ x ∧ x ≤ 2000000 ∧ -2000000 ≤ y ∧ y ≤ 2000000) (h0 : highF (missF l) x y = h) (ha : highF (missF l) (x + 1) y = a) (hb2 : highF (missF l) (x - 1) y = b) (hc2 : highF (missF l) x (y + 1) = c) (hd : highF (missF l) x (y - 1) = d)
    (hv : 0 + (if a < h then 1 else 0) + (if b < h then 2 else 0) + (if c < h then 4 else 0) + (if d < h then 8 else 0) = v) : fallsR l x y = (v, 0) := by
  obtain ⟨s0, s1, s2, s3, s4⟩ := falls_st (hZ l) x y
  unfold fallsR
  rw [hR_val hc hb h0]
  rw [s4, s3, s2, s1, s0, hZ_val hc (by omega) (by omega) h0, hZ_val hc (by omega) (by omega) ha, hZ_val hc (by omega) (by omega) hb2, hZ_val hc (by omega) (by omega) hc2, hZ_val hc (by omega) (by omega) hd, hv]
  rfl
theorem rect15_any (a b c d : Int) {w : World} : Calls Tryz.prog 41 #[.int .i64 a, .int .i64 b, .int .i64 c, .int .i64 d] w fun e w' => e = .returned (.slice (some ⟨w.heap.size, 0, none⟩) 1 1) ∧ RdK encR 4 w' w'.heap.size (.slice (some ⟨w.heap.size, 0, none⟩) 1 1) ([⟨a, b, c, d⟩] : List R4) ∧ Below w.heap.size w w' := by
  go_enter Tryz.func41, Tryz.ntmps41
  go_wp2
  go_ret
  refine ⟨rfl, ?_, (Below.refl _ _).alloc (Nat.le_refl _) _⟩
  have ho : (w.alloc (.cells #[.int .i64 a, .int .i64 b, .int .i64 c, .int .i64 d] 69)).ownsRow w.heap.size 69 4 (.slice (some ⟨w.heap.size, 0, none⟩) 1 1) 1 (([⟨a, b, c, d⟩] : List R4).flatMap encR) :=
    ⟨by simp [encR], .inr ⟨w.heap.size, 1, _, rfl, Nat.le_refl _, World.alloc_heap_new _ _, Nat.le_refl _, by simp [maxLen], by simp [encR], by simp [encR]⟩⟩
  exact own_rd (l := ([⟨a, b, c, d⟩] : List R4)) ho (fun _ => rfl)
theorem rk0 : checkF ([⟨0, 0, 2, 2⟩] : List R4) = 0 := by kernel_rfl
theorem rk1 : volT ([⟨0, 0, 2, 2⟩] : List R4) = 64 := (volT_I rk0 (by simp)).trans (by kernel_rfl)
theorem rk2 : measF ([⟨0, 0, 2, 2⟩] : List R4) = 0 := by kernel_rfl
theorem rk3 : checkF ([⟨0, 0, 4, 2⟩] : List R4) = 0 := by kernel_rfl
theorem rk4 : highF (missF ([⟨0, 0, 4, 2⟩] : List R4)) 2 2 = 2 := by kernel_rfl
theorem rk5 : highF (missF ([⟨0, 0, 4, 2⟩] : List R4)) 6 2 = 2 := by kernel_rfl
theorem rk6 : volT ([⟨0, 0, 4, 2⟩] : List R4) = 160 := (volT_I rk3 (by simp)).trans (by kernel_rfl)
theorem rk7 : measF ([⟨0, 0, 4, 2⟩] : List R4) = 0 := by kernel_rfl
theorem rk8 : highF (missF ([⟨0, 0, 2, 2⟩] : List R4)) 1 2 = 1 := by kernel_rfl
theorem rk9 : highF (missF ([⟨0, 0, 2, 2⟩] : List R4)) 2 2 = 2 := by kernel_rfl
theorem rk10 : highF (missF ([⟨0, 0, 2, 2⟩] : List R4)) 0 2 = 0 := by kernel_rfl
theorem rk11 : highF (missF ([⟨0, 0, 2, 2⟩] : List R4)) 1 3 = 1 := by kernel_rfl
theorem rk12 : highF (missF ([⟨0, 0, 2, 2⟩] : List R4)) 1 1 = 1 := by kernel_rfl
theorem rk13 : checkF ([⟨(-1000000), (-1000000), 1000000, 1000000⟩] : List R4) = 0 := by kernel_rfl
theorem rk14 : highF (missF ([⟨(-1000000), (-1000000), 1000000, 1000000⟩] : List R4)) 0 0 = 2000000 := by kernel_rfl
theorem rk15 : measF ([⟨0, 0, 201, 1⟩] : List R4) = 16 := by kernel_rfl
theorem rk16 : measF ([⟨(-201), 0, 0, 1⟩] : List R4) = 16 := by kernel_rfl
theorem rk17 : highF (missF ([⟨(-1000000), (-1000000), 1000000, 1000000⟩] : List R4)) 2000000 2000000 = 0 := by kernel_rfl
theorem rk18 : checkF ([⟨0, 0, 0, 0⟩] : List R4) = 8 := by kernel_rfl
theorem rk19 : checkF ([] : List R4) = 0 := by kernel_rfl
theorem rk20 : volT ([] : List R4) = 0 := by kernel_rfl
theorem rk21 : measF ([] : List R4) = 0 := by kernel_rfl
theorem rk22 : levN (levS ([] : List R4)) 0 := ⟨by kernel_rfl, fun d hd => by
  have h : False := by omega
  exact h.elim⟩
theorem rk24 : checkF ([⟨0, 0, 1, 1⟩] : List R4) = 0 := by kernel_rfl
theorem rk23 : volT ([⟨0, 0, 1, 1⟩] : List R4) = 8 := (volT_I rk24 (by simp)).trans (by kernel_rfl)
theorem rk25 : measF ([⟨0, 0, 1, 1⟩] : List R4) = 0 := by kernel_rfl
theorem rk26 : levN (levS ([⟨0, 0, 5, 6⟩] : List R4)) 3 := ⟨by kernel_rfl, fun d hd => by
  have h : d = 0 ∨ d = 1 ∨ d = 2 := by omega
  rcases h with rfl | rfl | rfl
  all_goals (intro h; have := congrArg List.length h; revert this; exact of_decide_eq_true (by kernel_rfl))⟩
theorem rk27 : checkF ([⟨0, 0, 5, 6⟩] : List R4) = 0 := by kernel_rfl
theorem rk28 : measF ([⟨0, 0, 5, 6⟩] : List R4) = 0 := by kernel_rfl
theorem rk29 : checkF ([⟨0, 0, 3, 3⟩] : List R4) = 0 := by kernel_rfl
theorem rk30 : highF (missF ([⟨0, 0, 3, 3⟩] : List R4)) 3 3 = 3 := by kernel_rfl
theorem rk31 : highF (missF ([⟨0, 0, 3, 3⟩] : List R4)) 4 3 = 2 := by kernel_rfl
theorem rk32 : highF (missF ([⟨0, 0, 3, 3⟩] : List R4)) 2 3 = 2 := by kernel_rfl
theorem rk33 : highF (missF ([⟨0, 0, 3, 3⟩] : List R4)) 3 4 = 2 := by kernel_rfl
theorem rk34 : highF (missF ([⟨0, 0, 3, 3⟩] : List R4)) 3 2 = 2 := by kernel_rfl
set_option maxRecDepth 100000 in
set_option maxHeartbeats 8000000 in
theorem alive15_any (w : World) : Calls Tryz.prog 44 #[] w fun e w' => e = .returned (.bool true) ∧ Below w.heap.size w w' := by
  have N1 := hide (fun (W : World) (v : Value) (h : RdK encR 4 W W.heap.size v ([⟨0, 0, 2, 2⟩] : List R4)) => by have := oPeak_any h (by simp); rw [peakR_val rk0 (peak_one rk0)] at this; exact this)
  have N2 := hide (fun (W : World) (v : Value) (h : RdK encR 4 W W.heap.size v ([⟨0, 0, 2, 2⟩] : List R4)) => by have := oVolume_any h (by simp) (fun _ => ⟨by simp, fun r hr => by simp at hr; try (subst hr; simp [near4])⟩); rw [volR_val (n := 4) (d := 3) rk2 rk1 (by kernel_rfl) (by kernel_rfl)] at this; exact this)
  have N3 := hide (fun (W : World) (v : Value) (h : RdK encR 4 W W.heap.size v ([⟨0, 0, 4, 2⟩] : List R4)) => by have := roofHeight_any h (by simp) 2 2 (by omega) (by omega); rw [hR_val rk3 (by omega) rk4] at this; exact this)
  have N4 := hide (fun (W : World) (v : Value) (h : RdK encR 4 W W.heap.size v ([⟨0, 0, 4, 2⟩] : List R4)) => by have := roofHeight_any h (by simp) 6 2 (by omega) (by omega); rw [hR_val rk3 (by omega) rk5] at this; exact this)
  have N5 := hide (fun (W : World) (v : Value) (h : RdK encR 4 W W.heap.size v ([⟨0, 0, 4, 2⟩] : List R4)) => by have := oVolume_any h (by simp) (fun _ => ⟨by simp, fun r hr => by simp at hr; try (subst hr; simp [near4])⟩); rw [volR_val (n := 10) (d := 3) rk7 rk6 (by kernel_rfl) (by kernel_rfl)] at this; exact this)
  have N6 := hide (fun (W : World) (v : Value) (h : RdK encR 4 W W.heap.size v ([⟨0, 0, 2, 2⟩] : List R4)) => by have := roofFalls_any h (by simp) 1 2 (by omega) (by omega); rw [fallsR_val (v := 2) rk0 (by omega) rk8 rk9 rk10 rk11 rk12 (by decide)] at this; exact this)
  have HB := hide (Below.refl w.heap.size w)
  go_enter Tryz.func44, Tryz.ntmps44
  go_wp2_with (fail)
  refine (rect15_any 0 0 2 2).mono ?_
  rintro e w1 ⟨rfl, hr, hb⟩
  replace HB := hide (HB.out.trans (hb.mono HB.out.size))
  have HR1 := hide hr
  clear hb hr
  go_wp2_with (fail)
  refine (N1.out _ _ HR1.out).mono ?_
  rintro e w2 ⟨rfl, hb⟩
  replace HB := hide (HB.out.trans (hb.mono HB.out.size))
  replace HR1 := hide ((HR1.out.below hb).mono hb.size)
  clear hb N1
  clear HR1
  go_wp2_with (fail)
  refine (rect15_any 0 0 2 2).mono ?_
  rintro e w3 ⟨rfl, hr, hb⟩
  replace HB := hide (HB.out.trans (hb.mono HB.out.size))
  have HR3 := hide hr
  clear hb hr
  go_wp2_with (fail)
  refine (N2.out _ _ HR3.out).mono ?_
  rintro e w4 ⟨rfl, hb⟩
  replace HB := hide (HB.out.trans (hb.mono HB.out.size))
  replace HR3 := hide ((HR3.out.below hb).mono hb.size)
  clear hb N2
  clear HR3
  go_upto_region 3 with fail
  refine wp_name fun w5 hZ => ?_
  have hb : Below w4.heap.size w4 w5 := by rw [hZ]; exact (Below.refl _ _).alloc (Nat.le_refl _) _
  have z0 : w5.cell? ⟨w4.heap.size, 0, none⟩ = some (.int .i64 4) := by rw [hZ]; simp [go_sem]
  have z1 : w5.cell? ⟨w4.heap.size, 1, none⟩ = some (.int .i64 3) := by rw [hZ]; simp [go_sem]
  have lz : w4.heap.size < w5.heap.size := by rw [hZ]; simp
  replace HB := hide (HB.out.trans (hb.mono HB.out.size))
  have HX5 := hide (And.intro z0 (And.intro z1 lz))
  clear hZ hb z0 z1 lz
  generalize w4.heap.size = g5 at *
  go_wp2_with (fail)
  refine (rect15_any 0 0 4 2).mono ?_
  rintro e w6 ⟨rfl, hr, hb⟩
  replace HB := hide (HB.out.trans (hb.mono HB.out.size))
  replace HX5 := hide (And.intro ((hb.cell (p := ⟨g5, 0, none⟩) HX5.out.2.2).trans HX5.out.1) (And.intro ((hb.cell (p := ⟨g5, 1, none⟩) HX5.out.2.2).trans HX5.out.2.1) (Nat.lt_of_lt_of_le HX5.out.2.2 hb.size)))
  have HR6 := hide hr
  clear hb hr
  go_wp2_with (fail)
  refine (N3.out _ _ HR6.out).mono ?_
  rintro e w7 ⟨rfl, hb⟩
  replace HB := hide (HB.out.trans (hb.mono HB.out.size))
  replace HR6 := hide ((HR6.out.below hb).mono hb.size)
  replace HX5 := hide (And.intro ((hb.cell (p := ⟨g5, 0, none⟩) HX5.out.2.2).trans HX5.out.1) (And.intro ((hb.cell (p := ⟨g5, 1, none⟩) HX5.out.2.2).trans HX5.out.2.1) (Nat.lt_of_lt_of_le HX5.out.2.2 hb.size)))
  clear hb N3
  clear HR6
  go_wp2_with (fail)
  refine (rect15_any 0 0 4 2).mono ?_
  rintro e w8 ⟨rfl, hr, hb⟩
  replace HB := hide (HB.out.trans (hb.mono HB.out.size))
  replace HX5 := hide (And.intro ((hb.cell (p := ⟨g5, 0, none⟩) HX5.out.2.2).trans HX5.out.1) (And.intro ((hb.cell (p := ⟨g5, 1, none⟩) HX5.out.2.2).trans HX5.out.2.1) (Nat.lt_of_lt_of_le HX5.out.2.2 hb.size)))
  have HR8 := hide hr
  clear hb hr
  go_wp2_with (fail)
  refine (N4.out _ _ HR8.out).mono ?_
  rintro e w9 ⟨rfl, hb⟩
  replace HB := hide (HB.out.trans (hb.mono HB.out.size))
  replace HR8 := hide ((HR8.out.below hb).mono hb.size)
  replace HX5 := hide (And.intro ((hb.cell (p := ⟨g5, 0, none⟩) HX5.out.2.2).trans HX5.out.1) (And.intro ((hb.cell (p := ⟨g5, 1, none⟩) HX5.out.2.2).trans HX5.out.2.1) (Nat.lt_of_lt_of_le HX5.out.2.2 hb.size)))
  clear hb N4
  clear HR8
  go_wp2_with (fail)
  refine (rect15_any 0 0 4 2).mono ?_
  rintro e w10 ⟨rfl, hr, hb⟩
  replace HB := hide (HB.out.trans (hb.mono HB.out.size))
  replace HX5 := hide (And.intro ((hb.cell (p := ⟨g5, 0, none⟩) HX5.out.2.2).trans HX5.out.1) (And.intro ((hb.cell (p := ⟨g5, 1, none⟩) HX5.out.2.2).trans HX5.out.2.1) (Nat.lt_of_lt_of_le HX5.out.2.2 hb.size)))
  have HR10 := hide hr
  clear hb hr
  go_wp2_with (fail)
  refine (N5.out _ _ HR10.out).mono ?_
  rintro e w11 ⟨rfl, hb⟩
  replace HB := hide (HB.out.trans (hb.mono HB.out.size))
  replace HR10 := hide ((HR10.out.below hb).mono hb.size)
  replace HX5 := hide (And.intro ((hb.cell (p := ⟨g5, 0, none⟩) HX5.out.2.2).trans HX5.out.1) (And.intro ((hb.cell (p := ⟨g5, 1, none⟩) HX5.out.2.2).trans HX5.out.2.1) (Nat.lt_of_lt_of_le HX5.out.2.2 hb.size)))
  clear hb N5
  clear HR10
  go_upto_region 6 with fail
  refine wp_name fun w12 hZ => ?_
  have hb : Below w11.heap.size w11 w12 := by rw [hZ]; exact (Below.refl _ _).alloc (Nat.le_refl _) _
  have z0 : w12.cell? ⟨w11.heap.size, 0, none⟩ = some (.int .i64 10) := by rw [hZ]; simp [go_sem]
  have z1 : w12.cell? ⟨w11.heap.size, 1, none⟩ = some (.int .i64 3) := by rw [hZ]; simp [go_sem]
  have lz : w11.heap.size < w12.heap.size := by rw [hZ]; simp
  replace HB := hide (HB.out.trans (hb.mono HB.out.size))
  replace HX5 := hide (And.intro ((hb.cell (p := ⟨g5, 0, none⟩) HX5.out.2.2).trans HX5.out.1) (And.intro ((hb.cell (p := ⟨g5, 1, none⟩) HX5.out.2.2).trans HX5.out.2.1) (Nat.lt_of_lt_of_le HX5.out.2.2 hb.size)))
  have HX12 := hide (And.intro z0 (And.intro z1 lz))
  clear hZ hb z0 z1 lz
  generalize w11.heap.size = g12 at *
  go_wp2_with (fail)
  refine (rect15_any 0 0 2 2).mono ?_
  rintro e w13 ⟨rfl, hr, hb⟩
  replace HB := hide (HB.out.trans (hb.mono HB.out.size))
  replace HX5 := hide (And.intro ((hb.cell (p := ⟨g5, 0, none⟩) HX5.out.2.2).trans HX5.out.1) (And.intro ((hb.cell (p := ⟨g5, 1, none⟩) HX5.out.2.2).trans HX5.out.2.1) (Nat.lt_of_lt_of_le HX5.out.2.2 hb.size)))
  replace HX12 := hide (And.intro ((hb.cell (p := ⟨g12, 0, none⟩) HX12.out.2.2).trans HX12.out.1) (And.intro ((hb.cell (p := ⟨g12, 1, none⟩) HX12.out.2.2).trans HX12.out.2.1) (Nat.lt_of_lt_of_le HX12.out.2.2 hb.size)))
  have HR13 := hide hr
  clear hb hr
  go_wp2_with (fail)
  refine (N6.out _ _ HR13.out).mono ?_
  rintro e w14 ⟨rfl, hb⟩
  replace HB := hide (HB.out.trans (hb.mono HB.out.size))
  replace HR13 := hide ((HR13.out.below hb).mono hb.size)
  replace HX5 := hide (And.intro ((hb.cell (p := ⟨g5, 0, none⟩) HX5.out.2.2).trans HX5.out.1) (And.intro ((hb.cell (p := ⟨g5, 1, none⟩) HX5.out.2.2).trans HX5.out.2.1) (Nat.lt_of_lt_of_le HX5.out.2.2 hb.size)))
  replace HX12 := hide (And.intro ((hb.cell (p := ⟨g12, 0, none⟩) HX12.out.2.2).trans HX12.out.1) (And.intro ((hb.cell (p := ⟨g12, 1, none⟩) HX12.out.2.2).trans HX12.out.2.1) (Nat.lt_of_lt_of_le HX12.out.2.2 hb.size)))
  clear hb N6
  clear HR13
  obtain ⟨e0a, e0b, e0c⟩ := HX5.out
  obtain ⟨e1a, e1b, e1c⟩ := HX12.out
  go_wp2_with (fail)
  go_ret
  exact ⟨rfl, HB.out⟩
set_option maxRecDepth 100000 in
set_option maxHeartbeats 8000000 in
theorem rnames_walk (w : World) : Calls Tryz.prog 8 #[] w fun e w' => e = .returned (.bool true) ∧ Below w.heap.size w w' := by
  have N7 := hide (fun (W : World) (v : Value) (h : RdK encR 4 W W.heap.size v ([⟨(-1000000), (-1000000), 1000000, 1000000⟩] : List R4)) => by have := roofHeight_any h (by simp) 0 0 (by omega) (by omega); rw [hR_val rk13 (by omega) rk14] at this; exact this)
  have N8 := hide (fun (W : World) (v : Value) (h : RdK encR 4 W W.heap.size v ([⟨(-1000000), (-1000000), 1000000, 1000000⟩] : List R4)) => by have := oPeak_any h (by simp); rw [peakR_val rk13 (peak_one rk13)] at this; exact this)
  have N9 : Hid (∀ (W : World) (v : Value), RdK encR 4 W W.heap.size v ([⟨0, 0, 201, 1⟩] : List R4) → Calls Tryz.prog 37 #[v] W fun e w' => (∃ A c, e = .returned (.tuple #[.slice A 0 c, .int .i64 16])) ∧ Below W.heap.size W w') := hide (fun W v h => by
    have hv : levR ([⟨0, 0, 201, 1⟩] : List R4) 0 = ([], 16) := by unfold levR; rw [if_neg (by rw [rk15]; omega), rk15]
    refine (oLevels_any h (by simp) (N := 0) (fun h => by rw [rk15] at h; omega)).mono ?_
    rintro e w' ⟨⟨A, c, vs, h1, _, _⟩, h4⟩
    rw [hv] at h1; exact ⟨⟨A, c, h1⟩, h4⟩)
  have N10 := hide (fun (W : World) (v : Value) (h : RdK encR 4 W W.heap.size v ([⟨(-201), 0, 0, 1⟩] : List R4)) => by have := oVolume_any h (by simp) (fun h => by rw [rk16] at h; omega); rw [volR_bad rk16 (by omega)] at this; exact this)
  have N11 := hide (fun (W : World) (v : Value) (h : RdK encR 4 W W.heap.size v ([⟨(-1000000), (-1000000), 1000000, 1000000⟩] : List R4)) => by have := roofHeight_any h (by simp) 2000001 0 (by omega) (by omega); rw [hR_out (x := 2000001) (y := 0) rk13 (by omega)] at this; exact this)
  have N12 := hide (fun (W : World) (v : Value) (h : RdK encR 4 W W.heap.size v ([⟨(-1000000), (-1000000), 1000000, 1000000⟩] : List R4)) => by have := roofHeight_any h (by simp) 2000000 2000000 (by omega) (by omega); rw [hR_val rk13 (by omega) rk17] at this; exact this)
  have N13 := hide (fun (W : World) (v : Value) (h : RdK encR 4 W W.heap.size v ([⟨0, 0, 0, 0⟩] : List R4)) => by have := roofHeight_any h (by simp) 0 0 (by omega) (by omega); rw [hR_bad (x := 0) (y := 0) rk18 (by omega)] at this; exact this)
  have N14 := hide (fun (W : World) (v : Value) (h : RdK encR 4 W W.heap.size v ([] : List R4)) => by have := oPeak_any h (by simp); rw [peakR_val rk19 peak_nil] at this; exact this)
  have N15 := hide (fun (W : World) (v : Value) (h : RdK encR 4 W W.heap.size v ([] : List R4)) => by have := oVolume_any h (by simp) (fun _ => ⟨by simp, fun r hr => by simp at hr; try (subst hr; simp [near4])⟩); rw [volR_val (n := 0) (d := 1) rk21 rk20 (by kernel_rfl) (by kernel_rfl)] at this; exact this)
  have N16 : Hid (∀ (W : World) (v : Value), RdK encR 4 W W.heap.size v ([] : List R4) → Calls Tryz.prog 37 #[v] W fun e w' => (∃ A c, e = .returned (.tuple #[.slice A 0 c, .int .i64 0])) ∧ Below W.heap.size W w') := hide (fun W v h => by
    have hv : (levR ([] : List R4) 0).1.length = 0 ∧ (levR ([] : List R4) 0).2 = 0 := by unfold levR; rw [if_pos rk21]; simp
    refine (oLevels_any h (by simp) (N := 0) (fun _ => ⟨by simp, by omega, rk22, fun d hd => (near_shr rk19 (by simp) (m := 25) (fun r hr => by simp at hr; try (subst hr; simp [near4])) d (by omega)).1⟩)).mono ?_
    rintro e w' ⟨⟨A, c, vs, h1, _, _⟩, h4⟩
    rw [hv.1, hv.2] at h1; exact ⟨⟨A, c, h1⟩, h4⟩)
  have N17 := hide (fun (W : World) (v : Value) (h : RdK encR 4 W W.heap.size v ([⟨0, 0, 1, 1⟩] : List R4)) => by have := oVolume_any h (by simp) (fun _ => ⟨by simp, fun r hr => by simp at hr; try (subst hr; simp [near4])⟩); rw [volR_val (n := 1) (d := 6) rk25 rk23 (by kernel_rfl) (by kernel_rfl)] at this; exact this)
  have N18 : Hid (∀ (W : World) (v : Value), RdK encR 4 W W.heap.size v ([⟨0, 0, 5, 6⟩] : List R4) → Calls Tryz.prog 37 #[v] W fun e w' => (∃ A c, e = .returned (.tuple #[.slice A 3 c, .int .i64 0])) ∧ Below W.heap.size W w') := hide (fun W v h => by
    have hv : (levR ([⟨0, 0, 5, 6⟩] : List R4) 3).1.length = 3 ∧ (levR ([⟨0, 0, 5, 6⟩] : List R4) 3).2 = 0 := by unfold levR; rw [if_pos rk28]; simp
    refine (oLevels_any h (by simp) (N := 3) (fun _ => ⟨by simp, by omega, rk26, fun d hd => (near_shr rk27 (by simp) (m := 25) (fun r hr => by simp at hr; try (subst hr; simp [near4])) d (by omega)).1⟩)).mono ?_
    rintro e w' ⟨⟨A, c, vs, h1, _, _⟩, h4⟩
    rw [hv.1, hv.2] at h1; exact ⟨⟨A, c, h1⟩, h4⟩)
  have N19 := hide (fun (W : World) (v : Value) (h : RdK encR 4 W W.heap.size v ([⟨0, 0, 3, 3⟩] : List R4)) => by have := roofFalls_any h (by simp) 3 3 (by omega) (by omega); rw [fallsR_val (v := 15) rk29 (by omega) rk30 rk31 rk32 rk33 rk34 (by decide)] at this; exact this)
  have HB := hide (Below.refl w.heap.size w)
  go_enter Tryz.func8, Tryz.ntmps8
  go_wp2_with (fail)
  refine (rect15_any (-1000000) (-1000000) 1000000 1000000).mono ?_
  rintro e w1 ⟨rfl, hr, hb⟩
  replace HB := hide (HB.out.trans (hb.mono HB.out.size))
  have HR1 := hide hr
  clear hb hr
  go_wp2_with (fail)
  refine (N7.out _ _ HR1.out).mono ?_
  rintro e w2 ⟨rfl, hb⟩
  replace HB := hide (HB.out.trans (hb.mono HB.out.size))
  replace HR1 := hide ((HR1.out.below hb).mono hb.size)
  clear hb N7
  go_wp2_with (fail)
  refine (N8.out _ _ HR1.out).mono ?_
  rintro e w3 ⟨rfl, hb⟩
  replace HB := hide (HB.out.trans (hb.mono HB.out.size))
  replace HR1 := hide ((HR1.out.below hb).mono hb.size)
  clear hb N8
  go_wp2_with (fail)
  refine (rect15_any 0 0 201 1).mono ?_
  rintro e w4 ⟨rfl, hr, hb⟩
  replace HB := hide (HB.out.trans (hb.mono HB.out.size))
  replace HR1 := hide ((HR1.out.below hb).mono hb.size)
  have HR4 := hide hr
  clear hb hr
  go_wp2_with (fail)
  refine (N9.out _ _ HR4.out).mono ?_
  rintro e w5 ⟨⟨A5, c5, rfl⟩, hb⟩
  replace HB := hide (HB.out.trans (hb.mono HB.out.size))
  replace HR1 := hide ((HR1.out.below hb).mono hb.size)
  replace HR4 := hide ((HR4.out.below hb).mono hb.size)
  clear hb N9
  clear HR4
  go_wp2_with (fail)
  refine (rect15_any (-201) 0 0 1).mono ?_
  rintro e w6 ⟨rfl, hr, hb⟩
  replace HB := hide (HB.out.trans (hb.mono HB.out.size))
  replace HR1 := hide ((HR1.out.below hb).mono hb.size)
  have HR6 := hide hr
  clear hb hr
  go_wp2_with (fail)
  refine (N10.out _ _ HR6.out).mono ?_
  rintro e w7 ⟨rfl, hb⟩
  replace HB := hide (HB.out.trans (hb.mono HB.out.size))
  replace HR1 := hide ((HR1.out.below hb).mono hb.size)
  replace HR6 := hide ((HR6.out.below hb).mono hb.size)
  clear hb N10
  clear HR6
  go_upto_region 6 with fail
  refine wp_name fun w8 hZ => ?_
  have hb : Below w7.heap.size w7 w8 := by rw [hZ]; exact (Below.refl _ _).alloc (Nat.le_refl _) _
  have z0 : w8.cell? ⟨w7.heap.size, 0, none⟩ = some (.int .i64 0) := by rw [hZ]; simp [go_sem]
  have z1 : w8.cell? ⟨w7.heap.size, 1, none⟩ = some (.int .i64 0) := by rw [hZ]; simp [go_sem]
  have lz : w7.heap.size < w8.heap.size := by rw [hZ]; simp
  replace HB := hide (HB.out.trans (hb.mono HB.out.size))
  replace HR1 := hide ((HR1.out.below hb).mono hb.size)
  have HX8 := hide (And.intro z0 (And.intro z1 lz))
  clear hZ hb z0 z1 lz
  generalize w7.heap.size = g8 at *
  go_wp2_with (fail)
  refine (N11.out _ _ HR1.out).mono ?_
  rintro e w9 ⟨rfl, hb⟩
  replace HB := hide (HB.out.trans (hb.mono HB.out.size))
  replace HR1 := hide ((HR1.out.below hb).mono hb.size)
  replace HX8 := hide (And.intro ((hb.cell (p := ⟨g8, 0, none⟩) HX8.out.2.2).trans HX8.out.1) (And.intro ((hb.cell (p := ⟨g8, 1, none⟩) HX8.out.2.2).trans HX8.out.2.1) (Nat.lt_of_lt_of_le HX8.out.2.2 hb.size)))
  clear hb N11
  go_wp2_with (fail)
  refine (N12.out _ _ HR1.out).mono ?_
  rintro e w10 ⟨rfl, hb⟩
  replace HB := hide (HB.out.trans (hb.mono HB.out.size))
  replace HR1 := hide ((HR1.out.below hb).mono hb.size)
  replace HX8 := hide (And.intro ((hb.cell (p := ⟨g8, 0, none⟩) HX8.out.2.2).trans HX8.out.1) (And.intro ((hb.cell (p := ⟨g8, 1, none⟩) HX8.out.2.2).trans HX8.out.2.1) (Nat.lt_of_lt_of_le HX8.out.2.2 hb.size)))
  clear hb N12
  clear HR1
  go_wp2_with (fail)
  obtain ⟨w11, hwa⟩ : ∃ x, x = w10.alloc (.cells #[.int .i64 0, .int .i64 0, .int .i64 0, .int .i64 0] 69) := ⟨_, rfl⟩
  rw [← hwa]
  have hb : Below w10.heap.size w10 w11 := by rw [hwa]; exact (Below.refl _ _).alloc (Nat.le_refl _) _
  have HZ := hide (show RdK encR 4 w11 w11.heap.size (.slice (some ⟨w10.heap.size, 0, none⟩) 1 1) ([⟨0, 0, 0, 0⟩] : List R4) from by rw [hwa]; exact rd_lit w10 ([⟨0, 0, 0, 0⟩] : List R4) _ _)
  replace HB := hide (HB.out.trans (hb.mono HB.out.size))
  replace HX8 := hide (And.intro ((hb.cell (p := ⟨g8, 0, none⟩) HX8.out.2.2).trans HX8.out.1) (And.intro ((hb.cell (p := ⟨g8, 1, none⟩) HX8.out.2.2).trans HX8.out.2.1) (Nat.lt_of_lt_of_le HX8.out.2.2 hb.size)))
  clear hb hwa
  refine (N13.out _ _ HZ.out).mono ?_
  rintro e w12 ⟨rfl, hb⟩
  replace HB := hide (HB.out.trans (hb.mono HB.out.size))
  replace HX8 := hide (And.intro ((hb.cell (p := ⟨g8, 0, none⟩) HX8.out.2.2).trans HX8.out.1) (And.intro ((hb.cell (p := ⟨g8, 1, none⟩) HX8.out.2.2).trans HX8.out.2.1) (Nat.lt_of_lt_of_le HX8.out.2.2 hb.size)))
  clear hb N13 HZ
  go_wp2_with (fail)
  refine (N14.out _ _ ⟨none, 0, rfl, fun h => absurd rfl h⟩).mono ?_
  rintro e w13 ⟨rfl, hb⟩
  replace HB := hide (HB.out.trans (hb.mono HB.out.size))
  replace HX8 := hide (And.intro ((hb.cell (p := ⟨g8, 0, none⟩) HX8.out.2.2).trans HX8.out.1) (And.intro ((hb.cell (p := ⟨g8, 1, none⟩) HX8.out.2.2).trans HX8.out.2.1) (Nat.lt_of_lt_of_le HX8.out.2.2 hb.size)))
  clear hb N14
  go_wp2_with (fail)
  refine (N15.out _ _ ⟨none, 0, rfl, fun h => absurd rfl h⟩).mono ?_
  rintro e w14 ⟨rfl, hb⟩
  replace HB := hide (HB.out.trans (hb.mono HB.out.size))
  replace HX8 := hide (And.intro ((hb.cell (p := ⟨g8, 0, none⟩) HX8.out.2.2).trans HX8.out.1) (And.intro ((hb.cell (p := ⟨g8, 1, none⟩) HX8.out.2.2).trans HX8.out.2.1) (Nat.lt_of_lt_of_le HX8.out.2.2 hb.size)))
  clear hb N15
  go_upto_region 11 with fail
  refine wp_name fun w15 hZ => ?_
  have hb : Below w14.heap.size w14 w15 := by rw [hZ]; exact (Below.refl _ _).alloc (Nat.le_refl _) _
  have z0 : w15.cell? ⟨w14.heap.size, 0, none⟩ = some (.int .i64 0) := by rw [hZ]; simp [go_sem]
  have z1 : w15.cell? ⟨w14.heap.size, 1, none⟩ = some (.int .i64 1) := by rw [hZ]; simp [go_sem]
  have lz : w14.heap.size < w15.heap.size := by rw [hZ]; simp
  replace HB := hide (HB.out.trans (hb.mono HB.out.size))
  replace HX8 := hide (And.intro ((hb.cell (p := ⟨g8, 0, none⟩) HX8.out.2.2).trans HX8.out.1) (And.intro ((hb.cell (p := ⟨g8, 1, none⟩) HX8.out.2.2).trans HX8.out.2.1) (Nat.lt_of_lt_of_le HX8.out.2.2 hb.size)))
  have HX15 := hide (And.intro z0 (And.intro z1 lz))
  clear hZ hb z0 z1 lz
  generalize w14.heap.size = g15 at *
  go_wp2_with (fail)
  refine (N16.out _ _ ⟨none, 0, rfl, fun h => absurd rfl h⟩).mono ?_
  rintro e w16 ⟨⟨A6, c6, rfl⟩, hb⟩
  replace HB := hide (HB.out.trans (hb.mono HB.out.size))
  replace HX8 := hide (And.intro ((hb.cell (p := ⟨g8, 0, none⟩) HX8.out.2.2).trans HX8.out.1) (And.intro ((hb.cell (p := ⟨g8, 1, none⟩) HX8.out.2.2).trans HX8.out.2.1) (Nat.lt_of_lt_of_le HX8.out.2.2 hb.size)))
  replace HX15 := hide (And.intro ((hb.cell (p := ⟨g15, 0, none⟩) HX15.out.2.2).trans HX15.out.1) (And.intro ((hb.cell (p := ⟨g15, 1, none⟩) HX15.out.2.2).trans HX15.out.2.1) (Nat.lt_of_lt_of_le HX15.out.2.2 hb.size)))
  clear hb N16
  go_wp2_with (fail)
  refine (rect15_any 0 0 1 1).mono ?_
  rintro e w17 ⟨rfl, hr, hb⟩
  replace HB := hide (HB.out.trans (hb.mono HB.out.size))
  replace HX8 := hide (And.intro ((hb.cell (p := ⟨g8, 0, none⟩) HX8.out.2.2).trans HX8.out.1) (And.intro ((hb.cell (p := ⟨g8, 1, none⟩) HX8.out.2.2).trans HX8.out.2.1) (Nat.lt_of_lt_of_le HX8.out.2.2 hb.size)))
  replace HX15 := hide (And.intro ((hb.cell (p := ⟨g15, 0, none⟩) HX15.out.2.2).trans HX15.out.1) (And.intro ((hb.cell (p := ⟨g15, 1, none⟩) HX15.out.2.2).trans HX15.out.2.1) (Nat.lt_of_lt_of_le HX15.out.2.2 hb.size)))
  have HR17 := hide hr
  clear hb hr
  go_wp2_with (fail)
  refine (N17.out _ _ HR17.out).mono ?_
  rintro e w18 ⟨rfl, hb⟩
  replace HB := hide (HB.out.trans (hb.mono HB.out.size))
  replace HR17 := hide ((HR17.out.below hb).mono hb.size)
  replace HX8 := hide (And.intro ((hb.cell (p := ⟨g8, 0, none⟩) HX8.out.2.2).trans HX8.out.1) (And.intro ((hb.cell (p := ⟨g8, 1, none⟩) HX8.out.2.2).trans HX8.out.2.1) (Nat.lt_of_lt_of_le HX8.out.2.2 hb.size)))
  replace HX15 := hide (And.intro ((hb.cell (p := ⟨g15, 0, none⟩) HX15.out.2.2).trans HX15.out.1) (And.intro ((hb.cell (p := ⟨g15, 1, none⟩) HX15.out.2.2).trans HX15.out.2.1) (Nat.lt_of_lt_of_le HX15.out.2.2 hb.size)))
  clear hb N17
  clear HR17
  go_upto_region 13 with fail
  refine wp_name fun w19 hZ => ?_
  have hb : Below w18.heap.size w18 w19 := by rw [hZ]; exact (Below.refl _ _).alloc (Nat.le_refl _) _
  have z0 : w19.cell? ⟨w18.heap.size, 0, none⟩ = some (.int .i64 1) := by rw [hZ]; simp [go_sem]
  have z1 : w19.cell? ⟨w18.heap.size, 1, none⟩ = some (.int .i64 6) := by rw [hZ]; simp [go_sem]
  have lz : w18.heap.size < w19.heap.size := by rw [hZ]; simp
  replace HB := hide (HB.out.trans (hb.mono HB.out.size))
  replace HX8 := hide (And.intro ((hb.cell (p := ⟨g8, 0, none⟩) HX8.out.2.2).trans HX8.out.1) (And.intro ((hb.cell (p := ⟨g8, 1, none⟩) HX8.out.2.2).trans HX8.out.2.1) (Nat.lt_of_lt_of_le HX8.out.2.2 hb.size)))
  replace HX15 := hide (And.intro ((hb.cell (p := ⟨g15, 0, none⟩) HX15.out.2.2).trans HX15.out.1) (And.intro ((hb.cell (p := ⟨g15, 1, none⟩) HX15.out.2.2).trans HX15.out.2.1) (Nat.lt_of_lt_of_le HX15.out.2.2 hb.size)))
  have HX19 := hide (And.intro z0 (And.intro z1 lz))
  clear hZ hb z0 z1 lz
  generalize w18.heap.size = g19 at *
  go_wp2_with (fail)
  refine (rect15_any 0 0 5 6).mono ?_
  rintro e w20 ⟨rfl, hr, hb⟩
  replace HB := hide (HB.out.trans (hb.mono HB.out.size))
  replace HX8 := hide (And.intro ((hb.cell (p := ⟨g8, 0, none⟩) HX8.out.2.2).trans HX8.out.1) (And.intro ((hb.cell (p := ⟨g8, 1, none⟩) HX8.out.2.2).trans HX8.out.2.1) (Nat.lt_of_lt_of_le HX8.out.2.2 hb.size)))
  replace HX15 := hide (And.intro ((hb.cell (p := ⟨g15, 0, none⟩) HX15.out.2.2).trans HX15.out.1) (And.intro ((hb.cell (p := ⟨g15, 1, none⟩) HX15.out.2.2).trans HX15.out.2.1) (Nat.lt_of_lt_of_le HX15.out.2.2 hb.size)))
  replace HX19 := hide (And.intro ((hb.cell (p := ⟨g19, 0, none⟩) HX19.out.2.2).trans HX19.out.1) (And.intro ((hb.cell (p := ⟨g19, 1, none⟩) HX19.out.2.2).trans HX19.out.2.1) (Nat.lt_of_lt_of_le HX19.out.2.2 hb.size)))
  have HR20 := hide hr
  clear hb hr
  go_wp2_with (fail)
  refine (N18.out _ _ HR20.out).mono ?_
  rintro e w21 ⟨⟨A7, c7, rfl⟩, hb⟩
  replace HB := hide (HB.out.trans (hb.mono HB.out.size))
  replace HR20 := hide ((HR20.out.below hb).mono hb.size)
  replace HX8 := hide (And.intro ((hb.cell (p := ⟨g8, 0, none⟩) HX8.out.2.2).trans HX8.out.1) (And.intro ((hb.cell (p := ⟨g8, 1, none⟩) HX8.out.2.2).trans HX8.out.2.1) (Nat.lt_of_lt_of_le HX8.out.2.2 hb.size)))
  replace HX15 := hide (And.intro ((hb.cell (p := ⟨g15, 0, none⟩) HX15.out.2.2).trans HX15.out.1) (And.intro ((hb.cell (p := ⟨g15, 1, none⟩) HX15.out.2.2).trans HX15.out.2.1) (Nat.lt_of_lt_of_le HX15.out.2.2 hb.size)))
  replace HX19 := hide (And.intro ((hb.cell (p := ⟨g19, 0, none⟩) HX19.out.2.2).trans HX19.out.1) (And.intro ((hb.cell (p := ⟨g19, 1, none⟩) HX19.out.2.2).trans HX19.out.2.1) (Nat.lt_of_lt_of_le HX19.out.2.2 hb.size)))
  clear hb N18
  clear HR20
  go_wp2_with (fail)
  refine (rect15_any 0 0 3 3).mono ?_
  rintro e w22 ⟨rfl, hr, hb⟩
  replace HB := hide (HB.out.trans (hb.mono HB.out.size))
  replace HX8 := hide (And.intro ((hb.cell (p := ⟨g8, 0, none⟩) HX8.out.2.2).trans HX8.out.1) (And.intro ((hb.cell (p := ⟨g8, 1, none⟩) HX8.out.2.2).trans HX8.out.2.1) (Nat.lt_of_lt_of_le HX8.out.2.2 hb.size)))
  replace HX15 := hide (And.intro ((hb.cell (p := ⟨g15, 0, none⟩) HX15.out.2.2).trans HX15.out.1) (And.intro ((hb.cell (p := ⟨g15, 1, none⟩) HX15.out.2.2).trans HX15.out.2.1) (Nat.lt_of_lt_of_le HX15.out.2.2 hb.size)))
  replace HX19 := hide (And.intro ((hb.cell (p := ⟨g19, 0, none⟩) HX19.out.2.2).trans HX19.out.1) (And.intro ((hb.cell (p := ⟨g19, 1, none⟩) HX19.out.2.2).trans HX19.out.2.1) (Nat.lt_of_lt_of_le HX19.out.2.2 hb.size)))
  have HR22 := hide hr
  clear hb hr
  go_wp2_with (fail)
  refine (N19.out _ _ HR22.out).mono ?_
  rintro e w23 ⟨rfl, hb⟩
  replace HB := hide (HB.out.trans (hb.mono HB.out.size))
  replace HR22 := hide ((HR22.out.below hb).mono hb.size)
  replace HX8 := hide (And.intro ((hb.cell (p := ⟨g8, 0, none⟩) HX8.out.2.2).trans HX8.out.1) (And.intro ((hb.cell (p := ⟨g8, 1, none⟩) HX8.out.2.2).trans HX8.out.2.1) (Nat.lt_of_lt_of_le HX8.out.2.2 hb.size)))
  replace HX15 := hide (And.intro ((hb.cell (p := ⟨g15, 0, none⟩) HX15.out.2.2).trans HX15.out.1) (And.intro ((hb.cell (p := ⟨g15, 1, none⟩) HX15.out.2.2).trans HX15.out.2.1) (Nat.lt_of_lt_of_le HX15.out.2.2 hb.size)))
  replace HX19 := hide (And.intro ((hb.cell (p := ⟨g19, 0, none⟩) HX19.out.2.2).trans HX19.out.1) (And.intro ((hb.cell (p := ⟨g19, 1, none⟩) HX19.out.2.2).trans HX19.out.2.1) (Nat.lt_of_lt_of_le HX19.out.2.2 hb.size)))
  clear hb N19
  clear HR22
  obtain ⟨e0a, e0b, e0c⟩ := HX8.out
  obtain ⟨e1a, e1b, e1c⟩ := HX15.out
  obtain ⟨e2a, e2b, e2c⟩ := HX19.out
  go_wp2_with (fail)
  refine (alive15_any _).mono ?_
  rintro e w24 ⟨rfl, hb⟩
  replace HB := hide (HB.out.trans (hb.mono HB.out.size))
  replace HX8 := hide (And.intro ((hb.cell (p := ⟨g8, 0, none⟩) HX8.out.2.2).trans HX8.out.1) (And.intro ((hb.cell (p := ⟨g8, 1, none⟩) HX8.out.2.2).trans HX8.out.2.1) (Nat.lt_of_lt_of_le HX8.out.2.2 hb.size)))
  replace HX15 := hide (And.intro ((hb.cell (p := ⟨g15, 0, none⟩) HX15.out.2.2).trans HX15.out.1) (And.intro ((hb.cell (p := ⟨g15, 1, none⟩) HX15.out.2.2).trans HX15.out.2.1) (Nat.lt_of_lt_of_le HX15.out.2.2 hb.size)))
  replace HX19 := hide (And.intro ((hb.cell (p := ⟨g19, 0, none⟩) HX19.out.2.2).trans HX19.out.1) (And.intro ((hb.cell (p := ⟨g19, 1, none⟩) HX19.out.2.2).trans HX19.out.2.1) (Nat.lt_of_lt_of_le HX19.out.2.2 hb.size)))
  clear e0a e0b e0c
  clear e1a e1b e1c
  clear e2a e2b e2c
  obtain ⟨e0a, e0b, e0c⟩ := HX8.out
  obtain ⟨e1a, e1b, e1c⟩ := HX15.out
  obtain ⟨e2a, e2b, e2c⟩ := HX19.out
  clear hb
  go_wp2_with (fail)
  go_ret
  exact ⟨rfl, HB.out⟩

end Go.Proofs.YtdolpeljengpaaaGreat
