/- RegionLooks' walk: Hull, Cross, Move and Flip against the reference. -/
import Derived.Test.YtamnaojheecopaaLookB
import Derived.Test.YtamnaojheecopaaLookH
import Derived.Test.YtamnaojheecopaaLawMakes
namespace Go.Proofs.Ytamnaojheecopaa
open Go.RowKit
set_option linter.unusedVariables false
set_option linter.unusedSimpArgs false

theorem rSameSpan {w : World} {v v' : Value} {l : List Sp} (h : RdK encS 2 w w.heap.size v l) (h' : RdK encS 2 w w.heap.size v' l) (hl : l.length ≤ 100000000) :
    Calls Try.prog 28 #[v, v'] w fun e w' => e = .returned (.bool true) ∧ Below w.heap.size w w' := by
  have := rSameS_any h h' hl (Nat.le_refl _) (Nat.le_refl _)
  rwa [decide_eq_true rfl] at this
theorem crossF_len (l : List R4) (x : Int) : (crossF l x).1.length ≤ 100000000 ∨ 400 < l.length := by
  by_cases h4 : 400 < l.length
  · exact .inr h4
  · left
    unfold crossF
    split
    · exact Nat.le_trans (crossL_len l x) (by omega)
    · simp
theorem moveF_len (l : List R4) (x y : Int) : (moveF l x y).1.length ≤ l.length := by
  unfold moveF
  split
  · split <;> simp
  · simp
theorem flipF_len (l : List R4) : (flipF l).1.length ≤ 400 := by
  unfold flipF
  split
  · unfold madeF
    split
    · simp
    · simp only; omega
  · simp

set_option maxRecDepth 100000 in
set_option maxHeartbeats 4000000 in
theorem looks_walk {w : World} {va : Value} {l : List R4} (hra : RdK encR 4 w w.heap.size va l) (la : l.length ≤ maxLen) (x y : Int) (hx : -9223372036854775808 ≤ x ∧ x ≤ 9223372036854775807) (hy : -9223372036854775808 ≤ y ∧ y ≤ 9223372036854775807) :
    Calls Try.prog 4 #[va, .int .i64 x, .int .i64 y] w fun e w' => e = .returned (.bool true) ∧ Below w.heap.size w w' := by
  have hA := hide hra
  obtain ⟨A1, c1, hva, _⟩ := hra
  subst hva
  have G1 := hide (fun W => rGreat_any A1 l.length c1 la W)
  by_cases h1 : greatP l.length
  · rw [decide_eq_true h1] at G1
    clear hx hy
    go_enter Try.func4, Try.ntmps4
    go_wp2_with (fail)
    refine (G1.out _).mono ?_
    rintro e wp ⟨rfl, rfl⟩
    go_wp2_with (fail)
    go_ret
    exact ⟨rfl, Below.refl _ _⟩
  rw [decide_eq_false h1] at G1
  have n1 := not_great h1
  have nC : (crossF l x).1.length ≤ 100000000 := by
    unfold crossF
    split
    · exact Nat.le_trans (crossL_len l x) (by omega)
    · simp
  have nM := moveF_len l x y
  have nF := flipF_len l
  have hh : ∀ (W : World) (v : Value), RdK encR 4 W W.heap.size v l → _ ∧ _ := fun W v h => And.intro (hull_any h (by omega)) (rHull_any h (by omega))
  have HM : Hid (∀ (W : World) (v : Value), RdK encR 4 W W.heap.size v l → _) := hide (fun W v h => rMove_any h (by omega) x y hx hy)
  clear h1 la hx hy
  generalize hullF l = P at *
  obtain ⟨⟨p0, p1, p2, p3⟩, hcode⟩ := P
  simp only [encR] at hh
  have HH := hide hh
  clear hh
  go_enter Try.func4, Try.ntmps4
  go_wp2_with (fail)
  refine (G1.out _).mono ?_
  rintro e wp ⟨rfl, rfl⟩
  have K0_0 := hide (Below.refl w.heap.size w)
  go_wp2_with (fail)
  refine ((HH.out _ _ hA.out).1).mono ?_
  rintro e w1 ⟨rfl, hb⟩
  have K0_1 := hide (K0_0.out.trans (hb.mono K0_0.out.size))
  clear hb
  go_wp2_with (fail)
  obtain ⟨w2, hwa⟩ : ∃ x, x = w1.alloc (.cells #[.int .i64 p0, .int .i64 p1, .int .i64 p2, .int .i64 p3] 43) := ⟨_, rfl⟩
  rw [← hwa]
  have hb : Below w1.heap.size w1 w2 := by rw [hwa]; exact (Below.refl _ _).alloc (Nat.le_refl _) _
  have L2 : w1.heap.size < w2.heap.size := by rw [hwa]; simp
  have B2_0 : Hid (w2.cell? ⟨w1.heap.size, 0, none⟩ = some (.int .i64 p0)) := hide (by rw [hwa]; simp [go_sem])
  have B2_1 : Hid (w2.cell? ⟨w1.heap.size, 1, none⟩ = some (.int .i64 p1)) := hide (by rw [hwa]; simp [go_sem])
  have B2_2 : Hid (w2.cell? ⟨w1.heap.size, 2, none⟩ = some (.int .i64 p2)) := hide (by rw [hwa]; simp [go_sem])
  have B2_3 : Hid (w2.cell? ⟨w1.heap.size, 3, none⟩ = some (.int .i64 p3)) := hide (by rw [hwa]; simp [go_sem])
  have K0_2 := hide (K0_1.out.trans (hb.mono K0_1.out.size))
  have K2_2 := hide (Below.refl w2.heap.size w2)
  clear hb hwa
  refine ((HH.out _ _ ((hA.out.below K0_2.out).mono K0_2.out.size)).2).mono ?_
  rintro e w3 ⟨rfl, hb⟩
  have K0_3 := hide (K0_2.out.trans (hb.mono K0_2.out.size))
  have K2_3 := hide (K2_2.out.trans (hb.mono K2_2.out.size))
  clear hb
  go_wp2_with (fail)
  obtain ⟨w4, hwa⟩ : ∃ x, x = w3.alloc (.cells #[.int .i64 p0, .int .i64 p1, .int .i64 p2, .int .i64 p3] 43) := ⟨_, rfl⟩
  rw [← hwa]
  have hb : Below w3.heap.size w3 w4 := by rw [hwa]; exact (Below.refl _ _).alloc (Nat.le_refl _) _
  have L4 : w3.heap.size < w4.heap.size := by rw [hwa]; simp
  have B4_0 : Hid (w4.cell? ⟨w3.heap.size, 0, none⟩ = some (.int .i64 p0)) := hide (by rw [hwa]; simp [go_sem])
  have B4_1 : Hid (w4.cell? ⟨w3.heap.size, 1, none⟩ = some (.int .i64 p1)) := hide (by rw [hwa]; simp [go_sem])
  have B4_2 : Hid (w4.cell? ⟨w3.heap.size, 2, none⟩ = some (.int .i64 p2)) := hide (by rw [hwa]; simp [go_sem])
  have B4_3 : Hid (w4.cell? ⟨w3.heap.size, 3, none⟩ = some (.int .i64 p3)) := hide (by rw [hwa]; simp [go_sem])
  have K0_4 := hide (K0_3.out.trans (hb.mono K0_3.out.size))
  have K2_4 := hide (K2_3.out.trans (hb.mono K2_3.out.size))
  have K4_4 := hide (Below.refl w4.heap.size w4)
  clear hb hwa
  refine (cross_any ((hA.out.below K0_4.out).mono K0_4.out.size) (by omega) x).mono ?_
  rintro e w5 ⟨⟨A4a, c4a, rfl, ho⟩, hb⟩
  have K0_5 := hide (K0_4.out.trans (hb.mono K0_4.out.size))
  have K2_5 := hide (K2_4.out.trans (hb.mono K2_4.out.size))
  have K4_5 := hide (K4_4.out.trans (hb.mono K4_4.out.size))
  have K5_5 := hide (Below.refl w5.heap.size w5)
  clear hb
  have hC1 := hide (own_rd ho (fun _ => rfl))
  clear ho
  go_wp2_with (fail)
  refine (rCross_any ((hA.out.below K0_5.out).mono K0_5.out.size) (by omega) x).mono ?_
  rintro e w6 ⟨⟨A5b, c5b, rfl, ho⟩, hb⟩
  have K0_6 := hide (K0_5.out.trans (hb.mono K0_5.out.size))
  have K2_6 := hide (K2_5.out.trans (hb.mono K2_5.out.size))
  have K4_6 := hide (K4_5.out.trans (hb.mono K4_5.out.size))
  have K5_6 := hide (K5_5.out.trans (hb.mono K5_5.out.size))
  have K6_6 := hide (Below.refl w6.heap.size w6)
  clear hb
  have hC2 := hide (own_rd ho (fun _ => rfl))
  clear ho
  go_wp2_with (fail)
  refine (move_any ((hA.out.below K0_6.out).mono K0_6.out.size) (by omega) x y).mono ?_
  rintro e w7 ⟨⟨A6a, c6a, rfl, ho⟩, hb⟩
  have K0_7 := hide (K0_6.out.trans (hb.mono K0_6.out.size))
  have K2_7 := hide (K2_6.out.trans (hb.mono K2_6.out.size))
  have K4_7 := hide (K4_6.out.trans (hb.mono K4_6.out.size))
  have K5_7 := hide (K5_6.out.trans (hb.mono K5_6.out.size))
  have K6_7 := hide (K6_6.out.trans (hb.mono K6_6.out.size))
  have K7_7 := hide (Below.refl w7.heap.size w7)
  clear hb
  have hM1 := hide (own_rd ho (fun _ => rfl))
  clear ho
  go_wp2_with (fail)
  refine (HM.out _ _ ((hA.out.below K0_7.out).mono K0_7.out.size)).mono ?_
  rintro e w8 ⟨⟨A7b, c7b, rfl, ho⟩, hb⟩
  have K0_8 := hide (K0_7.out.trans (hb.mono K0_7.out.size))
  have K2_8 := hide (K2_7.out.trans (hb.mono K2_7.out.size))
  have K4_8 := hide (K4_7.out.trans (hb.mono K4_7.out.size))
  have K5_8 := hide (K5_7.out.trans (hb.mono K5_7.out.size))
  have K6_8 := hide (K6_7.out.trans (hb.mono K6_7.out.size))
  have K7_8 := hide (K7_7.out.trans (hb.mono K7_7.out.size))
  have K8_8 := hide (Below.refl w8.heap.size w8)
  clear hb
  have hM2 := hide (own_rd ho (fun _ => rfl))
  clear ho
  go_wp2_with (fail)
  refine (flip_any ((hA.out.below K0_8.out).mono K0_8.out.size) (by omega)).mono ?_
  rintro e w9 ⟨⟨A8a, c8a, rfl, ho⟩, hb⟩
  have K0_9 := hide (K0_8.out.trans (hb.mono K0_8.out.size))
  have K2_9 := hide (K2_8.out.trans (hb.mono K2_8.out.size))
  have K4_9 := hide (K4_8.out.trans (hb.mono K4_8.out.size))
  have K5_9 := hide (K5_8.out.trans (hb.mono K5_8.out.size))
  have K6_9 := hide (K6_8.out.trans (hb.mono K6_8.out.size))
  have K7_9 := hide (K7_8.out.trans (hb.mono K7_8.out.size))
  have K8_9 := hide (K8_8.out.trans (hb.mono K8_8.out.size))
  have K9_9 := hide (Below.refl w9.heap.size w9)
  clear hb
  have hF1 := hide (own_rd ho (fun _ => rfl))
  clear ho
  go_wp2_with (fail)
  refine (rFlip_any ((hA.out.below K0_9.out).mono K0_9.out.size) (by omega)).mono ?_
  rintro e w10 ⟨⟨A9b, c9b, rfl, ho⟩, hb⟩
  have K0_10 := hide (K0_9.out.trans (hb.mono K0_9.out.size))
  have K2_10 := hide (K2_9.out.trans (hb.mono K2_9.out.size))
  have K4_10 := hide (K4_9.out.trans (hb.mono K4_9.out.size))
  have K5_10 := hide (K5_9.out.trans (hb.mono K5_9.out.size))
  have K6_10 := hide (K6_9.out.trans (hb.mono K6_9.out.size))
  have K7_10 := hide (K7_9.out.trans (hb.mono K7_9.out.size))
  have K8_10 := hide (K8_9.out.trans (hb.mono K8_9.out.size))
  have K9_10 := hide (K9_9.out.trans (hb.mono K9_9.out.size))
  have K10_10 := hide (Below.refl w10.heap.size w10)
  clear hb
  have hF2 := hide (own_rd ho (fun _ => rfl))
  clear ho
  have x2_0 := (K2_10.out.cell (p := ⟨w1.heap.size, 0, none⟩) L2).trans B2_0.out
  have x2_1 := (K2_10.out.cell (p := ⟨w1.heap.size, 1, none⟩) L2).trans B2_1.out
  have x2_2 := (K2_10.out.cell (p := ⟨w1.heap.size, 2, none⟩) L2).trans B2_2.out
  have x2_3 := (K2_10.out.cell (p := ⟨w1.heap.size, 3, none⟩) L2).trans B2_3.out
  have x4_0 := (K4_10.out.cell (p := ⟨w3.heap.size, 0, none⟩) L4).trans B4_0.out
  have x4_1 := (K4_10.out.cell (p := ⟨w3.heap.size, 1, none⟩) L4).trans B4_1.out
  have x4_2 := (K4_10.out.cell (p := ⟨w3.heap.size, 2, none⟩) L4).trans B4_2.out
  have x4_3 := (K4_10.out.cell (p := ⟨w3.heap.size, 3, none⟩) L4).trans B4_3.out
  go_wp2_with (fail)
  refine (rSameSpan ((hC1.out.below K5_10.out).mono K5_10.out.size) ((hC2.out.below K6_10.out).mono K6_10.out.size) (by omega)).mono ?_
  rintro e w11 ⟨rfl, hb⟩
  have K0_11 := hide (K0_10.out.trans (hb.mono K0_10.out.size))
  have K2_11 := hide (K2_10.out.trans (hb.mono K2_10.out.size))
  have K4_11 := hide (K4_10.out.trans (hb.mono K4_10.out.size))
  have K5_11 := hide (K5_10.out.trans (hb.mono K5_10.out.size))
  have K6_11 := hide (K6_10.out.trans (hb.mono K6_10.out.size))
  have K7_11 := hide (K7_10.out.trans (hb.mono K7_10.out.size))
  have K8_11 := hide (K8_10.out.trans (hb.mono K8_10.out.size))
  have K9_11 := hide (K9_10.out.trans (hb.mono K9_10.out.size))
  have K10_11 := hide (K10_10.out.trans (hb.mono K10_10.out.size))
  clear hb
  go_wp2_with (fail)
  refine (rSameSelf ((hM1.out.below K7_11.out).mono K7_11.out.size) ((hM2.out.below K8_11.out).mono K8_11.out.size) (by omega)).mono ?_
  rintro e w12 ⟨rfl, hb⟩
  have K0_12 := hide (K0_11.out.trans (hb.mono K0_11.out.size))
  have K2_12 := hide (K2_11.out.trans (hb.mono K2_11.out.size))
  have K4_12 := hide (K4_11.out.trans (hb.mono K4_11.out.size))
  have K5_12 := hide (K5_11.out.trans (hb.mono K5_11.out.size))
  have K6_12 := hide (K6_11.out.trans (hb.mono K6_11.out.size))
  have K7_12 := hide (K7_11.out.trans (hb.mono K7_11.out.size))
  have K8_12 := hide (K8_11.out.trans (hb.mono K8_11.out.size))
  have K9_12 := hide (K9_11.out.trans (hb.mono K9_11.out.size))
  have K10_12 := hide (K10_11.out.trans (hb.mono K10_11.out.size))
  clear hb
  go_wp2_with (fail)
  refine (rSameSelf ((hF1.out.below K9_12.out).mono K9_12.out.size) ((hF2.out.below K10_12.out).mono K10_12.out.size) (by omega)).mono ?_
  rintro e w13 ⟨rfl, hb⟩
  have K0_13 := hide (K0_12.out.trans (hb.mono K0_12.out.size))
  have K2_13 := hide (K2_12.out.trans (hb.mono K2_12.out.size))
  have K4_13 := hide (K4_12.out.trans (hb.mono K4_12.out.size))
  have K5_13 := hide (K5_12.out.trans (hb.mono K5_12.out.size))
  have K6_13 := hide (K6_12.out.trans (hb.mono K6_12.out.size))
  have K7_13 := hide (K7_12.out.trans (hb.mono K7_12.out.size))
  have K8_13 := hide (K8_12.out.trans (hb.mono K8_12.out.size))
  have K9_13 := hide (K9_12.out.trans (hb.mono K9_12.out.size))
  have K10_13 := hide (K10_12.out.trans (hb.mono K10_12.out.size))
  clear hb
  go_wp2_with (fail)
  go_ret
  exact ⟨rfl, K0_13.out⟩
end Go.Proofs.Ytamnaojheecopaa
