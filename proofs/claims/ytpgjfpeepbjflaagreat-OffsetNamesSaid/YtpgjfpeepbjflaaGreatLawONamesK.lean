/- OffsetNames' walk: limits and errors. -/
import Derived.Test.YtpgjfpeepbjflaaGreatPk11
import Derived.Test.YtpgjfpeepbjflaaGreatPk12
namespace Go.Proofs.YtpgjfpeepbjflaaGreat
open Go.RowKit
set_option linter.unusedVariables false
set_option linter.unusedSimpArgs false

theorem on1 : growF ([⟨999998, 0, 1000000, 2⟩] : List R4) 1 = (([] : List R4), 16) := by kernel_rfl
theorem on2 : shrF ([⟨999998, 0, 1000000, 2⟩] : List R4) 0 = (([⟨999998, 0, 1000000, 2⟩] : List R4), 0) := by kernel_rfl
theorem on3 : growF ([⟨999998, 0, 1000000, 2⟩] : List R4) (-1) = (([] : List R4), 2) := by kernel_rfl
theorem on4 : shrF ([⟨999998, 0, 1000000, 2⟩] : List R4) 1000001 = (([] : List R4), 2) := by kernel_rfl
theorem on5 : shrF ([⟨999998, 0, 1000000, 2⟩] : List R4) 1000000 = (([] : List R4), 0) := by kernel_rfl
theorem on6 : depF ([⟨0, 0, 0, 0⟩] : List R4) 0 0 = (0, 8) := by kernel_rfl
theorem on7 : depF ([⟨999998, 0, 1000000, 2⟩] : List R4) 0 0 = ((-1), 0) := by kernel_rfl
theorem on8 : growF ([] : List R4) 1000000 = (([] : List R4), 0) := by kernel_rfl
theorem on9 : depF ([⟨(-1000000), (-1000000), 1000000, 1000000⟩] : List R4) 0 0 = (999999, 0) := by kernel_rfl
theorem on10 : shrF ([⟨(-1000000), (-1000000), 1000000, 1000000⟩] : List R4) 999999 = (([⟨(-1), (-1), 1, 1⟩] : List R4), 0) := by kernel_rfl
theorem on11 : marginF ([⟨999998, 0, 1000000, 2⟩] : List R4) 1 = (([] : List R4), 16) := by kernel_rfl
set_option maxRecDepth 100000 in
set_option maxHeartbeats 8000000 in
theorem onames_walk (w : World) : Calls Tryz.prog 9 #[] w fun e w' => e = .returned (.bool true) ∧ Below w.heap.size w w' := by
  have N1 := hide (fun (W : World) (v : Value) (h : RdK encR 4 W W.heap.size v ([⟨999998, 0, 1000000, 2⟩] : List R4)) => by have := oGrow_any h (by simp) 1; rwa [on1] at this)
  have N2 := hide (fun (W : World) (v : Value) (h : RdK encR 4 W W.heap.size v ([⟨999998, 0, 1000000, 2⟩] : List R4)) => by have := oShrink_any h (by simp) 0; rwa [on2] at this)
  have N3 := hide (fun (W : World) (v : Value) (h : RdK encR 4 W W.heap.size v ([⟨999998, 0, 1000000, 2⟩] : List R4)) => by have := oGrow_any h (by simp) (-1); rwa [on3] at this)
  have N4 := hide (fun (W : World) (v : Value) (h : RdK encR 4 W W.heap.size v ([⟨999998, 0, 1000000, 2⟩] : List R4)) => by have := oShrink_any h (by simp) 1000001; rwa [on4] at this)
  have N5 := hide (fun (W : World) (v : Value) (h : RdK encR 4 W W.heap.size v ([⟨999998, 0, 1000000, 2⟩] : List R4)) => by have := oShrink_any h (by simp) 1000000; rwa [on5] at this)
  have N6 := hide (fun (W : World) (v : Value) (h : RdK encR 4 W W.heap.size v ([⟨0, 0, 0, 0⟩] : List R4)) => by have := oDepth_any h (by simp) 0 0; rwa [on6] at this)
  have N7 := hide (fun (W : World) (v : Value) (h : RdK encR 4 W W.heap.size v ([⟨999998, 0, 1000000, 2⟩] : List R4)) => by have := oDepth_any h (by simp) 0 0; rwa [on7] at this)
  have N8 := hide (fun (W : World) (v : Value) (h : RdK encR 4 W W.heap.size v ([] : List R4)) => by have := oGrow_any h (by simp) 1000000; rwa [on8] at this)
  have N9 := hide (fun (W : World) (v : Value) (h : RdK encR 4 W W.heap.size v ([⟨(-1000000), (-1000000), 1000000, 1000000⟩] : List R4)) => by have := oDepth_any h (by simp) 0 0; rwa [on9] at this)
  have N10 := hide (fun (W : World) (v : Value) (h : RdK encR 4 W W.heap.size v ([⟨(-1000000), (-1000000), 1000000, 1000000⟩] : List R4)) => by have := oShrink_any h (by simp) 999999; rwa [on10] at this)
  have N11 := hide (fun (W : World) (v : Value) (h : RdK encR 4 W W.heap.size v ([⟨999998, 0, 1000000, 2⟩] : List R4)) => by have := oMargin_any h (by simp) 1; rwa [on11] at this)
  have HSA := hide (fun (W : World) (l : List R4) (v v2 : Value) (h : RdK encR 4 W W.heap.size v l) (h2 : RdK encR 4 W W.heap.size v2 l) (hl : l.length ≤ 100) => rSameSelf h h2 (by omega))
  go_enter Tryz.func9, Tryz.ntmps9
  have K0_0 := hide (Below.refl w.heap.size w)
  go_wp2_with (fail)
  refine (rect_any 999998 0 1000000 2).mono ?_
  rintro e w1 ⟨rfl, ho, hb⟩
  have K0_1 := hide (K0_0.out.trans (hb.mono K0_0.out.size))
  have K1_1 := hide (Below.refl w1.heap.size w1)
  clear hb
  have hr1 := hide (own_rd (l := ([⟨999998, 0, 1000000, 2⟩] : List R4)) ho (fun _ => rfl))
  clear ho
  go_wp2_with (fail)
  refine (N1.out _ _ hr1.out).mono ?_
  rintro e w2 ⟨⟨A2, c2, rfl, ho⟩, hb⟩
  have K0_2 := hide (K0_1.out.trans (hb.mono K0_1.out.size))
  have K1_2 := hide (K1_1.out.trans (hb.mono K1_1.out.size))
  have K2_2 := hide (Below.refl w2.heap.size w2)
  clear hb
  have hs1 := hide (own_rd (l := ([] : List R4)) ho (fun _ => rfl))
  clear ho
  clear N1
  go_wp2_with (fail)
  refine (N2.out _ _ ((hr1.out.below K1_2.out).mono K1_2.out.size)).mono ?_
  rintro e w3 ⟨⟨A3, c3, rfl, ho⟩, hb⟩
  have K0_3 := hide (K0_2.out.trans (hb.mono K0_2.out.size))
  have K1_3 := hide (K1_2.out.trans (hb.mono K1_2.out.size))
  have K2_3 := hide (K2_2.out.trans (hb.mono K2_2.out.size))
  have K3_3 := hide (Below.refl w3.heap.size w3)
  clear hb
  have hs2 := hide (own_rd (l := ([⟨999998, 0, 1000000, 2⟩] : List R4)) ho (fun _ => rfl))
  clear ho
  clear N2
  go_wp2_with (fail)
  refine (N3.out _ _ ((hr1.out.below K1_3.out).mono K1_3.out.size)).mono ?_
  rintro e w4 ⟨⟨A4, c4, rfl, ho⟩, hb⟩
  have K0_4 := hide (K0_3.out.trans (hb.mono K0_3.out.size))
  have K1_4 := hide (K1_3.out.trans (hb.mono K1_3.out.size))
  have K2_4 := hide (K2_3.out.trans (hb.mono K2_3.out.size))
  have K3_4 := hide (K3_3.out.trans (hb.mono K3_3.out.size))
  have K4_4 := hide (Below.refl w4.heap.size w4)
  clear hb
  have hs3 := hide (own_rd (l := ([] : List R4)) ho (fun _ => rfl))
  clear ho
  clear N3
  go_wp2_with (fail)
  refine (N4.out _ _ ((hr1.out.below K1_4.out).mono K1_4.out.size)).mono ?_
  rintro e w5 ⟨⟨A5, c5, rfl, ho⟩, hb⟩
  have K0_5 := hide (K0_4.out.trans (hb.mono K0_4.out.size))
  have K1_5 := hide (K1_4.out.trans (hb.mono K1_4.out.size))
  have K2_5 := hide (K2_4.out.trans (hb.mono K2_4.out.size))
  have K3_5 := hide (K3_4.out.trans (hb.mono K3_4.out.size))
  have K4_5 := hide (K4_4.out.trans (hb.mono K4_4.out.size))
  have K5_5 := hide (Below.refl w5.heap.size w5)
  clear hb
  have hs4 := hide (own_rd (l := ([] : List R4)) ho (fun _ => rfl))
  clear ho
  clear N4
  go_wp2_with (fail)
  refine (N5.out _ _ ((hr1.out.below K1_5.out).mono K1_5.out.size)).mono ?_
  rintro e w6 ⟨⟨A6, c6, rfl, ho⟩, hb⟩
  have K0_6 := hide (K0_5.out.trans (hb.mono K0_5.out.size))
  have K1_6 := hide (K1_5.out.trans (hb.mono K1_5.out.size))
  have K2_6 := hide (K2_5.out.trans (hb.mono K2_5.out.size))
  have K3_6 := hide (K3_5.out.trans (hb.mono K3_5.out.size))
  have K4_6 := hide (K4_5.out.trans (hb.mono K4_5.out.size))
  have K5_6 := hide (K5_5.out.trans (hb.mono K5_5.out.size))
  have K6_6 := hide (Below.refl w6.heap.size w6)
  clear hb
  have hs5 := hide (own_rd (l := ([] : List R4)) ho (fun _ => rfl))
  clear ho
  clear N5
  go_wp2_with (fail)
  obtain ⟨w7, hwa⟩ : ∃ x, x = w6.alloc (.cells #[.int .i64 0, .int .i64 0, .int .i64 0, .int .i64 0] 48) := ⟨_, rfl⟩
  rw [← hwa]
  have hb : Below w6.heap.size w6 w7 := by rw [hwa]; exact (Below.refl _ _).alloc (Nat.le_refl _) _
  have hz := hide (show RdK encR 4 w7 w7.heap.size (.slice (some ⟨w6.heap.size, 0, none⟩) 1 1) ([⟨0, 0, 0, 0⟩] : List R4) from by rw [hwa]; exact rd_lit w6 ([⟨0, 0, 0, 0⟩] : List R4) _ _)
  have K0_7 := hide (K0_6.out.trans (hb.mono K0_6.out.size))
  have K1_7 := hide (K1_6.out.trans (hb.mono K1_6.out.size))
  have K2_7 := hide (K2_6.out.trans (hb.mono K2_6.out.size))
  have K3_7 := hide (K3_6.out.trans (hb.mono K3_6.out.size))
  have K4_7 := hide (K4_6.out.trans (hb.mono K4_6.out.size))
  have K5_7 := hide (K5_6.out.trans (hb.mono K5_6.out.size))
  have K6_7 := hide (K6_6.out.trans (hb.mono K6_6.out.size))
  clear hb hwa
  go_wp2_with (fail)
  refine (N6.out _ _ hz.out).mono ?_
  rintro e w8 ⟨rfl, hb⟩
  have K0_8 := hide (K0_7.out.trans (hb.mono K0_7.out.size))
  have K1_8 := hide (K1_7.out.trans (hb.mono K1_7.out.size))
  have K2_8 := hide (K2_7.out.trans (hb.mono K2_7.out.size))
  have K3_8 := hide (K3_7.out.trans (hb.mono K3_7.out.size))
  have K4_8 := hide (K4_7.out.trans (hb.mono K4_7.out.size))
  have K5_8 := hide (K5_7.out.trans (hb.mono K5_7.out.size))
  have K6_8 := hide (K6_7.out.trans (hb.mono K6_7.out.size))
  clear hb
  clear N6
  clear hz
  go_wp2_with (fail)
  refine (N7.out _ _ ((hr1.out.below K1_8.out).mono K1_8.out.size)).mono ?_
  rintro e w9 ⟨rfl, hb⟩
  have K0_9 := hide (K0_8.out.trans (hb.mono K0_8.out.size))
  have K1_9 := hide (K1_8.out.trans (hb.mono K1_8.out.size))
  have K2_9 := hide (K2_8.out.trans (hb.mono K2_8.out.size))
  have K3_9 := hide (K3_8.out.trans (hb.mono K3_8.out.size))
  have K4_9 := hide (K4_8.out.trans (hb.mono K4_8.out.size))
  have K5_9 := hide (K5_8.out.trans (hb.mono K5_8.out.size))
  have K6_9 := hide (K6_8.out.trans (hb.mono K6_8.out.size))
  clear hb
  clear N7
  go_wp2_with (fail)
  refine (N8.out _ _ ⟨none, 0, rfl, fun h => absurd rfl h⟩).mono ?_
  rintro e w10 ⟨⟨A10, c10, rfl, ho⟩, hb⟩
  have K0_10 := hide (K0_9.out.trans (hb.mono K0_9.out.size))
  have K1_10 := hide (K1_9.out.trans (hb.mono K1_9.out.size))
  have K2_10 := hide (K2_9.out.trans (hb.mono K2_9.out.size))
  have K3_10 := hide (K3_9.out.trans (hb.mono K3_9.out.size))
  have K4_10 := hide (K4_9.out.trans (hb.mono K4_9.out.size))
  have K5_10 := hide (K5_9.out.trans (hb.mono K5_9.out.size))
  have K6_10 := hide (K6_9.out.trans (hb.mono K6_9.out.size))
  have K10_10 := hide (Below.refl w10.heap.size w10)
  clear hb
  have hs9 := hide (own_rd (l := ([] : List R4)) ho (fun _ => rfl))
  clear ho
  clear N8
  go_wp2_with (fail)
  refine (rect_any (-1000000) (-1000000) 1000000 1000000).mono ?_
  rintro e w11 ⟨rfl, ho, hb⟩
  have K0_11 := hide (K0_10.out.trans (hb.mono K0_10.out.size))
  have K1_11 := hide (K1_10.out.trans (hb.mono K1_10.out.size))
  have K2_11 := hide (K2_10.out.trans (hb.mono K2_10.out.size))
  have K3_11 := hide (K3_10.out.trans (hb.mono K3_10.out.size))
  have K4_11 := hide (K4_10.out.trans (hb.mono K4_10.out.size))
  have K5_11 := hide (K5_10.out.trans (hb.mono K5_10.out.size))
  have K6_11 := hide (K6_10.out.trans (hb.mono K6_10.out.size))
  have K10_11 := hide (K10_10.out.trans (hb.mono K10_10.out.size))
  have K11_11 := hide (Below.refl w11.heap.size w11)
  clear hb
  have hr11 := hide (own_rd (l := ([⟨(-1000000), (-1000000), 1000000, 1000000⟩] : List R4)) ho (fun _ => rfl))
  clear ho
  go_wp2_with (fail)
  refine (N9.out _ _ hr11.out).mono ?_
  rintro e w12 ⟨rfl, hb⟩
  have K0_12 := hide (K0_11.out.trans (hb.mono K0_11.out.size))
  have K1_12 := hide (K1_11.out.trans (hb.mono K1_11.out.size))
  have K2_12 := hide (K2_11.out.trans (hb.mono K2_11.out.size))
  have K3_12 := hide (K3_11.out.trans (hb.mono K3_11.out.size))
  have K4_12 := hide (K4_11.out.trans (hb.mono K4_11.out.size))
  have K5_12 := hide (K5_11.out.trans (hb.mono K5_11.out.size))
  have K6_12 := hide (K6_11.out.trans (hb.mono K6_11.out.size))
  have K10_12 := hide (K10_11.out.trans (hb.mono K10_11.out.size))
  have K11_12 := hide (K11_11.out.trans (hb.mono K11_11.out.size))
  clear hb
  clear N9
  go_wp2_with (fail)
  refine (N10.out _ _ ((hr11.out.below K11_12.out).mono K11_12.out.size)).mono ?_
  rintro e w13 ⟨⟨A13, c13, rfl, ho⟩, hb⟩
  have K0_13 := hide (K0_12.out.trans (hb.mono K0_12.out.size))
  have K1_13 := hide (K1_12.out.trans (hb.mono K1_12.out.size))
  have K2_13 := hide (K2_12.out.trans (hb.mono K2_12.out.size))
  have K3_13 := hide (K3_12.out.trans (hb.mono K3_12.out.size))
  have K4_13 := hide (K4_12.out.trans (hb.mono K4_12.out.size))
  have K5_13 := hide (K5_12.out.trans (hb.mono K5_12.out.size))
  have K6_13 := hide (K6_12.out.trans (hb.mono K6_12.out.size))
  have K10_13 := hide (K10_12.out.trans (hb.mono K10_12.out.size))
  have K11_13 := hide (K11_12.out.trans (hb.mono K11_12.out.size))
  have K13_13 := hide (Below.refl w13.heap.size w13)
  clear hb
  have hs12 := hide (own_rd (l := ([⟨(-1), (-1), 1, 1⟩] : List R4)) ho (fun _ => rfl))
  clear ho
  clear N10
  go_wp2_with (fail)
  refine (N11.out _ _ ((hr1.out.below K1_13.out).mono K1_13.out.size)).mono ?_
  rintro e w14 ⟨⟨A14, c14, rfl, ho⟩, hb⟩
  have K0_14 := hide (K0_13.out.trans (hb.mono K0_13.out.size))
  have K1_14 := hide (K1_13.out.trans (hb.mono K1_13.out.size))
  have K2_14 := hide (K2_13.out.trans (hb.mono K2_13.out.size))
  have K3_14 := hide (K3_13.out.trans (hb.mono K3_13.out.size))
  have K4_14 := hide (K4_13.out.trans (hb.mono K4_13.out.size))
  have K5_14 := hide (K5_13.out.trans (hb.mono K5_13.out.size))
  have K6_14 := hide (K6_13.out.trans (hb.mono K6_13.out.size))
  have K10_14 := hide (K10_13.out.trans (hb.mono K10_13.out.size))
  have K11_14 := hide (K11_13.out.trans (hb.mono K11_13.out.size))
  have K13_14 := hide (K13_13.out.trans (hb.mono K13_13.out.size))
  have K14_14 := hide (Below.refl w14.heap.size w14)
  clear hb
  have hs13 := hide (own_rd (l := ([] : List R4)) ho (fun _ => rfl))
  clear ho
  clear N11
  go_wp2_with (fail)
  refine (alive14_any _).mono ?_
  rintro e w15 ⟨rfl, hb⟩
  have K0_15 := hide (K0_14.out.trans (hb.mono K0_14.out.size))
  have K1_15 := hide (K1_14.out.trans (hb.mono K1_14.out.size))
  have K2_15 := hide (K2_14.out.trans (hb.mono K2_14.out.size))
  have K3_15 := hide (K3_14.out.trans (hb.mono K3_14.out.size))
  have K4_15 := hide (K4_14.out.trans (hb.mono K4_14.out.size))
  have K5_15 := hide (K5_14.out.trans (hb.mono K5_14.out.size))
  have K6_15 := hide (K6_14.out.trans (hb.mono K6_14.out.size))
  have K10_15 := hide (K10_14.out.trans (hb.mono K10_14.out.size))
  have K11_15 := hide (K11_14.out.trans (hb.mono K11_14.out.size))
  have K13_15 := hide (K13_14.out.trans (hb.mono K13_14.out.size))
  have K14_15 := hide (K14_14.out.trans (hb.mono K14_14.out.size))
  clear hb
  go_wp2_with (fail)
  refine (HSA.out _ _ _ _ ((hs2.out.below K3_15.out).mono K3_15.out.size) ((hr1.out.below K1_15.out).mono K1_15.out.size) (by simp)).mono ?_
  rintro e w16 ⟨rfl, hb⟩
  have K0_16 := hide (K0_15.out.trans (hb.mono K0_15.out.size))
  have K1_16 := hide (K1_15.out.trans (hb.mono K1_15.out.size))
  have K2_16 := hide (K2_15.out.trans (hb.mono K2_15.out.size))
  have K3_16 := hide (K3_15.out.trans (hb.mono K3_15.out.size))
  have K4_16 := hide (K4_15.out.trans (hb.mono K4_15.out.size))
  have K5_16 := hide (K5_15.out.trans (hb.mono K5_15.out.size))
  have K6_16 := hide (K6_15.out.trans (hb.mono K6_15.out.size))
  have K10_16 := hide (K10_15.out.trans (hb.mono K10_15.out.size))
  have K11_16 := hide (K11_15.out.trans (hb.mono K11_15.out.size))
  have K13_16 := hide (K13_15.out.trans (hb.mono K13_15.out.size))
  have K14_16 := hide (K14_15.out.trans (hb.mono K14_15.out.size))
  clear hb
  go_wp2_with (fail)
  refine (rect_any (-1) (-1) 1 1).mono ?_
  rintro e w17 ⟨rfl, ho, hb⟩
  have K0_17 := hide (K0_16.out.trans (hb.mono K0_16.out.size))
  have K1_17 := hide (K1_16.out.trans (hb.mono K1_16.out.size))
  have K2_17 := hide (K2_16.out.trans (hb.mono K2_16.out.size))
  have K3_17 := hide (K3_16.out.trans (hb.mono K3_16.out.size))
  have K4_17 := hide (K4_16.out.trans (hb.mono K4_16.out.size))
  have K5_17 := hide (K5_16.out.trans (hb.mono K5_16.out.size))
  have K6_17 := hide (K6_16.out.trans (hb.mono K6_16.out.size))
  have K10_17 := hide (K10_16.out.trans (hb.mono K10_16.out.size))
  have K11_17 := hide (K11_16.out.trans (hb.mono K11_16.out.size))
  have K13_17 := hide (K13_16.out.trans (hb.mono K13_16.out.size))
  have K14_17 := hide (K14_16.out.trans (hb.mono K14_16.out.size))
  have K17_17 := hide (Below.refl w17.heap.size w17)
  clear hb
  have hr17 := hide (own_rd (l := ([⟨(-1), (-1), 1, 1⟩] : List R4)) ho (fun _ => rfl))
  clear ho
  go_wp2_with (fail)
  refine (HSA.out _ _ _ _ ((hs12.out.below K13_17.out).mono K13_17.out.size) hr17.out (by simp)).mono ?_
  rintro e w18 ⟨rfl, hb⟩
  have K0_18 := hide (K0_17.out.trans (hb.mono K0_17.out.size))
  have K1_18 := hide (K1_17.out.trans (hb.mono K1_17.out.size))
  have K2_18 := hide (K2_17.out.trans (hb.mono K2_17.out.size))
  have K3_18 := hide (K3_17.out.trans (hb.mono K3_17.out.size))
  have K4_18 := hide (K4_17.out.trans (hb.mono K4_17.out.size))
  have K5_18 := hide (K5_17.out.trans (hb.mono K5_17.out.size))
  have K6_18 := hide (K6_17.out.trans (hb.mono K6_17.out.size))
  have K10_18 := hide (K10_17.out.trans (hb.mono K10_17.out.size))
  have K11_18 := hide (K11_17.out.trans (hb.mono K11_17.out.size))
  have K13_18 := hide (K13_17.out.trans (hb.mono K13_17.out.size))
  have K14_18 := hide (K14_17.out.trans (hb.mono K14_17.out.size))
  have K17_18 := hide (K17_17.out.trans (hb.mono K17_17.out.size))
  clear hb
  go_wp2_with (fail)
  go_ret
  exact ⟨rfl, K0_18.out⟩
end Go.Proofs.YtpgjfpeepbjflaaGreat
