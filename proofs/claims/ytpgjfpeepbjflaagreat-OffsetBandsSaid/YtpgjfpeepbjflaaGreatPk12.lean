/- Texts laid together: Alive14, MOffG, SixP. Lemmas for the statements of this seat; no condition. -/
import Derived.Test.YtpgjfpeepbjflaaGreatPk11
import Derived.Test.YtpgjfpeepbjflaaGreatPk10

/- The chapter's examples hold: law.go's rect and alive. -/
namespace Go.Proofs.YtpgjfpeepbjflaaGreat
open Go.RowKit
set_option linter.unusedVariables false
set_option linter.unusedSimpArgs false

theorem rect_any (a b c d : Int) {w : World} : Calls Tryz.prog 33 #[.int .i64 a, .int .i64 b, .int .i64 c, .int .i64 d] w fun e w' => e = .returned (.slice (some ⟨w.heap.size, 0, none⟩) 1 1) ∧ w'.ownsRow w.heap.size 48 4 (.slice (some ⟨w.heap.size, 0, none⟩) 1 1) 1 (([⟨a, b, c, d⟩] : List R4).flatMap encR) ∧ Below w.heap.size w w' := by
  go_enter Tryz.func33, Tryz.ntmps33
  go_wp2
  go_ret
  exact ⟨rfl, ⟨by simp [encR], .inr ⟨w.heap.size, 1, _, rfl, Nat.le_refl _, World.alloc_heap_new _ _, Nat.le_refl _, by simp [maxLen], by simp [encR], by simp [encR]⟩⟩, (Below.refl _ _).alloc (Nat.le_refl _) _⟩
theorem ex14_s1 : shrF [⟨0, 0, 5, 3⟩] 1 = ([⟨1, 1, 4, 2⟩], 0) := by kernel_rfl
theorem ex14_s2 : shrF [⟨0, 0, 5, 3⟩] 2 = ([], 0) := by kernel_rfl
theorem ex14_o : openF [⟨0, 0, 3, 3⟩, ⟨3, 1, 5, 2⟩] 1 = ([⟨0, 0, 3, 3⟩], 0) := by kernel_rfl
theorem ex14_c : closeF [⟨0, 0, 1, 1⟩, ⟨2, 0, 3, 1⟩] 1 = ([⟨0, 0, 3, 1⟩], 0) := by kernel_rfl
theorem ex14_d : depF [⟨0, 0, 5, 3⟩] 2 1 = (1, 0) := by kernel_rfl
set_option maxRecDepth 100000 in
set_option maxHeartbeats 4000000 in
theorem alive14_any (w : World) : Calls Tryz.prog 20 #[] w fun e w' => e = .returned (.bool true) ∧ Below w.heap.size w w' := by
  have HS1 := hide (fun (W : World) (v : Value) (h : RdK encR 4 W W.heap.size v ([⟨0, 0, 5, 3⟩] : List R4)) => by have := oShrink_any h (by simp) 1; rwa [ex14_s1] at this)
  have HS2 := hide (fun (W : World) (v : Value) (h : RdK encR 4 W W.heap.size v ([⟨0, 0, 5, 3⟩] : List R4)) => by have := oShrink_any h (by simp) 2; rwa [ex14_s2] at this)
  have HO := hide (fun (W : World) (v : Value) (h : RdK encR 4 W W.heap.size v ([⟨0, 0, 3, 3⟩, ⟨3, 1, 5, 2⟩] : List R4)) => by have := oOpen_any h (by simp) 1; rwa [ex14_o] at this)
  have HC := hide (fun (W : World) (v : Value) (h : RdK encR 4 W W.heap.size v ([⟨0, 0, 1, 1⟩, ⟨2, 0, 3, 1⟩] : List R4)) => by have := oClose_any h (by simp) 1; rwa [ex14_c] at this)
  have HD := hide (fun (W : World) (v : Value) (h : RdK encR 4 W W.heap.size v ([⟨0, 0, 5, 3⟩] : List R4)) => by have := oDepth_any h (by simp) 2 1; rwa [ex14_d] at this)
  have HSA := hide (fun (W : World) (l : List R4) (v v2 : Value) (h : RdK encR 4 W W.heap.size v l) (h2 : RdK encR 4 W W.heap.size v2 l) (hl : l.length ≤ 100) => rSameSelf h h2 (by omega))
  go_enter Tryz.func20, Tryz.ntmps20
  have K0_0 := hide (Below.refl w.heap.size w)
  obtain ⟨i1, gi, gz0, gz1, gz2⟩ := info_parts infoRc
  go_wp2_with (fail)
  refine (rect_any (0) (0) (5) (3)).mono ?_
  rintro e w1 ⟨rfl, ho, hb⟩
  have K0_1 := hide (K0_0.out.trans (hb.mono K0_0.out.size))
  have K1_1 := hide (Below.refl w1.heap.size w1)
  clear hb
  have hr1 := hide (own_rd (l := ([⟨0, 0, 5, 3⟩] : List R4)) ho (fun _ => rfl))
  clear ho
  go_wp2_with (fail)
  refine (HS1.out _ _ hr1.out).mono ?_
  rintro e w2 ⟨⟨A2, c2, rfl, ho⟩, hb⟩
  have K0_2 := hide (K0_1.out.trans (hb.mono K0_1.out.size))
  have K1_2 := hide (K1_1.out.trans (hb.mono K1_1.out.size))
  have K2_2 := hide (Below.refl w2.heap.size w2)
  clear hb
  have hs2 := hide (own_rd (l := ([⟨1, 1, 4, 2⟩] : List R4)) ho (fun _ => rfl))
  clear ho
  go_wp2_with (fail)
  refine (rect_any (0) (0) (5) (3)).mono ?_
  rintro e w3 ⟨rfl, ho, hb⟩
  have K0_3 := hide (K0_2.out.trans (hb.mono K0_2.out.size))
  have K1_3 := hide (K1_2.out.trans (hb.mono K1_2.out.size))
  have K2_3 := hide (K2_2.out.trans (hb.mono K2_2.out.size))
  have K3_3 := hide (Below.refl w3.heap.size w3)
  clear hb
  have hr3 := hide (own_rd (l := ([⟨0, 0, 5, 3⟩] : List R4)) ho (fun _ => rfl))
  clear ho
  go_wp2_with (fail)
  refine (HS2.out _ _ hr3.out).mono ?_
  rintro e w4 ⟨⟨A4, c4, rfl, ho⟩, hb⟩
  have K0_4 := hide (K0_3.out.trans (hb.mono K0_3.out.size))
  have K1_4 := hide (K1_3.out.trans (hb.mono K1_3.out.size))
  have K2_4 := hide (K2_3.out.trans (hb.mono K2_3.out.size))
  have K3_4 := hide (K3_3.out.trans (hb.mono K3_3.out.size))
  have K4_4 := hide (Below.refl w4.heap.size w4)
  clear hb
  have hs4 := hide (own_rd (l := ([] : List R4)) ho (fun _ => rfl))
  clear ho
  go_wp2_with (fail)
  refine (rect_any (0) (0) (3) (3)).mono ?_
  rintro e x1 ⟨rfl, o1, hb1⟩
  go_wp2_with (fail)
  refine (rect_any (3) (1) (5) (2)).mono ?_
  rintro e x2 ⟨rfl, o2, hb2⟩
  have O1 := hide (own_below o1 hb2)
  have R2 := hide (own_rd (l := ([⟨3, 1, 5, 2⟩] : List R4)) o2 (fun _ => rfl))
  have hb12 := hide (hb1.trans (hb2.mono hb1.size))
  clear o1 o2 hb1 hb2
  go_wp2_with (at_builtin; go_loud (refine wpList_app_rd (enc := encR) (k := 4) (l := ([⟨3, 1, 5, 2⟩] : List R4)) rfl (fun _ => rfl) one_encR (.tmp 23) (.tmp 24) 25 rfl w4.heap.size 48 i1 (.agg #[.int .i64 0, .int .i64 0, .int .i64 0, .int .i64 0]) 32 Tryz.underlying25 gi gz0 gz1 gz2 rfl (by decide) (.slice (some ⟨w4.heap.size, 0, none⟩) 1 1) 1 _ rfl O1.out x2.heap.size R2.out (by decide) (by decide) hb12.out.size ?_))
  intro vp5 w5 ho hg
  have hb : Below w4.heap.size w4 w5 := hb12.out.grown hg hb12.out.size (fun q hq => (O1.out.lt q hq).1)
  have hr5 := hide (own_rd (l := ([⟨0, 0, 3, 3⟩, ⟨3, 1, 5, 2⟩] : List R4)) ho (fun _ => rfl))
  obtain ⟨Ap5, cp5, hvp⟩ := own_form ho
  subst hvp
  clear ho hg O1 R2 hb12
  have K0_5 := hide (K0_4.out.trans (hb.mono K0_4.out.size))
  have K1_5 := hide (K1_4.out.trans (hb.mono K1_4.out.size))
  have K2_5 := hide (K2_4.out.trans (hb.mono K2_4.out.size))
  have K3_5 := hide (K3_4.out.trans (hb.mono K3_4.out.size))
  have K4_5 := hide (K4_4.out.trans (hb.mono K4_4.out.size))
  have K5_5 := hide (Below.refl w5.heap.size w5)
  clear hb
  go_wp2_with (fail)
  refine (HO.out _ _ hr5.out).mono ?_
  rintro e w6 ⟨⟨A6, c6, rfl, ho⟩, hb⟩
  have K0_6 := hide (K0_5.out.trans (hb.mono K0_5.out.size))
  have K1_6 := hide (K1_5.out.trans (hb.mono K1_5.out.size))
  have K2_6 := hide (K2_5.out.trans (hb.mono K2_5.out.size))
  have K3_6 := hide (K3_5.out.trans (hb.mono K3_5.out.size))
  have K4_6 := hide (K4_5.out.trans (hb.mono K4_5.out.size))
  have K5_6 := hide (K5_5.out.trans (hb.mono K5_5.out.size))
  have K6_6 := hide (Below.refl w6.heap.size w6)
  clear hb
  have hs6 := hide (own_rd (l := ([⟨0, 0, 3, 3⟩] : List R4)) ho (fun _ => rfl))
  clear ho
  go_wp2_with (fail)
  refine (rect_any (0) (0) (1) (1)).mono ?_
  rintro e x1 ⟨rfl, o1, hb1⟩
  go_wp2_with (fail)
  refine (rect_any (2) (0) (3) (1)).mono ?_
  rintro e x2 ⟨rfl, o2, hb2⟩
  have O1 := hide (own_below o1 hb2)
  have R2 := hide (own_rd (l := ([⟨2, 0, 3, 1⟩] : List R4)) o2 (fun _ => rfl))
  have hb12 := hide (hb1.trans (hb2.mono hb1.size))
  clear o1 o2 hb1 hb2
  go_wp2_with (at_builtin; go_loud (refine wpList_app_rd (enc := encR) (k := 4) (l := ([⟨2, 0, 3, 1⟩] : List R4)) rfl (fun _ => rfl) one_encR (.tmp 30) (.tmp 31) 25 rfl w6.heap.size 48 i1 (.agg #[.int .i64 0, .int .i64 0, .int .i64 0, .int .i64 0]) 32 Tryz.underlying25 gi gz0 gz1 gz2 rfl (by decide) (.slice (some ⟨w6.heap.size, 0, none⟩) 1 1) 1 _ rfl O1.out x2.heap.size R2.out (by decide) (by decide) hb12.out.size ?_))
  intro vp7 w7 ho hg
  have hb : Below w6.heap.size w6 w7 := hb12.out.grown hg hb12.out.size (fun q hq => (O1.out.lt q hq).1)
  have hr7 := hide (own_rd (l := ([⟨0, 0, 1, 1⟩, ⟨2, 0, 3, 1⟩] : List R4)) ho (fun _ => rfl))
  obtain ⟨Ap7, cp7, hvp⟩ := own_form ho
  subst hvp
  clear ho hg O1 R2 hb12
  have K0_7 := hide (K0_6.out.trans (hb.mono K0_6.out.size))
  have K1_7 := hide (K1_6.out.trans (hb.mono K1_6.out.size))
  have K2_7 := hide (K2_6.out.trans (hb.mono K2_6.out.size))
  have K3_7 := hide (K3_6.out.trans (hb.mono K3_6.out.size))
  have K4_7 := hide (K4_6.out.trans (hb.mono K4_6.out.size))
  have K5_7 := hide (K5_6.out.trans (hb.mono K5_6.out.size))
  have K6_7 := hide (K6_6.out.trans (hb.mono K6_6.out.size))
  have K7_7 := hide (Below.refl w7.heap.size w7)
  clear hb
  go_wp2_with (fail)
  refine (HC.out _ _ hr7.out).mono ?_
  rintro e w8 ⟨⟨A8, c8, rfl, ho⟩, hb⟩
  have K0_8 := hide (K0_7.out.trans (hb.mono K0_7.out.size))
  have K1_8 := hide (K1_7.out.trans (hb.mono K1_7.out.size))
  have K2_8 := hide (K2_7.out.trans (hb.mono K2_7.out.size))
  have K3_8 := hide (K3_7.out.trans (hb.mono K3_7.out.size))
  have K4_8 := hide (K4_7.out.trans (hb.mono K4_7.out.size))
  have K5_8 := hide (K5_7.out.trans (hb.mono K5_7.out.size))
  have K6_8 := hide (K6_7.out.trans (hb.mono K6_7.out.size))
  have K7_8 := hide (K7_7.out.trans (hb.mono K7_7.out.size))
  have K8_8 := hide (Below.refl w8.heap.size w8)
  clear hb
  have hs8 := hide (own_rd (l := ([⟨0, 0, 3, 1⟩] : List R4)) ho (fun _ => rfl))
  clear ho
  go_wp2_with (fail)
  refine (rect_any (0) (0) (5) (3)).mono ?_
  rintro e w9 ⟨rfl, ho, hb⟩
  have K0_9 := hide (K0_8.out.trans (hb.mono K0_8.out.size))
  have K1_9 := hide (K1_8.out.trans (hb.mono K1_8.out.size))
  have K2_9 := hide (K2_8.out.trans (hb.mono K2_8.out.size))
  have K3_9 := hide (K3_8.out.trans (hb.mono K3_8.out.size))
  have K4_9 := hide (K4_8.out.trans (hb.mono K4_8.out.size))
  have K5_9 := hide (K5_8.out.trans (hb.mono K5_8.out.size))
  have K6_9 := hide (K6_8.out.trans (hb.mono K6_8.out.size))
  have K7_9 := hide (K7_8.out.trans (hb.mono K7_8.out.size))
  have K8_9 := hide (K8_8.out.trans (hb.mono K8_8.out.size))
  have K9_9 := hide (Below.refl w9.heap.size w9)
  clear hb
  have hr9 := hide (own_rd (l := ([⟨0, 0, 5, 3⟩] : List R4)) ho (fun _ => rfl))
  clear ho
  go_wp2_with (fail)
  refine (HD.out _ _ hr9.out).mono ?_
  rintro e w10 ⟨rfl, hb⟩
  have K0_10 := hide (K0_9.out.trans (hb.mono K0_9.out.size))
  have K1_10 := hide (K1_9.out.trans (hb.mono K1_9.out.size))
  have K2_10 := hide (K2_9.out.trans (hb.mono K2_9.out.size))
  have K3_10 := hide (K3_9.out.trans (hb.mono K3_9.out.size))
  have K4_10 := hide (K4_9.out.trans (hb.mono K4_9.out.size))
  have K5_10 := hide (K5_9.out.trans (hb.mono K5_9.out.size))
  have K6_10 := hide (K6_9.out.trans (hb.mono K6_9.out.size))
  have K7_10 := hide (K7_9.out.trans (hb.mono K7_9.out.size))
  have K8_10 := hide (K8_9.out.trans (hb.mono K8_9.out.size))
  have K9_10 := hide (K9_9.out.trans (hb.mono K9_9.out.size))
  clear hb
  go_wp2_with (fail)
  refine (rect_any (1) (1) (4) (2)).mono ?_
  rintro e w11 ⟨rfl, ho, hb⟩
  have K0_11 := hide (K0_10.out.trans (hb.mono K0_10.out.size))
  have K1_11 := hide (K1_10.out.trans (hb.mono K1_10.out.size))
  have K2_11 := hide (K2_10.out.trans (hb.mono K2_10.out.size))
  have K3_11 := hide (K3_10.out.trans (hb.mono K3_10.out.size))
  have K4_11 := hide (K4_10.out.trans (hb.mono K4_10.out.size))
  have K5_11 := hide (K5_10.out.trans (hb.mono K5_10.out.size))
  have K6_11 := hide (K6_10.out.trans (hb.mono K6_10.out.size))
  have K7_11 := hide (K7_10.out.trans (hb.mono K7_10.out.size))
  have K8_11 := hide (K8_10.out.trans (hb.mono K8_10.out.size))
  have K9_11 := hide (K9_10.out.trans (hb.mono K9_10.out.size))
  have K11_11 := hide (Below.refl w11.heap.size w11)
  clear hb
  have hr11 := hide (own_rd (l := ([⟨1, 1, 4, 2⟩] : List R4)) ho (fun _ => rfl))
  clear ho
  go_wp2_with (fail)
  refine (HSA.out _ _ _ _ ((hs2.out.below K2_11.out).mono K2_11.out.size) hr11.out (by simp)).mono ?_
  rintro e w12 ⟨rfl, hb⟩
  have K0_12 := hide (K0_11.out.trans (hb.mono K0_11.out.size))
  have K1_12 := hide (K1_11.out.trans (hb.mono K1_11.out.size))
  have K2_12 := hide (K2_11.out.trans (hb.mono K2_11.out.size))
  have K3_12 := hide (K3_11.out.trans (hb.mono K3_11.out.size))
  have K4_12 := hide (K4_11.out.trans (hb.mono K4_11.out.size))
  have K5_12 := hide (K5_11.out.trans (hb.mono K5_11.out.size))
  have K6_12 := hide (K6_11.out.trans (hb.mono K6_11.out.size))
  have K7_12 := hide (K7_11.out.trans (hb.mono K7_11.out.size))
  have K8_12 := hide (K8_11.out.trans (hb.mono K8_11.out.size))
  have K9_12 := hide (K9_11.out.trans (hb.mono K9_11.out.size))
  have K11_12 := hide (K11_11.out.trans (hb.mono K11_11.out.size))
  clear hb
  go_wp2_with (fail)
  refine (rect_any (0) (0) (3) (3)).mono ?_
  rintro e w13 ⟨rfl, ho, hb⟩
  have K0_13 := hide (K0_12.out.trans (hb.mono K0_12.out.size))
  have K1_13 := hide (K1_12.out.trans (hb.mono K1_12.out.size))
  have K2_13 := hide (K2_12.out.trans (hb.mono K2_12.out.size))
  have K3_13 := hide (K3_12.out.trans (hb.mono K3_12.out.size))
  have K4_13 := hide (K4_12.out.trans (hb.mono K4_12.out.size))
  have K5_13 := hide (K5_12.out.trans (hb.mono K5_12.out.size))
  have K6_13 := hide (K6_12.out.trans (hb.mono K6_12.out.size))
  have K7_13 := hide (K7_12.out.trans (hb.mono K7_12.out.size))
  have K8_13 := hide (K8_12.out.trans (hb.mono K8_12.out.size))
  have K9_13 := hide (K9_12.out.trans (hb.mono K9_12.out.size))
  have K11_13 := hide (K11_12.out.trans (hb.mono K11_12.out.size))
  have K13_13 := hide (Below.refl w13.heap.size w13)
  clear hb
  have hr13 := hide (own_rd (l := ([⟨0, 0, 3, 3⟩] : List R4)) ho (fun _ => rfl))
  clear ho
  go_wp2_with (fail)
  refine (HSA.out _ _ _ _ ((hs6.out.below K6_13.out).mono K6_13.out.size) hr13.out (by simp)).mono ?_
  rintro e w14 ⟨rfl, hb⟩
  have K0_14 := hide (K0_13.out.trans (hb.mono K0_13.out.size))
  have K1_14 := hide (K1_13.out.trans (hb.mono K1_13.out.size))
  have K2_14 := hide (K2_13.out.trans (hb.mono K2_13.out.size))
  have K3_14 := hide (K3_13.out.trans (hb.mono K3_13.out.size))
  have K4_14 := hide (K4_13.out.trans (hb.mono K4_13.out.size))
  have K5_14 := hide (K5_13.out.trans (hb.mono K5_13.out.size))
  have K6_14 := hide (K6_13.out.trans (hb.mono K6_13.out.size))
  have K7_14 := hide (K7_13.out.trans (hb.mono K7_13.out.size))
  have K8_14 := hide (K8_13.out.trans (hb.mono K8_13.out.size))
  have K9_14 := hide (K9_13.out.trans (hb.mono K9_13.out.size))
  have K11_14 := hide (K11_13.out.trans (hb.mono K11_13.out.size))
  have K13_14 := hide (K13_13.out.trans (hb.mono K13_13.out.size))
  clear hb
  go_wp2_with (fail)
  refine (rect_any (0) (0) (3) (1)).mono ?_
  rintro e w15 ⟨rfl, ho, hb⟩
  have K0_15 := hide (K0_14.out.trans (hb.mono K0_14.out.size))
  have K1_15 := hide (K1_14.out.trans (hb.mono K1_14.out.size))
  have K2_15 := hide (K2_14.out.trans (hb.mono K2_14.out.size))
  have K3_15 := hide (K3_14.out.trans (hb.mono K3_14.out.size))
  have K4_15 := hide (K4_14.out.trans (hb.mono K4_14.out.size))
  have K5_15 := hide (K5_14.out.trans (hb.mono K5_14.out.size))
  have K6_15 := hide (K6_14.out.trans (hb.mono K6_14.out.size))
  have K7_15 := hide (K7_14.out.trans (hb.mono K7_14.out.size))
  have K8_15 := hide (K8_14.out.trans (hb.mono K8_14.out.size))
  have K9_15 := hide (K9_14.out.trans (hb.mono K9_14.out.size))
  have K11_15 := hide (K11_14.out.trans (hb.mono K11_14.out.size))
  have K13_15 := hide (K13_14.out.trans (hb.mono K13_14.out.size))
  have K15_15 := hide (Below.refl w15.heap.size w15)
  clear hb
  have hr15 := hide (own_rd (l := ([⟨0, 0, 3, 1⟩] : List R4)) ho (fun _ => rfl))
  clear ho
  go_wp2_with (fail)
  refine (HSA.out _ _ _ _ ((hs8.out.below K8_15.out).mono K8_15.out.size) hr15.out (by simp)).mono ?_
  rintro e w16 ⟨rfl, hb⟩
  have K0_16 := hide (K0_15.out.trans (hb.mono K0_15.out.size))
  have K1_16 := hide (K1_15.out.trans (hb.mono K1_15.out.size))
  have K2_16 := hide (K2_15.out.trans (hb.mono K2_15.out.size))
  have K3_16 := hide (K3_15.out.trans (hb.mono K3_15.out.size))
  have K4_16 := hide (K4_15.out.trans (hb.mono K4_15.out.size))
  have K5_16 := hide (K5_15.out.trans (hb.mono K5_15.out.size))
  have K6_16 := hide (K6_15.out.trans (hb.mono K6_15.out.size))
  have K7_16 := hide (K7_15.out.trans (hb.mono K7_15.out.size))
  have K8_16 := hide (K8_15.out.trans (hb.mono K8_15.out.size))
  have K9_16 := hide (K9_15.out.trans (hb.mono K9_15.out.size))
  have K11_16 := hide (K11_15.out.trans (hb.mono K11_15.out.size))
  have K13_16 := hide (K13_15.out.trans (hb.mono K13_15.out.size))
  have K15_16 := hide (K15_15.out.trans (hb.mono K15_15.out.size))
  clear hb
  go_wp2_with (fail)
  go_ret
  exact ⟨rfl, K0_16.out⟩
end Go.Proofs.YtpgjfpeepbjflaaGreat

/- Plain: opening, closing, borders and margins of a region that fits. -/
namespace Go.Proofs.YtpgjfpeepbjflaaGreat
open Go.RowKit
set_option linter.unusedVariables false
set_option linter.unusedSimpArgs false

theorem openF_len2 (l : List R4) (d : Int) : (openF l d).1.length ≤ 400 := by
  unfold openF
  split
  · exact growF_len _ _
  · simp
theorem closeF_len2 (l : List R4) (d : Int) : (closeF l d).1.length ≤ 400 := by
  unfold closeF
  split
  · exact shrF_len _ _
  · simp
theorem join_is {h : Bool → Bool → Bool} (h0 : h false false = false) {a b R : List R4} (ha : checkF a = 0) (hb : checkF b = 0) (hR : checkF R = 0) (hp : ∀ x y, pmem R x y ↔ h (decide (pmem a x y)) (decide (pmem b x y)) = true) : joinF h a b = (R, 0) := by
  rw [joinF_ok ha hb, ← rjoin_eq h0 (check_wf ha) (check_wf hb) (check_rcan hR) hp, if_neg (by have := (checkF_ok hR).1; omega)]
theorem check_nil : checkF [] = 0 := by kernel_rfl
theorem sub_nil {a b : List R4} (ha : checkF a = 0) (hb : checkF b = 0) (h : ∀ x y, pmem a x y → pmem b x y) : joinF hSub a b = ([], 0) :=
  join_is rfl ha hb check_nil fun x y => by
    simp only [hSub, Bool.and_eq_true, Bool.not_eq_true', decide_eq_true_eq, decide_eq_false_iff_not]
    exact ⟨fun q => absurd q pmem_nil, fun q => absurd (h x y q.1) q.2⟩
theorem FitO.opens {l : List R4} {d : Int} (h : FitO l d) : openF l d = ([], 4) ∨ ∃ O, openF l d = (O, 0) ∧ O.length ≤ 400 ∧ joinF hSub O l = ([], 0) ∧ ((openF O d).2 = 0 → (openF O d).1 = O) := by
  rcases h.openC with e | ⟨O, e, k, n⟩
  · exact .inl e
  · exact .inr ⟨O, e, n, sub_nil k h.2.1 fun x y => open_in e, fun hA => open_twice e (Prod.ext rfl hA)⟩
theorem FitO.closes {l : List R4} {d : Int} (h : FitO l d) : closeF l d = ([], 4) ∨ ∃ O, closeF l d = (O, 0) ∧ O.length ≤ 400 ∧ joinF hSub l O = ([], 0) ∧ ((closeF O d).2 = 0 → (closeF O d).1 = O) := by
  rcases h.closeC with e | ⟨O, e, k, n⟩
  · exact .inl e
  · exact .inr ⟨O, e, n, sub_nil h.2.1 k fun x y => in_close e, fun hA => close_twice e (Prod.ext rfl hA)⟩
theorem joinF_code {h : Bool → Bool → Bool} {a b : List R4} (ha : checkF a = 0) (hb : checkF b = 0) : joinF h a b = ([], 4) ∨ ∃ R, joinF h a b = (R, 0) ∧ R.length ≤ 400 := by
  rw [joinF_ok ha hb]
  split
  · exact .inl rfl
  · exact .inr ⟨_, rfl, by omega⟩
/-- A region and a part of it: the part and the rest are disjoint and together the region. -/
theorem rest_ok {a b R : List R4} (ha : checkF a = 0) (hb : checkF b = 0) (hs : ∀ x y, pmem b x y → pmem a x y) (h : joinF hSub a b = (R, 0)) :
    (joinF hOr b R = (a, 0) ∧ joinF hAnd b R = ([], 0)) := by
  have hR : checkF R = 0 ∧ ∀ x y, pmem R x y ↔ pmem a x y ∧ ¬ pmem b x y := by
    rw [joinF_ok ha hb] at h
    by_cases hl : 400 < (rjoin hSub a b).length
    · rw [if_pos hl] at h; simp at h
    · rw [if_neg hl] at h
      injection h with h _
      subst h
      refine ⟨join_check (h := hSub) rfl ha hb (by omega), fun x y => ?_⟩
      rw [join_pts (h := hSub) rfl ha hb]
      simp [hSub]
  refine ⟨join_is (h := hOr) rfl hb hR.1 ha fun x y => ?_, join_is (h := hAnd) rfl hb hR.1 check_nil fun x y => ?_⟩
  · simp only [hOr, Bool.or_eq_true, decide_eq_true_eq, hR.2]
    constructor
    · intro q
      by_cases p : pmem b x y
      · exact .inl p
      · exact .inr ⟨q, p⟩
    · rintro (q | ⟨q, _⟩)
      · exact hs x y q
      · exact q
  · simp only [hAnd, Bool.and_eq_true, decide_eq_true_eq, hR.2]
    exact ⟨fun q => absurd q pmem_nil, fun q => absurd q.1 q.2.2⟩
theorem FitO.borders {l : List R4} {d : Int} (h : FitO l d) : (shrF l d = ([], 4) ∧ borderF l d = ([], 4)) ∨ ∃ S, shrF l d = (S, 0) ∧ S.length ≤ 400 ∧ (borderF l d = ([], 4) ∨ ∃ R, borderF l d = (R, 0) ∧ R.length ≤ 400 ∧ joinF hOr S R = (l, 0) ∧ joinF hAnd S R = ([], 0)) := by
  rcases h.shrink with e | ⟨S, e, k, n, p⟩
  · exact .inl ⟨e, by unfold borderF; rw [e]; rfl⟩
  · refine .inr ⟨S, e, n, ?_⟩
    have eb : borderF l d = joinF hSub l S := by unfold borderF; rw [e]; rfl
    rw [eb]
    rcases joinF_code (h := hSub) h.2.1 k with e2 | ⟨R, e2, m⟩
    · exact .inl e2
    · obtain ⟨a, b⟩ := rest_ok h.2.1 k (fun x y hx => full_mem h.2.2.1 ((p x y).1 hx)) e2
      exact .inr ⟨R, e2, m, a, b⟩
theorem FitO.margins {l : List R4} {d : Int} (h : FitO l d) : (growF l d = ([], 4) ∧ marginF l d = ([], 4)) ∨ ∃ S, growF l d = (S, 0) ∧ S.length ≤ 400 ∧ (marginF l d = ([], 4) ∨ ∃ R, marginF l d = (R, 0) ∧ R.length ≤ 400 ∧ joinF hOr l R = (S, 0) ∧ joinF hAnd l R = ([], 0)) := by
  rcases h.grow with e | ⟨S, e, k, n, p⟩
  · exact .inl ⟨e, by unfold marginF; rw [e]; rfl⟩
  · refine .inr ⟨S, e, n, ?_⟩
    have eb : marginF l d = joinF hSub S l := by unfold marginF; rw [e]; rfl
    rw [eb]
    rcases joinF_code (h := hSub) k h.2.1 with e2 | ⟨R, e2, m⟩
    · exact .inl e2
    · obtain ⟨a, b⟩ := rest_ok k h.2.1 (fun x y hx => (p x y).2 (mem_near h.2.2.1 hx)) e2
      exact .inr ⟨R, e2, m, a, b⟩

end Go.Proofs.YtpgjfpeepbjflaaGreat

/- Six parameters, opened. -/
namespace Go.Proofs.YtpgjfpeepbjflaaGreat
open Go.ChangeShapes Go.WideShapes Go.ChangeAt Go.RowKit Go.Joins Go.Deep
set_option linter.unusedVariables false
set_option linter.unusedSimpArgs false

section
variable {H : Type} {enc : TypeId × Value → H} {P : Program} {w : World} {base : Nat} {spare : Nat → Bool} {held : Bool}
theorem trodAll_six {t0 t1 t2 t3 t4 t5 : TypeId} {args : Array Value} {ds : List (DataW H)} {ps : List MemPlace} (h : DataW.TrodAll enc P w base spare held [t0, t1, t2, t3, t4, t5] args.toList ds ps) :
    ∃ v0 v1 v2 v3 v4 v5 d0 d1 d2 d3 d4 d5 p0 p1 p2 p3 p4 p5, args = #[v0, v1, v2, v3, v4, v5] ∧ ds = [d0, d1, d2, d3, d4, d5] ∧ ps = p0 ++ p1 ++ p2 ++ p3 ++ p4 ++ p5 ∧ DataW.Trod enc P w base spare held t0 v0 d0 p0 ∧ DataW.Trod enc P w base spare held t1 v1 d1 p1 ∧ DataW.Trod enc P w base spare held t2 v2 d2 p2 ∧ DataW.Trod enc P w base spare held t3 v3 d3 p3 ∧ DataW.Trod enc P w base spare held t4 v4 d4 p4 ∧ DataW.Trod enc P w base spare held t5 v5 d5 p5 := by
  obtain ⟨v0, vs0, d0, ds0, p0, q0, hargs, rfl, rfl, hd0, hr0⟩ := trodAll_cons h
  obtain ⟨v1, vs1, d1, ds1, p1, q1, rfl, rfl, rfl, hd1, hr1⟩ := trodAll_cons hr0
  obtain ⟨v2, vs2, d2, ds2, p2, q2, rfl, rfl, rfl, hd2, hr2⟩ := trodAll_cons hr1
  obtain ⟨v3, vs3, d3, ds3, p3, q3, rfl, rfl, rfl, hd3, hr3⟩ := trodAll_cons hr2
  obtain ⟨v4, vs4, d4, ds4, p4, q4, rfl, rfl, rfl, hd4, hr4⟩ := trodAll_cons hr3
  obtain ⟨v5, vs5, d5, ds5, p5, q5, rfl, rfl, rfl, hd5, hr5⟩ := trodAll_cons hr4
  obtain ⟨rfl, rfl, rfl⟩ := trodAll_nil hr5
  exact ⟨v0, v1, v2, v3, v4, v5, d0, d1, d2, d3, d4, d5, p0, p1, p2, p3, p4, p5, by cases args; simp_all, rfl, by simp, hd0, hd1, hd2, hd3, hd4, hd5⟩
end
end Go.Proofs.YtpgjfpeepbjflaaGreat
