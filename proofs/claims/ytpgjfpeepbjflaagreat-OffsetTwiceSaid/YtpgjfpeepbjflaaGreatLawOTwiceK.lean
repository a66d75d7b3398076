/- OffsetTwice's walk. -/
import Derived.Test.YtpgjfpeepbjflaaGreatLawOWorksK
namespace Go.Proofs.YtpgjfpeepbjflaaGreat
open Go.RowKit
set_option linter.unusedVariables false
set_option linter.unusedSimpArgs false

theorem openF_len (l : List R4) (d : Int) : (openF l d).1.length ≤ 400 := by
  unfold openF
  split
  · exact growF_len _ _
  · simp
theorem closeF_len (l : List R4) (d : Int) : (closeF l d).1.length ≤ 400 := by
  unfold closeF
  split
  · exact shrF_len _ _
  · simp
theorem borderF_len (l : List R4) (d : Int) : (borderF l d).1.length ≤ 400 := by
  unfold borderF
  split
  · exact joinF_len _ _ _
  · simp
theorem marginF_len (l : List R4) (d : Int) : (marginF l d).1.length ≤ 400 := by
  unfold marginF
  split
  · exact joinF_len _ _ _
  · simp
set_option maxRecDepth 100000 in
set_option maxHeartbeats 4000000 in
theorem otwice_walk {w : World} {va : Value} {l : List R4} (hra : RdK encR 4 w w.heap.size va l) (la : l.length ≤ maxLen) (d : Int) :
    Calls Tryz.prog 6 #[va, .int .i64 d] w fun e w' => e = .returned (.bool true) ∧ Below w.heap.size w w' := by
  have hA := hide hra
  obtain ⟨A1, c1, hva, _⟩ := hra
  subst hva
  have G1 := hide (fun W => greatO_any (w := W) A1 l.length c1 la)
  by_cases h1 : greatO l.length
  · rw [decide_eq_true h1] at G1
    go_enter Tryz.func6, Tryz.ntmps6
    go_wp2_with (fail)
    refine (G1.out _).mono ?_
    rintro e wp ⟨rfl, rfl⟩
    go_wp2_with (fail)
    go_ret
    exact ⟨rfl, Below.refl _ _⟩
  rw [decide_eq_false h1] at G1
  have n1 := not_greatO h1
  have n2 := openF_len l d
  have n3 := closeF_len l d
  have n4 := borderF_len l d
  have n5 := marginF_len l d
  have HO : Hid (∀ (W : World) (v : Value), RdK encR 4 W W.heap.size v l → (Calls Tryz.prog 23 #[v, .int .i64 d] W fun e w' => RegRet W.heap.size (openF l d) e w' ∧ Below W.heap.size W w') ∧ Calls Tryz.prog 24 #[v, .int .i64 d] W fun e w' => RegRet W.heap.size (openF l d) e w' ∧ Below W.heap.size W w') := hide (fun W v h => ⟨oOpen_any h (by omega) d, rOpen_any h (by omega) d⟩)
  have HC : Hid (∀ (W : World) (v : Value), RdK encR 4 W W.heap.size v l → (Calls Tryz.prog 25 #[v, .int .i64 d] W fun e w' => RegRet W.heap.size (closeF l d) e w' ∧ Below W.heap.size W w') ∧ Calls Tryz.prog 26 #[v, .int .i64 d] W fun e w' => RegRet W.heap.size (closeF l d) e w' ∧ Below W.heap.size W w') := hide (fun W v h => ⟨oClose_any h (by omega) d, rClose_any h (by omega) d⟩)
  have HB : Hid (∀ (W : World) (v : Value), RdK encR 4 W W.heap.size v l → (Calls Tryz.prog 27 #[v, .int .i64 d] W fun e w' => RegRet W.heap.size (borderF l d) e w' ∧ Below W.heap.size W w') ∧ Calls Tryz.prog 28 #[v, .int .i64 d] W fun e w' => RegRet W.heap.size (borderF l d) e w' ∧ Below W.heap.size W w') := hide (fun W v h => ⟨oBorder_any h (by omega) d, rBorder_any h (by omega) d⟩)
  have HM : Hid (∀ (W : World) (v : Value), RdK encR 4 W W.heap.size v l → (Calls Tryz.prog 29 #[v, .int .i64 d] W fun e w' => RegRet W.heap.size (marginF l d) e w' ∧ Below W.heap.size W w') ∧ Calls Tryz.prog 30 #[v, .int .i64 d] W fun e w' => RegRet W.heap.size (marginF l d) e w' ∧ Below W.heap.size W w') := hide (fun W v h => ⟨oMargin_any h (by omega) d, rMargin_any h (by omega) d⟩)
  clear h1 la
  generalize openF l d = PO at *
  obtain ⟨RO, eO⟩ := PO
  generalize closeF l d = PC at *
  obtain ⟨RC, eC⟩ := PC
  generalize borderF l d = PB at *
  obtain ⟨RB, eB⟩ := PB
  generalize marginF l d = PM at *
  obtain ⟨RM, eM⟩ := PM
  simp only at n2 n3 n4 n5
  go_enter Tryz.func6, Tryz.ntmps6
  go_wp2_with (fail)
  refine (G1.out _).mono ?_
  rintro e wp ⟨rfl, rfl⟩
  have K0_0 := hide (Below.refl w.heap.size w)
  go_wp2_with (fail)
  refine ((HO.out _ _ hA.out).1).mono ?_
  rintro e w1 ⟨⟨A0a, c0a, rfl, ho⟩, hb⟩
  have K0_1 := hide (K0_0.out.trans (hb.mono K0_0.out.size))
  have K1_1 := hide (Below.refl w1.heap.size w1)
  clear hb
  have hO1 := hide (own_rd ho (fun _ => rfl))
  clear ho
  go_wp2_with (fail)
  refine ((HO.out _ _ ((hA.out.below K0_1.out).mono K0_1.out.size)).2).mono ?_
  rintro e w2 ⟨⟨A1b, c1b, rfl, ho⟩, hb⟩
  have K0_2 := hide (K0_1.out.trans (hb.mono K0_1.out.size))
  have K1_2 := hide (K1_1.out.trans (hb.mono K1_1.out.size))
  have K2_2 := hide (Below.refl w2.heap.size w2)
  clear hb
  have hO2 := hide (own_rd ho (fun _ => rfl))
  clear ho
  go_wp2_with (fail)
  refine ((HC.out _ _ ((hA.out.below K0_2.out).mono K0_2.out.size)).1).mono ?_
  rintro e w3 ⟨⟨A2a, c2a, rfl, ho⟩, hb⟩
  have K0_3 := hide (K0_2.out.trans (hb.mono K0_2.out.size))
  have K1_3 := hide (K1_2.out.trans (hb.mono K1_2.out.size))
  have K2_3 := hide (K2_2.out.trans (hb.mono K2_2.out.size))
  have K3_3 := hide (Below.refl w3.heap.size w3)
  clear hb
  have hC1 := hide (own_rd ho (fun _ => rfl))
  clear ho
  go_wp2_with (fail)
  refine ((HC.out _ _ ((hA.out.below K0_3.out).mono K0_3.out.size)).2).mono ?_
  rintro e w4 ⟨⟨A3b, c3b, rfl, ho⟩, hb⟩
  have K0_4 := hide (K0_3.out.trans (hb.mono K0_3.out.size))
  have K1_4 := hide (K1_3.out.trans (hb.mono K1_3.out.size))
  have K2_4 := hide (K2_3.out.trans (hb.mono K2_3.out.size))
  have K3_4 := hide (K3_3.out.trans (hb.mono K3_3.out.size))
  have K4_4 := hide (Below.refl w4.heap.size w4)
  clear hb
  have hC2 := hide (own_rd ho (fun _ => rfl))
  clear ho
  go_wp2_with (fail)
  refine ((HB.out _ _ ((hA.out.below K0_4.out).mono K0_4.out.size)).1).mono ?_
  rintro e w5 ⟨⟨A4a, c4a, rfl, ho⟩, hb⟩
  have K0_5 := hide (K0_4.out.trans (hb.mono K0_4.out.size))
  have K1_5 := hide (K1_4.out.trans (hb.mono K1_4.out.size))
  have K2_5 := hide (K2_4.out.trans (hb.mono K2_4.out.size))
  have K3_5 := hide (K3_4.out.trans (hb.mono K3_4.out.size))
  have K4_5 := hide (K4_4.out.trans (hb.mono K4_4.out.size))
  have K5_5 := hide (Below.refl w5.heap.size w5)
  clear hb
  have hB1 := hide (own_rd ho (fun _ => rfl))
  clear ho
  go_wp2_with (fail)
  refine ((HB.out _ _ ((hA.out.below K0_5.out).mono K0_5.out.size)).2).mono ?_
  rintro e w6 ⟨⟨A5b, c5b, rfl, ho⟩, hb⟩
  have K0_6 := hide (K0_5.out.trans (hb.mono K0_5.out.size))
  have K1_6 := hide (K1_5.out.trans (hb.mono K1_5.out.size))
  have K2_6 := hide (K2_5.out.trans (hb.mono K2_5.out.size))
  have K3_6 := hide (K3_5.out.trans (hb.mono K3_5.out.size))
  have K4_6 := hide (K4_5.out.trans (hb.mono K4_5.out.size))
  have K5_6 := hide (K5_5.out.trans (hb.mono K5_5.out.size))
  have K6_6 := hide (Below.refl w6.heap.size w6)
  clear hb
  have hB2 := hide (own_rd ho (fun _ => rfl))
  clear ho
  go_wp2_with (fail)
  refine ((HM.out _ _ ((hA.out.below K0_6.out).mono K0_6.out.size)).1).mono ?_
  rintro e w7 ⟨⟨A6a, c6a, rfl, ho⟩, hb⟩
  have K0_7 := hide (K0_6.out.trans (hb.mono K0_6.out.size))
  have K1_7 := hide (K1_6.out.trans (hb.mono K1_6.out.size))
  have K2_7 := hide (K2_6.out.trans (hb.mono K2_6.out.size))
  have K3_7 := hide (K3_6.out.trans (hb.mono K3_6.out.size))
  have K4_7 := hide (K4_6.out.trans (hb.mono K4_6.out.size))
  have K5_7 := hide (K5_6.out.trans (hb.mono K5_6.out.size))
  have K6_7 := hide (K6_6.out.trans (hb.mono K6_6.out.size))
  have K7_7 := hide (Below.refl w7.heap.size w7)
  clear hb
  have hM1 := hide (own_rd ho (fun _ => rfl))
  clear ho
  go_wp2_with (fail)
  refine ((HM.out _ _ ((hA.out.below K0_7.out).mono K0_7.out.size)).2).mono ?_
  rintro e w8 ⟨⟨A7b, c7b, rfl, ho⟩, hb⟩
  have K0_8 := hide (K0_7.out.trans (hb.mono K0_7.out.size))
  have K1_8 := hide (K1_7.out.trans (hb.mono K1_7.out.size))
  have K2_8 := hide (K2_7.out.trans (hb.mono K2_7.out.size))
  have K3_8 := hide (K3_7.out.trans (hb.mono K3_7.out.size))
  have K4_8 := hide (K4_7.out.trans (hb.mono K4_7.out.size))
  have K5_8 := hide (K5_7.out.trans (hb.mono K5_7.out.size))
  have K6_8 := hide (K6_7.out.trans (hb.mono K6_7.out.size))
  have K7_8 := hide (K7_7.out.trans (hb.mono K7_7.out.size))
  have K8_8 := hide (Below.refl w8.heap.size w8)
  clear hb
  have hM2 := hide (own_rd ho (fun _ => rfl))
  clear ho
  go_wp2_with (fail)
  refine (rSameSelf ((hO1.out.below K1_8.out).mono K1_8.out.size) ((hO2.out.below K2_8.out).mono K2_8.out.size) (by omega)).mono ?_
  rintro e w9 ⟨rfl, hb⟩
  have K0_9 := hide (K0_8.out.trans (hb.mono K0_8.out.size))
  have K1_9 := hide (K1_8.out.trans (hb.mono K1_8.out.size))
  have K2_9 := hide (K2_8.out.trans (hb.mono K2_8.out.size))
  have K3_9 := hide (K3_8.out.trans (hb.mono K3_8.out.size))
  have K4_9 := hide (K4_8.out.trans (hb.mono K4_8.out.size))
  have K5_9 := hide (K5_8.out.trans (hb.mono K5_8.out.size))
  have K6_9 := hide (K6_8.out.trans (hb.mono K6_8.out.size))
  have K7_9 := hide (K7_8.out.trans (hb.mono K7_8.out.size))
  have K8_9 := hide (K8_8.out.trans (hb.mono K8_8.out.size))
  clear hb
  go_wp2_with (fail)
  refine (rSameSelf ((hC1.out.below K3_9.out).mono K3_9.out.size) ((hC2.out.below K4_9.out).mono K4_9.out.size) (by omega)).mono ?_
  rintro e w10 ⟨rfl, hb⟩
  have K0_10 := hide (K0_9.out.trans (hb.mono K0_9.out.size))
  have K1_10 := hide (K1_9.out.trans (hb.mono K1_9.out.size))
  have K2_10 := hide (K2_9.out.trans (hb.mono K2_9.out.size))
  have K3_10 := hide (K3_9.out.trans (hb.mono K3_9.out.size))
  have K4_10 := hide (K4_9.out.trans (hb.mono K4_9.out.size))
  have K5_10 := hide (K5_9.out.trans (hb.mono K5_9.out.size))
  have K6_10 := hide (K6_9.out.trans (hb.mono K6_9.out.size))
  have K7_10 := hide (K7_9.out.trans (hb.mono K7_9.out.size))
  have K8_10 := hide (K8_9.out.trans (hb.mono K8_9.out.size))
  clear hb
  go_wp2_with (fail)
  refine (rSameSelf ((hB1.out.below K5_10.out).mono K5_10.out.size) ((hB2.out.below K6_10.out).mono K6_10.out.size) (by omega)).mono ?_
  rintro e w11 ⟨rfl, hb⟩
  have K0_11 := hide (K0_10.out.trans (hb.mono K0_10.out.size))
  have K1_11 := hide (K1_10.out.trans (hb.mono K1_10.out.size))
  have K2_11 := hide (K2_10.out.trans (hb.mono K2_10.out.size))
  have K3_11 := hide (K3_10.out.trans (hb.mono K3_10.out.size))
  have K4_11 := hide (K4_10.out.trans (hb.mono K4_10.out.size))
  have K5_11 := hide (K5_10.out.trans (hb.mono K5_10.out.size))
  have K6_11 := hide (K6_10.out.trans (hb.mono K6_10.out.size))
  have K7_11 := hide (K7_10.out.trans (hb.mono K7_10.out.size))
  have K8_11 := hide (K8_10.out.trans (hb.mono K8_10.out.size))
  clear hb
  go_wp2_with (fail)
  refine (rSameSelf ((hM1.out.below K7_11.out).mono K7_11.out.size) ((hM2.out.below K8_11.out).mono K8_11.out.size) (by omega)).mono ?_
  rintro e w12 ⟨rfl, hb⟩
  have K0_12 := hide (K0_11.out.trans (hb.mono K0_11.out.size))
  have K1_12 := hide (K1_11.out.trans (hb.mono K1_11.out.size))
  have K2_12 := hide (K2_11.out.trans (hb.mono K2_11.out.size))
  have K3_12 := hide (K3_11.out.trans (hb.mono K3_11.out.size))
  have K4_12 := hide (K4_11.out.trans (hb.mono K4_11.out.size))
  have K5_12 := hide (K5_11.out.trans (hb.mono K5_11.out.size))
  have K6_12 := hide (K6_11.out.trans (hb.mono K6_11.out.size))
  have K7_12 := hide (K7_11.out.trans (hb.mono K7_11.out.size))
  have K8_12 := hide (K8_11.out.trans (hb.mono K8_11.out.size))
  clear hb
  go_wp2_with (fail)
  go_ret
  exact ⟨rfl, K0_12.out⟩
end Go.Proofs.YtpgjfpeepbjflaaGreat
