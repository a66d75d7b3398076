/- RegionJoins' walk: Union, Meet and Minus against the reference. -/
import Derived.Test.YtamnaojheecopaaJoinU
import Derived.Test.YtamnaojheecopaaLawMakes
namespace Go.Proofs.Ytamnaojheecopaa
open Go.RowKit
set_option linter.unusedVariables false
set_option linter.unusedSimpArgs false

set_option maxRecDepth 100000 in
set_option maxHeartbeats 4000000 in
theorem joins_walk {w : World} {va vb : Value} {a b : List R4} (hra : RdK encR 4 w w.heap.size va a) (hrb : RdK encR 4 w w.heap.size vb b) (la : a.length ≤ maxLen) (lb : b.length ≤ maxLen) :
    Calls Try.prog 6 #[va, vb] w fun e w' => e = .returned (.bool true) ∧ Below w.heap.size w w' := by
  have hA := hide hra
  have hB := hide hrb
  obtain ⟨A1, c1, hva, _⟩ := hra
  obtain ⟨A2, c2, hvb, _⟩ := hrb
  subst hva; subst hvb
  have G1 := hide (fun W => rGreat_any A1 a.length c1 la W)
  have G2 := hide (fun W => rGreat_any A2 b.length c2 lb W)
  by_cases h1 : greatP a.length
  · rw [decide_eq_true h1] at G1
    go_enter Try.func6, Try.ntmps6
    go_wp2_with (fail)
    refine (G1.out _).mono ?_
    rintro e wp ⟨rfl, rfl⟩
    go_wp2_with (fail)
    go_ret
    exact ⟨rfl, Below.refl _ _⟩
  by_cases h2 : greatP b.length
  · rw [decide_eq_false h1] at G1
    rw [decide_eq_true h2] at G2
    go_enter Try.func6, Try.ntmps6
    go_wp2_with (fail)
    refine (G1.out _).mono ?_
    rintro e wp ⟨rfl, rfl⟩
    go_wp2_with (fail)
    refine (G2.out _).mono ?_
    rintro e wp ⟨rfl, rfl⟩
    go_wp2_with (fail)
    go_ret
    exact ⟨rfl, Below.refl _ _⟩
  rw [decide_eq_false h1] at G1
  rw [decide_eq_false h2] at G2
  have n1 := not_great h1
  have n2 := not_great h2
  have nU := joinF_len hOr a b
  have nM := joinF_len hAnd a b
  have nS := joinF_len hSub a b
  have hu := fun (W : World) (va vb : Value) (ra : RdK encR 4 W W.heap.size va a) (rb : RdK encR 4 W W.heap.size vb b) => And.intro (union_any ra rb (by omega) (by omega)) (hk_or ▸ rJoin_any 2 (.inr (.inl rfl)) ra rb (by omega) (by omega))
  have hm := fun (W : World) (va vb : Value) (ra : RdK encR 4 W W.heap.size va a) (rb : RdK encR 4 W W.heap.size vb b) => And.intro (meet_any ra rb (by omega) (by omega)) (hk_and ▸ rJoin_any 1 (.inl rfl) ra rb (by omega) (by omega))
  have hs := fun (W : World) (va vb : Value) (ra : RdK encR 4 W W.heap.size va a) (rb : RdK encR 4 W W.heap.size vb b) => And.intro (minus_any ra rb (by omega) (by omega)) (hk_sub ▸ rJoin_any 3 (.inr (.inr rfl)) ra rb (by omega) (by omega))
  generalize joinF hOr a b = P1 at *
  generalize joinF hAnd a b = P2 at *
  generalize joinF hSub a b = P3 at *
  obtain ⟨l1, e1⟩ := P1
  obtain ⟨l2, e2⟩ := P2
  obtain ⟨l3, e3⟩ := P3
  have HU := hide hu
  have HM := hide hm
  have HS := hide hs
  clear h1 h2 la lb hu hm hs n1 n2
  go_enter Try.func6, Try.ntmps6
  go_wp2_with (fail)
  refine (G1.out _).mono ?_
  rintro e wp ⟨rfl, rfl⟩
  go_wp2_with (fail)
  refine (G2.out _).mono ?_
  rintro e wp ⟨rfl, rfl⟩
  have K0_0 := hide (Below.refl w.heap.size w)
  go_wp2_with (fail)
  refine ((HU.out _ _ _ hA.out hB.out).1).mono ?_
  rintro e w1 ⟨⟨A0a, c0a, rfl, ho⟩, hb⟩
  have K0_1 := hide (K0_0.out.trans (hb.mono K0_0.out.size))
  have K1_1 := hide (Below.refl w1.heap.size w1)
  clear hb
  have hHU1 := hide (own_rd ho (fun _ => rfl))
  clear ho
  go_wp2_with (fail)
  refine ((HU.out _ _ _ ((hA.out.below K0_1.out).mono K0_1.out.size) ((hB.out.below K0_1.out).mono K0_1.out.size)).2).mono ?_
  rintro e w2 ⟨⟨A1a, c1a, rfl, ho⟩, hb⟩
  have K0_2 := hide (K0_1.out.trans (hb.mono K0_1.out.size))
  have K1_2 := hide (K1_1.out.trans (hb.mono K1_1.out.size))
  have K2_2 := hide (Below.refl w2.heap.size w2)
  clear hb
  have hHU2 := hide (own_rd ho (fun _ => rfl))
  clear ho
  go_wp2_with (fail)
  refine ((HM.out _ _ _ ((hA.out.below K0_2.out).mono K0_2.out.size) ((hB.out.below K0_2.out).mono K0_2.out.size)).1).mono ?_
  rintro e w3 ⟨⟨A2a, c2a, rfl, ho⟩, hb⟩
  have K0_3 := hide (K0_2.out.trans (hb.mono K0_2.out.size))
  have K1_3 := hide (K1_2.out.trans (hb.mono K1_2.out.size))
  have K2_3 := hide (K2_2.out.trans (hb.mono K2_2.out.size))
  have K3_3 := hide (Below.refl w3.heap.size w3)
  clear hb
  have hHM1 := hide (own_rd ho (fun _ => rfl))
  clear ho
  go_wp2_with (fail)
  refine ((HM.out _ _ _ ((hA.out.below K0_3.out).mono K0_3.out.size) ((hB.out.below K0_3.out).mono K0_3.out.size)).2).mono ?_
  rintro e w4 ⟨⟨A3a, c3a, rfl, ho⟩, hb⟩
  have K0_4 := hide (K0_3.out.trans (hb.mono K0_3.out.size))
  have K1_4 := hide (K1_3.out.trans (hb.mono K1_3.out.size))
  have K2_4 := hide (K2_3.out.trans (hb.mono K2_3.out.size))
  have K3_4 := hide (K3_3.out.trans (hb.mono K3_3.out.size))
  have K4_4 := hide (Below.refl w4.heap.size w4)
  clear hb
  have hHM2 := hide (own_rd ho (fun _ => rfl))
  clear ho
  go_wp2_with (fail)
  refine ((HS.out _ _ _ ((hA.out.below K0_4.out).mono K0_4.out.size) ((hB.out.below K0_4.out).mono K0_4.out.size)).1).mono ?_
  rintro e w5 ⟨⟨A4a, c4a, rfl, ho⟩, hb⟩
  have K0_5 := hide (K0_4.out.trans (hb.mono K0_4.out.size))
  have K1_5 := hide (K1_4.out.trans (hb.mono K1_4.out.size))
  have K2_5 := hide (K2_4.out.trans (hb.mono K2_4.out.size))
  have K3_5 := hide (K3_4.out.trans (hb.mono K3_4.out.size))
  have K4_5 := hide (K4_4.out.trans (hb.mono K4_4.out.size))
  have K5_5 := hide (Below.refl w5.heap.size w5)
  clear hb
  have hHS1 := hide (own_rd ho (fun _ => rfl))
  clear ho
  go_wp2_with (fail)
  refine ((HS.out _ _ _ ((hA.out.below K0_5.out).mono K0_5.out.size) ((hB.out.below K0_5.out).mono K0_5.out.size)).2).mono ?_
  rintro e w6 ⟨⟨A5a, c5a, rfl, ho⟩, hb⟩
  have K0_6 := hide (K0_5.out.trans (hb.mono K0_5.out.size))
  have K1_6 := hide (K1_5.out.trans (hb.mono K1_5.out.size))
  have K2_6 := hide (K2_5.out.trans (hb.mono K2_5.out.size))
  have K3_6 := hide (K3_5.out.trans (hb.mono K3_5.out.size))
  have K4_6 := hide (K4_5.out.trans (hb.mono K4_5.out.size))
  have K5_6 := hide (K5_5.out.trans (hb.mono K5_5.out.size))
  have K6_6 := hide (Below.refl w6.heap.size w6)
  clear hb
  have hHS2 := hide (own_rd ho (fun _ => rfl))
  clear ho
  go_wp2_with (fail)
  refine (rSameSelf ((hHU1.out.below K1_6.out).mono K1_6.out.size) ((hHU2.out.below K2_6.out).mono K2_6.out.size) (by omega)).mono ?_
  rintro e w7 ⟨rfl, hb⟩
  have K0_7 := hide (K0_6.out.trans (hb.mono K0_6.out.size))
  have K1_7 := hide (K1_6.out.trans (hb.mono K1_6.out.size))
  have K2_7 := hide (K2_6.out.trans (hb.mono K2_6.out.size))
  have K3_7 := hide (K3_6.out.trans (hb.mono K3_6.out.size))
  have K4_7 := hide (K4_6.out.trans (hb.mono K4_6.out.size))
  have K5_7 := hide (K5_6.out.trans (hb.mono K5_6.out.size))
  have K6_7 := hide (K6_6.out.trans (hb.mono K6_6.out.size))
  clear hb
  go_wp2_with (fail)
  refine (rSameSelf ((hHM1.out.below K3_7.out).mono K3_7.out.size) ((hHM2.out.below K4_7.out).mono K4_7.out.size) (by omega)).mono ?_
  rintro e w8 ⟨rfl, hb⟩
  have K0_8 := hide (K0_7.out.trans (hb.mono K0_7.out.size))
  have K1_8 := hide (K1_7.out.trans (hb.mono K1_7.out.size))
  have K2_8 := hide (K2_7.out.trans (hb.mono K2_7.out.size))
  have K3_8 := hide (K3_7.out.trans (hb.mono K3_7.out.size))
  have K4_8 := hide (K4_7.out.trans (hb.mono K4_7.out.size))
  have K5_8 := hide (K5_7.out.trans (hb.mono K5_7.out.size))
  have K6_8 := hide (K6_7.out.trans (hb.mono K6_7.out.size))
  clear hb
  go_wp2_with (fail)
  refine (rSameSelf ((hHS1.out.below K5_8.out).mono K5_8.out.size) ((hHS2.out.below K6_8.out).mono K6_8.out.size) (by omega)).mono ?_
  rintro e w9 ⟨rfl, hb⟩
  have K0_9 := hide (K0_8.out.trans (hb.mono K0_8.out.size))
  have K1_9 := hide (K1_8.out.trans (hb.mono K1_8.out.size))
  have K2_9 := hide (K2_8.out.trans (hb.mono K2_8.out.size))
  have K3_9 := hide (K3_8.out.trans (hb.mono K3_8.out.size))
  have K4_9 := hide (K4_8.out.trans (hb.mono K4_8.out.size))
  have K5_9 := hide (K5_8.out.trans (hb.mono K5_8.out.size))
  have K6_9 := hide (K6_8.out.trans (hb.mono K6_8.out.size))
  clear hb
  go_wp2_with (fail)
  go_ret
  exact ⟨rfl, K0_9.out⟩
end Go.Proofs.Ytamnaojheecopaa
