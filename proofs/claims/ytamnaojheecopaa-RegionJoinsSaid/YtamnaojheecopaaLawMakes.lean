/- RegionMakes' walk: Check, Make, Has, Area and Same against the reference. -/
import Derived.Test.YtamnaojheecopaaRefK
import Derived.Test.YtamnaojheecopaaApp
namespace Go.Proofs.Ytamnaojheecopaa
open Go.RowKit
set_option linter.unusedVariables false
set_option linter.unusedSimpArgs false

theorem not_great {n : Nat} (h : ¬ greatP n) : n ≤ 420 := by unfold greatP at h; omega
theorem rSameSelf {w : World} {v v' : Value} {l : List R4} (h : RdK encR 4 w w.heap.size v l) (h' : RdK encR 4 w w.heap.size v' l) (hl : l.length ≤ 100000000) :
    Calls Try.prog 16 #[v, v'] w fun e w' => e = .returned (.bool true) ∧ Below w.heap.size w w' := by
  have := rSameRects_any h h' hl (Nat.le_refl _) (Nat.le_refl _)
  rwa [decide_eq_true rfl] at this

set_option maxRecDepth 100000 in
set_option maxHeartbeats 4000000 in
theorem makes_walk {w : World} {va vb : Value} {l o : List R4} (hra : RdK encR 4 w w.heap.size va l) (hrb : RdK encR 4 w w.heap.size vb o) (la : l.length ≤ maxLen) (lb : o.length ≤ maxLen) (x y : Int) :
    Calls Try.prog 3 #[va, vb, .int .i64 x, .int .i64 y] w fun e w' => e = .returned (.bool true) ∧ Below w.heap.size w w' := by
  have hA := hide hra
  have hB := hide hrb
  obtain ⟨A1, c1, hva, _⟩ := hra
  obtain ⟨A2, c2, hvb, _⟩ := hrb
  subst hva; subst hvb
  have g1 := fun W => rGreat_any A1 l.length c1 la W
  have g2 := fun W => rGreat_any A2 o.length c2 lb W
  have G1 := hide g1
  have G2 := hide g2
  clear g1 g2
  by_cases h1 : greatP l.length
  · rw [decide_eq_true h1] at G1
    go_enter Try.func3, Try.ntmps3
    go_wp2_with (fail)
    refine (G1.out _).mono ?_
    rintro e wp ⟨rfl, rfl⟩
    go_wp2_with (fail)
    go_ret
    exact ⟨rfl, Below.refl _ _⟩
  by_cases h2 : greatP o.length
  · rw [decide_eq_false h1] at G1
    rw [decide_eq_true h2] at G2
    go_enter Try.func3, Try.ntmps3
    go_wp2_with (fail)
    refine (G1.out _).mono ?_
    rintro e wp ⟨rfl, rfl⟩
    go_wp2_with (fail)
    refine (G2.out _).mono ?_
    rintro e wp ⟨rfl, rfl⟩
    go_wp2_with (fail)
    go_ret
    exact ⟨rfl, Below.refl _ _⟩
  rw [decide_eq_false h1] at G1
  rw [decide_eq_false h2] at G2
  have n1 := not_great h1
  have n2 := not_great h2
  have nM := makeF_len l
  clear h1 h2 la lb
  go_enter Try.func3, Try.ntmps3
  go_wp2_with (fail)
  refine (G1.out _).mono ?_
  rintro e wp ⟨rfl, rfl⟩
  go_wp2_with (fail)
  refine (G2.out _).mono ?_
  rintro e wp ⟨rfl, rfl⟩
  have K0_0 := hide (Below.refl w.heap.size w)
  go_wp2_with (fail)
  refine (rTwin_any hA.out (by omega)).mono ?_
  rintro e w1 ⟨vt, rfl, ho, hb⟩
  have K0_1 := hide (K0_0.out.trans (hb.mono K0_0.out.size))
  have K1_1 := hide (Below.refl w1.heap.size w1)
  clear hb
  have hT := hide (own_rd ho (fun _ => rfl))
  obtain ⟨A3, c3, hvt⟩ := own_form ho
  subst hvt
  clear ho
  go_wp2_with (fail)
  refine (make_any hT.out (by omega)).mono ?_
  rintro e w2 ⟨⟨A4, c4, rfl, ho⟩, hb⟩
  have K0_2 := hide (K0_1.out.trans (hb.mono K0_1.out.size))
  have K1_2 := hide (K1_1.out.trans (hb.mono K1_1.out.size))
  have K2_2 := hide (Below.refl w2.heap.size w2)
  clear hb
  have hM := hide (own_rd ho (fun _ => rfl))
  clear ho
  go_wp2_with (fail)
  refine (rMake_any ((hA.out.below K0_2.out).mono K0_2.out.size) (by omega)).mono ?_
  rintro e w3 ⟨⟨A5, c5, rfl, ho⟩, hb⟩
  have K0_3 := hide (K0_2.out.trans (hb.mono K0_2.out.size))
  have K1_3 := hide (K1_2.out.trans (hb.mono K1_2.out.size))
  have K2_3 := hide (K2_2.out.trans (hb.mono K2_2.out.size))
  have K3_3 := hide (Below.refl w3.heap.size w3)
  clear hb
  have hN := hide (own_rd ho (fun _ => rfl))
  clear ho
  go_wp2_with (fail)
  refine (area_any ((hT.out.below K1_3.out).mono K1_3.out.size) (by omega)).mono ?_
  rintro e w4 ⟨rfl, hb⟩
  have K0_4 := hide (K0_3.out.trans (hb.mono K0_3.out.size))
  have K1_4 := hide (K1_3.out.trans (hb.mono K1_3.out.size))
  have K2_4 := hide (K2_3.out.trans (hb.mono K2_3.out.size))
  have K3_4 := hide (K3_3.out.trans (hb.mono K3_3.out.size))
  clear hb
  go_wp2_with (fail)
  refine (rArea_any ((hA.out.below K0_4.out).mono K0_4.out.size) (by omega)).mono ?_
  rintro e w5 ⟨rfl, hb⟩
  have K0_5 := hide (K0_4.out.trans (hb.mono K0_4.out.size))
  have K1_5 := hide (K1_4.out.trans (hb.mono K1_4.out.size))
  have K2_5 := hide (K2_4.out.trans (hb.mono K2_4.out.size))
  have K3_5 := hide (K3_4.out.trans (hb.mono K3_4.out.size))
  clear hb
  go_wp2_with (fail)
  refine (check_any ((hT.out.below K1_5.out).mono K1_5.out.size) (by omega)).mono ?_
  rintro e w6 ⟨rfl, hb⟩
  have K0_6 := hide (K0_5.out.trans (hb.mono K0_5.out.size))
  have K1_6 := hide (K1_5.out.trans (hb.mono K1_5.out.size))
  have K2_6 := hide (K2_5.out.trans (hb.mono K2_5.out.size))
  have K3_6 := hide (K3_5.out.trans (hb.mono K3_5.out.size))
  clear hb
  go_wp2_with (fail)
  refine (rCheck_any ((hA.out.below K0_6.out).mono K0_6.out.size) (by omega)).mono ?_
  rintro e w7 ⟨rfl, hb⟩
  have K0_7 := hide (K0_6.out.trans (hb.mono K0_6.out.size))
  have K1_7 := hide (K1_6.out.trans (hb.mono K1_6.out.size))
  have K2_7 := hide (K2_6.out.trans (hb.mono K2_6.out.size))
  have K3_7 := hide (K3_6.out.trans (hb.mono K3_6.out.size))
  clear hb
  go_wp2_with (fail)
  refine (rSameSelf ((hM.out.below K2_7.out).mono K2_7.out.size) ((hN.out.below K3_7.out).mono K3_7.out.size) (by omega)).mono ?_
  rintro e w8 ⟨rfl, hb⟩
  have K0_8 := hide (K0_7.out.trans (hb.mono K0_7.out.size))
  have K1_8 := hide (K1_7.out.trans (hb.mono K1_7.out.size))
  have K2_8 := hide (K2_7.out.trans (hb.mono K2_7.out.size))
  have K3_8 := hide (K3_7.out.trans (hb.mono K3_7.out.size))
  clear hb
  go_wp2_with (fail)
  refine (has_any ((hT.out.below K1_8.out).mono K1_8.out.size) (by omega) x y).mono ?_
  rintro e w9 ⟨rfl, hb⟩
  have K0_9 := hide (K0_8.out.trans (hb.mono K0_8.out.size))
  have K1_9 := hide (K1_8.out.trans (hb.mono K1_8.out.size))
  have K2_9 := hide (K2_8.out.trans (hb.mono K2_8.out.size))
  have K3_9 := hide (K3_8.out.trans (hb.mono K3_8.out.size))
  clear hb
  go_wp2_with (fail)
  refine (rHas_any ((hA.out.below K0_9.out).mono K0_9.out.size) (by omega) x y).mono ?_
  rintro e wp ⟨rfl, rfl⟩
  go_wp2_with (fail)
  refine (same_any ((hT.out.below K1_9.out).mono K1_9.out.size) ((hB.out.below K0_9.out).mono K0_9.out.size) (by omega)).mono ?_
  rintro e w10 ⟨rfl, hb⟩
  have K0_10 := hide (K0_9.out.trans (hb.mono K0_9.out.size))
  have K1_10 := hide (K1_9.out.trans (hb.mono K1_9.out.size))
  have K2_10 := hide (K2_9.out.trans (hb.mono K2_9.out.size))
  have K3_10 := hide (K3_9.out.trans (hb.mono K3_9.out.size))
  clear hb
  go_wp2_with (fail)
  refine (rSameRects_any ((hA.out.below K0_10.out).mono K0_10.out.size) ((hB.out.below K0_10.out).mono K0_10.out.size) (by omega) (Nat.le_refl _) (Nat.le_refl _)).mono ?_
  rintro e w11 ⟨rfl, hb⟩
  have K0_11 := hide (K0_10.out.trans (hb.mono K0_10.out.size))
  have K1_11 := hide (K1_10.out.trans (hb.mono K1_10.out.size))
  have K2_11 := hide (K2_10.out.trans (hb.mono K2_10.out.size))
  have K3_11 := hide (K3_10.out.trans (hb.mono K3_10.out.size))
  clear hb
  go_wp2_with (fail)
  refine (rSameSelf ((hT.out.below K1_11.out).mono K1_11.out.size) ((hA.out.below K0_11.out).mono K0_11.out.size) (by omega)).mono ?_
  rintro e w12 ⟨rfl, hb⟩
  have K0_12 := hide (K0_11.out.trans (hb.mono K0_11.out.size))
  have K1_12 := hide (K1_11.out.trans (hb.mono K1_11.out.size))
  have K2_12 := hide (K2_11.out.trans (hb.mono K2_11.out.size))
  have K3_12 := hide (K3_11.out.trans (hb.mono K3_11.out.size))
  clear hb
  go_wp2_with (fail)
  go_ret
  exact ⟨rfl, K0_12.out⟩
end Go.Proofs.Ytamnaojheecopaa
