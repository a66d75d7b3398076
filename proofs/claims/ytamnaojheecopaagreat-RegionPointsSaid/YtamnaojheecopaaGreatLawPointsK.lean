/- RegionPoints' walk: the points of union, common part and rest; results are regions. -/
import Derived.Test.YtamnaojheecopaaGreatPk7
namespace Go.Proofs.YtamnaojheecopaaGreat
open Go.RowKit
set_option linter.unusedVariables false
set_option linter.unusedSimpArgs false

set_option maxRecDepth 100000 in
set_option maxHeartbeats 16000000 in
theorem points_walk {w : World} {va vb : Value} {a b : List R4} (hra : RdK encR 4 w w.heap.size va a) (hrb : RdK encR 4 w w.heap.size vb b) (la : a.length ≤ maxLen) (lb : b.length ≤ maxLen) (x y : Int) :
    Calls Tryz.prog 3 #[va, vb, .int .i64 x, .int .i64 y] w fun e w' => e = .returned (.bool true) ∧ Below w.heap.size w w' := by
  have hA := hide hra
  have hB := hide hrb
  obtain ⟨A1, c1, hva, _⟩ := hra
  obtain ⟨A2, c2, hvb, _⟩ := hrb
  subst hva; subst hvb
  have HFT := hide (fun (W : World) (ra : RdK encR 4 W W.heap.size (.slice A1 a.length c1) a) (rb : RdK encR 4 W W.heap.size (.slice A2 b.length c2) b) => fit_any ra rb la lb)
  cases hf : fitB a b with
  | false =>
    rw [hf] at HFT
    clear hf la lb
    go_enter Tryz.func3, Tryz.ntmps3
    go_wp2_with (fail)
    refine (alive_any _).mono ?_
    rintro e w1 ⟨rfl, hb⟩
    have HB := hide hb
    clear hb
    go_wp2_with (fail)
    refine (HFT.out _ ((hA.out.below HB.out).mono HB.out.size) ((hB.out.below HB.out).mono HB.out.size)).mono ?_
    rintro e w2 ⟨rfl, hb⟩
    have HB2 := hide (HB.out.trans (hb.mono HB.out.size))
    clear hb
    go_wp2_with (fail)
    go_ret
    exact ⟨rfl, HB2.out⟩
  | true =>
    rw [hf] at HFT
    obtain ⟨n1, n2, ka, kb⟩ := fitB_ok hf
    have hu := join_two (h := hOr) rfl ka kb
    have hm := join_two (h := hAnd) rfl ka kb
    have hs := join_two (h := hSub) rfl ka kb
    have HJ := hide (fun (W : World) (ra : RdK encR 4 W W.heap.size (.slice A1 a.length c1) a) (rb : RdK encR 4 W W.heap.size (.slice A2 b.length c2) b) => And.intro (union_any ra rb (by omega) (by omega)) (And.intro (meet_any ra rb (by omega) (by omega)) (minus_any ra rb (by omega) (by omega))))
    have HHA := hide (fun (W : World) (ra : RdK encR 4 W W.heap.size (.slice A1 a.length c1) a) => has_any ra (by omega) x y)
    have HHB := hide (fun (W : World) (rb : RdK encR 4 W W.heap.size (.slice A2 b.length c2) b) => has_any rb (by omega) x y)
    have hd1 : ∀ (R : List R4) (h : Bool → Bool → Bool), (∀ x y, pmem R x y ↔ h (decide (pmem a x y)) (decide (pmem b x y)) = true) → decide (pmem R x y) = h (decide (pmem a x y)) (decide (pmem b x y)) := fun R h hp => dec_join hp
    have HD := hide hd1
    clear hd1 hf la lb n1 n2
    generalize joinF hOr a b = J1 at *
    generalize joinF hAnd a b = J2 at *
    generalize joinF hSub a b = J3 at *
    generalize decide (pmem a x y) = P at *
    generalize decide (pmem b x y) = Q at *
    have key : ∀ {J : List R4 × Int} {h : Bool → Bool → Bool}, (J = ([], 4) ∨ ∃ R, J = (R, 0) ∧ checkF R = 0 ∧ R.length ≤ 400 ∧ ∀ x y, pmem R x y ↔ h (decide (pmem a x y)) (decide (pmem b x y)) = true) → J = ([], 4) ∨ ∃ R, J = (R, 0) ∧ Hid (∀ (W : World) (v : Value), RdK encR 4 W W.heap.size v R → (Calls Tryz.prog 13 #[v] W fun e w' => e = .returned (.int .i64 0) ∧ Below W.heap.size W w') ∧ Calls Tryz.prog 12 #[v, .int .i64 x, .int .i64 y] W fun e w' => e = .returned (.bool (h P Q)) ∧ Below W.heap.size W w') := by
      intro J h hj
      rcases hj with hj | ⟨R, h1, h2, h3, h4⟩
      · exact .inl hj
      · refine .inr ⟨R, h1, fun W v hr => ⟨?_, ?_⟩⟩
        · have := check_any hr (by omega)
          rwa [h2] at this
        · have := has_any hr (by omega) x y
          rwa [HD.out R h h4] at this
    have hu2 := key hu
    have hm2 := key hm
    have hs2 := key hs
    clear hu hm hs key HD ka kb
    rcases hu2 with rfl | ⟨R1, rfl, H1⟩ <;> rcases hm2 with rfl | ⟨R2, rfl, H2⟩ <;> rcases hs2 with rfl | ⟨R3, rfl, H3⟩ <;> cases P <;> cases Q
    all_goals
      go_enter Tryz.func3, Tryz.ntmps3
      go_wp2_with (fail)
      refine (alive_any _).mono ?_
      rintro e w1 ⟨rfl, hb⟩
      have K0 := hide hb
      clear hb
      go_wp2_with (fail)
      refine (HFT.out _ ((hA.out.below K0.out).mono K0.out.size) ((hB.out.below K0.out).mono K0.out.size)).mono ?_
      rintro e w2 ⟨rfl, hb⟩
      replace K0 := hide (K0.out.trans (hb.mono K0.out.size))
      clear hb
      go_wp2_with (fail)
      refine ((HJ.out _ ((hA.out.below K0.out).mono K0.out.size) ((hB.out.below K0.out).mono K0.out.size)).1).mono ?_
      rintro e w3 ⟨⟨A3, c3, rfl, ho⟩, hb⟩
      replace K0 := hide (K0.out.trans (hb.mono K0.out.size))
      have r1 := hide (own_rd ho (fun _ => rfl))
      clear hb ho
      go_wp2_with (fail)
      refine ((HJ.out _ ((hA.out.below K0.out).mono K0.out.size) ((hB.out.below K0.out).mono K0.out.size)).2.1).mono ?_
      rintro e w4 ⟨⟨A4, c4, rfl, ho⟩, hb⟩
      replace K0 := hide (K0.out.trans (hb.mono K0.out.size))
      replace r1 := hide ((r1.out.below hb).mono hb.size)
      have r2 := hide (own_rd ho (fun _ => rfl))
      clear hb ho
      go_wp2_with (fail)
      refine ((HJ.out _ ((hA.out.below K0.out).mono K0.out.size) ((hB.out.below K0.out).mono K0.out.size)).2.2).mono ?_
      rintro e w5 ⟨⟨A5, c5, rfl, ho⟩, hb⟩
      replace K0 := hide (K0.out.trans (hb.mono K0.out.size))
      replace r1 := hide ((r1.out.below hb).mono hb.size)
      replace r2 := hide ((r2.out.below hb).mono hb.size)
      have r3 := hide (own_rd ho (fun _ => rfl))
      clear hb ho
      go_wp2_with (fail)
      refine (HHA.out _ ((hA.out.below K0.out).mono K0.out.size)).mono ?_
      rintro e w6 ⟨rfl, hb⟩
      replace K0 := hide (K0.out.trans (hb.mono K0.out.size))
      replace r1 := hide ((r1.out.below hb).mono hb.size)
      replace r2 := hide ((r2.out.below hb).mono hb.size)
      replace r3 := hide ((r3.out.below hb).mono hb.size)
      clear hb
      go_wp2_with (fail)
      refine (HHB.out _ ((hB.out.below K0.out).mono K0.out.size)).mono ?_
      rintro e w7 ⟨rfl, hb⟩
      replace K0 := hide (K0.out.trans (hb.mono K0.out.size))
      replace r1 := hide ((r1.out.below hb).mono hb.size)
      replace r2 := hide ((r2.out.below hb).mono hb.size)
      replace r3 := hide ((r3.out.below hb).mono hb.size)
      clear hb
      have KC := hide (Below.refl w7.heap.size w7)
      go_wp2_with (first
        | ((with_reducible refine ((H1.out _ _ ((r1.out.below KC.out).mono KC.out.size)).1).mono ?_); rintro e w8 ⟨rfl, hb⟩; replace KC := hide (KC.out.trans (hb.mono KC.out.size)); clear hb)
        | ((with_reducible refine ((H1.out _ _ ((r1.out.below KC.out).mono KC.out.size)).2).mono ?_); rintro e w8 ⟨rfl, hb⟩; replace KC := hide (KC.out.trans (hb.mono KC.out.size)); clear hb)
        | ((with_reducible refine ((H2.out _ _ ((r2.out.below KC.out).mono KC.out.size)).1).mono ?_); rintro e w8 ⟨rfl, hb⟩; replace KC := hide (KC.out.trans (hb.mono KC.out.size)); clear hb)
        | ((with_reducible refine ((H2.out _ _ ((r2.out.below KC.out).mono KC.out.size)).2).mono ?_); rintro e w8 ⟨rfl, hb⟩; replace KC := hide (KC.out.trans (hb.mono KC.out.size)); clear hb)
        | ((with_reducible refine ((H3.out _ _ ((r3.out.below KC.out).mono KC.out.size)).1).mono ?_); rintro e w8 ⟨rfl, hb⟩; replace KC := hide (KC.out.trans (hb.mono KC.out.size)); clear hb)
        | ((with_reducible refine ((H3.out _ _ ((r3.out.below KC.out).mono KC.out.size)).2).mono ?_); rintro e w8 ⟨rfl, hb⟩; replace KC := hide (KC.out.trans (hb.mono KC.out.size)); clear hb))
      go_ret
      exact ⟨rfl, K0.out.trans (KC.out.mono K0.out.size)⟩
end Go.Proofs.YtamnaojheecopaaGreat
