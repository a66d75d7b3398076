/- RegionAreas' walk: areas of union and common part; the two parts of a region. -/
import Derived.Test.YtamnaojheecopaaGreatPk7
namespace Go.Proofs.YtamnaojheecopaaGreat
open Go.RowKit
set_option linter.unusedVariables false
set_option linter.unusedSimpArgs false

set_option maxRecDepth 100000 in
set_option maxHeartbeats 16000000 in
theorem areas_walk {w : World} {va vb : Value} {a b : List R4} (hra : RdK encR 4 w w.heap.size va a) (hrb : RdK encR 4 w w.heap.size vb b) (la : a.length ≤ maxLen) (lb : b.length ≤ maxLen) :
    Calls Tryz.prog 4 #[va, vb] w fun e w' => e = .returned (.bool true) ∧ Below w.heap.size w w' := by
  have hA := hide hra
  have hB := hide hrb
  obtain ⟨A1, c1, hva, _⟩ := hra
  obtain ⟨A2, c2, hvb, _⟩ := hrb
  subst hva; subst hvb
  have HFT := hide (fun (W : World) (ra : RdK encR 4 W W.heap.size (.slice A1 a.length c1) a) (rb : RdK encR 4 W W.heap.size (.slice A2 b.length c2) b) => fit_any ra rb la lb)
  cases hf : fitB a b with
  | false =>
    rw [hf] at HFT
    clear hf la lb
    go_enter Tryz.func4, Tryz.ntmps4
    go_wp2_with (fail)
    refine (alive_any _).mono ?_
    rintro e w1 ⟨rfl, hb⟩
    have HB := hide hb
    clear hb
    go_wp2_with (fail)
    refine (HFT.out _ ((hA.out.below HB.out).mono HB.out.size) ((hB.out.below HB.out).mono HB.out.size)).mono ?_
    rintro e w2 ⟨rfl, hb⟩
    have HB2 := hide (HB.out.trans (hb.mono HB.out.size))
    clear hb
    go_wp2_with (fail)
    go_ret
    exact ⟨rfl, HB2.out⟩
  | true =>
    rw [hf] at HFT
    obtain ⟨n1, n2, ka, kb⟩ := fitB_ok hf
    have hu := join_two (h := hOr) rfl ka kb
    have hm := join_two (h := hAnd) rfl ka kb
    have hs := join_two (h := hSub) rfl ka kb
    have HJ := hide (fun (W : World) (ra : RdK encR 4 W W.heap.size (.slice A1 a.length c1) a) (rb : RdK encR 4 W W.heap.size (.slice A2 b.length c2) b) => And.intro (union_any ra rb (by omega) (by omega)) (And.intro (meet_any ra rb (by omega) (by omega)) (minus_any ra rb (by omega) (by omega))))
    have HAR := hide (fun (l : List R4) (h : checkF l = 0) (W : World) (v : Value) (r : RdK encR 4 W W.heap.size v l) => by
      have := area_any r (by have := (checkF_ok h).1; omega)
      rw [show areaF l = (areaS l, 0) from if_pos h] at this
      exact this)
    have HA0 := hide ka
    have HB0 := hide kb
    have HSS := hide (fun (W : World) (v v' : Value) (h : RdK encR 4 W W.heap.size v a) (h' : RdK encR 4 W W.heap.size v' a) => rSameSelf h h' (by omega))
    clear hf la lb n1 n2 ka kb
    generalize joinF hOr a b = J1 at *
    generalize joinF hAnd a b = J2 at *
    generalize joinF hSub a b = J3 at *
    rcases hu with rfl | ⟨R1, rfl, k1, m1, p1⟩ <;> rcases hm with rfl | ⟨R2, rfl, k2, m2, p2⟩ <;> rcases hs with rfl | ⟨R3, rfl, k3, m3, p3⟩
    case inr.inr.inr =>
      obtain ⟨q1, q2, q3⟩ := areas_law HA0.out HB0.out k1 k2 k3 p1 p2 p3
      have b1 := area_le k1
      have b2 := area_le k2
      have b3 := area_le HA0.out
      have b4 := area_le HB0.out
      have HU := hide (fun (W : World) (v v' : Value) (h : RdK encR 4 W W.heap.size v R2) (h' : RdK encR 4 W W.heap.size v' R3) => by have := union_any h h' (by omega) (by omega); rwa [q2] at this)
      have HM := hide (fun (W : World) (v v' : Value) (h : RdK encR 4 W W.heap.size v R2) (h' : RdK encR 4 W W.heap.size v' R3) => by have := meet_any h h' (by omega) (by omega); rwa [q3] at this)
      have HR1 := hide (HAR.out R1 k1)
      have HR2 := hide (HAR.out R2 k2)
      have HR3 := hide (HAR.out a HA0.out)
      have HR4 := hide (HAR.out b HB0.out)
      have hsum : (areaS R1 + areaS R2 == areaS a + areaS b) = true := by simpa using q1
      obtain ⟨b11, b12⟩ := b1
      obtain ⟨b21, b22⟩ := b2
      obtain ⟨b31, b32⟩ := b3
      obtain ⟨b41, b42⟩ := b4
      clear q1 q2 q3 k1 k2 k3 p1 p2 p3 m1 m2 m3
      generalize areaS R1 = s1 at *
      generalize areaS R2 = s2 at *
      generalize areaS a = s3 at *
      generalize areaS b = s4 at *
      go_enter Tryz.func4, Tryz.ntmps4
      go_wp2_with (fail)
      refine (alive_any _).mono ?_
      rintro e w1 ⟨rfl, hb⟩
      have K0 := hide hb
      clear hb
      go_wp2_with (fail)
      refine (HFT.out _ ((hA.out.below K0.out).mono K0.out.size) ((hB.out.below K0.out).mono K0.out.size)).mono ?_
      rintro e w2 ⟨rfl, hb⟩
      replace K0 := hide (K0.out.trans (hb.mono K0.out.size))
      clear hb
      go_wp2_with (fail)
      refine ((HJ.out _ ((hA.out.below K0.out).mono K0.out.size) ((hB.out.below K0.out).mono K0.out.size)).1).mono ?_
      rintro e w3 ⟨⟨A3, c3, rfl, ho⟩, hb⟩
      replace K0 := hide (K0.out.trans (hb.mono K0.out.size))
      have r1 := hide (own_rd ho (fun _ => rfl))
      clear hb ho
      go_wp2_with (fail)
      refine ((HJ.out _ ((hA.out.below K0.out).mono K0.out.size) ((hB.out.below K0.out).mono K0.out.size)).2.1).mono ?_
      rintro e w4 ⟨⟨A4, c4, rfl, ho⟩, hb⟩
      replace K0 := hide (K0.out.trans (hb.mono K0.out.size))
      replace r1 := hide ((r1.out.below hb).mono hb.size)
      have r2 := hide (own_rd ho (fun _ => rfl))
      clear hb ho
      go_wp2_with (fail)
      refine ((HJ.out _ ((hA.out.below K0.out).mono K0.out.size) ((hB.out.below K0.out).mono K0.out.size)).2.2).mono ?_
      rintro e w5 ⟨⟨A5, c5, rfl, ho⟩, hb⟩
      replace K0 := hide (K0.out.trans (hb.mono K0.out.size))
      replace r1 := hide ((r1.out.below hb).mono hb.size)
      replace r2 := hide ((r2.out.below hb).mono hb.size)
      have r3 := hide (own_rd ho (fun _ => rfl))
      clear hb ho
      have KC := hide (Below.refl w5.heap.size w5)
      go_wp2_with (fail)
      refine (HR1.out _ _ ((r1.out.below KC.out).mono KC.out.size)).mono ?_
      rintro e w6 ⟨rfl, hb⟩
      replace KC := hide (KC.out.trans (hb.mono KC.out.size))
      clear hb
      go_wp2_with (fail)
      refine (HR2.out _ _ ((r2.out.below KC.out).mono KC.out.size)).mono ?_
      rintro e w7 ⟨rfl, hb⟩
      replace KC := hide (KC.out.trans (hb.mono KC.out.size))
      clear hb
      have KD := hide (K0.out.trans (KC.out.mono K0.out.size))
      go_wp2_with (fail)
      refine (HR3.out _ _ ((hA.out.below KD.out).mono KD.out.size)).mono ?_
      rintro e w8 ⟨rfl, hb⟩
      replace KC := hide (KC.out.trans (hb.mono KC.out.size))
      replace KD := hide (KD.out.trans (hb.mono KD.out.size))
      clear hb
      go_wp2_with (fail)
      refine (HR4.out _ _ ((hB.out.below KD.out).mono KD.out.size)).mono ?_
      rintro e w9 ⟨rfl, hb⟩
      replace KC := hide (KC.out.trans (hb.mono KC.out.size))
      replace KD := hide (KD.out.trans (hb.mono KD.out.size))
      clear hb
      go_wp2_with (fail)
      refine (HU.out _ _ _ ((r2.out.below KC.out).mono KC.out.size) ((r3.out.below KC.out).mono KC.out.size)).mono ?_
      rintro e w10 ⟨⟨A6, c6, rfl, ho⟩, hb⟩
      replace KC := hide (KC.out.trans (hb.mono KC.out.size))
      replace KD := hide (KD.out.trans (hb.mono KD.out.size))
      have r6 := hide (own_rd ho (fun _ => rfl))
      clear hb ho
      go_wp2_with (fail)
      refine (HM.out _ _ _ ((r2.out.below KC.out).mono KC.out.size) ((r3.out.below KC.out).mono KC.out.size)).mono ?_
      rintro e w11 ⟨⟨A7, c7, rfl, ho⟩, hb⟩
      replace KD := hide (KD.out.trans (hb.mono KD.out.size))
      replace r6 := hide ((r6.out.below hb).mono hb.size)
      clear hb ho
      go_wp2_with (fail)
      refine (HSS.out _ _ _ r6.out ((hA.out.below KD.out).mono KD.out.size)).mono ?_
      rintro e w12 ⟨rfl, hb⟩
      replace KD := hide (KD.out.trans (hb.mono KD.out.size))
      clear hb
      go_wp2_with (fail)
      go_ret
      exact ⟨rfl, KD.out⟩
    all_goals
      clear HAR HSS
      go_enter Tryz.func4, Tryz.ntmps4
      go_wp2_with (fail)
      refine (alive_any _).mono ?_
      rintro e w1 ⟨rfl, hb⟩
      have K0 := hide hb
      clear hb
      go_wp2_with (fail)
      refine (HFT.out _ ((hA.out.below K0.out).mono K0.out.size) ((hB.out.below K0.out).mono K0.out.size)).mono ?_
      rintro e w2 ⟨rfl, hb⟩
      replace K0 := hide (K0.out.trans (hb.mono K0.out.size))
      clear hb
      go_wp2_with (fail)
      refine ((HJ.out _ ((hA.out.below K0.out).mono K0.out.size) ((hB.out.below K0.out).mono K0.out.size)).1).mono ?_
      rintro e w3 ⟨⟨A3, c3, rfl, ho⟩, hb⟩
      replace K0 := hide (K0.out.trans (hb.mono K0.out.size))
      clear hb ho
      go_wp2_with (fail)
      refine ((HJ.out _ ((hA.out.below K0.out).mono K0.out.size) ((hB.out.below K0.out).mono K0.out.size)).2.1).mono ?_
      rintro e w4 ⟨⟨A4, c4, rfl, ho⟩, hb⟩
      replace K0 := hide (K0.out.trans (hb.mono K0.out.size))
      clear hb ho
      go_wp2_with (fail)
      refine ((HJ.out _ ((hA.out.below K0.out).mono K0.out.size) ((hB.out.below K0.out).mono K0.out.size)).2.2).mono ?_
      rintro e w5 ⟨⟨A5, c5, rfl, ho⟩, hb⟩
      replace K0 := hide (K0.out.trans (hb.mono K0.out.size))
      clear hb ho
      go_wp2_with (fail)
      go_ret
      exact ⟨rfl, K0.out⟩
end Go.Proofs.YtamnaojheecopaaGreat
