/- OffsetBands' walk: borders and margins. -/
import Derived.Test.YtpgjfpeepbjflaaGreatPk12
namespace Go.Proofs.YtpgjfpeepbjflaaGreat
open Go.RowKit
set_option linter.unusedVariables false
set_option linter.unusedSimpArgs false

set_option maxRecDepth 100000 in
set_option maxHeartbeats 8000000 in
theorem obands_walk {w : World} {vl : Value} {l : List R4} (hrl : RdK encR 4 w w.heap.size vl l) (lal : l.length ≤ maxLen) (d : Int) :
    Calls Tryz.prog 10 #[vl, .int .i64 d] w fun e w' => e = .returned (.bool true) ∧ Below w.heap.size w w' := by
  have hAl := hide hrl
  obtain ⟨Al, cl, hvl, _⟩ := hrl
  subst hvl
  have HF := hide (fun (W : World) (h : RdK encR 4 W W.heap.size (.slice Al l.length cl) l) => fitO_any h lal d)
  go_enter Tryz.func10, Tryz.ntmps10
  have K0_0 := hide (Below.refl w.heap.size w)
  go_wp2_with (fail)
  refine (alive14_any _).mono ?_
  rintro e w1 ⟨rfl, hb⟩
  have K0_1 := hide (K0_0.out.trans (hb.mono K0_0.out.size))
  clear hb
  go_wp2_with (fail)
  refine (HF.out _ ((hAl.out.below K0_1.out).mono K0_1.out.size)).mono ?_
  rintro e w2 (⟨rfl, hb⟩ | ⟨rfl, hF2, hb⟩)
  · have K0_2 := hide (K0_1.out.trans (hb.mono K0_1.out.size))
    clear hb
    go_wp2_with (fail)
    go_ret
    exact ⟨rfl, K0_2.out⟩
  have K0_2 := hide (K0_1.out.trans (hb.mono K0_1.out.size))
  clear hb
  have nl := hF2.1
  have hs := hF2.borders
  have hm := hF2.margins
  clear lal HF hF2
  rcases hs with ⟨e1, b1⟩ | ⟨S1, e1, n1, b1 | ⟨R1, b1, k1, u1, m1⟩⟩
  · rcases hm with ⟨e2, b2⟩ | ⟨S2, e2, n2, b2 | ⟨R2, b2, k2, u2, m2⟩⟩
    · have H1 := hide (fun (W : World) (v : Value) (h : RdK encR 4 W W.heap.size v l) => by have := oShrink_any h (by omega) d; rwa [e1] at this)
      have J1 := hide (fun (W : World) (v : Value) (h : RdK encR 4 W W.heap.size v l) => by have := oBorder_any h (by omega) d; rwa [b1] at this)
      clear e1 b1
      have H2 := hide (fun (W : World) (v : Value) (h : RdK encR 4 W W.heap.size v l) => by have := oGrow_any h (by omega) d; rwa [e2] at this)
      have J2 := hide (fun (W : World) (v : Value) (h : RdK encR 4 W W.heap.size v l) => by have := oMargin_any h (by omega) d; rwa [b2] at this)
      clear e2 b2
      go_wp2_with (fail)
      refine (H1.out _ _ ((hAl.out.below K0_2.out).mono K0_2.out.size)).mono ?_
      rintro e w3 ⟨⟨A3, c3, rfl, ho⟩, hb⟩
      have K0_3 := hide (K0_2.out.trans (hb.mono K0_2.out.size))
      have K3_3 := hide (Below.refl w3.heap.size w3)
      clear hb
      have hs1 := hide (own_rd (l := ([] : List R4)) ho (fun _ => rfl))
      clear ho
      go_wp2_with (fail)
      refine (J1.out _ _ ((hAl.out.below K0_3.out).mono K0_3.out.size)).mono ?_
      rintro e w4 ⟨⟨A4, c4, rfl, ho⟩, hb⟩
      have K0_4 := hide (K0_3.out.trans (hb.mono K0_3.out.size))
      have K3_4 := hide (K3_3.out.trans (hb.mono K3_3.out.size))
      have K4_4 := hide (Below.refl w4.heap.size w4)
      clear hb
      have hb1 := hide (own_rd (l := ([] : List R4)) ho (fun _ => rfl))
      clear ho
      clear H1 J1
      go_wp2_with (fail)
      refine (H2.out _ _ ((hAl.out.below K0_4.out).mono K0_4.out.size)).mono ?_
      rintro e w5 ⟨⟨A5, c5, rfl, ho⟩, hb⟩
      have K0_5 := hide (K0_4.out.trans (hb.mono K0_4.out.size))
      have K3_5 := hide (K3_4.out.trans (hb.mono K3_4.out.size))
      have K4_5 := hide (K4_4.out.trans (hb.mono K4_4.out.size))
      have K5_5 := hide (Below.refl w5.heap.size w5)
      clear hb
      have hs2 := hide (own_rd (l := ([] : List R4)) ho (fun _ => rfl))
      clear ho
      go_wp2_with (fail)
      refine (J2.out _ _ ((hAl.out.below K0_5.out).mono K0_5.out.size)).mono ?_
      rintro e w6 ⟨⟨A6, c6, rfl, ho⟩, hb⟩
      have K0_6 := hide (K0_5.out.trans (hb.mono K0_5.out.size))
      have K3_6 := hide (K3_5.out.trans (hb.mono K3_5.out.size))
      have K4_6 := hide (K4_5.out.trans (hb.mono K4_5.out.size))
      have K5_6 := hide (K5_5.out.trans (hb.mono K5_5.out.size))
      have K6_6 := hide (Below.refl w6.heap.size w6)
      clear hb
      have hb2 := hide (own_rd (l := ([] : List R4)) ho (fun _ => rfl))
      clear ho
      clear H2 J2
      go_wp2_with (fail)
      go_ret
      exact ⟨rfl, K0_6.out⟩
    · have H1 := hide (fun (W : World) (v : Value) (h : RdK encR 4 W W.heap.size v l) => by have := oShrink_any h (by omega) d; rwa [e1] at this)
      have J1 := hide (fun (W : World) (v : Value) (h : RdK encR 4 W W.heap.size v l) => by have := oBorder_any h (by omega) d; rwa [b1] at this)
      clear e1 b1
      have H2 := hide (fun (W : World) (v : Value) (h : RdK encR 4 W W.heap.size v l) => by have := oGrow_any h (by omega) d; rwa [e2] at this)
      have J2 := hide (fun (W : World) (v : Value) (h : RdK encR 4 W W.heap.size v l) => by have := oMargin_any h (by omega) d; rwa [b2] at this)
      clear e2 b2
      go_wp2_with (fail)
      refine (H1.out _ _ ((hAl.out.below K0_2.out).mono K0_2.out.size)).mono ?_
      rintro e w3 ⟨⟨A3, c3, rfl, ho⟩, hb⟩
      have K0_3 := hide (K0_2.out.trans (hb.mono K0_2.out.size))
      have K3_3 := hide (Below.refl w3.heap.size w3)
      clear hb
      have hs1 := hide (own_rd (l := ([] : List R4)) ho (fun _ => rfl))
      clear ho
      go_wp2_with (fail)
      refine (J1.out _ _ ((hAl.out.below K0_3.out).mono K0_3.out.size)).mono ?_
      rintro e w4 ⟨⟨A4, c4, rfl, ho⟩, hb⟩
      have K0_4 := hide (K0_3.out.trans (hb.mono K0_3.out.size))
      have K3_4 := hide (K3_3.out.trans (hb.mono K3_3.out.size))
      have K4_4 := hide (Below.refl w4.heap.size w4)
      clear hb
      have hb1 := hide (own_rd (l := ([] : List R4)) ho (fun _ => rfl))
      clear ho
      clear H1 J1
      go_wp2_with (fail)
      refine (H2.out _ _ ((hAl.out.below K0_4.out).mono K0_4.out.size)).mono ?_
      rintro e w5 ⟨⟨A5, c5, rfl, ho⟩, hb⟩
      have K0_5 := hide (K0_4.out.trans (hb.mono K0_4.out.size))
      have K3_5 := hide (K3_4.out.trans (hb.mono K3_4.out.size))
      have K4_5 := hide (K4_4.out.trans (hb.mono K4_4.out.size))
      have K5_5 := hide (Below.refl w5.heap.size w5)
      clear hb
      have hs2 := hide (own_rd (l := S2) ho (fun _ => rfl))
      clear ho
      go_wp2_with (fail)
      refine (J2.out _ _ ((hAl.out.below K0_5.out).mono K0_5.out.size)).mono ?_
      rintro e w6 ⟨⟨A6, c6, rfl, ho⟩, hb⟩
      have K0_6 := hide (K0_5.out.trans (hb.mono K0_5.out.size))
      have K3_6 := hide (K3_5.out.trans (hb.mono K3_5.out.size))
      have K4_6 := hide (K4_5.out.trans (hb.mono K4_5.out.size))
      have K5_6 := hide (K5_5.out.trans (hb.mono K5_5.out.size))
      have K6_6 := hide (Below.refl w6.heap.size w6)
      clear hb
      have hb2 := hide (own_rd (l := ([] : List R4)) ho (fun _ => rfl))
      clear ho
      clear H2 J2
      go_wp2_with (fail)
      go_ret
      exact ⟨rfl, K0_6.out⟩
    · have H1 := hide (fun (W : World) (v : Value) (h : RdK encR 4 W W.heap.size v l) => by have := oShrink_any h (by omega) d; rwa [e1] at this)
      have J1 := hide (fun (W : World) (v : Value) (h : RdK encR 4 W W.heap.size v l) => by have := oBorder_any h (by omega) d; rwa [b1] at this)
      clear e1 b1
      have H2 := hide (fun (W : World) (v : Value) (h : RdK encR 4 W W.heap.size v l) => by have := oGrow_any h (by omega) d; rwa [e2] at this)
      have J2 := hide (fun (W : World) (v : Value) (h : RdK encR 4 W W.heap.size v l) => by have := oMargin_any h (by omega) d; rwa [b2] at this)
      have U2 := hide (fun (W : World) (v v2 : Value) (h : RdK encR 4 W W.heap.size v l) (h2 : RdK encR 4 W W.heap.size v2 R2) => by have := union_any h h2 (by omega) (by omega); rwa [u2] at this)
      have M2 := hide (fun (W : World) (v v2 : Value) (h : RdK encR 4 W W.heap.size v l) (h2 : RdK encR 4 W W.heap.size v2 R2) => by have := meet_any h h2 (by omega) (by omega); rwa [m2] at this)
      clear e2 b2 u2 m2
      go_wp2_with (fail)
      refine (H1.out _ _ ((hAl.out.below K0_2.out).mono K0_2.out.size)).mono ?_
      rintro e w3 ⟨⟨A3, c3, rfl, ho⟩, hb⟩
      have K0_3 := hide (K0_2.out.trans (hb.mono K0_2.out.size))
      have K3_3 := hide (Below.refl w3.heap.size w3)
      clear hb
      have hs1 := hide (own_rd (l := ([] : List R4)) ho (fun _ => rfl))
      clear ho
      go_wp2_with (fail)
      refine (J1.out _ _ ((hAl.out.below K0_3.out).mono K0_3.out.size)).mono ?_
      rintro e w4 ⟨⟨A4, c4, rfl, ho⟩, hb⟩
      have K0_4 := hide (K0_3.out.trans (hb.mono K0_3.out.size))
      have K3_4 := hide (K3_3.out.trans (hb.mono K3_3.out.size))
      have K4_4 := hide (Below.refl w4.heap.size w4)
      clear hb
      have hb1 := hide (own_rd (l := ([] : List R4)) ho (fun _ => rfl))
      clear ho
      clear H1 J1
      go_wp2_with (fail)
      refine (H2.out _ _ ((hAl.out.below K0_4.out).mono K0_4.out.size)).mono ?_
      rintro e w5 ⟨⟨A5, c5, rfl, ho⟩, hb⟩
      have K0_5 := hide (K0_4.out.trans (hb.mono K0_4.out.size))
      have K3_5 := hide (K3_4.out.trans (hb.mono K3_4.out.size))
      have K4_5 := hide (K4_4.out.trans (hb.mono K4_4.out.size))
      have K5_5 := hide (Below.refl w5.heap.size w5)
      clear hb
      have hs2 := hide (own_rd (l := S2) ho (fun _ => rfl))
      clear ho
      go_wp2_with (fail)
      refine (J2.out _ _ ((hAl.out.below K0_5.out).mono K0_5.out.size)).mono ?_
      rintro e w6 ⟨⟨A6, c6, rfl, ho⟩, hb⟩
      have K0_6 := hide (K0_5.out.trans (hb.mono K0_5.out.size))
      have K3_6 := hide (K3_5.out.trans (hb.mono K3_5.out.size))
      have K4_6 := hide (K4_5.out.trans (hb.mono K4_5.out.size))
      have K5_6 := hide (K5_5.out.trans (hb.mono K5_5.out.size))
      have K6_6 := hide (Below.refl w6.heap.size w6)
      clear hb
      have hb2 := hide (own_rd (l := R2) ho (fun _ => rfl))
      clear ho
      clear H2 J2
      go_wp2_with (fail)
      refine (U2.out _ _ _ ((hAl.out.below K0_6.out).mono K0_6.out.size) hb2.out).mono ?_
      rintro e w7 ⟨⟨A7, c7, rfl, ho⟩, hb⟩
      have K0_7 := hide (K0_6.out.trans (hb.mono K0_6.out.size))
      have K3_7 := hide (K3_6.out.trans (hb.mono K3_6.out.size))
      have K4_7 := hide (K4_6.out.trans (hb.mono K4_6.out.size))
      have K5_7 := hide (K5_6.out.trans (hb.mono K5_6.out.size))
      have K6_7 := hide (K6_6.out.trans (hb.mono K6_6.out.size))
      have K7_7 := hide (Below.refl w7.heap.size w7)
      clear hb
      have hu2 := hide (own_rd (l := S2) ho (fun _ => rfl))
      clear ho
      go_wp2_with (fail)
      refine (M2.out _ _ _ ((hAl.out.below K0_7.out).mono K0_7.out.size) ((hb2.out.below K6_7.out).mono K6_7.out.size)).mono ?_
      rintro e w8 ⟨⟨A8, c8, rfl, ho⟩, hb⟩
      have K0_8 := hide (K0_7.out.trans (hb.mono K0_7.out.size))
      have K3_8 := hide (K3_7.out.trans (hb.mono K3_7.out.size))
      have K4_8 := hide (K4_7.out.trans (hb.mono K4_7.out.size))
      have K5_8 := hide (K5_7.out.trans (hb.mono K5_7.out.size))
      have K6_8 := hide (K6_7.out.trans (hb.mono K6_7.out.size))
      have K7_8 := hide (K7_7.out.trans (hb.mono K7_7.out.size))
      have K8_8 := hide (Below.refl w8.heap.size w8)
      clear hb
      have hm2 := hide (own_rd (l := ([] : List R4)) ho (fun _ => rfl))
      clear ho
      clear U2 M2
      go_wp2_with (fail)
      refine (rSameSelf ((hu2.out.below K7_8.out).mono K7_8.out.size) ((hs2.out.below K5_8.out).mono K5_8.out.size) (by omega)).mono ?_
      rintro e w9 ⟨rfl, hb⟩
      have K0_9 := hide (K0_8.out.trans (hb.mono K0_8.out.size))
      have K3_9 := hide (K3_8.out.trans (hb.mono K3_8.out.size))
      have K4_9 := hide (K4_8.out.trans (hb.mono K4_8.out.size))
      have K5_9 := hide (K5_8.out.trans (hb.mono K5_8.out.size))
      have K6_9 := hide (K6_8.out.trans (hb.mono K6_8.out.size))
      have K7_9 := hide (K7_8.out.trans (hb.mono K7_8.out.size))
      have K8_9 := hide (K8_8.out.trans (hb.mono K8_8.out.size))
      clear hb
      go_wp2_with (fail)
      go_ret
      exact ⟨rfl, K0_9.out⟩
  · rcases hm with ⟨e2, b2⟩ | ⟨S2, e2, n2, b2 | ⟨R2, b2, k2, u2, m2⟩⟩
    · have H1 := hide (fun (W : World) (v : Value) (h : RdK encR 4 W W.heap.size v l) => by have := oShrink_any h (by omega) d; rwa [e1] at this)
      have J1 := hide (fun (W : World) (v : Value) (h : RdK encR 4 W W.heap.size v l) => by have := oBorder_any h (by omega) d; rwa [b1] at this)
      clear e1 b1
      have H2 := hide (fun (W : World) (v : Value) (h : RdK encR 4 W W.heap.size v l) => by have := oGrow_any h (by omega) d; rwa [e2] at this)
      have J2 := hide (fun (W : World) (v : Value) (h : RdK encR 4 W W.heap.size v l) => by have := oMargin_any h (by omega) d; rwa [b2] at this)
      clear e2 b2
      go_wp2_with (fail)
      refine (H1.out _ _ ((hAl.out.below K0_2.out).mono K0_2.out.size)).mono ?_
      rintro e w3 ⟨⟨A3, c3, rfl, ho⟩, hb⟩
      have K0_3 := hide (K0_2.out.trans (hb.mono K0_2.out.size))
      have K3_3 := hide (Below.refl w3.heap.size w3)
      clear hb
      have hs1 := hide (own_rd (l := S1) ho (fun _ => rfl))
      clear ho
      go_wp2_with (fail)
      refine (J1.out _ _ ((hAl.out.below K0_3.out).mono K0_3.out.size)).mono ?_
      rintro e w4 ⟨⟨A4, c4, rfl, ho⟩, hb⟩
      have K0_4 := hide (K0_3.out.trans (hb.mono K0_3.out.size))
      have K3_4 := hide (K3_3.out.trans (hb.mono K3_3.out.size))
      have K4_4 := hide (Below.refl w4.heap.size w4)
      clear hb
      have hb1 := hide (own_rd (l := ([] : List R4)) ho (fun _ => rfl))
      clear ho
      clear H1 J1
      go_wp2_with (fail)
      refine (H2.out _ _ ((hAl.out.below K0_4.out).mono K0_4.out.size)).mono ?_
      rintro e w5 ⟨⟨A5, c5, rfl, ho⟩, hb⟩
      have K0_5 := hide (K0_4.out.trans (hb.mono K0_4.out.size))
      have K3_5 := hide (K3_4.out.trans (hb.mono K3_4.out.size))
      have K4_5 := hide (K4_4.out.trans (hb.mono K4_4.out.size))
      have K5_5 := hide (Below.refl w5.heap.size w5)
      clear hb
      have hs2 := hide (own_rd (l := ([] : List R4)) ho (fun _ => rfl))
      clear ho
      go_wp2_with (fail)
      refine (J2.out _ _ ((hAl.out.below K0_5.out).mono K0_5.out.size)).mono ?_
      rintro e w6 ⟨⟨A6, c6, rfl, ho⟩, hb⟩
      have K0_6 := hide (K0_5.out.trans (hb.mono K0_5.out.size))
      have K3_6 := hide (K3_5.out.trans (hb.mono K3_5.out.size))
      have K4_6 := hide (K4_5.out.trans (hb.mono K4_5.out.size))
      have K5_6 := hide (K5_5.out.trans (hb.mono K5_5.out.size))
      have K6_6 := hide (Below.refl w6.heap.size w6)
      clear hb
      have hb2 := hide (own_rd (l := ([] : List R4)) ho (fun _ => rfl))
      clear ho
      clear H2 J2
      go_wp2_with (fail)
      go_ret
      exact ⟨rfl, K0_6.out⟩
    · have H1 := hide (fun (W : World) (v : Value) (h : RdK encR 4 W W.heap.size v l) => by have := oShrink_any h (by omega) d; rwa [e1] at this)
      have J1 := hide (fun (W : World) (v : Value) (h : RdK encR 4 W W.heap.size v l) => by have := oBorder_any h (by omega) d; rwa [b1] at this)
      clear e1 b1
      have H2 := hide (fun (W : World) (v : Value) (h : RdK encR 4 W W.heap.size v l) => by have := oGrow_any h (by omega) d; rwa [e2] at this)
      have J2 := hide (fun (W : World) (v : Value) (h : RdK encR 4 W W.heap.size v l) => by have := oMargin_any h (by omega) d; rwa [b2] at this)
      clear e2 b2
      go_wp2_with (fail)
      refine (H1.out _ _ ((hAl.out.below K0_2.out).mono K0_2.out.size)).mono ?_
      rintro e w3 ⟨⟨A3, c3, rfl, ho⟩, hb⟩
      have K0_3 := hide (K0_2.out.trans (hb.mono K0_2.out.size))
      have K3_3 := hide (Below.refl w3.heap.size w3)
      clear hb
      have hs1 := hide (own_rd (l := S1) ho (fun _ => rfl))
      clear ho
      go_wp2_with (fail)
      refine (J1.out _ _ ((hAl.out.below K0_3.out).mono K0_3.out.size)).mono ?_
      rintro e w4 ⟨⟨A4, c4, rfl, ho⟩, hb⟩
      have K0_4 := hide (K0_3.out.trans (hb.mono K0_3.out.size))
      have K3_4 := hide (K3_3.out.trans (hb.mono K3_3.out.size))
      have K4_4 := hide (Below.refl w4.heap.size w4)
      clear hb
      have hb1 := hide (own_rd (l := ([] : List R4)) ho (fun _ => rfl))
      clear ho
      clear H1 J1
      go_wp2_with (fail)
      refine (H2.out _ _ ((hAl.out.below K0_4.out).mono K0_4.out.size)).mono ?_
      rintro e w5 ⟨⟨A5, c5, rfl, ho⟩, hb⟩
      have K0_5 := hide (K0_4.out.trans (hb.mono K0_4.out.size))
      have K3_5 := hide (K3_4.out.trans (hb.mono K3_4.out.size))
      have K4_5 := hide (K4_4.out.trans (hb.mono K4_4.out.size))
      have K5_5 := hide (Below.refl w5.heap.size w5)
      clear hb
      have hs2 := hide (own_rd (l := S2) ho (fun _ => rfl))
      clear ho
      go_wp2_with (fail)
      refine (J2.out _ _ ((hAl.out.below K0_5.out).mono K0_5.out.size)).mono ?_
      rintro e w6 ⟨⟨A6, c6, rfl, ho⟩, hb⟩
      have K0_6 := hide (K0_5.out.trans (hb.mono K0_5.out.size))
      have K3_6 := hide (K3_5.out.trans (hb.mono K3_5.out.size))
      have K4_6 := hide (K4_5.out.trans (hb.mono K4_5.out.size))
      have K5_6 := hide (K5_5.out.trans (hb.mono K5_5.out.size))
      have K6_6 := hide (Below.refl w6.heap.size w6)
      clear hb
      have hb2 := hide (own_rd (l := ([] : List R4)) ho (fun _ => rfl))
      clear ho
      clear H2 J2
      go_wp2_with (fail)
      go_ret
      exact ⟨rfl, K0_6.out⟩
    · have H1 := hide (fun (W : World) (v : Value) (h : RdK encR 4 W W.heap.size v l) => by have := oShrink_any h (by omega) d; rwa [e1] at this)
      have J1 := hide (fun (W : World) (v : Value) (h : RdK encR 4 W W.heap.size v l) => by have := oBorder_any h (by omega) d; rwa [b1] at this)
      clear e1 b1
      have H2 := hide (fun (W : World) (v : Value) (h : RdK encR 4 W W.heap.size v l) => by have := oGrow_any h (by omega) d; rwa [e2] at this)
      have J2 := hide (fun (W : World) (v : Value) (h : RdK encR 4 W W.heap.size v l) => by have := oMargin_any h (by omega) d; rwa [b2] at this)
      have U2 := hide (fun (W : World) (v v2 : Value) (h : RdK encR 4 W W.heap.size v l) (h2 : RdK encR 4 W W.heap.size v2 R2) => by have := union_any h h2 (by omega) (by omega); rwa [u2] at this)
      have M2 := hide (fun (W : World) (v v2 : Value) (h : RdK encR 4 W W.heap.size v l) (h2 : RdK encR 4 W W.heap.size v2 R2) => by have := meet_any h h2 (by omega) (by omega); rwa [m2] at this)
      clear e2 b2 u2 m2
      go_wp2_with (fail)
      refine (H1.out _ _ ((hAl.out.below K0_2.out).mono K0_2.out.size)).mono ?_
      rintro e w3 ⟨⟨A3, c3, rfl, ho⟩, hb⟩
      have K0_3 := hide (K0_2.out.trans (hb.mono K0_2.out.size))
      have K3_3 := hide (Below.refl w3.heap.size w3)
      clear hb
      have hs1 := hide (own_rd (l := S1) ho (fun _ => rfl))
      clear ho
      go_wp2_with (fail)
      refine (J1.out _ _ ((hAl.out.below K0_3.out).mono K0_3.out.size)).mono ?_
      rintro e w4 ⟨⟨A4, c4, rfl, ho⟩, hb⟩
      have K0_4 := hide (K0_3.out.trans (hb.mono K0_3.out.size))
      have K3_4 := hide (K3_3.out.trans (hb.mono K3_3.out.size))
      have K4_4 := hide (Below.refl w4.heap.size w4)
      clear hb
      have hb1 := hide (own_rd (l := ([] : List R4)) ho (fun _ => rfl))
      clear ho
      clear H1 J1
      go_wp2_with (fail)
      refine (H2.out _ _ ((hAl.out.below K0_4.out).mono K0_4.out.size)).mono ?_
      rintro e w5 ⟨⟨A5, c5, rfl, ho⟩, hb⟩
      have K0_5 := hide (K0_4.out.trans (hb.mono K0_4.out.size))
      have K3_5 := hide (K3_4.out.trans (hb.mono K3_4.out.size))
      have K4_5 := hide (K4_4.out.trans (hb.mono K4_4.out.size))
      have K5_5 := hide (Below.refl w5.heap.size w5)
      clear hb
      have hs2 := hide (own_rd (l := S2) ho (fun _ => rfl))
      clear ho
      go_wp2_with (fail)
      refine (J2.out _ _ ((hAl.out.below K0_5.out).mono K0_5.out.size)).mono ?_
      rintro e w6 ⟨⟨A6, c6, rfl, ho⟩, hb⟩
      have K0_6 := hide (K0_5.out.trans (hb.mono K0_5.out.size))
      have K3_6 := hide (K3_5.out.trans (hb.mono K3_5.out.size))
      have K4_6 := hide (K4_5.out.trans (hb.mono K4_5.out.size))
      have K5_6 := hide (K5_5.out.trans (hb.mono K5_5.out.size))
      have K6_6 := hide (Below.refl w6.heap.size w6)
      clear hb
      have hb2 := hide (own_rd (l := R2) ho (fun _ => rfl))
      clear ho
      clear H2 J2
      go_wp2_with (fail)
      refine (U2.out _ _ _ ((hAl.out.below K0_6.out).mono K0_6.out.size) hb2.out).mono ?_
      rintro e w7 ⟨⟨A7, c7, rfl, ho⟩, hb⟩
      have K0_7 := hide (K0_6.out.trans (hb.mono K0_6.out.size))
      have K3_7 := hide (K3_6.out.trans (hb.mono K3_6.out.size))
      have K4_7 := hide (K4_6.out.trans (hb.mono K4_6.out.size))
      have K5_7 := hide (K5_6.out.trans (hb.mono K5_6.out.size))
      have K6_7 := hide (K6_6.out.trans (hb.mono K6_6.out.size))
      have K7_7 := hide (Below.refl w7.heap.size w7)
      clear hb
      have hu2 := hide (own_rd (l := S2) ho (fun _ => rfl))
      clear ho
      go_wp2_with (fail)
      refine (M2.out _ _ _ ((hAl.out.below K0_7.out).mono K0_7.out.size) ((hb2.out.below K6_7.out).mono K6_7.out.size)).mono ?_
      rintro e w8 ⟨⟨A8, c8, rfl, ho⟩, hb⟩
      have K0_8 := hide (K0_7.out.trans (hb.mono K0_7.out.size))
      have K3_8 := hide (K3_7.out.trans (hb.mono K3_7.out.size))
      have K4_8 := hide (K4_7.out.trans (hb.mono K4_7.out.size))
      have K5_8 := hide (K5_7.out.trans (hb.mono K5_7.out.size))
      have K6_8 := hide (K6_7.out.trans (hb.mono K6_7.out.size))
      have K7_8 := hide (K7_7.out.trans (hb.mono K7_7.out.size))
      have K8_8 := hide (Below.refl w8.heap.size w8)
      clear hb
      have hm2 := hide (own_rd (l := ([] : List R4)) ho (fun _ => rfl))
      clear ho
      clear U2 M2
      go_wp2_with (fail)
      refine (rSameSelf ((hu2.out.below K7_8.out).mono K7_8.out.size) ((hs2.out.below K5_8.out).mono K5_8.out.size) (by omega)).mono ?_
      rintro e w9 ⟨rfl, hb⟩
      have K0_9 := hide (K0_8.out.trans (hb.mono K0_8.out.size))
      have K3_9 := hide (K3_8.out.trans (hb.mono K3_8.out.size))
      have K4_9 := hide (K4_8.out.trans (hb.mono K4_8.out.size))
      have K5_9 := hide (K5_8.out.trans (hb.mono K5_8.out.size))
      have K6_9 := hide (K6_8.out.trans (hb.mono K6_8.out.size))
      have K7_9 := hide (K7_8.out.trans (hb.mono K7_8.out.size))
      have K8_9 := hide (K8_8.out.trans (hb.mono K8_8.out.size))
      clear hb
      go_wp2_with (fail)
      go_ret
      exact ⟨rfl, K0_9.out⟩
  · rcases hm with ⟨e2, b2⟩ | ⟨S2, e2, n2, b2 | ⟨R2, b2, k2, u2, m2⟩⟩
    · have H1 := hide (fun (W : World) (v : Value) (h : RdK encR 4 W W.heap.size v l) => by have := oShrink_any h (by omega) d; rwa [e1] at this)
      have J1 := hide (fun (W : World) (v : Value) (h : RdK encR 4 W W.heap.size v l) => by have := oBorder_any h (by omega) d; rwa [b1] at this)
      have U1 := hide (fun (W : World) (v v2 : Value) (h : RdK encR 4 W W.heap.size v S1) (h2 : RdK encR 4 W W.heap.size v2 R1) => by have := union_any h h2 (by omega) (by omega); rwa [u1] at this)
      have M1 := hide (fun (W : World) (v v2 : Value) (h : RdK encR 4 W W.heap.size v S1) (h2 : RdK encR 4 W W.heap.size v2 R1) => by have := meet_any h h2 (by omega) (by omega); rwa [m1] at this)
      clear e1 b1 u1 m1
      have H2 := hide (fun (W : World) (v : Value) (h : RdK encR 4 W W.heap.size v l) => by have := oGrow_any h (by omega) d; rwa [e2] at this)
      have J2 := hide (fun (W : World) (v : Value) (h : RdK encR 4 W W.heap.size v l) => by have := oMargin_any h (by omega) d; rwa [b2] at this)
      clear e2 b2
      go_wp2_with (fail)
      refine (H1.out _ _ ((hAl.out.below K0_2.out).mono K0_2.out.size)).mono ?_
      rintro e w3 ⟨⟨A3, c3, rfl, ho⟩, hb⟩
      have K0_3 := hide (K0_2.out.trans (hb.mono K0_2.out.size))
      have K3_3 := hide (Below.refl w3.heap.size w3)
      clear hb
      have hs1 := hide (own_rd (l := S1) ho (fun _ => rfl))
      clear ho
      go_wp2_with (fail)
      refine (J1.out _ _ ((hAl.out.below K0_3.out).mono K0_3.out.size)).mono ?_
      rintro e w4 ⟨⟨A4, c4, rfl, ho⟩, hb⟩
      have K0_4 := hide (K0_3.out.trans (hb.mono K0_3.out.size))
      have K3_4 := hide (K3_3.out.trans (hb.mono K3_3.out.size))
      have K4_4 := hide (Below.refl w4.heap.size w4)
      clear hb
      have hb1 := hide (own_rd (l := R1) ho (fun _ => rfl))
      clear ho
      clear H1 J1
      go_wp2_with (fail)
      refine (U1.out _ _ _ ((hs1.out.below K3_4.out).mono K3_4.out.size) hb1.out).mono ?_
      rintro e w5 ⟨⟨A5, c5, rfl, ho⟩, hb⟩
      have K0_5 := hide (K0_4.out.trans (hb.mono K0_4.out.size))
      have K3_5 := hide (K3_4.out.trans (hb.mono K3_4.out.size))
      have K4_5 := hide (K4_4.out.trans (hb.mono K4_4.out.size))
      have K5_5 := hide (Below.refl w5.heap.size w5)
      clear hb
      have hu1 := hide (own_rd (l := l) ho (fun _ => rfl))
      clear ho
      go_wp2_with (fail)
      refine (M1.out _ _ _ ((hs1.out.below K3_5.out).mono K3_5.out.size) ((hb1.out.below K4_5.out).mono K4_5.out.size)).mono ?_
      rintro e w6 ⟨⟨A6, c6, rfl, ho⟩, hb⟩
      have K0_6 := hide (K0_5.out.trans (hb.mono K0_5.out.size))
      have K3_6 := hide (K3_5.out.trans (hb.mono K3_5.out.size))
      have K4_6 := hide (K4_5.out.trans (hb.mono K4_5.out.size))
      have K5_6 := hide (K5_5.out.trans (hb.mono K5_5.out.size))
      have K6_6 := hide (Below.refl w6.heap.size w6)
      clear hb
      have hm1 := hide (own_rd (l := ([] : List R4)) ho (fun _ => rfl))
      clear ho
      clear U1 M1
      go_wp2_with (fail)
      refine (rSameSelf ((hu1.out.below K5_6.out).mono K5_6.out.size) ((hAl.out.below K0_6.out).mono K0_6.out.size) (by omega)).mono ?_
      rintro e w7 ⟨rfl, hb⟩
      have K0_7 := hide (K0_6.out.trans (hb.mono K0_6.out.size))
      have K3_7 := hide (K3_6.out.trans (hb.mono K3_6.out.size))
      have K4_7 := hide (K4_6.out.trans (hb.mono K4_6.out.size))
      have K5_7 := hide (K5_6.out.trans (hb.mono K5_6.out.size))
      have K6_7 := hide (K6_6.out.trans (hb.mono K6_6.out.size))
      clear hb
      go_wp2_with (fail)
      refine (H2.out _ _ ((hAl.out.below K0_7.out).mono K0_7.out.size)).mono ?_
      rintro e w8 ⟨⟨A8, c8, rfl, ho⟩, hb⟩
      have K0_8 := hide (K0_7.out.trans (hb.mono K0_7.out.size))
      have K3_8 := hide (K3_7.out.trans (hb.mono K3_7.out.size))
      have K4_8 := hide (K4_7.out.trans (hb.mono K4_7.out.size))
      have K5_8 := hide (K5_7.out.trans (hb.mono K5_7.out.size))
      have K6_8 := hide (K6_7.out.trans (hb.mono K6_7.out.size))
      have K8_8 := hide (Below.refl w8.heap.size w8)
      clear hb
      have hs2 := hide (own_rd (l := ([] : List R4)) ho (fun _ => rfl))
      clear ho
      go_wp2_with (fail)
      refine (J2.out _ _ ((hAl.out.below K0_8.out).mono K0_8.out.size)).mono ?_
      rintro e w9 ⟨⟨A9, c9, rfl, ho⟩, hb⟩
      have K0_9 := hide (K0_8.out.trans (hb.mono K0_8.out.size))
      have K3_9 := hide (K3_8.out.trans (hb.mono K3_8.out.size))
      have K4_9 := hide (K4_8.out.trans (hb.mono K4_8.out.size))
      have K5_9 := hide (K5_8.out.trans (hb.mono K5_8.out.size))
      have K6_9 := hide (K6_8.out.trans (hb.mono K6_8.out.size))
      have K8_9 := hide (K8_8.out.trans (hb.mono K8_8.out.size))
      have K9_9 := hide (Below.refl w9.heap.size w9)
      clear hb
      have hb2 := hide (own_rd (l := ([] : List R4)) ho (fun _ => rfl))
      clear ho
      clear H2 J2
      go_wp2_with (fail)
      go_ret
      exact ⟨rfl, K0_9.out⟩
    · have H1 := hide (fun (W : World) (v : Value) (h : RdK encR 4 W W.heap.size v l) => by have := oShrink_any h (by omega) d; rwa [e1] at this)
      have J1 := hide (fun (W : World) (v : Value) (h : RdK encR 4 W W.heap.size v l) => by have := oBorder_any h (by omega) d; rwa [b1] at this)
      have U1 := hide (fun (W : World) (v v2 : Value) (h : RdK encR 4 W W.heap.size v S1) (h2 : RdK encR 4 W W.heap.size v2 R1) => by have := union_any h h2 (by omega) (by omega); rwa [u1] at this)
      have M1 := hide (fun (W : World) (v v2 : Value) (h : RdK encR 4 W W.heap.size v S1) (h2 : RdK encR 4 W W.heap.size v2 R1) => by have := meet_any h h2 (by omega) (by omega); rwa [m1] at this)
      clear e1 b1 u1 m1
      have H2 := hide (fun (W : World) (v : Value) (h : RdK encR 4 W W.heap.size v l) => by have := oGrow_any h (by omega) d; rwa [e2] at this)
      have J2 := hide (fun (W : World) (v : Value) (h : RdK encR 4 W W.heap.size v l) => by have := oMargin_any h (by omega) d; rwa [b2] at this)
      clear e2 b2
      go_wp2_with (fail)
      refine (H1.out _ _ ((hAl.out.below K0_2.out).mono K0_2.out.size)).mono ?_
      rintro e w3 ⟨⟨A3, c3, rfl, ho⟩, hb⟩
      have K0_3 := hide (K0_2.out.trans (hb.mono K0_2.out.size))
      have K3_3 := hide (Below.refl w3.heap.size w3)
      clear hb
      have hs1 := hide (own_rd (l := S1) ho (fun _ => rfl))
      clear ho
      go_wp2_with (fail)
      refine (J1.out _ _ ((hAl.out.below K0_3.out).mono K0_3.out.size)).mono ?_
      rintro e w4 ⟨⟨A4, c4, rfl, ho⟩, hb⟩
      have K0_4 := hide (K0_3.out.trans (hb.mono K0_3.out.size))
      have K3_4 := hide (K3_3.out.trans (hb.mono K3_3.out.size))
      have K4_4 := hide (Below.refl w4.heap.size w4)
      clear hb
      have hb1 := hide (own_rd (l := R1) ho (fun _ => rfl))
      clear ho
      clear H1 J1
      go_wp2_with (fail)
      refine (U1.out _ _ _ ((hs1.out.below K3_4.out).mono K3_4.out.size) hb1.out).mono ?_
      rintro e w5 ⟨⟨A5, c5, rfl, ho⟩, hb⟩
      have K0_5 := hide (K0_4.out.trans (hb.mono K0_4.out.size))
      have K3_5 := hide (K3_4.out.trans (hb.mono K3_4.out.size))
      have K4_5 := hide (K4_4.out.trans (hb.mono K4_4.out.size))
      have K5_5 := hide (Below.refl w5.heap.size w5)
      clear hb
      have hu1 := hide (own_rd (l := l) ho (fun _ => rfl))
      clear ho
      go_wp2_with (fail)
      refine (M1.out _ _ _ ((hs1.out.below K3_5.out).mono K3_5.out.size) ((hb1.out.below K4_5.out).mono K4_5.out.size)).mono ?_
      rintro e w6 ⟨⟨A6, c6, rfl, ho⟩, hb⟩
      have K0_6 := hide (K0_5.out.trans (hb.mono K0_5.out.size))
      have K3_6 := hide (K3_5.out.trans (hb.mono K3_5.out.size))
      have K4_6 := hide (K4_5.out.trans (hb.mono K4_5.out.size))
      have K5_6 := hide (K5_5.out.trans (hb.mono K5_5.out.size))
      have K6_6 := hide (Below.refl w6.heap.size w6)
      clear hb
      have hm1 := hide (own_rd (l := ([] : List R4)) ho (fun _ => rfl))
      clear ho
      clear U1 M1
      go_wp2_with (fail)
      refine (rSameSelf ((hu1.out.below K5_6.out).mono K5_6.out.size) ((hAl.out.below K0_6.out).mono K0_6.out.size) (by omega)).mono ?_
      rintro e w7 ⟨rfl, hb⟩
      have K0_7 := hide (K0_6.out.trans (hb.mono K0_6.out.size))
      have K3_7 := hide (K3_6.out.trans (hb.mono K3_6.out.size))
      have K4_7 := hide (K4_6.out.trans (hb.mono K4_6.out.size))
      have K5_7 := hide (K5_6.out.trans (hb.mono K5_6.out.size))
      have K6_7 := hide (K6_6.out.trans (hb.mono K6_6.out.size))
      clear hb
      go_wp2_with (fail)
      refine (H2.out _ _ ((hAl.out.below K0_7.out).mono K0_7.out.size)).mono ?_
      rintro e w8 ⟨⟨A8, c8, rfl, ho⟩, hb⟩
      have K0_8 := hide (K0_7.out.trans (hb.mono K0_7.out.size))
      have K3_8 := hide (K3_7.out.trans (hb.mono K3_7.out.size))
      have K4_8 := hide (K4_7.out.trans (hb.mono K4_7.out.size))
      have K5_8 := hide (K5_7.out.trans (hb.mono K5_7.out.size))
      have K6_8 := hide (K6_7.out.trans (hb.mono K6_7.out.size))
      have K8_8 := hide (Below.refl w8.heap.size w8)
      clear hb
      have hs2 := hide (own_rd (l := S2) ho (fun _ => rfl))
      clear ho
      go_wp2_with (fail)
      refine (J2.out _ _ ((hAl.out.below K0_8.out).mono K0_8.out.size)).mono ?_
      rintro e w9 ⟨⟨A9, c9, rfl, ho⟩, hb⟩
      have K0_9 := hide (K0_8.out.trans (hb.mono K0_8.out.size))
      have K3_9 := hide (K3_8.out.trans (hb.mono K3_8.out.size))
      have K4_9 := hide (K4_8.out.trans (hb.mono K4_8.out.size))
      have K5_9 := hide (K5_8.out.trans (hb.mono K5_8.out.size))
      have K6_9 := hide (K6_8.out.trans (hb.mono K6_8.out.size))
      have K8_9 := hide (K8_8.out.trans (hb.mono K8_8.out.size))
      have K9_9 := hide (Below.refl w9.heap.size w9)
      clear hb
      have hb2 := hide (own_rd (l := ([] : List R4)) ho (fun _ => rfl))
      clear ho
      clear H2 J2
      go_wp2_with (fail)
      go_ret
      exact ⟨rfl, K0_9.out⟩
    · have H1 := hide (fun (W : World) (v : Value) (h : RdK encR 4 W W.heap.size v l) => by have := oShrink_any h (by omega) d; rwa [e1] at this)
      have J1 := hide (fun (W : World) (v : Value) (h : RdK encR 4 W W.heap.size v l) => by have := oBorder_any h (by omega) d; rwa [b1] at this)
      have U1 := hide (fun (W : World) (v v2 : Value) (h : RdK encR 4 W W.heap.size v S1) (h2 : RdK encR 4 W W.heap.size v2 R1) => by have := union_any h h2 (by omega) (by omega); rwa [u1] at this)
      have M1 := hide (fun (W : World) (v v2 : Value) (h : RdK encR 4 W W.heap.size v S1) (h2 : RdK encR 4 W W.heap.size v2 R1) => by have := meet_any h h2 (by omega) (by omega); rwa [m1] at this)
      clear e1 b1 u1 m1
      have H2 := hide (fun (W : World) (v : Value) (h : RdK encR 4 W W.heap.size v l) => by have := oGrow_any h (by omega) d; rwa [e2] at this)
      have J2 := hide (fun (W : World) (v : Value) (h : RdK encR 4 W W.heap.size v l) => by have := oMargin_any h (by omega) d; rwa [b2] at this)
      have U2 := hide (fun (W : World) (v v2 : Value) (h : RdK encR 4 W W.heap.size v l) (h2 : RdK encR 4 W W.heap.size v2 R2) => by have := union_any h h2 (by omega) (by omega); rwa [u2] at this)
      have M2 := hide (fun (W : World) (v v2 : Value) (h : RdK encR 4 W W.heap.size v l) (h2 : RdK encR 4 W W.heap.size v2 R2) => by have := meet_any h h2 (by omega) (by omega); rwa [m2] at this)
      clear e2 b2 u2 m2
      go_wp2_with (fail)
      refine (H1.out _ _ ((hAl.out.below K0_2.out).mono K0_2.out.size)).mono ?_
      rintro e w3 ⟨⟨A3, c3, rfl, ho⟩, hb⟩
      have K0_3 := hide (K0_2.out.trans (hb.mono K0_2.out.size))
      have K3_3 := hide (Below.refl w3.heap.size w3)
      clear hb
      have hs1 := hide (own_rd (l := S1) ho (fun _ => rfl))
      clear ho
      go_wp2_with (fail)
      refine (J1.out _ _ ((hAl.out.below K0_3.out).mono K0_3.out.size)).mono ?_
      rintro e w4 ⟨⟨A4, c4, rfl, ho⟩, hb⟩
      have K0_4 := hide (K0_3.out.trans (hb.mono K0_3.out.size))
      have K3_4 := hide (K3_3.out.trans (hb.mono K3_3.out.size))
      have K4_4 := hide (Below.refl w4.heap.size w4)
      clear hb
      have hb1 := hide (own_rd (l := R1) ho (fun _ => rfl))
      clear ho
      clear H1 J1
      go_wp2_with (fail)
      refine (U1.out _ _ _ ((hs1.out.below K3_4.out).mono K3_4.out.size) hb1.out).mono ?_
      rintro e w5 ⟨⟨A5, c5, rfl, ho⟩, hb⟩
      have K0_5 := hide (K0_4.out.trans (hb.mono K0_4.out.size))
      have K3_5 := hide (K3_4.out.trans (hb.mono K3_4.out.size))
      have K4_5 := hide (K4_4.out.trans (hb.mono K4_4.out.size))
      have K5_5 := hide (Below.refl w5.heap.size w5)
      clear hb
      have hu1 := hide (own_rd (l := l) ho (fun _ => rfl))
      clear ho
      go_wp2_with (fail)
      refine (M1.out _ _ _ ((hs1.out.below K3_5.out).mono K3_5.out.size) ((hb1.out.below K4_5.out).mono K4_5.out.size)).mono ?_
      rintro e w6 ⟨⟨A6, c6, rfl, ho⟩, hb⟩
      have K0_6 := hide (K0_5.out.trans (hb.mono K0_5.out.size))
      have K3_6 := hide (K3_5.out.trans (hb.mono K3_5.out.size))
      have K4_6 := hide (K4_5.out.trans (hb.mono K4_5.out.size))
      have K5_6 := hide (K5_5.out.trans (hb.mono K5_5.out.size))
      have K6_6 := hide (Below.refl w6.heap.size w6)
      clear hb
      have hm1 := hide (own_rd (l := ([] : List R4)) ho (fun _ => rfl))
      clear ho
      clear U1 M1
      go_wp2_with (fail)
      refine (rSameSelf ((hu1.out.below K5_6.out).mono K5_6.out.size) ((hAl.out.below K0_6.out).mono K0_6.out.size) (by omega)).mono ?_
      rintro e w7 ⟨rfl, hb⟩
      have K0_7 := hide (K0_6.out.trans (hb.mono K0_6.out.size))
      have K3_7 := hide (K3_6.out.trans (hb.mono K3_6.out.size))
      have K4_7 := hide (K4_6.out.trans (hb.mono K4_6.out.size))
      have K5_7 := hide (K5_6.out.trans (hb.mono K5_6.out.size))
      have K6_7 := hide (K6_6.out.trans (hb.mono K6_6.out.size))
      clear hb
      go_wp2_with (fail)
      refine (H2.out _ _ ((hAl.out.below K0_7.out).mono K0_7.out.size)).mono ?_
      rintro e w8 ⟨⟨A8, c8, rfl, ho⟩, hb⟩
      have K0_8 := hide (K0_7.out.trans (hb.mono K0_7.out.size))
      have K3_8 := hide (K3_7.out.trans (hb.mono K3_7.out.size))
      have K4_8 := hide (K4_7.out.trans (hb.mono K4_7.out.size))
      have K5_8 := hide (K5_7.out.trans (hb.mono K5_7.out.size))
      have K6_8 := hide (K6_7.out.trans (hb.mono K6_7.out.size))
      have K8_8 := hide (Below.refl w8.heap.size w8)
      clear hb
      have hs2 := hide (own_rd (l := S2) ho (fun _ => rfl))
      clear ho
      go_wp2_with (fail)
      refine (J2.out _ _ ((hAl.out.below K0_8.out).mono K0_8.out.size)).mono ?_
      rintro e w9 ⟨⟨A9, c9, rfl, ho⟩, hb⟩
      have K0_9 := hide (K0_8.out.trans (hb.mono K0_8.out.size))
      have K3_9 := hide (K3_8.out.trans (hb.mono K3_8.out.size))
      have K4_9 := hide (K4_8.out.trans (hb.mono K4_8.out.size))
      have K5_9 := hide (K5_8.out.trans (hb.mono K5_8.out.size))
      have K6_9 := hide (K6_8.out.trans (hb.mono K6_8.out.size))
      have K8_9 := hide (K8_8.out.trans (hb.mono K8_8.out.size))
      have K9_9 := hide (Below.refl w9.heap.size w9)
      clear hb
      have hb2 := hide (own_rd (l := R2) ho (fun _ => rfl))
      clear ho
      clear H2 J2
      go_wp2_with (fail)
      refine (U2.out _ _ _ ((hAl.out.below K0_9.out).mono K0_9.out.size) hb2.out).mono ?_
      rintro e w10 ⟨⟨A10, c10, rfl, ho⟩, hb⟩
      have K0_10 := hide (K0_9.out.trans (hb.mono K0_9.out.size))
      have K3_10 := hide (K3_9.out.trans (hb.mono K3_9.out.size))
      have K4_10 := hide (K4_9.out.trans (hb.mono K4_9.out.size))
      have K5_10 := hide (K5_9.out.trans (hb.mono K5_9.out.size))
      have K6_10 := hide (K6_9.out.trans (hb.mono K6_9.out.size))
      have K8_10 := hide (K8_9.out.trans (hb.mono K8_9.out.size))
      have K9_10 := hide (K9_9.out.trans (hb.mono K9_9.out.size))
      have K10_10 := hide (Below.refl w10.heap.size w10)
      clear hb
      have hu2 := hide (own_rd (l := S2) ho (fun _ => rfl))
      clear ho
      go_wp2_with (fail)
      refine (M2.out _ _ _ ((hAl.out.below K0_10.out).mono K0_10.out.size) ((hb2.out.below K9_10.out).mono K9_10.out.size)).mono ?_
      rintro e w11 ⟨⟨A11, c11, rfl, ho⟩, hb⟩
      have K0_11 := hide (K0_10.out.trans (hb.mono K0_10.out.size))
      have K3_11 := hide (K3_10.out.trans (hb.mono K3_10.out.size))
      have K4_11 := hide (K4_10.out.trans (hb.mono K4_10.out.size))
      have K5_11 := hide (K5_10.out.trans (hb.mono K5_10.out.size))
      have K6_11 := hide (K6_10.out.trans (hb.mono K6_10.out.size))
      have K8_11 := hide (K8_10.out.trans (hb.mono K8_10.out.size))
      have K9_11 := hide (K9_10.out.trans (hb.mono K9_10.out.size))
      have K10_11 := hide (K10_10.out.trans (hb.mono K10_10.out.size))
      have K11_11 := hide (Below.refl w11.heap.size w11)
      clear hb
      have hm2 := hide (own_rd (l := ([] : List R4)) ho (fun _ => rfl))
      clear ho
      clear U2 M2
      go_wp2_with (fail)
      refine (rSameSelf ((hu2.out.below K10_11.out).mono K10_11.out.size) ((hs2.out.below K8_11.out).mono K8_11.out.size) (by omega)).mono ?_
      rintro e w12 ⟨rfl, hb⟩
      have K0_12 := hide (K0_11.out.trans (hb.mono K0_11.out.size))
      have K3_12 := hide (K3_11.out.trans (hb.mono K3_11.out.size))
      have K4_12 := hide (K4_11.out.trans (hb.mono K4_11.out.size))
      have K5_12 := hide (K5_11.out.trans (hb.mono K5_11.out.size))
      have K6_12 := hide (K6_11.out.trans (hb.mono K6_11.out.size))
      have K8_12 := hide (K8_11.out.trans (hb.mono K8_11.out.size))
      have K9_12 := hide (K9_11.out.trans (hb.mono K9_11.out.size))
      have K10_12 := hide (K10_11.out.trans (hb.mono K10_11.out.size))
      have K11_12 := hide (K11_11.out.trans (hb.mono K11_11.out.size))
      clear hb
      go_wp2_with (fail)
      go_ret
      exact ⟨rfl, K0_12.out⟩
end Go.Proofs.YtpgjfpeepbjflaaGreat
