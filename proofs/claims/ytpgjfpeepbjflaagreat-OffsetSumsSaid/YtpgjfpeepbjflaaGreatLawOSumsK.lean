/- OffsetSums' walk: distances add up. -/
import Derived.Test.YtpgjfpeepbjflaaGreatPk11
import Derived.Test.YtpgjfpeepbjflaaGreatPk12
namespace Go.Proofs.YtpgjfpeepbjflaaGreat
open Go.RowKit
set_option linter.unusedVariables false
set_option linter.unusedSimpArgs false

set_option maxRecDepth 100000 in
set_option maxHeartbeats 8000000 in
theorem osums_walk {w : World} {vl : Value} {l : List R4} (hrl : RdK encR 4 w w.heap.size vl l) (lal : l.length ≤ maxLen) (d e9 : Int) :
    Calls Tryz.prog 4 #[vl, .int .i64 d, .int .i64 e9] w fun e w' => e = .returned (.bool true) ∧ Below w.heap.size w w' := by
  have hAl := hide hrl
  obtain ⟨Al, cl, hvl, _⟩ := hrl
  subst hvl
  have HFd := hide (fun (W : World) (h : RdK encR 4 W W.heap.size (.slice Al l.length cl) l) => fitO_any h lal d)
  have HFe := hide (fun (W : World) (h : RdK encR 4 W W.heap.size (.slice Al l.length cl) l) => fitO_any h lal e9)
  go_enter Tryz.func4, Tryz.ntmps4
  have K0_0 := hide (Below.refl w.heap.size w)
  go_wp2_with (fail)
  refine (alive14_any _).mono ?_
  rintro e w1 ⟨rfl, hb⟩
  have K0_1 := hide (K0_0.out.trans (hb.mono K0_0.out.size))
  clear hb
  go_wp2_with (fail)
  refine (HFd.out _ ((hAl.out.below K0_1.out).mono K0_1.out.size)).mono ?_
  rintro e w2 (⟨rfl, hb⟩ | ⟨rfl, hF2, hb⟩)
  · have K0_2 := hide (K0_1.out.trans (hb.mono K0_1.out.size))
    clear hb
    go_wp2_with (fail)
    go_ret
    exact ⟨rfl, K0_2.out⟩
  have K0_2 := hide (K0_1.out.trans (hb.mono K0_1.out.size))
  clear hb
  go_wp2_with (fail)
  refine (HFe.out _ ((hAl.out.below K0_2.out).mono K0_2.out.size)).mono ?_
  rintro e w3 (⟨rfl, hb⟩ | ⟨rfl, hF3, hb⟩)
  · have K0_3 := hide (K0_2.out.trans (hb.mono K0_2.out.size))
    clear hb
    go_wp2_with (fail)
    go_ret
    exact ⟨rfl, K0_3.out⟩
  have K0_3 := hide (K0_2.out.trans (hb.mono K0_2.out.size))
  clear hb
  have nl := hF2.1
  obtain ⟨d0, d1, _⟩ := hF2.2.2
  obtain ⟨q0, q1, _⟩ := hF3.2.2
  clear lal HFd HFe hF2 hF3
  have m1 := growF_len l d
  have m2 := growF_len (growF l d).1 e9
  have m3 := growF_len l (d + e9)
  have ht : (growF l d).2 = 0 → (growF (growF l d).1 e9).2 = 0 → (growF l (d + e9)).2 = 0 → (growF (growF l d).1 e9).1 = (growF l (d + e9)).1 := fun h1 h2 h3 => grow_twice (Prod.ext rfl h1) (Prod.ext rfl h2) (Prod.ext rfl h3)
  have H1 := hide (fun (W : World) (v : Value) (h : RdK encR 4 W W.heap.size v l) => oGrow_any h (by omega) d)
  have H2 := hide (fun (W : World) (v : Value) (h : RdK encR 4 W W.heap.size v (growF l d).1) => oGrow_any h (by omega) e9)
  have H3 := hide (fun (W : World) (v : Value) (h : RdK encR 4 W W.heap.size v l) => oGrow_any h (by omega) (d + e9))
  generalize growF (growF l d).1 e9 = PB at *
  generalize growF l (d + e9) = PC at *
  generalize growF l d = PA at *
  obtain ⟨RA1, ca⟩ := PA
  obtain ⟨RB1, cb⟩ := PB
  obtain ⟨RC1, cc⟩ := PC
  simp only at m1 m2 m3 ht H1 H2 H3
  go_wp2_with (fail)
  refine (H1.out _ _ ((hAl.out.below K0_3.out).mono K0_3.out.size)).mono ?_
  rintro e w4 ⟨⟨A4, c4, rfl, ho⟩, hb⟩
  have K0_4 := hide (K0_3.out.trans (hb.mono K0_3.out.size))
  have K4_4 := hide (Below.refl w4.heap.size w4)
  clear hb
  have ha1 := hide (own_rd (l := RA1) ho (fun _ => rfl))
  clear ho
  go_wp2_with (fail)
  refine (H2.out _ _ ha1.out).mono ?_
  rintro e w5 ⟨⟨A5, c5, rfl, ho⟩, hb⟩
  have K0_5 := hide (K0_4.out.trans (hb.mono K0_4.out.size))
  have K4_5 := hide (K4_4.out.trans (hb.mono K4_4.out.size))
  have K5_5 := hide (Below.refl w5.heap.size w5)
  clear hb
  have hb1 := hide (own_rd (l := RB1) ho (fun _ => rfl))
  clear ho
  go_wp2_with (fail)
  refine (H3.out _ _ ((hAl.out.below K0_5.out).mono K0_5.out.size)).mono ?_
  rintro e w6 ⟨⟨A6, c6, rfl, ho⟩, hb⟩
  have K0_6 := hide (K0_5.out.trans (hb.mono K0_5.out.size))
  have K4_6 := hide (K4_5.out.trans (hb.mono K4_5.out.size))
  have K5_6 := hide (K5_5.out.trans (hb.mono K5_5.out.size))
  have K6_6 := hide (Below.refl w6.heap.size w6)
  clear hb
  have hc1 := hide (own_rd (l := RC1) ho (fun _ => rfl))
  clear ho
  clear H1 H2 H3
  by_cases z1 : ca = 0
  · subst z1
    by_cases z2 : cb = 0
    · subst z2
      by_cases z3 : cc = 0
      · subst z3
        obtain rfl := ht rfl rfl rfl
        clear ht
        go_wp2_with (fail)
        refine (rSameSelf ((hb1.out.below K5_6.out).mono K5_6.out.size) hc1.out (by omega)).mono ?_
        rintro e w7 ⟨rfl, hb⟩
        have K0_7 := hide (K0_6.out.trans (hb.mono K0_6.out.size))
        have K4_7 := hide (K4_6.out.trans (hb.mono K4_6.out.size))
        have K5_7 := hide (K5_6.out.trans (hb.mono K5_6.out.size))
        have K6_7 := hide (K6_6.out.trans (hb.mono K6_6.out.size))
        clear hb
        clear m1 m2 m3
        have m1 := shrF_len l d
        have m2 := shrF_len (shrF l d).1 e9
        have m3 := shrF_len l (d + e9)
        have ht : (shrF l d).2 = 0 → (shrF (shrF l d).1 e9).2 = 0 → (shrF l (d + e9)).2 = 0 → (shrF (shrF l d).1 e9).1 = (shrF l (d + e9)).1 := fun h1 h2 h3 => shrink_twice (Prod.ext rfl h1) (Prod.ext rfl h2) (Prod.ext rfl h3)
        have H1 := hide (fun (W : World) (v : Value) (h : RdK encR 4 W W.heap.size v l) => oShrink_any h (by omega) d)
        have H2 := hide (fun (W : World) (v : Value) (h : RdK encR 4 W W.heap.size v (shrF l d).1) => oShrink_any h (by omega) e9)
        have H3 := hide (fun (W : World) (v : Value) (h : RdK encR 4 W W.heap.size v l) => oShrink_any h (by omega) (d + e9))
        generalize shrF (shrF l d).1 e9 = PB at *
        generalize shrF l (d + e9) = PC at *
        generalize shrF l d = PA at *
        obtain ⟨RA2, ca⟩ := PA
        obtain ⟨RB2, cb⟩ := PB
        obtain ⟨RC2, cc⟩ := PC
        simp only at m1 m2 m3 ht H1 H2 H3
        go_wp2_with (fail)
        refine (H1.out _ _ ((hAl.out.below K0_7.out).mono K0_7.out.size)).mono ?_
        rintro e w8 ⟨⟨A8, c8, rfl, ho⟩, hb⟩
        have K0_8 := hide (K0_7.out.trans (hb.mono K0_7.out.size))
        have K4_8 := hide (K4_7.out.trans (hb.mono K4_7.out.size))
        have K5_8 := hide (K5_7.out.trans (hb.mono K5_7.out.size))
        have K6_8 := hide (K6_7.out.trans (hb.mono K6_7.out.size))
        have K8_8 := hide (Below.refl w8.heap.size w8)
        clear hb
        have ha2 := hide (own_rd (l := RA2) ho (fun _ => rfl))
        clear ho
        go_wp2_with (fail)
        refine (H2.out _ _ ha2.out).mono ?_
        rintro e w9 ⟨⟨A9, c9, rfl, ho⟩, hb⟩
        have K0_9 := hide (K0_8.out.trans (hb.mono K0_8.out.size))
        have K4_9 := hide (K4_8.out.trans (hb.mono K4_8.out.size))
        have K5_9 := hide (K5_8.out.trans (hb.mono K5_8.out.size))
        have K6_9 := hide (K6_8.out.trans (hb.mono K6_8.out.size))
        have K8_9 := hide (K8_8.out.trans (hb.mono K8_8.out.size))
        have K9_9 := hide (Below.refl w9.heap.size w9)
        clear hb
        have hb2 := hide (own_rd (l := RB2) ho (fun _ => rfl))
        clear ho
        go_wp2_with (fail)
        refine (H3.out _ _ ((hAl.out.below K0_9.out).mono K0_9.out.size)).mono ?_
        rintro e w10 ⟨⟨A10, c10, rfl, ho⟩, hb⟩
        have K0_10 := hide (K0_9.out.trans (hb.mono K0_9.out.size))
        have K4_10 := hide (K4_9.out.trans (hb.mono K4_9.out.size))
        have K5_10 := hide (K5_9.out.trans (hb.mono K5_9.out.size))
        have K6_10 := hide (K6_9.out.trans (hb.mono K6_9.out.size))
        have K8_10 := hide (K8_9.out.trans (hb.mono K8_9.out.size))
        have K9_10 := hide (K9_9.out.trans (hb.mono K9_9.out.size))
        have K10_10 := hide (Below.refl w10.heap.size w10)
        clear hb
        have hc2 := hide (own_rd (l := RC2) ho (fun _ => rfl))
        clear ho
        clear H1 H2 H3
        by_cases z1 : ca = 0
        · subst z1
          by_cases z2 : cb = 0
          · subst z2
            by_cases z3 : cc = 0
            · subst z3
              obtain rfl := ht rfl rfl rfl
              clear ht
              go_wp2_with (fail)
              refine (rSameSelf ((hb2.out.below K9_10.out).mono K9_10.out.size) hc2.out (by omega)).mono ?_
              rintro e w11 ⟨rfl, hb⟩
              have K0_11 := hide (K0_10.out.trans (hb.mono K0_10.out.size))
              have K4_11 := hide (K4_10.out.trans (hb.mono K4_10.out.size))
              have K5_11 := hide (K5_10.out.trans (hb.mono K5_10.out.size))
              have K6_11 := hide (K6_10.out.trans (hb.mono K6_10.out.size))
              have K8_11 := hide (K8_10.out.trans (hb.mono K8_10.out.size))
              have K9_11 := hide (K9_10.out.trans (hb.mono K9_10.out.size))
              have K10_11 := hide (K10_10.out.trans (hb.mono K10_10.out.size))
              clear hb
              go_wp2_with (fail)
              go_ret
              exact ⟨rfl, K0_11.out⟩
            · have y1 : (cc != 0) = true := by simpa using z3
              have y2 : (cc == 0) = false := by simpa using z3
              clear z3 ht
              go_wp2_with (fail)
              go_ret
              exact ⟨rfl, K0_10.out⟩
          · have y1 : (cb != 0) = true := by simpa using z2
            have y2 : (cb == 0) = false := by simpa using z2
            clear z2 ht
            go_wp2_with (fail)
            go_ret
            exact ⟨rfl, K0_10.out⟩
        · have y1 : (ca != 0) = true := by simpa using z1
          have y2 : (ca == 0) = false := by simpa using z1
          clear z1 ht
          go_wp2_with (fail)
          go_ret
          exact ⟨rfl, K0_10.out⟩
      · have y1 : (cc != 0) = true := by simpa using z3
        have y2 : (cc == 0) = false := by simpa using z3
        clear z3 ht
        clear m1 m2 m3
        have m1 := shrF_len l d
        have m2 := shrF_len (shrF l d).1 e9
        have m3 := shrF_len l (d + e9)
        have ht : (shrF l d).2 = 0 → (shrF (shrF l d).1 e9).2 = 0 → (shrF l (d + e9)).2 = 0 → (shrF (shrF l d).1 e9).1 = (shrF l (d + e9)).1 := fun h1 h2 h3 => shrink_twice (Prod.ext rfl h1) (Prod.ext rfl h2) (Prod.ext rfl h3)
        have H1 := hide (fun (W : World) (v : Value) (h : RdK encR 4 W W.heap.size v l) => oShrink_any h (by omega) d)
        have H2 := hide (fun (W : World) (v : Value) (h : RdK encR 4 W W.heap.size v (shrF l d).1) => oShrink_any h (by omega) e9)
        have H3 := hide (fun (W : World) (v : Value) (h : RdK encR 4 W W.heap.size v l) => oShrink_any h (by omega) (d + e9))
        generalize shrF (shrF l d).1 e9 = PB at *
        generalize shrF l (d + e9) = PC at *
        generalize shrF l d = PA at *
        obtain ⟨RA2, ca⟩ := PA
        obtain ⟨RB2, cb⟩ := PB
        obtain ⟨RC2, cc⟩ := PC
        simp only at m1 m2 m3 ht H1 H2 H3
        go_wp2_with (fail)
        refine (H1.out _ _ ((hAl.out.below K0_6.out).mono K0_6.out.size)).mono ?_
        rintro e w7 ⟨⟨A7, c7, rfl, ho⟩, hb⟩
        have K0_7 := hide (K0_6.out.trans (hb.mono K0_6.out.size))
        have K4_7 := hide (K4_6.out.trans (hb.mono K4_6.out.size))
        have K5_7 := hide (K5_6.out.trans (hb.mono K5_6.out.size))
        have K6_7 := hide (K6_6.out.trans (hb.mono K6_6.out.size))
        have K7_7 := hide (Below.refl w7.heap.size w7)
        clear hb
        have ha2 := hide (own_rd (l := RA2) ho (fun _ => rfl))
        clear ho
        go_wp2_with (fail)
        refine (H2.out _ _ ha2.out).mono ?_
        rintro e w8 ⟨⟨A8, c8, rfl, ho⟩, hb⟩
        have K0_8 := hide (K0_7.out.trans (hb.mono K0_7.out.size))
        have K4_8 := hide (K4_7.out.trans (hb.mono K4_7.out.size))
        have K5_8 := hide (K5_7.out.trans (hb.mono K5_7.out.size))
        have K6_8 := hide (K6_7.out.trans (hb.mono K6_7.out.size))
        have K7_8 := hide (K7_7.out.trans (hb.mono K7_7.out.size))
        have K8_8 := hide (Below.refl w8.heap.size w8)
        clear hb
        have hb2 := hide (own_rd (l := RB2) ho (fun _ => rfl))
        clear ho
        go_wp2_with (fail)
        refine (H3.out _ _ ((hAl.out.below K0_8.out).mono K0_8.out.size)).mono ?_
        rintro e w9 ⟨⟨A9, c9, rfl, ho⟩, hb⟩
        have K0_9 := hide (K0_8.out.trans (hb.mono K0_8.out.size))
        have K4_9 := hide (K4_8.out.trans (hb.mono K4_8.out.size))
        have K5_9 := hide (K5_8.out.trans (hb.mono K5_8.out.size))
        have K6_9 := hide (K6_8.out.trans (hb.mono K6_8.out.size))
        have K7_9 := hide (K7_8.out.trans (hb.mono K7_8.out.size))
        have K8_9 := hide (K8_8.out.trans (hb.mono K8_8.out.size))
        have K9_9 := hide (Below.refl w9.heap.size w9)
        clear hb
        have hc2 := hide (own_rd (l := RC2) ho (fun _ => rfl))
        clear ho
        clear H1 H2 H3
        by_cases z1 : ca = 0
        · subst z1
          by_cases z2 : cb = 0
          · subst z2
            by_cases z3 : cc = 0
            · subst z3
              obtain rfl := ht rfl rfl rfl
              clear ht
              go_wp2_with (fail)
              refine (rSameSelf ((hb2.out.below K8_9.out).mono K8_9.out.size) hc2.out (by omega)).mono ?_
              rintro e w10 ⟨rfl, hb⟩
              have K0_10 := hide (K0_9.out.trans (hb.mono K0_9.out.size))
              have K4_10 := hide (K4_9.out.trans (hb.mono K4_9.out.size))
              have K5_10 := hide (K5_9.out.trans (hb.mono K5_9.out.size))
              have K6_10 := hide (K6_9.out.trans (hb.mono K6_9.out.size))
              have K7_10 := hide (K7_9.out.trans (hb.mono K7_9.out.size))
              have K8_10 := hide (K8_9.out.trans (hb.mono K8_9.out.size))
              have K9_10 := hide (K9_9.out.trans (hb.mono K9_9.out.size))
              clear hb
              go_wp2_with (fail)
              go_ret
              exact ⟨rfl, K0_10.out⟩
            · have y1 : (cc != 0) = true := by simpa using z3
              have y2 : (cc == 0) = false := by simpa using z3
              clear z3 ht
              go_wp2_with (fail)
              go_ret
              exact ⟨rfl, K0_9.out⟩
          · have y1 : (cb != 0) = true := by simpa using z2
            have y2 : (cb == 0) = false := by simpa using z2
            clear z2 ht
            go_wp2_with (fail)
            go_ret
            exact ⟨rfl, K0_9.out⟩
        · have y1 : (ca != 0) = true := by simpa using z1
          have y2 : (ca == 0) = false := by simpa using z1
          clear z1 ht
          go_wp2_with (fail)
          go_ret
          exact ⟨rfl, K0_9.out⟩
    · have y1 : (cb != 0) = true := by simpa using z2
      have y2 : (cb == 0) = false := by simpa using z2
      clear z2 ht
      clear m1 m2 m3
      have m1 := shrF_len l d
      have m2 := shrF_len (shrF l d).1 e9
      have m3 := shrF_len l (d + e9)
      have ht : (shrF l d).2 = 0 → (shrF (shrF l d).1 e9).2 = 0 → (shrF l (d + e9)).2 = 0 → (shrF (shrF l d).1 e9).1 = (shrF l (d + e9)).1 := fun h1 h2 h3 => shrink_twice (Prod.ext rfl h1) (Prod.ext rfl h2) (Prod.ext rfl h3)
      have H1 := hide (fun (W : World) (v : Value) (h : RdK encR 4 W W.heap.size v l) => oShrink_any h (by omega) d)
      have H2 := hide (fun (W : World) (v : Value) (h : RdK encR 4 W W.heap.size v (shrF l d).1) => oShrink_any h (by omega) e9)
      have H3 := hide (fun (W : World) (v : Value) (h : RdK encR 4 W W.heap.size v l) => oShrink_any h (by omega) (d + e9))
      generalize shrF (shrF l d).1 e9 = PB at *
      generalize shrF l (d + e9) = PC at *
      generalize shrF l d = PA at *
      obtain ⟨RA2, ca⟩ := PA
      obtain ⟨RB2, cb⟩ := PB
      obtain ⟨RC2, cc⟩ := PC
      simp only at m1 m2 m3 ht H1 H2 H3
      go_wp2_with (fail)
      refine (H1.out _ _ ((hAl.out.below K0_6.out).mono K0_6.out.size)).mono ?_
      rintro e w7 ⟨⟨A7, c7, rfl, ho⟩, hb⟩
      have K0_7 := hide (K0_6.out.trans (hb.mono K0_6.out.size))
      have K4_7 := hide (K4_6.out.trans (hb.mono K4_6.out.size))
      have K5_7 := hide (K5_6.out.trans (hb.mono K5_6.out.size))
      have K6_7 := hide (K6_6.out.trans (hb.mono K6_6.out.size))
      have K7_7 := hide (Below.refl w7.heap.size w7)
      clear hb
      have ha2 := hide (own_rd (l := RA2) ho (fun _ => rfl))
      clear ho
      go_wp2_with (fail)
      refine (H2.out _ _ ha2.out).mono ?_
      rintro e w8 ⟨⟨A8, c8, rfl, ho⟩, hb⟩
      have K0_8 := hide (K0_7.out.trans (hb.mono K0_7.out.size))
      have K4_8 := hide (K4_7.out.trans (hb.mono K4_7.out.size))
      have K5_8 := hide (K5_7.out.trans (hb.mono K5_7.out.size))
      have K6_8 := hide (K6_7.out.trans (hb.mono K6_7.out.size))
      have K7_8 := hide (K7_7.out.trans (hb.mono K7_7.out.size))
      have K8_8 := hide (Below.refl w8.heap.size w8)
      clear hb
      have hb2 := hide (own_rd (l := RB2) ho (fun _ => rfl))
      clear ho
      go_wp2_with (fail)
      refine (H3.out _ _ ((hAl.out.below K0_8.out).mono K0_8.out.size)).mono ?_
      rintro e w9 ⟨⟨A9, c9, rfl, ho⟩, hb⟩
      have K0_9 := hide (K0_8.out.trans (hb.mono K0_8.out.size))
      have K4_9 := hide (K4_8.out.trans (hb.mono K4_8.out.size))
      have K5_9 := hide (K5_8.out.trans (hb.mono K5_8.out.size))
      have K6_9 := hide (K6_8.out.trans (hb.mono K6_8.out.size))
      have K7_9 := hide (K7_8.out.trans (hb.mono K7_8.out.size))
      have K8_9 := hide (K8_8.out.trans (hb.mono K8_8.out.size))
      have K9_9 := hide (Below.refl w9.heap.size w9)
      clear hb
      have hc2 := hide (own_rd (l := RC2) ho (fun _ => rfl))
      clear ho
      clear H1 H2 H3
      by_cases z1 : ca = 0
      · subst z1
        by_cases z2 : cb = 0
        · subst z2
          by_cases z3 : cc = 0
          · subst z3
            obtain rfl := ht rfl rfl rfl
            clear ht
            go_wp2_with (fail)
            refine (rSameSelf ((hb2.out.below K8_9.out).mono K8_9.out.size) hc2.out (by omega)).mono ?_
            rintro e w10 ⟨rfl, hb⟩
            have K0_10 := hide (K0_9.out.trans (hb.mono K0_9.out.size))
            have K4_10 := hide (K4_9.out.trans (hb.mono K4_9.out.size))
            have K5_10 := hide (K5_9.out.trans (hb.mono K5_9.out.size))
            have K6_10 := hide (K6_9.out.trans (hb.mono K6_9.out.size))
            have K7_10 := hide (K7_9.out.trans (hb.mono K7_9.out.size))
            have K8_10 := hide (K8_9.out.trans (hb.mono K8_9.out.size))
            have K9_10 := hide (K9_9.out.trans (hb.mono K9_9.out.size))
            clear hb
            go_wp2_with (fail)
            go_ret
            exact ⟨rfl, K0_10.out⟩
          · have y1 : (cc != 0) = true := by simpa using z3
            have y2 : (cc == 0) = false := by simpa using z3
            clear z3 ht
            go_wp2_with (fail)
            go_ret
            exact ⟨rfl, K0_9.out⟩
        · have y1 : (cb != 0) = true := by simpa using z2
          have y2 : (cb == 0) = false := by simpa using z2
          clear z2 ht
          go_wp2_with (fail)
          go_ret
          exact ⟨rfl, K0_9.out⟩
      · have y1 : (ca != 0) = true := by simpa using z1
        have y2 : (ca == 0) = false := by simpa using z1
        clear z1 ht
        go_wp2_with (fail)
        go_ret
        exact ⟨rfl, K0_9.out⟩
  · have y1 : (ca != 0) = true := by simpa using z1
    have y2 : (ca == 0) = false := by simpa using z1
    clear z1 ht
    clear m1 m2 m3
    have m1 := shrF_len l d
    have m2 := shrF_len (shrF l d).1 e9
    have m3 := shrF_len l (d + e9)
    have ht : (shrF l d).2 = 0 → (shrF (shrF l d).1 e9).2 = 0 → (shrF l (d + e9)).2 = 0 → (shrF (shrF l d).1 e9).1 = (shrF l (d + e9)).1 := fun h1 h2 h3 => shrink_twice (Prod.ext rfl h1) (Prod.ext rfl h2) (Prod.ext rfl h3)
    have H1 := hide (fun (W : World) (v : Value) (h : RdK encR 4 W W.heap.size v l) => oShrink_any h (by omega) d)
    have H2 := hide (fun (W : World) (v : Value) (h : RdK encR 4 W W.heap.size v (shrF l d).1) => oShrink_any h (by omega) e9)
    have H3 := hide (fun (W : World) (v : Value) (h : RdK encR 4 W W.heap.size v l) => oShrink_any h (by omega) (d + e9))
    generalize shrF (shrF l d).1 e9 = PB at *
    generalize shrF l (d + e9) = PC at *
    generalize shrF l d = PA at *
    obtain ⟨RA2, ca⟩ := PA
    obtain ⟨RB2, cb⟩ := PB
    obtain ⟨RC2, cc⟩ := PC
    simp only at m1 m2 m3 ht H1 H2 H3
    go_wp2_with (fail)
    refine (H1.out _ _ ((hAl.out.below K0_6.out).mono K0_6.out.size)).mono ?_
    rintro e w7 ⟨⟨A7, c7, rfl, ho⟩, hb⟩
    have K0_7 := hide (K0_6.out.trans (hb.mono K0_6.out.size))
    have K4_7 := hide (K4_6.out.trans (hb.mono K4_6.out.size))
    have K5_7 := hide (K5_6.out.trans (hb.mono K5_6.out.size))
    have K6_7 := hide (K6_6.out.trans (hb.mono K6_6.out.size))
    have K7_7 := hide (Below.refl w7.heap.size w7)
    clear hb
    have ha2 := hide (own_rd (l := RA2) ho (fun _ => rfl))
    clear ho
    go_wp2_with (fail)
    refine (H2.out _ _ ha2.out).mono ?_
    rintro e w8 ⟨⟨A8, c8, rfl, ho⟩, hb⟩
    have K0_8 := hide (K0_7.out.trans (hb.mono K0_7.out.size))
    have K4_8 := hide (K4_7.out.trans (hb.mono K4_7.out.size))
    have K5_8 := hide (K5_7.out.trans (hb.mono K5_7.out.size))
    have K6_8 := hide (K6_7.out.trans (hb.mono K6_7.out.size))
    have K7_8 := hide (K7_7.out.trans (hb.mono K7_7.out.size))
    have K8_8 := hide (Below.refl w8.heap.size w8)
    clear hb
    have hb2 := hide (own_rd (l := RB2) ho (fun _ => rfl))
    clear ho
    go_wp2_with (fail)
    refine (H3.out _ _ ((hAl.out.below K0_8.out).mono K0_8.out.size)).mono ?_
    rintro e w9 ⟨⟨A9, c9, rfl, ho⟩, hb⟩
    have K0_9 := hide (K0_8.out.trans (hb.mono K0_8.out.size))
    have K4_9 := hide (K4_8.out.trans (hb.mono K4_8.out.size))
    have K5_9 := hide (K5_8.out.trans (hb.mono K5_8.out.size))
    have K6_9 := hide (K6_8.out.trans (hb.mono K6_8.out.size))
    have K7_9 := hide (K7_8.out.trans (hb.mono K7_8.out.size))
    have K8_9 := hide (K8_8.out.trans (hb.mono K8_8.out.size))
    have K9_9 := hide (Below.refl w9.heap.size w9)
    clear hb
    have hc2 := hide (own_rd (l := RC2) ho (fun _ => rfl))
    clear ho
    clear H1 H2 H3
    by_cases z1 : ca = 0
    · subst z1
      by_cases z2 : cb = 0
      · subst z2
        by_cases z3 : cc = 0
        · subst z3
          obtain rfl := ht rfl rfl rfl
          clear ht
          go_wp2_with (fail)
          refine (rSameSelf ((hb2.out.below K8_9.out).mono K8_9.out.size) hc2.out (by omega)).mono ?_
          rintro e w10 ⟨rfl, hb⟩
          have K0_10 := hide (K0_9.out.trans (hb.mono K0_9.out.size))
          have K4_10 := hide (K4_9.out.trans (hb.mono K4_9.out.size))
          have K5_10 := hide (K5_9.out.trans (hb.mono K5_9.out.size))
          have K6_10 := hide (K6_9.out.trans (hb.mono K6_9.out.size))
          have K7_10 := hide (K7_9.out.trans (hb.mono K7_9.out.size))
          have K8_10 := hide (K8_9.out.trans (hb.mono K8_9.out.size))
          have K9_10 := hide (K9_9.out.trans (hb.mono K9_9.out.size))
          clear hb
          go_wp2_with (fail)
          go_ret
          exact ⟨rfl, K0_10.out⟩
        · have y1 : (cc != 0) = true := by simpa using z3
          have y2 : (cc == 0) = false := by simpa using z3
          clear z3 ht
          go_wp2_with (fail)
          go_ret
          exact ⟨rfl, K0_9.out⟩
      · have y1 : (cb != 0) = true := by simpa using z2
        have y2 : (cb == 0) = false := by simpa using z2
        clear z2 ht
        go_wp2_with (fail)
        go_ret
        exact ⟨rfl, K0_9.out⟩
    · have y1 : (ca != 0) = true := by simpa using z1
      have y2 : (ca == 0) = false := by simpa using z1
      clear z1 ht
      go_wp2_with (fail)
      go_ret
      exact ⟨rfl, K0_9.out⟩
end Go.Proofs.YtpgjfpeepbjflaaGreat
