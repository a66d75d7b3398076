/- OffsetDepths' walk: depths. -/
import Derived.Test.YtpgjfpeepbjflaaGreatPk12
namespace Go.Proofs.YtpgjfpeepbjflaaGreat
open Go.RowKit
set_option linter.unusedVariables false
set_option linter.unusedSimpArgs false

set_option maxRecDepth 100000 in
set_option maxHeartbeats 8000000 in
theorem odepths_walk {w : World} {vl : Value} {l : List R4} (hrl : RdK encR 4 w w.heap.size vl l) (lal : l.length ≤ maxLen) (x y u v d : Int) :
    Calls Tryz.prog 5 #[vl, .int .i64 x, .int .i64 y, .int .i64 u, .int .i64 v, .int .i64 d] w fun e w' => e = .returned (.bool true) ∧ Below w.heap.size w w' := by
  have hAl := hide hrl
  obtain ⟨Al, cl, hvl, _⟩ := hrl
  subst hvl
  have HF := hide (fun (W : World) (h : RdK encR 4 W W.heap.size (.slice Al l.length cl) l) => fitO_any h lal d)
  go_enter Tryz.func5, Tryz.ntmps5
  have K0_0 := hide (Below.refl w.heap.size w)
  go_wp2_with (fail)
  refine (alive14_any _).mono ?_
  rintro e w1 ⟨rfl, hb⟩
  have K0_1 := hide (K0_0.out.trans (hb.mono K0_0.out.size))
  clear hb
  go_wp2_with (fail)
  refine (HF.out _ ((hAl.out.below K0_1.out).mono K0_1.out.size)).mono ?_
  rintro e w2 (⟨rfl, hb⟩ | ⟨rfl, hF2, hb⟩)
  · have K0_2 := hide (K0_1.out.trans (hb.mono K0_1.out.size))
    clear hb
    go_wp2_with (fail)
    go_ret
    exact ⟨rfl, K0_2.out⟩
  have K0_2 := hide (K0_1.out.trans (hb.mono K0_1.out.size))
  clear hb
  have hF := hide hF2
  have nl := hF2.1
  clear lal HF hF2
  by_cases t0 : -2000 ≤ x
  rotate_left 1
  · go_wp2_with (fail)
    go_ret
    exact ⟨rfl, K0_2.out⟩
  by_cases t1 : x ≤ 2000
  rotate_left 1
  · go_wp2_with (fail)
    go_ret
    exact ⟨rfl, K0_2.out⟩
  by_cases t2 : -2000 ≤ y
  rotate_left 1
  · go_wp2_with (fail)
    go_ret
    exact ⟨rfl, K0_2.out⟩
  by_cases t3 : y ≤ 2000
  rotate_left 1
  · go_wp2_with (fail)
    go_ret
    exact ⟨rfl, K0_2.out⟩
  by_cases t4 : -1 ≤ u
  rotate_left 1
  · go_wp2_with (fail)
    go_ret
    exact ⟨rfl, K0_2.out⟩
  by_cases t5 : u ≤ 1
  rotate_left 1
  · go_wp2_with (fail)
    go_ret
    exact ⟨rfl, K0_2.out⟩
  by_cases t6 : -1 ≤ v
  rotate_left 1
  · go_wp2_with (fail)
    go_ret
    exact ⟨rfl, K0_2.out⟩
  by_cases t7 : v ≤ 1
  rotate_left 1
  · go_wp2_with (fail)
    go_ret
    exact ⟨rfl, K0_2.out⟩
  obtain ⟨w1, z1⟩ := dep_low hF.out.2.1 x y
  obtain ⟨w2, z2⟩ := dep_low hF.out.2.1 (x + u) (y + v)
  have w3 := dep_next hF.out.2.1 (x := x) (y := y) (u := u) (v := v) ⟨t4, t5⟩ ⟨t6, t7⟩
  have w4 := dep_next hF.out.2.1 (x := x + u) (y := y + v) (u := -u) (v := -v) ⟨by omega, by omega⟩ ⟨by omega, by omega⟩
  rw [show x + u + -u = x by omega, show y + v + -v = y by omega] at w4
  have hp : decide (pmem l x y) = decide (0 ≤ (depF l x y).1) := decide_eq_decide.2 (by rw [dep_full hF.out.2.1 (by omega), full_zero])
  have hq := dep_full hF.out.2.1 hF.out.2.2.1 x y
  have HD := hide (fun (W : World) (v : Value) (h : RdK encR 4 W W.heap.size v l) => by have := oDepth_any h (by omega) x y; rwa [z1] at this)
  have HE := hide (fun (W : World) (a : Value) (h : RdK encR 4 W W.heap.size a l) => by have := oDepth_any h (by omega) (x + u) (y + v); rwa [z2] at this)
  have HH := hide (fun (W : World) (v : Value) (h : RdK encR 4 W W.heap.size v l) => by have := has_any h (by omega) x y; rwa [hp] at this)
  have hs := hF.out.shrink
  obtain ⟨g0, g1, _⟩ := hF.out.2.2
  clear hp z1 z2 hF
  rcases hs with e2 | ⟨S, e2, kS, nS, pS⟩
  · have HS := hide (fun (W : World) (v : Value) (h : RdK encR 4 W W.heap.size v l) => by have := oShrink_any h (by omega) d; rwa [e2] at this)
    clear e2 hq
    generalize (depF l x y).1 = n at *
    generalize (depF l (x + u) (y + v)).1 = m at *
    by_cases k1 : 0 ≤ n
    · rw [decide_eq_true k1] at HH
      skip
      go_wp2_with (fail)
      refine (HD.out _ _ ((hAl.out.below K0_2.out).mono K0_2.out.size)).mono ?_
      rintro e w3 ⟨rfl, hb⟩
      have K0_3 := hide (K0_2.out.trans (hb.mono K0_2.out.size))
      clear hb
      go_wp2_with (fail)
      refine (HE.out _ _ ((hAl.out.below K0_3.out).mono K0_3.out.size)).mono ?_
      rintro e w4 ⟨rfl, hb⟩
      have K0_4 := hide (K0_3.out.trans (hb.mono K0_3.out.size))
      clear hb
      go_wp2_with (fail)
      refine (HS.out _ _ ((hAl.out.below K0_4.out).mono K0_4.out.size)).mono ?_
      rintro e w5 ⟨⟨A5, c5, rfl, ho⟩, hb⟩
      have K0_5 := hide (K0_4.out.trans (hb.mono K0_4.out.size))
      have K5_5 := hide (Below.refl w5.heap.size w5)
      clear hb
      have hs := hide (own_rd (l := ([] : List R4)) ho (fun _ => rfl))
      clear ho
      go_wp2_with (fail)
      refine (HH.out _ _ ((hAl.out.below K0_5.out).mono K0_5.out.size)).mono ?_
      rintro e w6 ⟨rfl, hb⟩
      have K0_6 := hide (K0_5.out.trans (hb.mono K0_5.out.size))
      have K5_6 := hide (K5_5.out.trans (hb.mono K5_5.out.size))
      clear hb
      go_wp2_with (fail)
      go_ret
      exact ⟨rfl, K0_6.out⟩
    · rw [decide_eq_false k1] at HH
      skip
      go_wp2_with (fail)
      refine (HD.out _ _ ((hAl.out.below K0_2.out).mono K0_2.out.size)).mono ?_
      rintro e w3 ⟨rfl, hb⟩
      have K0_3 := hide (K0_2.out.trans (hb.mono K0_2.out.size))
      clear hb
      go_wp2_with (fail)
      refine (HE.out _ _ ((hAl.out.below K0_3.out).mono K0_3.out.size)).mono ?_
      rintro e w4 ⟨rfl, hb⟩
      have K0_4 := hide (K0_3.out.trans (hb.mono K0_3.out.size))
      clear hb
      go_wp2_with (fail)
      refine (HS.out _ _ ((hAl.out.below K0_4.out).mono K0_4.out.size)).mono ?_
      rintro e w5 ⟨⟨A5, c5, rfl, ho⟩, hb⟩
      have K0_5 := hide (K0_4.out.trans (hb.mono K0_4.out.size))
      have K5_5 := hide (Below.refl w5.heap.size w5)
      clear hb
      have hs := hide (own_rd (l := ([] : List R4)) ho (fun _ => rfl))
      clear ho
      go_wp2_with (fail)
      refine (HH.out _ _ ((hAl.out.below K0_5.out).mono K0_5.out.size)).mono ?_
      rintro e w6 ⟨rfl, hb⟩
      have K0_6 := hide (K0_5.out.trans (hb.mono K0_5.out.size))
      have K5_6 := hide (K5_5.out.trans (hb.mono K5_5.out.size))
      clear hb
      go_wp2_with (fail)
      go_ret
      exact ⟨rfl, K0_6.out⟩
  have hq2 : decide (pmem S x y) = decide (d ≤ (depF l x y).1) := decide_eq_decide.2 (by rw [pS, hq])
  clear pS kS
  have HS2 := hide (fun (W : World) (v : Value) (h : RdK encR 4 W W.heap.size v S) => by have := has_any h (by omega) x y; rwa [hq2] at this)
  have HS := hide (fun (W : World) (v : Value) (h : RdK encR 4 W W.heap.size v l) => by have := oShrink_any h (by omega) d; rwa [e2] at this)
  clear e2 hq hq2
  generalize (depF l x y).1 = n at *
  generalize (depF l (x + u) (y + v)).1 = m at *
  by_cases k1 : 0 ≤ n
  · rw [decide_eq_true k1] at HH
    by_cases k2 : d ≤ n
    · rw [decide_eq_true k2] at HS2
      go_wp2_with (fail)
      refine (HD.out _ _ ((hAl.out.below K0_2.out).mono K0_2.out.size)).mono ?_
      rintro e w3 ⟨rfl, hb⟩
      have K0_3 := hide (K0_2.out.trans (hb.mono K0_2.out.size))
      clear hb
      go_wp2_with (fail)
      refine (HE.out _ _ ((hAl.out.below K0_3.out).mono K0_3.out.size)).mono ?_
      rintro e w4 ⟨rfl, hb⟩
      have K0_4 := hide (K0_3.out.trans (hb.mono K0_3.out.size))
      clear hb
      go_wp2_with (fail)
      refine (HS.out _ _ ((hAl.out.below K0_4.out).mono K0_4.out.size)).mono ?_
      rintro e w5 ⟨⟨A5, c5, rfl, ho⟩, hb⟩
      have K0_5 := hide (K0_4.out.trans (hb.mono K0_4.out.size))
      have K5_5 := hide (Below.refl w5.heap.size w5)
      clear hb
      have hs := hide (own_rd (l := S) ho (fun _ => rfl))
      clear ho
      go_wp2_with (fail)
      refine (HH.out _ _ ((hAl.out.below K0_5.out).mono K0_5.out.size)).mono ?_
      rintro e w6 ⟨rfl, hb⟩
      have K0_6 := hide (K0_5.out.trans (hb.mono K0_5.out.size))
      have K5_6 := hide (K5_5.out.trans (hb.mono K5_5.out.size))
      clear hb
      go_wp2_with (fail)
      refine (HS2.out _ _ ((hs.out.below K5_6.out).mono K5_6.out.size)).mono ?_
      rintro e w7 ⟨rfl, hb⟩
      have K0_7 := hide (K0_6.out.trans (hb.mono K0_6.out.size))
      have K5_7 := hide (K5_6.out.trans (hb.mono K5_6.out.size))
      clear hb
      go_wp2_with (fail)
      go_ret
      refine ⟨?_, K0_7.out⟩
      first | rfl | (show Ending.returned (Value.bool _) = _; simp [k2])
    · rw [decide_eq_false k2] at HS2
      go_wp2_with (fail)
      refine (HD.out _ _ ((hAl.out.below K0_2.out).mono K0_2.out.size)).mono ?_
      rintro e w3 ⟨rfl, hb⟩
      have K0_3 := hide (K0_2.out.trans (hb.mono K0_2.out.size))
      clear hb
      go_wp2_with (fail)
      refine (HE.out _ _ ((hAl.out.below K0_3.out).mono K0_3.out.size)).mono ?_
      rintro e w4 ⟨rfl, hb⟩
      have K0_4 := hide (K0_3.out.trans (hb.mono K0_3.out.size))
      clear hb
      go_wp2_with (fail)
      refine (HS.out _ _ ((hAl.out.below K0_4.out).mono K0_4.out.size)).mono ?_
      rintro e w5 ⟨⟨A5, c5, rfl, ho⟩, hb⟩
      have K0_5 := hide (K0_4.out.trans (hb.mono K0_4.out.size))
      have K5_5 := hide (Below.refl w5.heap.size w5)
      clear hb
      have hs := hide (own_rd (l := S) ho (fun _ => rfl))
      clear ho
      go_wp2_with (fail)
      refine (HH.out _ _ ((hAl.out.below K0_5.out).mono K0_5.out.size)).mono ?_
      rintro e w6 ⟨rfl, hb⟩
      have K0_6 := hide (K0_5.out.trans (hb.mono K0_5.out.size))
      have K5_6 := hide (K5_5.out.trans (hb.mono K5_5.out.size))
      clear hb
      go_wp2_with (fail)
      refine (HS2.out _ _ ((hs.out.below K5_6.out).mono K5_6.out.size)).mono ?_
      rintro e w7 ⟨rfl, hb⟩
      have K0_7 := hide (K0_6.out.trans (hb.mono K0_6.out.size))
      have K5_7 := hide (K5_6.out.trans (hb.mono K5_6.out.size))
      clear hb
      go_wp2_with (fail)
      go_ret
      refine ⟨?_, K0_7.out⟩
      first | rfl | (show Ending.returned (Value.bool _) = _; simp [k2])
  · rw [decide_eq_false k1] at HH
    by_cases k2 : d ≤ n
    · exact absurd k2 (by omega)
    · rw [decide_eq_false k2] at HS2
      go_wp2_with (fail)
      refine (HD.out _ _ ((hAl.out.below K0_2.out).mono K0_2.out.size)).mono ?_
      rintro e w3 ⟨rfl, hb⟩
      have K0_3 := hide (K0_2.out.trans (hb.mono K0_2.out.size))
      clear hb
      go_wp2_with (fail)
      refine (HE.out _ _ ((hAl.out.below K0_3.out).mono K0_3.out.size)).mono ?_
      rintro e w4 ⟨rfl, hb⟩
      have K0_4 := hide (K0_3.out.trans (hb.mono K0_3.out.size))
      clear hb
      go_wp2_with (fail)
      refine (HS.out _ _ ((hAl.out.below K0_4.out).mono K0_4.out.size)).mono ?_
      rintro e w5 ⟨⟨A5, c5, rfl, ho⟩, hb⟩
      have K0_5 := hide (K0_4.out.trans (hb.mono K0_4.out.size))
      have K5_5 := hide (Below.refl w5.heap.size w5)
      clear hb
      have hs := hide (own_rd (l := S) ho (fun _ => rfl))
      clear ho
      go_wp2_with (fail)
      refine (HH.out _ _ ((hAl.out.below K0_5.out).mono K0_5.out.size)).mono ?_
      rintro e w6 ⟨rfl, hb⟩
      have K0_6 := hide (K0_5.out.trans (hb.mono K0_5.out.size))
      have K5_6 := hide (K5_5.out.trans (hb.mono K5_5.out.size))
      clear hb
      go_wp2_with (fail)
      refine (HS2.out _ _ ((hs.out.below K5_6.out).mono K5_6.out.size)).mono ?_
      rintro e w7 ⟨rfl, hb⟩
      have K0_7 := hide (K0_6.out.trans (hb.mono K0_6.out.size))
      have K5_7 := hide (K5_6.out.trans (hb.mono K5_6.out.size))
      clear hb
      go_wp2_with (fail)
      go_ret
      refine ⟨?_, K0_7.out⟩
      first | rfl | (show Ending.returned (Value.bool _) = _; simp [k2])
end Go.Proofs.YtpgjfpeepbjflaaGreat
