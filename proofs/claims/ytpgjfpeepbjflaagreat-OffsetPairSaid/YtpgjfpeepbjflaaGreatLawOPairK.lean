/- OffsetPair's walk: grown regions and shrunk ones belong together. -/
import Derived.Test.YtpgjfpeepbjflaaGreatPk11
import Derived.Test.YtpgjfpeepbjflaaGreatPk12
namespace Go.Proofs.YtpgjfpeepbjflaaGreat
open Go.RowKit
set_option linter.unusedVariables false
set_option linter.unusedSimpArgs false

theorem pair_ok {p q G S : List R4} {d : Int} (h1 : growF p d = (G, 0)) (h2 : shrF q d = (S, 0)) :
    decide ((joinF hSub G q).2 = 0) = false ∨ decide ((joinF hSub p S).2 = 0) = false ∨ decide ((joinF hSub G q).1.length = 0) = decide ((joinF hSub p S).1.length = 0) := by
  obtain ⟨kp, d0, _, kG, _, pG⟩ := growF_ok h1
  obtain ⟨kq, _, _, kS, _, pS⟩ := shrF_ok h2
  generalize e1 : joinF hSub G q = P1
  generalize e2 : joinF hSub p S = P2
  obtain ⟨R1, c1⟩ := P1
  obtain ⟨R2, c2⟩ := P2
  by_cases h1 : c1 = 0
  · by_cases h2 : c2 = 0
    · subst h1; subst h2
      have a1 := rest_nil kG kq e1
      have a2 := rest_nil kp kS e2
      refine .inr (.inr (decide_eq_decide.2 ?_))
      simp only [List.length_eq_zero_iff, a1, a2]
      constructor
      · intro h x y hx
        exact (pS x y).2 (near_full.1 (fun u v hn => h u v ((pG u v).2 hn)) x y hx)
      · intro h x y hx
        exact near_full.2 (fun u v hn => (pS u v).1 (h u v hn)) x y ((pG x y).1 hx)
    · exact .inr (.inl (decide_eq_false h2))
  · exact .inl (decide_eq_false h1)
set_option maxRecDepth 100000 in
set_option maxHeartbeats 8000000 in
theorem opair_walk {w : World} {vp : Value} {p : List R4} {vq : Value} {q : List R4} (hrp : RdK encR 4 w w.heap.size vp p) (hrq : RdK encR 4 w w.heap.size vq q) (lap : p.length ≤ maxLen) (laq : q.length ≤ maxLen) (d : Int) :
    Calls Tryz.prog 7 #[vp, vq, .int .i64 d] w fun e w' => e = .returned (.bool true) ∧ Below w.heap.size w w' := by
  have hAp := hide hrp
  obtain ⟨Ap, cp, hvp, _⟩ := hrp
  subst hvp
  have hAq := hide hrq
  obtain ⟨Aq, cq, hvq, _⟩ := hrq
  subst hvq
  have HFp := hide (fun (W : World) (h : RdK encR 4 W W.heap.size (.slice Ap p.length cp) p) => fitO_any h lap d)
  have HFq := hide (fun (W : World) (h : RdK encR 4 W W.heap.size (.slice Aq q.length cq) q) => fitO_any h laq d)
  go_enter Tryz.func7, Tryz.ntmps7
  have K0_0 := hide (Below.refl w.heap.size w)
  go_wp2_with (fail)
  refine (alive14_any _).mono ?_
  rintro e w1 ⟨rfl, hb⟩
  have K0_1 := hide (K0_0.out.trans (hb.mono K0_0.out.size))
  clear hb
  go_wp2_with (fail)
  refine (HFp.out _ ((hAp.out.below K0_1.out).mono K0_1.out.size)).mono ?_
  rintro e w2 (⟨rfl, hb⟩ | ⟨rfl, hF2, hb⟩)
  · have K0_2 := hide (K0_1.out.trans (hb.mono K0_1.out.size))
    clear hb
    go_wp2_with (fail)
    go_ret
    exact ⟨rfl, K0_2.out⟩
  have K0_2 := hide (K0_1.out.trans (hb.mono K0_1.out.size))
  clear hb
  go_wp2_with (fail)
  refine (HFq.out _ ((hAq.out.below K0_2.out).mono K0_2.out.size)).mono ?_
  rintro e w3 (⟨rfl, hb⟩ | ⟨rfl, hF3, hb⟩)
  · have K0_3 := hide (K0_2.out.trans (hb.mono K0_2.out.size))
    clear hb
    go_wp2_with (fail)
    go_ret
    exact ⟨rfl, K0_3.out⟩
  have K0_3 := hide (K0_2.out.trans (hb.mono K0_2.out.size))
  clear hb
  have np := hF2.1
  have nq := hF3.1
  have kp := hF2.2.1
  have kq := hF3.2.1
  have hg := hF2.grow
  have hs := hF3.shrink
  clear lap laq HFp HFq hF2 hF3
  rcases hg with e1 | ⟨R, e1, kG, nG, pG⟩
  · rcases hs with e2 | ⟨S, e2, kS, nS, pS⟩
    · have HG := hide (fun (W : World) (v : Value) (h : RdK encR 4 W W.heap.size v p) => by have := oGrow_any h (by omega) d; rwa [e1] at this)
      have HS := hide (fun (W : World) (v : Value) (h : RdK encR 4 W W.heap.size v q) => by have := oShrink_any h (by omega) d; rwa [e2] at this)
      skip
      clear e1 e2 kp kq
      go_wp2_with (fail)
      refine (HG.out _ _ ((hAp.out.below K0_3.out).mono K0_3.out.size)).mono ?_
      rintro e w4 ⟨⟨A4, c4, rfl, ho⟩, hb⟩
      have K0_4 := hide (K0_3.out.trans (hb.mono K0_3.out.size))
      have K4_4 := hide (Below.refl w4.heap.size w4)
      clear hb
      have h1 := hide (own_rd (l := ([] : List R4)) ho (fun _ => rfl))
      clear ho
      go_wp2_with (fail)
      refine (HS.out _ _ ((hAq.out.below K0_4.out).mono K0_4.out.size)).mono ?_
      rintro e w5 ⟨⟨A5, c5, rfl, ho⟩, hb⟩
      have K0_5 := hide (K0_4.out.trans (hb.mono K0_4.out.size))
      have K4_5 := hide (K4_4.out.trans (hb.mono K4_4.out.size))
      have K5_5 := hide (Below.refl w5.heap.size w5)
      clear hb
      have h2 := hide (own_rd (l := ([] : List R4)) ho (fun _ => rfl))
      clear ho
      go_wp2_with (fail)
      go_ret
      exact ⟨rfl, K0_5.out⟩
    · clear pS kS
      have HG := hide (fun (W : World) (v : Value) (h : RdK encR 4 W W.heap.size v p) => by have := oGrow_any h (by omega) d; rwa [e1] at this)
      have HS := hide (fun (W : World) (v : Value) (h : RdK encR 4 W W.heap.size v q) => by have := oShrink_any h (by omega) d; rwa [e2] at this)
      skip
      clear e1 e2 kp kq
      go_wp2_with (fail)
      refine (HG.out _ _ ((hAp.out.below K0_3.out).mono K0_3.out.size)).mono ?_
      rintro e w4 ⟨⟨A4, c4, rfl, ho⟩, hb⟩
      have K0_4 := hide (K0_3.out.trans (hb.mono K0_3.out.size))
      have K4_4 := hide (Below.refl w4.heap.size w4)
      clear hb
      have h1 := hide (own_rd (l := ([] : List R4)) ho (fun _ => rfl))
      clear ho
      go_wp2_with (fail)
      refine (HS.out _ _ ((hAq.out.below K0_4.out).mono K0_4.out.size)).mono ?_
      rintro e w5 ⟨⟨A5, c5, rfl, ho⟩, hb⟩
      have K0_5 := hide (K0_4.out.trans (hb.mono K0_4.out.size))
      have K4_5 := hide (K4_4.out.trans (hb.mono K4_4.out.size))
      have K5_5 := hide (Below.refl w5.heap.size w5)
      clear hb
      have h2 := hide (own_rd (l := S) ho (fun _ => rfl))
      clear ho
      go_wp2_with (fail)
      go_ret
      exact ⟨rfl, K0_5.out⟩
  rcases hs with e2 | ⟨S, e2, kS, nS, pS⟩
  · clear pG kG
    have HG := hide (fun (W : World) (v : Value) (h : RdK encR 4 W W.heap.size v p) => by have := oGrow_any h (by omega) d; rwa [e1] at this)
    have HS := hide (fun (W : World) (v : Value) (h : RdK encR 4 W W.heap.size v q) => by have := oShrink_any h (by omega) d; rwa [e2] at this)
    skip
    clear e1 e2 kp kq
    go_wp2_with (fail)
    refine (HG.out _ _ ((hAp.out.below K0_3.out).mono K0_3.out.size)).mono ?_
    rintro e w4 ⟨⟨A4, c4, rfl, ho⟩, hb⟩
    have K0_4 := hide (K0_3.out.trans (hb.mono K0_3.out.size))
    have K4_4 := hide (Below.refl w4.heap.size w4)
    clear hb
    have h1 := hide (own_rd (l := R) ho (fun _ => rfl))
    clear ho
    go_wp2_with (fail)
    refine (HS.out _ _ ((hAq.out.below K0_4.out).mono K0_4.out.size)).mono ?_
    rintro e w5 ⟨⟨A5, c5, rfl, ho⟩, hb⟩
    have K0_5 := hide (K0_4.out.trans (hb.mono K0_4.out.size))
    have K4_5 := hide (K4_4.out.trans (hb.mono K4_4.out.size))
    have K5_5 := hide (Below.refl w5.heap.size w5)
    clear hb
    have h2 := hide (own_rd (l := ([] : List R4)) ho (fun _ => rfl))
    clear ho
    go_wp2_with (fail)
    go_ret
    exact ⟨rfl, K0_5.out⟩
  have hk := pair_ok e1 e2
  have HG := hide (fun (W : World) (v : Value) (h : RdK encR 4 W W.heap.size v p) => by have := oGrow_any h (by omega) d; rwa [e1] at this)
  have HS := hide (fun (W : World) (v : Value) (h : RdK encR 4 W W.heap.size v q) => by have := oShrink_any h (by omega) d; rwa [e2] at this)
  skip
  have HC1 := hide (fun (W : World) (v : Value) (h : RdK encR 4 W W.heap.size v R) => by have := rCheck_any h (by omega); rwa [kG] at this)
  have HC2 := hide (fun (W : World) (v : Value) (h : RdK encR 4 W W.heap.size v S) => by have := rCheck_any h (by omega); rwa [kS] at this)
  have HP1 := hide (fun (W : World) (v v2 : Value) (h : RdK encR 4 W W.heap.size v R) (h2 : RdK encR 4 W W.heap.size v2 q) => part14_any h h2 (by omega) (by omega))
  have HP2 := hide (fun (W : World) (v v2 : Value) (h : RdK encR 4 W W.heap.size v p) (h2 : RdK encR 4 W W.heap.size v2 S) => part14_any h h2 (by omega) (by omega))
  clear e1 e2 kp kq pG pS kG kS
  generalize decide ((joinF hSub R q).2 = 0) = i1 at *
  generalize decide ((joinF hSub p S).2 = 0) = i2 at *
  generalize decide ((joinF hSub R q).1.length = 0) = a1 at *
  generalize decide ((joinF hSub p S).1.length = 0) = a2 at *
  go_wp2_with (fail)
  refine (HG.out _ _ ((hAp.out.below K0_3.out).mono K0_3.out.size)).mono ?_
  rintro e w4 ⟨⟨A4, c4, rfl, ho⟩, hb⟩
  have K0_4 := hide (K0_3.out.trans (hb.mono K0_3.out.size))
  have K4_4 := hide (Below.refl w4.heap.size w4)
  clear hb
  have h1 := hide (own_rd (l := R) ho (fun _ => rfl))
  clear ho
  go_wp2_with (fail)
  refine (HS.out _ _ ((hAq.out.below K0_4.out).mono K0_4.out.size)).mono ?_
  rintro e w5 ⟨⟨A5, c5, rfl, ho⟩, hb⟩
  have K0_5 := hide (K0_4.out.trans (hb.mono K0_4.out.size))
  have K4_5 := hide (K4_4.out.trans (hb.mono K4_4.out.size))
  have K5_5 := hide (Below.refl w5.heap.size w5)
  clear hb
  have h2 := hide (own_rd (l := S) ho (fun _ => rfl))
  clear ho
  clear HG HS
  go_wp2_with (fail)
  refine (HP1.out _ _ _ ((h1.out.below K4_5.out).mono K4_5.out.size) ((hAq.out.below K0_5.out).mono K0_5.out.size)).mono ?_
  rintro e w6 ⟨rfl, hb⟩
  have K0_6 := hide (K0_5.out.trans (hb.mono K0_5.out.size))
  have K4_6 := hide (K4_5.out.trans (hb.mono K4_5.out.size))
  have K5_6 := hide (K5_5.out.trans (hb.mono K5_5.out.size))
  clear hb
  go_wp2_with (fail)
  refine (HP2.out _ _ _ ((hAp.out.below K0_6.out).mono K0_6.out.size) ((h2.out.below K5_6.out).mono K5_6.out.size)).mono ?_
  rintro e w7 ⟨rfl, hb⟩
  have K0_7 := hide (K0_6.out.trans (hb.mono K0_6.out.size))
  have K4_7 := hide (K4_6.out.trans (hb.mono K4_6.out.size))
  have K5_7 := hide (K5_6.out.trans (hb.mono K5_6.out.size))
  clear hb
  clear HP1 HP2
  rcases hk with rfl | rfl | rfl
  · go_wp2_with (fail)
    refine (HC1.out _ _ ((h1.out.below K4_7.out).mono K4_7.out.size)).mono ?_
    rintro e w8 ⟨rfl, hb⟩
    have K0_8 := hide (K0_7.out.trans (hb.mono K0_7.out.size))
    have K4_8 := hide (K4_7.out.trans (hb.mono K4_7.out.size))
    have K5_8 := hide (K5_7.out.trans (hb.mono K5_7.out.size))
    clear hb
    go_wp2_with (fail)
    refine (HC2.out _ _ ((h2.out.below K5_8.out).mono K5_8.out.size)).mono ?_
    rintro e w9 ⟨rfl, hb⟩
    have K0_9 := hide (K0_8.out.trans (hb.mono K0_8.out.size))
    have K4_9 := hide (K4_8.out.trans (hb.mono K4_8.out.size))
    have K5_9 := hide (K5_8.out.trans (hb.mono K5_8.out.size))
    clear hb
    go_wp2_with (fail)
    go_ret
    exact ⟨rfl, K0_9.out⟩
  · cases i1
    · go_wp2_with (fail)
      refine (HC1.out _ _ ((h1.out.below K4_7.out).mono K4_7.out.size)).mono ?_
      rintro e w8 ⟨rfl, hb⟩
      have K0_8 := hide (K0_7.out.trans (hb.mono K0_7.out.size))
      have K4_8 := hide (K4_7.out.trans (hb.mono K4_7.out.size))
      have K5_8 := hide (K5_7.out.trans (hb.mono K5_7.out.size))
      clear hb
      go_wp2_with (fail)
      refine (HC2.out _ _ ((h2.out.below K5_8.out).mono K5_8.out.size)).mono ?_
      rintro e w9 ⟨rfl, hb⟩
      have K0_9 := hide (K0_8.out.trans (hb.mono K0_8.out.size))
      have K4_9 := hide (K4_8.out.trans (hb.mono K4_8.out.size))
      have K5_9 := hide (K5_8.out.trans (hb.mono K5_8.out.size))
      clear hb
      go_wp2_with (fail)
      go_ret
      exact ⟨rfl, K0_9.out⟩
    · go_wp2_with (fail)
      refine (HC1.out _ _ ((h1.out.below K4_7.out).mono K4_7.out.size)).mono ?_
      rintro e w8 ⟨rfl, hb⟩
      have K0_8 := hide (K0_7.out.trans (hb.mono K0_7.out.size))
      have K4_8 := hide (K4_7.out.trans (hb.mono K4_7.out.size))
      have K5_8 := hide (K5_7.out.trans (hb.mono K5_7.out.size))
      clear hb
      go_wp2_with (fail)
      refine (HC2.out _ _ ((h2.out.below K5_8.out).mono K5_8.out.size)).mono ?_
      rintro e w9 ⟨rfl, hb⟩
      have K0_9 := hide (K0_8.out.trans (hb.mono K0_8.out.size))
      have K4_9 := hide (K4_8.out.trans (hb.mono K4_8.out.size))
      have K5_9 := hide (K5_8.out.trans (hb.mono K5_8.out.size))
      clear hb
      go_wp2_with (fail)
      go_ret
      exact ⟨rfl, K0_9.out⟩
  · cases i1
    · go_wp2_with (fail)
      refine (HC1.out _ _ ((h1.out.below K4_7.out).mono K4_7.out.size)).mono ?_
      rintro e w8 ⟨rfl, hb⟩
      have K0_8 := hide (K0_7.out.trans (hb.mono K0_7.out.size))
      have K4_8 := hide (K4_7.out.trans (hb.mono K4_7.out.size))
      have K5_8 := hide (K5_7.out.trans (hb.mono K5_7.out.size))
      clear hb
      go_wp2_with (fail)
      refine (HC2.out _ _ ((h2.out.below K5_8.out).mono K5_8.out.size)).mono ?_
      rintro e w9 ⟨rfl, hb⟩
      have K0_9 := hide (K0_8.out.trans (hb.mono K0_8.out.size))
      have K4_9 := hide (K4_8.out.trans (hb.mono K4_8.out.size))
      have K5_9 := hide (K5_8.out.trans (hb.mono K5_8.out.size))
      clear hb
      go_wp2_with (fail)
      go_ret
      exact ⟨rfl, K0_9.out⟩
    · cases i2
      · go_wp2_with (fail)
        refine (HC1.out _ _ ((h1.out.below K4_7.out).mono K4_7.out.size)).mono ?_
        rintro e w8 ⟨rfl, hb⟩
        have K0_8 := hide (K0_7.out.trans (hb.mono K0_7.out.size))
        have K4_8 := hide (K4_7.out.trans (hb.mono K4_7.out.size))
        have K5_8 := hide (K5_7.out.trans (hb.mono K5_7.out.size))
        clear hb
        go_wp2_with (fail)
        refine (HC2.out _ _ ((h2.out.below K5_8.out).mono K5_8.out.size)).mono ?_
        rintro e w9 ⟨rfl, hb⟩
        have K0_9 := hide (K0_8.out.trans (hb.mono K0_8.out.size))
        have K4_9 := hide (K4_8.out.trans (hb.mono K4_8.out.size))
        have K5_9 := hide (K5_8.out.trans (hb.mono K5_8.out.size))
        clear hb
        go_wp2_with (fail)
        go_ret
        exact ⟨rfl, K0_9.out⟩
      · cases a1
        · go_wp2_with (fail)
          refine (HC1.out _ _ ((h1.out.below K4_7.out).mono K4_7.out.size)).mono ?_
          rintro e w8 ⟨rfl, hb⟩
          have K0_8 := hide (K0_7.out.trans (hb.mono K0_7.out.size))
          have K4_8 := hide (K4_7.out.trans (hb.mono K4_7.out.size))
          have K5_8 := hide (K5_7.out.trans (hb.mono K5_7.out.size))
          clear hb
          go_wp2_with (fail)
          refine (HC2.out _ _ ((h2.out.below K5_8.out).mono K5_8.out.size)).mono ?_
          rintro e w9 ⟨rfl, hb⟩
          have K0_9 := hide (K0_8.out.trans (hb.mono K0_8.out.size))
          have K4_9 := hide (K4_8.out.trans (hb.mono K4_8.out.size))
          have K5_9 := hide (K5_8.out.trans (hb.mono K5_8.out.size))
          clear hb
          go_wp2_with (fail)
          go_ret
          exact ⟨rfl, K0_9.out⟩
        · go_wp2_with (fail)
          refine (HC1.out _ _ ((h1.out.below K4_7.out).mono K4_7.out.size)).mono ?_
          rintro e w8 ⟨rfl, hb⟩
          have K0_8 := hide (K0_7.out.trans (hb.mono K0_7.out.size))
          have K4_8 := hide (K4_7.out.trans (hb.mono K4_7.out.size))
          have K5_8 := hide (K5_7.out.trans (hb.mono K5_7.out.size))
          clear hb
          go_wp2_with (fail)
          refine (HC2.out _ _ ((h2.out.below K5_8.out).mono K5_8.out.size)).mono ?_
          rintro e w9 ⟨rfl, hb⟩
          have K0_9 := hide (K0_8.out.trans (hb.mono K0_8.out.size))
          have K4_9 := hide (K4_8.out.trans (hb.mono K4_8.out.size))
          have K5_9 := hide (K5_8.out.trans (hb.mono K5_8.out.size))
          clear hb
          go_wp2_with (fail)
          go_ret
          exact ⟨rfl, K0_9.out⟩
end Go.Proofs.YtpgjfpeepbjflaaGreat
