/- BlockBeside's walk: being along each other is the same both ways; boundaries of two regions and of their union. -/
import Derived.Test.YtmnhlcbmoibahaaGreatPk13
import Derived.Test.YtmnhlcbmoibahaaGreatPk10
import Derived.Test.YtmnhlcbmoibahaaGreatPk9
namespace Go.Proofs.YtmnhlcbmoibahaaGreat
open Go.RowKit
set_option linter.unusedVariables false
set_option linter.unusedSimpArgs false

set_option maxHeartbeats 4000000 in
theorem small35_any {w : World} {v : Value} {l : List R4} (hr : RdK encR 4 w w.heap.size v l) (nl : l.length ≤ 1000000) :
    Calls Tryz.prog 29 #[v] w fun e w' => e = .returned (.bool (small35 l)) ∧ Below w.heap.size w w' := by
  obtain ⟨A, c, rfl, hc⟩ := hr
  have HRC := hide hc
  clear hc
  go_enter Tryz.func29, Tryz.ntmps29
  go_wp2
  go_loopw [3] (fun i wr => ∃ m : Nat, m ≤ l.length ∧ i = .int .i64 m ∧ Hid (Below w.heap.size w wr) ∧ Hid (small35 (l.take m) = true)) (fun i _ => l.length - (intOf i).toNat)
  case atStart => exact ⟨0, Nat.zero_le _, rfl, hide (Below.refl _ _), hide (by simp [small35])⟩
  case round =>
    obtain ⟨m, hm, rfl, HB, HV⟩ := hrel
    by_cases hlt : m < l.length
    · have mz : (m : Int) < (l.length : Int) := by omega
      obtain ⟨s, hs⟩ : ∃ p, l[m]? = some p := ⟨_, List.getElem?_eq_getElem hlt⟩
      obtain ⟨b, o, rfl, hbl, k⟩ := HRC.out (by intro e; rw [e] at hlt; simp at hlt)
      have hb := HB.out
      have d0 : wr.cell? ⟨b, o + m * 4, none⟩ = some (.int .i64 s.x0) := (hb.cell (p := ⟨b, _, none⟩) hbl).trans (k m _ hs 0 _ rfl)
      have d1 : wr.cell? ⟨b, o + m * 4 + 1, none⟩ = some (.int .i64 s.y0) := (hb.cell (p := ⟨b, _, none⟩) hbl).trans (k m _ hs 1 _ rfl)
      have d2 : wr.cell? ⟨b, o + m * 4 + 2, none⟩ = some (.int .i64 s.x1) := (hb.cell (p := ⟨b, _, none⟩) hbl).trans (k m _ hs 2 _ rfl)
      have d3 : wr.cell? ⟨b, o + m * 4 + 3, none⟩ = some (.int .i64 s.y1) := (hb.cell (p := ⟨b, _, none⟩) hbl).trans (k m _ hs 3 _ rfl)
      have HS := hide hs
      have HNO : Hid (¬ (-1000 ≤ s.x0 ∧ -1000 ≤ s.y0 ∧ s.x1 ≤ 1000 ∧ s.y1 ≤ 1000) → small35 l = false) := hide (fun hn => by
        unfold small35
        rw [List.all_eq_false]
        refine ⟨s, List.mem_of_getElem? hs, fun h => hn ?_⟩
        simp only [Bool.and_eq_true, decide_eq_true_eq] at h
        omega)
      clear k hs hb
      by_cases h1 : s.x0 < -1000
      · have z1 : decide (s.x0 < -1000) = true := decide_eq_true h1
        have HE := hide (HNO.out (by omega))
        clear h1
        go_wp2
        go_ret
        exact ⟨by rw [HE.out]; rfl, HB.out⟩
      have z1 : decide (s.x0 < -1000) = false := decide_eq_false h1
      by_cases h2 : s.y0 < -1000
      · have z2 : decide (s.y0 < -1000) = true := decide_eq_true h2
        have HE := hide (HNO.out (by omega))
        clear h1 h2
        go_wp2
        go_ret
        exact ⟨by rw [HE.out]; rfl, HB.out⟩
      have z2 : decide (s.y0 < -1000) = false := decide_eq_false h2
      by_cases h3 : 1000 < s.x1
      · have z3 : decide (1000 < s.x1) = true := decide_eq_true h3
        have HE := hide (HNO.out (by omega))
        clear h1 h2 h3
        go_wp2
        go_ret
        exact ⟨by rw [HE.out]; rfl, HB.out⟩
      have z3 : decide (1000 < s.x1) = false := decide_eq_false h3
      by_cases h4 : 1000 < s.y1
      · have z4 : decide (1000 < s.y1) = true := decide_eq_true h4
        have HE := hide (HNO.out (by omega))
        clear h1 h2 h3 h4
        go_wp2
        go_ret
        exact ⟨by rw [HE.out]; rfl, HB.out⟩
      have z4 : decide (1000 < s.y1) = false := decide_eq_false h4
      have HV2 : Hid (small35 (l.take (m + 1)) = true) := hide (by
        have := HV.out
        unfold small35 at this ⊢
        rw [List.take_add_one, HS.out, List.all_append, this]
        simp only [Option.toList_some, List.all_cons, List.all_nil, Bool.and_true, Bool.true_and, Bool.and_eq_true, decide_eq_true_eq]
        omega)
      clear h1 h2 h3 h4
      go_wp2
      go_roundw
      case rel => exact ⟨m + 1, by omega, by go_num, HB, HV2⟩
      case measure => simp [intOf]; omega
    · obtain rfl : m = l.length := by omega
      have hv := HV.out
      rw [List.take_length] at hv
      have HE := hide hv
      clear hv hlt
      go_wp2
      go_ret
      exact ⟨by rw [HE.out]; rfl, HB.out⟩
set_option maxRecDepth 100000 in
set_option maxHeartbeats 8000000 in
theorem beside_walk {w : World} {va vb : Value} {a b : List R4} (hra : RdK encR 4 w w.heap.size va a) (hrb : RdK encR 4 w w.heap.size vb b) (na : a.length ≤ maxLen) (nb : b.length ≤ maxLen) :
    Calls Tryz.prog 4 #[va, vb] w fun e w' => e = .returned (.bool true) ∧ Below w.heap.size w w' := by
  unfold maxLen at na nb
  have hAa := hide hra
  have hAb := hide hrb
  obtain ⟨Aa, ca, hva, _⟩ := hra
  obtain ⟨Ab, cb, hvb, _⟩ := hrb
  subst hva
  subst hvb
  have K0_0 := hide (Below.refl w.heap.size w)
  by_cases la : a.length ≤ 16
  · have za : (a.length : Int) ≤ 16 := by omega
    by_cases lb : b.length ≤ 16
    · have zb : (b.length : Int) ≤ 16 := by omega
      have HCA := hide (fun (W : World) (v : Value) (h : RdK encR 4 W W.heap.size v a) => rCheck_any h (by omega))
      have HCB := hide (fun (W : World) (v : Value) (h : RdK encR 4 W W.heap.size v b) => rCheck_any h (by omega))
      by_cases ka : checkF a = 0
      · rw [ka] at HCA
        by_cases kb : checkF b = 0
        · rw [kb] at HCB
          have hx0 := along_nn35 ka kb
          have hxc := along_comm35 ka kb
          have HX := hide (fun (W : World) (v v2 : Value) (h : RdK encR 4 W W.heap.size v a) (h2 : RdK encR 4 W W.heap.size v2 b) => by have := along_any h h2 (by omega) (by omega); rwa [show alongF a b = (alongC a b, 0) by unfold alongF; rw [if_pos ka, if_pos kb]] at this)
          have HY := hide (fun (W : World) (v v2 : Value) (h : RdK encR 4 W W.heap.size v b) (h2 : RdK encR 4 W W.heap.size v2 a) => by have := along_any h h2 (by omega) (by omega); rwa [show alongF b a = (alongC b a, 0) by unfold alongF; rw [if_pos kb, if_pos ka], hxc] at this)
          have HM := hide (fun (W : World) (v v2 : Value) (h : RdK encR 4 W W.heap.size v a) (h2 : RdK encR 4 W W.heap.size v2 b) => meet_any h h2 (by omega) (by omega))
          have HU := hide (fun (W : World) (v v2 : Value) (h : RdK encR 4 W W.heap.size v a) (h2 : RdK encR 4 W W.heap.size v2 b) => union_any h h2 (by omega) (by omega))
          have nf : frm35.length ≤ 100000000 := by simp [frm35]
          have H1 := hide (fun (W : World) (v v2 : Value) (h : RdK encR 4 W W.heap.size v frm35) (h2 : RdK encR 4 W W.heap.size v2 a) => minus_any h h2 nf (by omega))
          have H2 := hide (fun (W : World) (v v2 : Value) (h : RdK encR 4 W W.heap.size v frm35) (h2 : RdK encR 4 W W.heap.size v2 b) => minus_any h h2 nf (by omega))
          have nu := joinF_len hOr a b
          have H3 := hide (fun (W : World) (v v2 : Value) (h : RdK encR 4 W W.heap.size v frm35) (h2 : RdK encR 4 W W.heap.size v2 (joinF hOr a b).1) => minus_any h h2 nf (by omega))
          have HSA := hide (fun (W : World) (v : Value) (h : RdK encR 4 W W.heap.size v a) => small35_any h (by omega))
          have HSB := hide (fun (W : World) (v : Value) (h : RdK encR 4 W W.heap.size v b) => small35_any h (by omega))
          have key : ∀ (U O1 O2 O3 : List R4), joinF hAnd a b = ([], 0) → joinF hOr a b = (U, 0) → joinF hSub frm35 a = (O1, 0) → joinF hSub frm35 b = (O2, 0) → joinF hSub frm35 U = (O3, 0) → small35 a = true → small35 b = true → alongC a O1 + alongC b O2 = alongC U O3 + 2 * alongC a b ∧ checkF O1 = 0 ∧ checkF O2 = 0 ∧ checkF U = 0 ∧ checkF O3 = 0 := fun U O1 O2 O3 e1 e2 e3 e4 e5 s1 s2 => by
            have cU := (joinZero rfl ka kb e2).1
            exact ⟨beside_three ka kb e1 e2 e3 e4 e5 s1 s2, (joinZero rfl frm35_chk ka e3).1, (joinZero rfl frm35_chk kb e4).1, cU, (joinZero rfl frm35_chk cU e5).1⟩
          have KEY := hide key
          have hl1 := joinF_len hSub frm35 a
          have hl2 := joinF_len hSub frm35 b
          have hl3 := joinF_len hSub frm35 (joinF hOr a b).1
          have hx1 : decide (alongC a b < 0) = false := decide_eq_false (by omega)
          clear key hx0 hxc nf
          generalize hM : joinF hAnd a b = JM at *
          generalize hU : joinF hOr a b = JU at *
          generalize h1 : joinF hSub frm35 a = J1 at *
          generalize h2 : joinF hSub frm35 b = J2 at *
          generalize h3 : joinF hSub frm35 JU.1 = J3 at *
          generalize small35 a = sa at *
          generalize small35 b = sb at *
          generalize hX : alongC a b = X at *
          have hX1 : (X != X) = false := bne_self_eq_false X
          obtain ⟨RM, cM⟩ := JM
          obtain ⟨RU, cU⟩ := JU
          obtain ⟨R1, c1⟩ := J1
          obtain ⟨R2, c2⟩ := J2
          obtain ⟨R3, c3⟩ := J3
          have hK := hide (And.intro hM (And.intro hU (And.intro h1 (And.intro h2 (And.intro h3 hX)))))
          simp only at HM HU H1 H2 H3 nu hl1 hl2 hl3
          clear hM hU h1 h2 h3 hX
          go_enter Tryz.func4, Tryz.ntmps4
          go_wp2_with (fail)
          refine (HCA.out _ _ hAa.out).mono ?_
          rintro e w1 ⟨rfl, hb⟩
          have K0_1 := hide (K0_0.out.trans (hb.mono K0_0.out.size))
          clear hb
          go_wp2_with (fail)
          refine (HCB.out _ _ ((hAb.out.below K0_1.out).mono K0_1.out.size)).mono ?_
          rintro e w2 ⟨rfl, hb⟩
          have K0_2 := hide (K0_1.out.trans (hb.mono K0_1.out.size))
          clear hb
          go_wp2_with (fail)
          refine (HX.out _ _ _ ((hAa.out.below K0_2.out).mono K0_2.out.size) ((hAb.out.below K0_2.out).mono K0_2.out.size)).mono ?_
          rintro e w3 ⟨rfl, hb⟩
          have K0_3 := hide (K0_2.out.trans (hb.mono K0_2.out.size))
          clear hb
          go_wp2_with (fail)
          refine (HY.out _ _ _ ((hAb.out.below K0_3.out).mono K0_3.out.size) ((hAa.out.below K0_3.out).mono K0_3.out.size)).mono ?_
          rintro e w4 ⟨rfl, hb⟩
          have K0_4 := hide (K0_3.out.trans (hb.mono K0_3.out.size))
          clear hb
          clear HX HY HCA HCB
          go_wp2_with (fail)
          refine (HM.out _ _ _ ((hAa.out.below K0_4.out).mono K0_4.out.size) ((hAb.out.below K0_4.out).mono K0_4.out.size)).mono ?_
          rintro e w5 ⟨⟨A5, c5, rfl, ho⟩, hb⟩
          have K0_5 := hide (K0_4.out.trans (hb.mono K0_4.out.size))
          have K5_5 := hide (Below.refl w5.heap.size w5)
          clear hb
          have hm := hide (own_rd (l := RM) ho (fun _ => rfl))
          clear ho
          clear hx1 hX1
          go_wp2_with (fail)
          refine (HU.out _ _ _ ((hAa.out.below K0_5.out).mono K0_5.out.size) ((hAb.out.below K0_5.out).mono K0_5.out.size)).mono ?_
          rintro e w6 ⟨⟨A6, c6, rfl, ho⟩, hb⟩
          have K0_6 := hide (K0_5.out.trans (hb.mono K0_5.out.size))
          have K5_6 := hide (K5_5.out.trans (hb.mono K5_5.out.size))
          have K6_6 := hide (Below.refl w6.heap.size w6)
          clear hb
          have hu := hide (own_rd (l := RU) ho (fun _ => rfl))
          clear ho
          go_wp2_with (fail)
          refine (land_any (-1002) 1002 _).mono ?_
          rintro e w7 ⟨vf, rfl, hf, hb⟩
          have K0_7 := hide (K0_6.out.trans (hb.mono K0_6.out.size))
          have K5_7 := hide (K5_6.out.trans (hb.mono K5_6.out.size))
          have K6_7 := hide (K6_6.out.trans (hb.mono K6_6.out.size))
          have K7_7 := hide (Below.refl w7.heap.size w7)
          clear hb
          have hfr := hide (show RdK encR 4 _ _ vf frm35 from hf)
          obtain ⟨Af, cf, hvf, _⟩ := hf
          subst hvf
          go_wp2_with (fail)
          refine (H1.out _ _ _ hfr.out ((hAa.out.below K0_7.out).mono K0_7.out.size)).mono ?_
          rintro e w8 ⟨⟨A8, c8, rfl, ho⟩, hb⟩
          have K0_8 := hide (K0_7.out.trans (hb.mono K0_7.out.size))
          have K5_8 := hide (K5_7.out.trans (hb.mono K5_7.out.size))
          have K6_8 := hide (K6_7.out.trans (hb.mono K6_7.out.size))
          have K7_8 := hide (K7_7.out.trans (hb.mono K7_7.out.size))
          have K8_8 := hide (Below.refl w8.heap.size w8)
          clear hb
          have h1 := hide (own_rd (l := R1) ho (fun _ => rfl))
          clear ho
          go_wp2_with (fail)
          refine (H2.out _ _ _ ((hfr.out.below K7_8.out).mono K7_8.out.size) ((hAb.out.below K0_8.out).mono K0_8.out.size)).mono ?_
          rintro e w9 ⟨⟨A9, c9, rfl, ho⟩, hb⟩
          have K0_9 := hide (K0_8.out.trans (hb.mono K0_8.out.size))
          have K5_9 := hide (K5_8.out.trans (hb.mono K5_8.out.size))
          have K6_9 := hide (K6_8.out.trans (hb.mono K6_8.out.size))
          have K7_9 := hide (K7_8.out.trans (hb.mono K7_8.out.size))
          have K8_9 := hide (K8_8.out.trans (hb.mono K8_8.out.size))
          have K9_9 := hide (Below.refl w9.heap.size w9)
          clear hb
          have h2 := hide (own_rd (l := R2) ho (fun _ => rfl))
          clear ho
          go_wp2_with (fail)
          refine (H3.out _ _ _ ((hfr.out.below K7_9.out).mono K7_9.out.size) ((hu.out.below K6_9.out).mono K6_9.out.size)).mono ?_
          rintro e w10 ⟨⟨A10, c10, rfl, ho⟩, hb⟩
          have K0_10 := hide (K0_9.out.trans (hb.mono K0_9.out.size))
          have K5_10 := hide (K5_9.out.trans (hb.mono K5_9.out.size))
          have K6_10 := hide (K6_9.out.trans (hb.mono K6_9.out.size))
          have K7_10 := hide (K7_9.out.trans (hb.mono K7_9.out.size))
          have K8_10 := hide (K8_9.out.trans (hb.mono K8_9.out.size))
          have K9_10 := hide (K9_9.out.trans (hb.mono K9_9.out.size))
          have K10_10 := hide (Below.refl w10.heap.size w10)
          clear hb
          have h3 := hide (own_rd (l := R3) ho (fun _ => rfl))
          clear ho
          clear HM HU H1 H2 H3
          by_cases zcM : cM = 0
          · subst zcM
            by_cases zcU : cU = 0
            · subst zcU
              by_cases zc1 : c1 = 0
              · subst zc1
                by_cases zc2 : c2 = 0
                · subst zc2
                  by_cases zc3 : c3 = 0
                  · subst zc3
                    by_cases zl : RM.length = 0
                    · obtain rfl := List.eq_nil_of_length_eq_zero zl
                      clear zl
                      cases sa
                      · clear KEY hK
                        go_wp2_with (fail)
                        refine (HSA.out _ _ ((hAa.out.below K0_10.out).mono K0_10.out.size)).mono ?_
                        rintro e w11 ⟨rfl, hb⟩
                        have K0_11 := hide (K0_10.out.trans (hb.mono K0_10.out.size))
                        have K5_11 := hide (K5_10.out.trans (hb.mono K5_10.out.size))
                        have K6_11 := hide (K6_10.out.trans (hb.mono K6_10.out.size))
                        have K7_11 := hide (K7_10.out.trans (hb.mono K7_10.out.size))
                        have K8_11 := hide (K8_10.out.trans (hb.mono K8_10.out.size))
                        have K9_11 := hide (K9_10.out.trans (hb.mono K9_10.out.size))
                        have K10_11 := hide (K10_10.out.trans (hb.mono K10_10.out.size))
                        clear hb
                        go_wp2_with (fail)
                        refine (alive35_any _).mono ?_
                        rintro e w12 ⟨rfl, hb⟩
                        have K0_12 := hide (K0_11.out.trans (hb.mono K0_11.out.size))
                        have K5_12 := hide (K5_11.out.trans (hb.mono K5_11.out.size))
                        have K6_12 := hide (K6_11.out.trans (hb.mono K6_11.out.size))
                        have K7_12 := hide (K7_11.out.trans (hb.mono K7_11.out.size))
                        have K8_12 := hide (K8_11.out.trans (hb.mono K8_11.out.size))
                        have K9_12 := hide (K9_11.out.trans (hb.mono K9_11.out.size))
                        have K10_12 := hide (K10_11.out.trans (hb.mono K10_11.out.size))
                        clear hb
                        go_wp2_with (fail)
                        go_ret
                        exact ⟨rfl, K0_12.out⟩
                      · cases sb
                        · clear KEY hK
                          go_wp2_with (fail)
                          refine (HSA.out _ _ ((hAa.out.below K0_10.out).mono K0_10.out.size)).mono ?_
                          rintro e w11 ⟨rfl, hb⟩
                          have K0_11 := hide (K0_10.out.trans (hb.mono K0_10.out.size))
                          have K5_11 := hide (K5_10.out.trans (hb.mono K5_10.out.size))
                          have K6_11 := hide (K6_10.out.trans (hb.mono K6_10.out.size))
                          have K7_11 := hide (K7_10.out.trans (hb.mono K7_10.out.size))
                          have K8_11 := hide (K8_10.out.trans (hb.mono K8_10.out.size))
                          have K9_11 := hide (K9_10.out.trans (hb.mono K9_10.out.size))
                          have K10_11 := hide (K10_10.out.trans (hb.mono K10_10.out.size))
                          clear hb
                          go_wp2_with (fail)
                          refine (HSB.out _ _ ((hAb.out.below K0_11.out).mono K0_11.out.size)).mono ?_
                          rintro e w12 ⟨rfl, hb⟩
                          have K0_12 := hide (K0_11.out.trans (hb.mono K0_11.out.size))
                          have K5_12 := hide (K5_11.out.trans (hb.mono K5_11.out.size))
                          have K6_12 := hide (K6_11.out.trans (hb.mono K6_11.out.size))
                          have K7_12 := hide (K7_11.out.trans (hb.mono K7_11.out.size))
                          have K8_12 := hide (K8_11.out.trans (hb.mono K8_11.out.size))
                          have K9_12 := hide (K9_11.out.trans (hb.mono K9_11.out.size))
                          have K10_12 := hide (K10_11.out.trans (hb.mono K10_11.out.size))
                          clear hb
                          go_wp2_with (fail)
                          refine (alive35_any _).mono ?_
                          rintro e w13 ⟨rfl, hb⟩
                          have K0_13 := hide (K0_12.out.trans (hb.mono K0_12.out.size))
                          have K5_13 := hide (K5_12.out.trans (hb.mono K5_12.out.size))
                          have K6_13 := hide (K6_12.out.trans (hb.mono K6_12.out.size))
                          have K7_13 := hide (K7_12.out.trans (hb.mono K7_12.out.size))
                          have K8_13 := hide (K8_12.out.trans (hb.mono K8_12.out.size))
                          have K9_13 := hide (K9_12.out.trans (hb.mono K9_12.out.size))
                          have K10_13 := hide (K10_12.out.trans (hb.mono K10_12.out.size))
                          clear hb
                          go_wp2_with (fail)
                          go_ret
                          exact ⟨rfl, K0_13.out⟩
                        · obtain ⟨e1, e2, e3, e4, e5, eX⟩ := hK.out
                          obtain ⟨hs, k1, k2, k3, k4⟩ := KEY.out RU R1 R2 R3 rfl rfl rfl rfl e5 rfl rfl
                          have HP := hide (fun (W : World) (v v2 : Value) (h : RdK encR 4 W W.heap.size v a) (h2 : RdK encR 4 W W.heap.size v2 R1) => by have := along_any h h2 (by omega) (by omega); rwa [show alongF a R1 = (alongC a R1, 0) by unfold alongF; rw [if_pos ka, if_pos k1]] at this)
                          have HQ := hide (fun (W : World) (v v2 : Value) (h : RdK encR 4 W W.heap.size v b) (h2 : RdK encR 4 W W.heap.size v2 R2) => by have := along_any h h2 (by omega) (by omega); rwa [show alongF b R2 = (alongC b R2, 0) by unfold alongF; rw [if_pos kb, if_pos k2]] at this)
                          have HR := hide (fun (W : World) (v v2 : Value) (h : RdK encR 4 W W.heap.size v RU) (h2 : RdK encR 4 W W.heap.size v2 R3) => by have := along_any h h2 (by omega) (by omega); rwa [show alongF RU R3 = (alongC RU R3, 0) by unfold alongF; rw [if_pos k3, if_pos k4]] at this)
                          generalize alongC a R1 = P at *
                          generalize alongC b R2 = Q at *
                          generalize alongC RU R3 = R at *
                          have hw : (wrap64 (P + Q) == wrap64 (R + wrap64 (2 * X))) = true := by
                            rw [hs, beq_iff_eq]
                            unfold wrap64
                            omega
                          clear e1 e2 e3 e4 e5 eX hs k1 k2 k3 k4 ka kb KEY hK
                          go_wp2_with (fail)
                          refine (HSA.out _ _ ((hAa.out.below K0_10.out).mono K0_10.out.size)).mono ?_
                          rintro e w11 ⟨rfl, hb⟩
                          have K0_11 := hide (K0_10.out.trans (hb.mono K0_10.out.size))
                          have K5_11 := hide (K5_10.out.trans (hb.mono K5_10.out.size))
                          have K6_11 := hide (K6_10.out.trans (hb.mono K6_10.out.size))
                          have K7_11 := hide (K7_10.out.trans (hb.mono K7_10.out.size))
                          have K8_11 := hide (K8_10.out.trans (hb.mono K8_10.out.size))
                          have K9_11 := hide (K9_10.out.trans (hb.mono K9_10.out.size))
                          have K10_11 := hide (K10_10.out.trans (hb.mono K10_10.out.size))
                          clear hb
                          go_wp2_with (fail)
                          refine (HSB.out _ _ ((hAb.out.below K0_11.out).mono K0_11.out.size)).mono ?_
                          rintro e w12 ⟨rfl, hb⟩
                          have K0_12 := hide (K0_11.out.trans (hb.mono K0_11.out.size))
                          have K5_12 := hide (K5_11.out.trans (hb.mono K5_11.out.size))
                          have K6_12 := hide (K6_11.out.trans (hb.mono K6_11.out.size))
                          have K7_12 := hide (K7_11.out.trans (hb.mono K7_11.out.size))
                          have K8_12 := hide (K8_11.out.trans (hb.mono K8_11.out.size))
                          have K9_12 := hide (K9_11.out.trans (hb.mono K9_11.out.size))
                          have K10_12 := hide (K10_11.out.trans (hb.mono K10_11.out.size))
                          clear hb
                          go_wp2_with (fail)
                          refine (HP.out _ _ _ ((hAa.out.below K0_12.out).mono K0_12.out.size) ((h1.out.below K8_12.out).mono K8_12.out.size)).mono ?_
                          rintro e w13 ⟨rfl, hb⟩
                          have K0_13 := hide (K0_12.out.trans (hb.mono K0_12.out.size))
                          have K5_13 := hide (K5_12.out.trans (hb.mono K5_12.out.size))
                          have K6_13 := hide (K6_12.out.trans (hb.mono K6_12.out.size))
                          have K7_13 := hide (K7_12.out.trans (hb.mono K7_12.out.size))
                          have K8_13 := hide (K8_12.out.trans (hb.mono K8_12.out.size))
                          have K9_13 := hide (K9_12.out.trans (hb.mono K9_12.out.size))
                          have K10_13 := hide (K10_12.out.trans (hb.mono K10_12.out.size))
                          clear hb
                          go_wp2_with (fail)
                          refine (HQ.out _ _ _ ((hAb.out.below K0_13.out).mono K0_13.out.size) ((h2.out.below K9_13.out).mono K9_13.out.size)).mono ?_
                          rintro e w14 ⟨rfl, hb⟩
                          have K0_14 := hide (K0_13.out.trans (hb.mono K0_13.out.size))
                          have K5_14 := hide (K5_13.out.trans (hb.mono K5_13.out.size))
                          have K6_14 := hide (K6_13.out.trans (hb.mono K6_13.out.size))
                          have K7_14 := hide (K7_13.out.trans (hb.mono K7_13.out.size))
                          have K8_14 := hide (K8_13.out.trans (hb.mono K8_13.out.size))
                          have K9_14 := hide (K9_13.out.trans (hb.mono K9_13.out.size))
                          have K10_14 := hide (K10_13.out.trans (hb.mono K10_13.out.size))
                          clear hb
                          go_wp2_with (fail)
                          refine (HR.out _ _ _ ((hu.out.below K6_14.out).mono K6_14.out.size) ((h3.out.below K10_14.out).mono K10_14.out.size)).mono ?_
                          rintro e w15 ⟨rfl, hb⟩
                          have K0_15 := hide (K0_14.out.trans (hb.mono K0_14.out.size))
                          have K5_15 := hide (K5_14.out.trans (hb.mono K5_14.out.size))
                          have K6_15 := hide (K6_14.out.trans (hb.mono K6_14.out.size))
                          have K7_15 := hide (K7_14.out.trans (hb.mono K7_14.out.size))
                          have K8_15 := hide (K8_14.out.trans (hb.mono K8_14.out.size))
                          have K9_15 := hide (K9_14.out.trans (hb.mono K9_14.out.size))
                          have K10_15 := hide (K10_14.out.trans (hb.mono K10_14.out.size))
                          clear hb
                          go_wp2_with (fail)
                          refine (alive35_any _).mono ?_
                          rintro e w16 ⟨rfl, hb⟩
                          have K0_16 := hide (K0_15.out.trans (hb.mono K0_15.out.size))
                          have K5_16 := hide (K5_15.out.trans (hb.mono K5_15.out.size))
                          have K6_16 := hide (K6_15.out.trans (hb.mono K6_15.out.size))
                          have K7_16 := hide (K7_15.out.trans (hb.mono K7_15.out.size))
                          have K8_16 := hide (K8_15.out.trans (hb.mono K8_15.out.size))
                          have K9_16 := hide (K9_15.out.trans (hb.mono K9_15.out.size))
                          have K10_16 := hide (K10_15.out.trans (hb.mono K10_15.out.size))
                          clear hb
                          go_wp2_with (fail)
                          go_ret
                          exact ⟨rfl, K0_16.out⟩
                    · have yl : (0 : Int) < (RM.length : Int) := by omega
                      have yl2 : 0 < RM.length := by omega
                      clear zl KEY hK
                      go_wp2_with (fail)
                      refine (alive35_any _).mono ?_
                      rintro e w11 ⟨rfl, hb⟩
                      have K0_11 := hide (K0_10.out.trans (hb.mono K0_10.out.size))
                      have K5_11 := hide (K5_10.out.trans (hb.mono K5_10.out.size))
                      have K6_11 := hide (K6_10.out.trans (hb.mono K6_10.out.size))
                      have K7_11 := hide (K7_10.out.trans (hb.mono K7_10.out.size))
                      have K8_11 := hide (K8_10.out.trans (hb.mono K8_10.out.size))
                      have K9_11 := hide (K9_10.out.trans (hb.mono K9_10.out.size))
                      have K10_11 := hide (K10_10.out.trans (hb.mono K10_10.out.size))
                      clear hb
                      go_wp2_with (fail)
                      go_ret
                      exact ⟨rfl, K0_11.out⟩
                  · have yc3 : (c3 != 0) = true := by simpa using zc3
                    clear zc3 KEY hK
                    go_wp2_with (fail)
                    refine (alive35_any _).mono ?_
                    rintro e w11 ⟨rfl, hb⟩
                    have K0_11 := hide (K0_10.out.trans (hb.mono K0_10.out.size))
                    have K5_11 := hide (K5_10.out.trans (hb.mono K5_10.out.size))
                    have K6_11 := hide (K6_10.out.trans (hb.mono K6_10.out.size))
                    have K7_11 := hide (K7_10.out.trans (hb.mono K7_10.out.size))
                    have K8_11 := hide (K8_10.out.trans (hb.mono K8_10.out.size))
                    have K9_11 := hide (K9_10.out.trans (hb.mono K9_10.out.size))
                    have K10_11 := hide (K10_10.out.trans (hb.mono K10_10.out.size))
                    clear hb
                    go_wp2_with (fail)
                    go_ret
                    exact ⟨rfl, K0_11.out⟩
                · have yc2 : (c2 != 0) = true := by simpa using zc2
                  clear zc2 KEY hK
                  go_wp2_with (fail)
                  refine (alive35_any _).mono ?_
                  rintro e w11 ⟨rfl, hb⟩
                  have K0_11 := hide (K0_10.out.trans (hb.mono K0_10.out.size))
                  have K5_11 := hide (K5_10.out.trans (hb.mono K5_10.out.size))
                  have K6_11 := hide (K6_10.out.trans (hb.mono K6_10.out.size))
                  have K7_11 := hide (K7_10.out.trans (hb.mono K7_10.out.size))
                  have K8_11 := hide (K8_10.out.trans (hb.mono K8_10.out.size))
                  have K9_11 := hide (K9_10.out.trans (hb.mono K9_10.out.size))
                  have K10_11 := hide (K10_10.out.trans (hb.mono K10_10.out.size))
                  clear hb
                  go_wp2_with (fail)
                  go_ret
                  exact ⟨rfl, K0_11.out⟩
              · have yc1 : (c1 != 0) = true := by simpa using zc1
                clear zc1 KEY hK
                go_wp2_with (fail)
                refine (alive35_any _).mono ?_
                rintro e w11 ⟨rfl, hb⟩
                have K0_11 := hide (K0_10.out.trans (hb.mono K0_10.out.size))
                have K5_11 := hide (K5_10.out.trans (hb.mono K5_10.out.size))
                have K6_11 := hide (K6_10.out.trans (hb.mono K6_10.out.size))
                have K7_11 := hide (K7_10.out.trans (hb.mono K7_10.out.size))
                have K8_11 := hide (K8_10.out.trans (hb.mono K8_10.out.size))
                have K9_11 := hide (K9_10.out.trans (hb.mono K9_10.out.size))
                have K10_11 := hide (K10_10.out.trans (hb.mono K10_10.out.size))
                clear hb
                go_wp2_with (fail)
                go_ret
                exact ⟨rfl, K0_11.out⟩
            · have ycU : (cU != 0) = true := by simpa using zcU
              clear zcU KEY hK
              go_wp2_with (fail)
              refine (alive35_any _).mono ?_
              rintro e w11 ⟨rfl, hb⟩
              have K0_11 := hide (K0_10.out.trans (hb.mono K0_10.out.size))
              have K5_11 := hide (K5_10.out.trans (hb.mono K5_10.out.size))
              have K6_11 := hide (K6_10.out.trans (hb.mono K6_10.out.size))
              have K7_11 := hide (K7_10.out.trans (hb.mono K7_10.out.size))
              have K8_11 := hide (K8_10.out.trans (hb.mono K8_10.out.size))
              have K9_11 := hide (K9_10.out.trans (hb.mono K9_10.out.size))
              have K10_11 := hide (K10_10.out.trans (hb.mono K10_10.out.size))
              clear hb
              go_wp2_with (fail)
              go_ret
              exact ⟨rfl, K0_11.out⟩
          · have ycM : (cM != 0) = true := by simpa using zcM
            clear zcM KEY hK
            go_wp2_with (fail)
            refine (alive35_any _).mono ?_
            rintro e w11 ⟨rfl, hb⟩
            have K0_11 := hide (K0_10.out.trans (hb.mono K0_10.out.size))
            have K5_11 := hide (K5_10.out.trans (hb.mono K5_10.out.size))
            have K6_11 := hide (K6_10.out.trans (hb.mono K6_10.out.size))
            have K7_11 := hide (K7_10.out.trans (hb.mono K7_10.out.size))
            have K8_11 := hide (K8_10.out.trans (hb.mono K8_10.out.size))
            have K9_11 := hide (K9_10.out.trans (hb.mono K9_10.out.size))
            have K10_11 := hide (K10_10.out.trans (hb.mono K10_10.out.size))
            clear hb
            go_wp2_with (fail)
            go_ret
            exact ⟨rfl, K0_11.out⟩
        · have nz : (checkF b != 0) = true := by simpa using kb
          clear kb
          generalize checkF b = kk at *
          go_enter Tryz.func4, Tryz.ntmps4
          go_wp2_with (fail)
          refine (HCA.out _ _ hAa.out).mono ?_
          rintro e w1 ⟨rfl, hb⟩
          have K0_1 := hide (K0_0.out.trans (hb.mono K0_0.out.size))
          clear hb
          go_wp2_with (fail)
          refine (HCB.out _ _ ((hAb.out.below K0_1.out).mono K0_1.out.size)).mono ?_
          rintro e w2 ⟨rfl, hb⟩
          have K0_2 := hide (K0_1.out.trans (hb.mono K0_1.out.size))
          clear hb
          go_wp2_with (fail)
          refine (alive35_any _).mono ?_
          rintro e w3 ⟨rfl, hb⟩
          have K0_3 := hide (K0_2.out.trans (hb.mono K0_2.out.size))
          clear hb
          go_wp2_with (fail)
          go_ret
          exact ⟨rfl, K0_3.out⟩
      · have nz : (checkF a != 0) = true := by simpa using ka
        clear ka
        generalize checkF a = kk at *
        go_enter Tryz.func4, Tryz.ntmps4
        go_wp2_with (fail)
        refine (HCA.out _ _ hAa.out).mono ?_
        rintro e w1 ⟨rfl, hb⟩
        have K0_1 := hide (K0_0.out.trans (hb.mono K0_0.out.size))
        clear hb
        go_wp2_with (fail)
        refine (alive35_any _).mono ?_
        rintro e w2 ⟨rfl, hb⟩
        have K0_2 := hide (K0_1.out.trans (hb.mono K0_1.out.size))
        clear hb
        go_wp2_with (fail)
        go_ret
        exact ⟨rfl, K0_2.out⟩
    · have zb : ¬ (b.length : Int) ≤ 16 := by omega
      clear lb
      go_enter Tryz.func4, Tryz.ntmps4
      go_wp2_with (fail)
      refine (alive35_any _).mono ?_
      rintro e w1 ⟨rfl, hb⟩
      have K0_1 := hide (K0_0.out.trans (hb.mono K0_0.out.size))
      clear hb
      go_wp2_with (fail)
      go_ret
      exact ⟨rfl, K0_1.out⟩
  · have za : ¬ (a.length : Int) ≤ 16 := by omega
    clear la
    go_enter Tryz.func4, Tryz.ntmps4
    go_wp2_with (fail)
    refine (alive35_any _).mono ?_
    rintro e w1 ⟨rfl, hb⟩
    have K0_1 := hide (K0_0.out.trans (hb.mono K0_0.out.size))
    clear hb
    go_wp2_with (fail)
    go_ret
    exact ⟨rfl, K0_1.out⟩
end Go.Proofs.YtmnhlcbmoibahaaGreat
