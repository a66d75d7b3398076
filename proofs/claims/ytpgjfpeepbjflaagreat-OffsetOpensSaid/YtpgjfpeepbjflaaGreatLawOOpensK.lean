/- OffsetOpens' walk: opening and closing. -/
import Derived.Test.YtpgjfpeepbjflaaGreatPk12
namespace Go.Proofs.YtpgjfpeepbjflaaGreat
open Go.RowKit
set_option linter.unusedVariables false
set_option linter.unusedSimpArgs false

set_option maxRecDepth 100000 in
set_option maxHeartbeats 8000000 in
theorem oopens_walk {w : World} {vl : Value} {l : List R4} (hrl : RdK encR 4 w w.heap.size vl l) (lal : l.length ≤ maxLen) (d : Int) :
    Calls Tryz.prog 8 #[vl, .int .i64 d] w fun e w' => e = .returned (.bool true) ∧ Below w.heap.size w w' := by
  have hAl := hide hrl
  obtain ⟨Al, cl, hvl, _⟩ := hrl
  subst hvl
  have HF := hide (fun (W : World) (h : RdK encR 4 W W.heap.size (.slice Al l.length cl) l) => fitO_any h lal d)
  go_enter Tryz.func8, Tryz.ntmps8
  have K0_0 := hide (Below.refl w.heap.size w)
  go_wp2_with (fail)
  refine (alive14_any _).mono ?_
  rintro e w1 ⟨rfl, hb⟩
  have K0_1 := hide (K0_0.out.trans (hb.mono K0_0.out.size))
  clear hb
  go_wp2_with (fail)
  refine (HF.out _ ((hAl.out.below K0_1.out).mono K0_1.out.size)).mono ?_
  rintro e w2 (⟨rfl, hb⟩ | ⟨rfl, hF2, hb⟩)
  · have K0_2 := hide (K0_1.out.trans (hb.mono K0_1.out.size))
    clear hb
    go_wp2_with (fail)
    go_ret
    exact ⟨rfl, K0_2.out⟩
  have K0_2 := hide (K0_1.out.trans (hb.mono K0_1.out.size))
  clear hb
  have nl := hF2.1
  have ho := hF2.opens
  have hc := hF2.closes
  clear lal HF hF2
  rcases ho with eO | ⟨RO, eO, nO, pO, qO⟩
  · rcases hc with eC | ⟨RC, eC, nC, pC, qC⟩
    · have HO := hide (fun (W : World) (v : Value) (h : RdK encR 4 W W.heap.size v l) => by have := oOpen_any h (by omega) d; rwa [eO] at this)
      clear eO
      have HC := hide (fun (W : World) (v : Value) (h : RdK encR 4 W W.heap.size v l) => by have := oClose_any h (by omega) d; rwa [eC] at this)
      clear eC
      go_wp2_with (fail)
      refine (HO.out _ _ ((hAl.out.below K0_2.out).mono K0_2.out.size)).mono ?_
      rintro e w3 ⟨⟨A3, c3, rfl, ho⟩, hb⟩
      have K0_3 := hide (K0_2.out.trans (hb.mono K0_2.out.size))
      have K3_3 := hide (Below.refl w3.heap.size w3)
      clear hb
      have hrO := hide (own_rd (l := ([] : List R4)) ho (fun _ => rfl))
      clear ho
      go_wp2_with (fail)
      refine (HC.out _ _ ((hAl.out.below K0_3.out).mono K0_3.out.size)).mono ?_
      rintro e w4 ⟨⟨A4, c4, rfl, ho⟩, hb⟩
      have K0_4 := hide (K0_3.out.trans (hb.mono K0_3.out.size))
      have K3_4 := hide (K3_3.out.trans (hb.mono K3_3.out.size))
      have K4_4 := hide (Below.refl w4.heap.size w4)
      clear hb
      have hrC := hide (own_rd (l := ([] : List R4)) ho (fun _ => rfl))
      clear ho
      clear HO HC
      go_wp2_with (fail)
      go_ret
      exact ⟨rfl, K0_4.out⟩
    · have HO := hide (fun (W : World) (v : Value) (h : RdK encR 4 W W.heap.size v l) => by have := oOpen_any h (by omega) d; rwa [eO] at this)
      clear eO
      have HC := hide (fun (W : World) (v : Value) (h : RdK encR 4 W W.heap.size v l) => by have := oClose_any h (by omega) d; rwa [eC] at this)
      have HPC := hide (fun (W : World) (v v2 : Value) (h : RdK encR 4 W W.heap.size v l) (h2 : RdK encR 4 W W.heap.size v2 RC) => by have := part14_any h h2 (by omega) (by omega); rwa [pC] at this)
      have HAC := hide (fun (W : World) (v : Value) (h : RdK encR 4 W W.heap.size v RC) => oClose_any h (by omega) d)
      have mC := closeF_len2 RC d
      generalize closeF RC d = PAC at *
      obtain ⟨SC, zC⟩ := PAC
      simp only at mC qC HAC
      clear eC pC
      go_wp2_with (fail)
      refine (HO.out _ _ ((hAl.out.below K0_2.out).mono K0_2.out.size)).mono ?_
      rintro e w3 ⟨⟨A3, c3, rfl, ho⟩, hb⟩
      have K0_3 := hide (K0_2.out.trans (hb.mono K0_2.out.size))
      have K3_3 := hide (Below.refl w3.heap.size w3)
      clear hb
      have hrO := hide (own_rd (l := ([] : List R4)) ho (fun _ => rfl))
      clear ho
      go_wp2_with (fail)
      refine (HC.out _ _ ((hAl.out.below K0_3.out).mono K0_3.out.size)).mono ?_
      rintro e w4 ⟨⟨A4, c4, rfl, ho⟩, hb⟩
      have K0_4 := hide (K0_3.out.trans (hb.mono K0_3.out.size))
      have K3_4 := hide (K3_3.out.trans (hb.mono K3_3.out.size))
      have K4_4 := hide (Below.refl w4.heap.size w4)
      clear hb
      have hrC := hide (own_rd (l := RC) ho (fun _ => rfl))
      clear ho
      clear HO HC
      go_wp2_with (fail)
      refine (HPC.out _ _ _ ((hAl.out.below K0_4.out).mono K0_4.out.size) hrC.out).mono ?_
      rintro e w5 ⟨rfl, hb⟩
      have K0_5 := hide (K0_4.out.trans (hb.mono K0_4.out.size))
      have K3_5 := hide (K3_4.out.trans (hb.mono K3_4.out.size))
      have K4_5 := hide (K4_4.out.trans (hb.mono K4_4.out.size))
      clear hb
      go_wp2_with (fail)
      refine (HAC.out _ _ ((hrC.out.below K4_5.out).mono K4_5.out.size)).mono ?_
      rintro e w6 ⟨⟨A6, c6, rfl, ho⟩, hb⟩
      have K0_6 := hide (K0_5.out.trans (hb.mono K0_5.out.size))
      have K3_6 := hide (K3_5.out.trans (hb.mono K3_5.out.size))
      have K4_6 := hide (K4_5.out.trans (hb.mono K4_5.out.size))
      have K6_6 := hide (Below.refl w6.heap.size w6)
      clear hb
      have hsC := hide (own_rd (l := SC) ho (fun _ => rfl))
      clear ho
      clear HPC HAC
      by_cases yC : zC = 0
      · subst yC
        obtain rfl := qC rfl
        clear qC
        go_wp2_with (fail)
        refine (rSameSelf hsC.out ((hrC.out.below K4_6.out).mono K4_6.out.size) (by omega)).mono ?_
        rintro e w7 ⟨rfl, hb⟩
        have K0_7 := hide (K0_6.out.trans (hb.mono K0_6.out.size))
        have K3_7 := hide (K3_6.out.trans (hb.mono K3_6.out.size))
        have K4_7 := hide (K4_6.out.trans (hb.mono K4_6.out.size))
        have K6_7 := hide (K6_6.out.trans (hb.mono K6_6.out.size))
        clear hb
        go_wp2_with (fail)
        go_ret
        exact ⟨rfl, K0_7.out⟩
      · have x1 : (zC != 0) = true := by simpa using yC
        have x2 : (zC == 0) = false := by simpa using yC
        clear yC qC
        go_wp2_with (fail)
        go_ret
        exact ⟨rfl, K0_6.out⟩
  · rcases hc with eC | ⟨RC, eC, nC, pC, qC⟩
    · have HO := hide (fun (W : World) (v : Value) (h : RdK encR 4 W W.heap.size v l) => by have := oOpen_any h (by omega) d; rwa [eO] at this)
      have HPO := hide (fun (W : World) (v v2 : Value) (h : RdK encR 4 W W.heap.size v RO) (h2 : RdK encR 4 W W.heap.size v2 l) => by have := part14_any h h2 (by omega) (by omega); rwa [pO] at this)
      have HAO := hide (fun (W : World) (v : Value) (h : RdK encR 4 W W.heap.size v RO) => oOpen_any h (by omega) d)
      have mO := openF_len2 RO d
      generalize openF RO d = PAO at *
      obtain ⟨SO, zO⟩ := PAO
      simp only at mO qO HAO
      clear eO pO
      have HC := hide (fun (W : World) (v : Value) (h : RdK encR 4 W W.heap.size v l) => by have := oClose_any h (by omega) d; rwa [eC] at this)
      clear eC
      go_wp2_with (fail)
      refine (HO.out _ _ ((hAl.out.below K0_2.out).mono K0_2.out.size)).mono ?_
      rintro e w3 ⟨⟨A3, c3, rfl, ho⟩, hb⟩
      have K0_3 := hide (K0_2.out.trans (hb.mono K0_2.out.size))
      have K3_3 := hide (Below.refl w3.heap.size w3)
      clear hb
      have hrO := hide (own_rd (l := RO) ho (fun _ => rfl))
      clear ho
      go_wp2_with (fail)
      refine (HC.out _ _ ((hAl.out.below K0_3.out).mono K0_3.out.size)).mono ?_
      rintro e w4 ⟨⟨A4, c4, rfl, ho⟩, hb⟩
      have K0_4 := hide (K0_3.out.trans (hb.mono K0_3.out.size))
      have K3_4 := hide (K3_3.out.trans (hb.mono K3_3.out.size))
      have K4_4 := hide (Below.refl w4.heap.size w4)
      clear hb
      have hrC := hide (own_rd (l := ([] : List R4)) ho (fun _ => rfl))
      clear ho
      clear HO HC
      go_wp2_with (fail)
      refine (HPO.out _ _ _ ((hrO.out.below K3_4.out).mono K3_4.out.size) ((hAl.out.below K0_4.out).mono K0_4.out.size)).mono ?_
      rintro e w5 ⟨rfl, hb⟩
      have K0_5 := hide (K0_4.out.trans (hb.mono K0_4.out.size))
      have K3_5 := hide (K3_4.out.trans (hb.mono K3_4.out.size))
      have K4_5 := hide (K4_4.out.trans (hb.mono K4_4.out.size))
      clear hb
      go_wp2_with (fail)
      refine (HAO.out _ _ ((hrO.out.below K3_5.out).mono K3_5.out.size)).mono ?_
      rintro e w6 ⟨⟨A6, c6, rfl, ho⟩, hb⟩
      have K0_6 := hide (K0_5.out.trans (hb.mono K0_5.out.size))
      have K3_6 := hide (K3_5.out.trans (hb.mono K3_5.out.size))
      have K4_6 := hide (K4_5.out.trans (hb.mono K4_5.out.size))
      have K6_6 := hide (Below.refl w6.heap.size w6)
      clear hb
      have hsO := hide (own_rd (l := SO) ho (fun _ => rfl))
      clear ho
      clear HPO HAO
      by_cases yO : zO = 0
      · subst yO
        obtain rfl := qO rfl
        clear qO
        go_wp2_with (fail)
        refine (rSameSelf hsO.out ((hrO.out.below K3_6.out).mono K3_6.out.size) (by omega)).mono ?_
        rintro e w7 ⟨rfl, hb⟩
        have K0_7 := hide (K0_6.out.trans (hb.mono K0_6.out.size))
        have K3_7 := hide (K3_6.out.trans (hb.mono K3_6.out.size))
        have K4_7 := hide (K4_6.out.trans (hb.mono K4_6.out.size))
        have K6_7 := hide (K6_6.out.trans (hb.mono K6_6.out.size))
        clear hb
        go_wp2_with (fail)
        go_ret
        exact ⟨rfl, K0_7.out⟩
      · have x1 : (zO != 0) = true := by simpa using yO
        have x2 : (zO == 0) = false := by simpa using yO
        clear yO qO
        go_wp2_with (fail)
        go_ret
        exact ⟨rfl, K0_6.out⟩
    · have HO := hide (fun (W : World) (v : Value) (h : RdK encR 4 W W.heap.size v l) => by have := oOpen_any h (by omega) d; rwa [eO] at this)
      have HPO := hide (fun (W : World) (v v2 : Value) (h : RdK encR 4 W W.heap.size v RO) (h2 : RdK encR 4 W W.heap.size v2 l) => by have := part14_any h h2 (by omega) (by omega); rwa [pO] at this)
      have HAO := hide (fun (W : World) (v : Value) (h : RdK encR 4 W W.heap.size v RO) => oOpen_any h (by omega) d)
      have mO := openF_len2 RO d
      generalize openF RO d = PAO at *
      obtain ⟨SO, zO⟩ := PAO
      simp only at mO qO HAO
      clear eO pO
      have HC := hide (fun (W : World) (v : Value) (h : RdK encR 4 W W.heap.size v l) => by have := oClose_any h (by omega) d; rwa [eC] at this)
      have HPC := hide (fun (W : World) (v v2 : Value) (h : RdK encR 4 W W.heap.size v l) (h2 : RdK encR 4 W W.heap.size v2 RC) => by have := part14_any h h2 (by omega) (by omega); rwa [pC] at this)
      have HAC := hide (fun (W : World) (v : Value) (h : RdK encR 4 W W.heap.size v RC) => oClose_any h (by omega) d)
      have mC := closeF_len2 RC d
      generalize closeF RC d = PAC at *
      obtain ⟨SC, zC⟩ := PAC
      simp only at mC qC HAC
      clear eC pC
      go_wp2_with (fail)
      refine (HO.out _ _ ((hAl.out.below K0_2.out).mono K0_2.out.size)).mono ?_
      rintro e w3 ⟨⟨A3, c3, rfl, ho⟩, hb⟩
      have K0_3 := hide (K0_2.out.trans (hb.mono K0_2.out.size))
      have K3_3 := hide (Below.refl w3.heap.size w3)
      clear hb
      have hrO := hide (own_rd (l := RO) ho (fun _ => rfl))
      clear ho
      go_wp2_with (fail)
      refine (HC.out _ _ ((hAl.out.below K0_3.out).mono K0_3.out.size)).mono ?_
      rintro e w4 ⟨⟨A4, c4, rfl, ho⟩, hb⟩
      have K0_4 := hide (K0_3.out.trans (hb.mono K0_3.out.size))
      have K3_4 := hide (K3_3.out.trans (hb.mono K3_3.out.size))
      have K4_4 := hide (Below.refl w4.heap.size w4)
      clear hb
      have hrC := hide (own_rd (l := RC) ho (fun _ => rfl))
      clear ho
      clear HO HC
      go_wp2_with (fail)
      refine (HPO.out _ _ _ ((hrO.out.below K3_4.out).mono K3_4.out.size) ((hAl.out.below K0_4.out).mono K0_4.out.size)).mono ?_
      rintro e w5 ⟨rfl, hb⟩
      have K0_5 := hide (K0_4.out.trans (hb.mono K0_4.out.size))
      have K3_5 := hide (K3_4.out.trans (hb.mono K3_4.out.size))
      have K4_5 := hide (K4_4.out.trans (hb.mono K4_4.out.size))
      clear hb
      go_wp2_with (fail)
      refine (HAO.out _ _ ((hrO.out.below K3_5.out).mono K3_5.out.size)).mono ?_
      rintro e w6 ⟨⟨A6, c6, rfl, ho⟩, hb⟩
      have K0_6 := hide (K0_5.out.trans (hb.mono K0_5.out.size))
      have K3_6 := hide (K3_5.out.trans (hb.mono K3_5.out.size))
      have K4_6 := hide (K4_5.out.trans (hb.mono K4_5.out.size))
      have K6_6 := hide (Below.refl w6.heap.size w6)
      clear hb
      have hsO := hide (own_rd (l := SO) ho (fun _ => rfl))
      clear ho
      clear HPO HAO
      by_cases yO : zO = 0
      · subst yO
        obtain rfl := qO rfl
        clear qO
        go_wp2_with (fail)
        refine (rSameSelf hsO.out ((hrO.out.below K3_6.out).mono K3_6.out.size) (by omega)).mono ?_
        rintro e w7 ⟨rfl, hb⟩
        have K0_7 := hide (K0_6.out.trans (hb.mono K0_6.out.size))
        have K3_7 := hide (K3_6.out.trans (hb.mono K3_6.out.size))
        have K4_7 := hide (K4_6.out.trans (hb.mono K4_6.out.size))
        have K6_7 := hide (K6_6.out.trans (hb.mono K6_6.out.size))
        clear hb
        go_wp2_with (fail)
        refine (HPC.out _ _ _ ((hAl.out.below K0_7.out).mono K0_7.out.size) ((hrC.out.below K4_7.out).mono K4_7.out.size)).mono ?_
        rintro e w8 ⟨rfl, hb⟩
        have K0_8 := hide (K0_7.out.trans (hb.mono K0_7.out.size))
        have K3_8 := hide (K3_7.out.trans (hb.mono K3_7.out.size))
        have K4_8 := hide (K4_7.out.trans (hb.mono K4_7.out.size))
        have K6_8 := hide (K6_7.out.trans (hb.mono K6_7.out.size))
        clear hb
        go_wp2_with (fail)
        refine (HAC.out _ _ ((hrC.out.below K4_8.out).mono K4_8.out.size)).mono ?_
        rintro e w9 ⟨⟨A9, c9, rfl, ho⟩, hb⟩
        have K0_9 := hide (K0_8.out.trans (hb.mono K0_8.out.size))
        have K3_9 := hide (K3_8.out.trans (hb.mono K3_8.out.size))
        have K4_9 := hide (K4_8.out.trans (hb.mono K4_8.out.size))
        have K6_9 := hide (K6_8.out.trans (hb.mono K6_8.out.size))
        have K9_9 := hide (Below.refl w9.heap.size w9)
        clear hb
        have hsC := hide (own_rd (l := SC) ho (fun _ => rfl))
        clear ho
        clear HPC HAC
        by_cases yC : zC = 0
        · subst yC
          obtain rfl := qC rfl
          clear qC
          go_wp2_with (fail)
          refine (rSameSelf hsC.out ((hrC.out.below K4_9.out).mono K4_9.out.size) (by omega)).mono ?_
          rintro e w10 ⟨rfl, hb⟩
          have K0_10 := hide (K0_9.out.trans (hb.mono K0_9.out.size))
          have K3_10 := hide (K3_9.out.trans (hb.mono K3_9.out.size))
          have K4_10 := hide (K4_9.out.trans (hb.mono K4_9.out.size))
          have K6_10 := hide (K6_9.out.trans (hb.mono K6_9.out.size))
          have K9_10 := hide (K9_9.out.trans (hb.mono K9_9.out.size))
          clear hb
          go_wp2_with (fail)
          go_ret
          exact ⟨rfl, K0_10.out⟩
        · have x1 : (zC != 0) = true := by simpa using yC
          have x2 : (zC == 0) = false := by simpa using yC
          clear yC qC
          go_wp2_with (fail)
          go_ret
          exact ⟨rfl, K0_9.out⟩
      · have x1 : (zO != 0) = true := by simpa using yO
        have x2 : (zO == 0) = false := by simpa using yO
        clear yO qO
        go_wp2_with (fail)
        refine (HPC.out _ _ _ ((hAl.out.below K0_6.out).mono K0_6.out.size) ((hrC.out.below K4_6.out).mono K4_6.out.size)).mono ?_
        rintro e w7 ⟨rfl, hb⟩
        have K0_7 := hide (K0_6.out.trans (hb.mono K0_6.out.size))
        have K3_7 := hide (K3_6.out.trans (hb.mono K3_6.out.size))
        have K4_7 := hide (K4_6.out.trans (hb.mono K4_6.out.size))
        have K6_7 := hide (K6_6.out.trans (hb.mono K6_6.out.size))
        clear hb
        go_wp2_with (fail)
        refine (HAC.out _ _ ((hrC.out.below K4_7.out).mono K4_7.out.size)).mono ?_
        rintro e w8 ⟨⟨A8, c8, rfl, ho⟩, hb⟩
        have K0_8 := hide (K0_7.out.trans (hb.mono K0_7.out.size))
        have K3_8 := hide (K3_7.out.trans (hb.mono K3_7.out.size))
        have K4_8 := hide (K4_7.out.trans (hb.mono K4_7.out.size))
        have K6_8 := hide (K6_7.out.trans (hb.mono K6_7.out.size))
        have K8_8 := hide (Below.refl w8.heap.size w8)
        clear hb
        have hsC := hide (own_rd (l := SC) ho (fun _ => rfl))
        clear ho
        clear HPC HAC
        by_cases yC : zC = 0
        · subst yC
          obtain rfl := qC rfl
          clear qC
          go_wp2_with (fail)
          refine (rSameSelf hsC.out ((hrC.out.below K4_8.out).mono K4_8.out.size) (by omega)).mono ?_
          rintro e w9 ⟨rfl, hb⟩
          have K0_9 := hide (K0_8.out.trans (hb.mono K0_8.out.size))
          have K3_9 := hide (K3_8.out.trans (hb.mono K3_8.out.size))
          have K4_9 := hide (K4_8.out.trans (hb.mono K4_8.out.size))
          have K6_9 := hide (K6_8.out.trans (hb.mono K6_8.out.size))
          have K8_9 := hide (K8_8.out.trans (hb.mono K8_8.out.size))
          clear hb
          go_wp2_with (fail)
          go_ret
          exact ⟨rfl, K0_9.out⟩
        · have x1 : (zC != 0) = true := by simpa using yC
          have x2 : (zC == 0) = false := by simpa using yC
          clear yC qC
          go_wp2_with (fail)
          go_ret
          exact ⟨rfl, K0_8.out⟩
end Go.Proofs.YtpgjfpeepbjflaaGreat
