/- The walks of the reference's Height and Falls, and of the law RoofHeights. -/
import Derived.Test.YtkofodpjeknpiaaPk6
namespace Go.Proofs.Ytkofodpjeknpiaa
open Go.RowKit
set_option linter.unusedVariables false
set_option linter.unusedSimpArgs false

theorem hZ_high {l : List R4} (hc : checkF l = 0) {x y : Int} (hx : -2000001 ≤ x ∧ x ≤ 2000001) (hy : -2000001 ≤ y ∧ y ≤ 2000001) : highF (missF l) x y = hZ l x y := (height_eq hc hx hy).symm
theorem high_hid {l : List R4} (hc : checkF l = 0) {W : World} {v : Value} (hm : RdK encR 4 W W.heap.size v (missF l)) (x y : Int) (hx : -2000001 ≤ x ∧ x ≤ 2000001) (hy : -2000001 ≤ y ∧ y ≤ 2000001) :
    Calls Try.prog 12 #[v, .int .i64 x, .int .i64 y] W fun e w' => e = .returned (.int .i64 (hZ l x y)) ∧ Below W.heap.size W w' := by
  have hv := (checkF_ok hc).2.1
  have hn := (checkF_ok hc).1
  have hlen : (missF l).length ≤ 10000000 := by
    have h1 : (srt (cutsL l)).length ≤ 1000 := by have := srt_len (cutsL l); rw [cutsL_len] at this; omega
    have h2 : (srt (cutsY l)).length ≤ 1000 := by have := srt_len (cutsY l); rw [cutsY_len] at this; omega
    have := miss_len l 1000 h1 h2
    omega
  have := rHigh_any hm hlen (fun m hmm => by
    have := wf_miss hv m hmm
    omega) x y hx hy
  rwa [hZ_high hc hx hy] at this
set_option maxHeartbeats 4000000 in
theorem rHeight15_any {w : World} {v : Value} {l : List R4} (hr : RdK encR 4 w w.heap.size v l) (hl : l.length ≤ 100000000) (x y : Int) (hx : -9223372036854775808 ≤ x ∧ x ≤ 9223372036854775807) (hy : -9223372036854775808 ≤ y ∧ y ≤ 9223372036854775807) :
    Calls Try.prog 6 #[v, .int .i64 x, .int .i64 y] w fun e w' => e = .returned (.tuple #[.int .i64 (heightR l x y).1, .int .i64 (heightR l x y).2]) ∧ Below w.heap.size w w' := by
  have HCK : Hid (∀ W : World, Below w.heap.size w W → Calls Try.prog 11 #[v] W fun e w' => e = .returned (.int .i64 (checkF l)) ∧ Below W.heap.size W w') := hide (fun W hW => rCheck_any ((hr.below hW).mono hW.size) hl)
  have HMI : Hid (checkF l = 0 → ∀ W : World, Below w.heap.size w W → Calls Try.prog 13 #[v] W fun e w' => MissRet l e w' ∧ Below W.heap.size W w') := hide (fun hc W hW => rMissing_any ((hr.below hW).mono hW.size) (by have := (checkF_ok hc).1; omega))
  obtain ⟨A, c, rfl, _⟩ := hr
  by_cases hc : checkF l = 0
  · have HC := hide hc
    rw [hc] at HCK
    by_cases hin : -2000000 ≤ x ∧ x ≤ 2000000 ∧ -2000000 ≤ y ∧ y ≤ 2000000
    · have HF : Hid (heightR l x y = (hZ l x y, 0)) := hide (by unfold heightR; rw [if_neg (by rw [hc]; simp), if_pos hin]; rfl)
      have H1 := hide (HMI.out hc)
      obtain ⟨a1, a2, a3, a4⟩ := hin
      have HHI : Hid (∀ (W : World) (v : Value), RdK encR 4 W W.heap.size v (missF l) → Calls Try.prog 12 #[v, .int .i64 x, .int .i64 y] W fun e w' => e = .returned (.int .i64 (hZ l x y)) ∧ Below W.heap.size W w') := hide (fun W v hm => high_hid HC.out hm x y (by omega) (by omega))
      clear HMI hc
      generalize hZ l = H at *
      go_enter Try.func6, Try.ntmps6
      go_wp2_with (fail)
      refine (HCK.out _ (Below.refl _ _)).mono ?_
      rintro e w1 ⟨rfl, hb⟩
      have HB := hide hb
      clear hb HCK
      go_wp2_with (fail)
      refine (H1.out _ HB.out).mono ?_
      rintro e w2 ⟨⟨A2, c2, rfl, hm⟩, hb⟩
      have HM := hide hm
      have HB2 := hide (HB.out.trans (hb.mono HB.out.size))
      clear hb hm HB H1
      go_wp2_with (fail)
      refine (HHI.out _ _ HM.out).mono ?_
      rintro e w3 ⟨rfl, hb⟩
      have HB3 := hide (HB2.out.trans (hb.mono HB2.out.size))
      clear hb HM HB2 HHI
      go_wp2_with (fail)
      go_ret2
      exact ⟨by rw [HF.out]; rfl, HB3.out⟩
    · have HF : Hid (heightR l x y = (0, 2)) := hide (by unfold heightR; rw [if_neg (by rw [hc]; simp), if_neg hin])
      clear HMI hc
      have hd : x < -2000000 ∨ (-2000000 ≤ x ∧ 2000000 < x) ∨ (-2000000 ≤ x ∧ x ≤ 2000000 ∧ y < -2000000) ∨ (-2000000 ≤ x ∧ x ≤ 2000000 ∧ -2000000 ≤ y ∧ 2000000 < y) := by omega
      clear hin
      rcases hd with h1 | ⟨h1, h2⟩ | ⟨h1, h2, h3⟩ | ⟨h1, h2, h3, h4⟩
      all_goals
        go_enter Try.func6, Try.ntmps6
        go_wp2_with (fail)
        refine (HCK.out _ (Below.refl _ _)).mono ?_
        rintro e w1 ⟨rfl, hb⟩
        have HB := hide hb
        clear hb HCK
        go_wp2_with (fail)
        go_ret2
        exact ⟨by rw [HF.out]; rfl, HB.out⟩
  · have HF : Hid (heightR l x y = (0, checkF l)) := hide (if_pos hc)
    have hne : (checkF l != 0) = true := by simpa using hc
    clear HMI hc
    generalize checkF l = ck at *
    go_enter Try.func6, Try.ntmps6
    go_wp2_with (fail)
    refine (HCK.out _ (Below.refl _ _)).mono ?_
    rintro e w1 ⟨rfl, hb⟩
    have HB := hide hb
    clear hb
    go_wp2_with (fail)
    refine (HCK.out _ HB.out).mono ?_
    rintro e w2 ⟨rfl, hb⟩
    have HB2 := hide (HB.out.trans (hb.mono HB.out.size))
    clear hb HB HCK
    go_wp2_with (fail)
    go_ret2
    exact ⟨by rw [HF.out]; rfl, HB2.out⟩
set_option maxRecDepth 100000 in
set_option maxHeartbeats 8000000 in
theorem rFalls15_any {w : World} {v : Value} {l : List R4} (hr : RdK encR 4 w w.heap.size v l) (hl : l.length ≤ 100000000) (x y : Int) (hx : -9223372036854775808 ≤ x ∧ x ≤ 9223372036854775807) (hy : -9223372036854775808 ≤ y ∧ y ≤ 9223372036854775807) :
    Calls Try.prog 8 #[v, .int .i64 x, .int .i64 y] w fun e w' => e = .returned (.tuple #[.int .u8 (fallsR l x y).1, .int .i64 (fallsR l x y).2]) ∧ Below w.heap.size w w' := by
  have HH := hide (rHeight15_any hr hl x y hx hy)
  rcases heightR_cases l x y with ⟨hc, hin, he⟩ | ⟨h2, h1⟩
  · have HF : Hid (fallsR l x y = (fallsG (hZ l) x y 4, 0)) := hide (by unfold fallsR; rw [he]; rfl)
    have HC := hide hc
    have HMI : Hid (∀ W : World, Below w.heap.size w W → Calls Try.prog 13 #[v] W fun e w' => MissRet l e w' ∧ Below W.heap.size W w') := hide (fun W hW => rMissing_any ((hr.below hW).mono hW.size) (by have := (checkF_ok HC.out).1; omega))
    have HHI : Hid (∀ (a b : Int), -2000001 ≤ a ∧ a ≤ 2000001 → -2000001 ≤ b ∧ b ≤ 2000001 → ∀ (W : World) (v : Value), RdK encR 4 W W.heap.size v (missF l) → Calls Try.prog 12 #[v, .int .i64 a, .int .i64 b] W fun e w' => e = .returned (.int .i64 (hZ l a b)) ∧ Below W.heap.size W w') := hide (fun a b h1 h2 W v hm => high_hid HC.out hm a b h1 h2)
    rw [he] at HH
    obtain ⟨A, c, rfl, _⟩ := hr
    obtain ⟨a1, a2, a3, a4⟩ := hin
    clear hc he hl hx hy
    generalize hZ l = H at *
    obtain ⟨s0, s1, s2, s3, s4⟩ := falls_st H x y
    have S4 : Hid (fallsG H x y 4 = 0 + (if H (x + 1) y < H x y then 1 else 0) + (if H (x - 1) y < H x y then 2 else 0) + (if H x (y + 1) < H x y then 4 else 0) + (if H x (y - 1) < H x y then 8 else 0)) := hide (by rw [s4, s3, s2, s1, s0])
    clear s0 s1 s2 s3 s4
    have G1 := hide (HHI.out (x + 1) y (by omega) (by omega))
    have G2 := hide (HHI.out (x - 1) y (by omega) (by omega))
    have G3 := hide (HHI.out x (y + 1) (by omega) (by omega))
    have G4 := hide (HHI.out x (y - 1) (by omega) (by omega))
    clear HHI
    generalize fallsG H x y 4 = P4 at *
    generalize H (x + 1) y = h1 at *
    generalize H (x - 1) y = h2 at *
    generalize H x (y + 1) = h3 at *
    generalize H x (y - 1) = h4 at *
    generalize H x y = h0 at *
    go_enter Try.func8, Try.ntmps8
    go_wp2_with (fail)
    refine HH.out.mono ?_
    rintro e w1 ⟨rfl, hb⟩
    have HB1 := hide hb
    clear hb HH
    go_wp2_with (fail)
    refine (HMI.out _ HB1.out).mono ?_
    rintro e w2 ⟨⟨A2, c2, rfl, hm⟩, hb⟩
    have HM := hide hm
    have HB2 := hide (HB1.out.trans (hb.mono HB1.out.size))
    clear hb hm HB1 HMI
    go_wp2_with (first
      | (go_at_call 12; ((with_reducible refine (G1.out _ _ HM.out).mono ?_); rintro e wn ⟨rfl, hb⟩; replace HM := hide ((HM.out.below hb).mono hb.size); replace HB2 := hide (HB2.out.trans (hb.mono HB2.out.size)); clear hb))
      | (go_at_call 12; ((with_reducible refine (G2.out _ _ HM.out).mono ?_); rintro e wn ⟨rfl, hb⟩; replace HM := hide ((HM.out.below hb).mono hb.size); replace HB2 := hide (HB2.out.trans (hb.mono HB2.out.size)); clear hb))
      | (go_at_call 12; ((with_reducible refine (G3.out _ _ HM.out).mono ?_); rintro e wn ⟨rfl, hb⟩; replace HM := hide ((HM.out.below hb).mono hb.size); replace HB2 := hide (HB2.out.trans (hb.mono HB2.out.size)); clear hb))
      | (go_at_call 12; ((with_reducible refine (G4.out _ _ HM.out).mono ?_); rintro e wn ⟨rfl, hb⟩; replace HM := hide ((HM.out.below hb).mono hb.size); replace HB2 := hide (HB2.out.trans (hb.mono HB2.out.size)); clear hb)))
    all_goals
      go_ret2
      refine ⟨?_, HB2.out⟩
      rw [HF.out]
      refine ret2_eq (int_eq ?_) rfl
      have e4 := S4.out
      revert e4
      repeat' split
      all_goals (intro e4; first | omega | (simp at *; omega))
  · have HF : Hid (fallsR l x y = (0, (heightR l x y).2)) := hide (if_pos h2)
    rw [h1] at HH
    have hne : ((heightR l x y).2 != 0) = true := by simpa using h2
    obtain ⟨A, c, rfl, _⟩ := hr
    clear h1 h2 hl hx hy
    generalize (heightR l x y).2 = ck at *
    go_enter Try.func8, Try.ntmps8
    go_wp2_with (fail)
    refine HH.out.mono ?_
    rintro e w1 ⟨rfl, hb⟩
    have HB1 := hide hb
    clear hb HH
    go_wp2_with (fail)
    go_ret2
    exact ⟨by rw [HF.out]; rfl, HB1.out⟩
set_option maxHeartbeats 4000000 in
theorem heights_walk {w : World} {v : Value} {l : List R4} (hr : RdK encR 4 w w.heap.size v l) (hl : l.length ≤ maxLen) (x y : Int) (hx : -9223372036854775808 ≤ x ∧ x ≤ 9223372036854775807) (hy : -9223372036854775808 ≤ y ∧ y ≤ 9223372036854775807) :
    Calls Try.prog 3 #[v, .int .i64 x, .int .i64 y] w fun e w' => e = .returned (.bool true) ∧ Below w.heap.size w w' := by
  have H1 : Hid (l.length ≤ 420 → ∀ W : World, Below w.heap.size w W → Calls Try.prog 5 #[v, .int .i64 x, .int .i64 y] W fun e w' => e = .returned (.tuple #[.int .i64 (heightR l x y).1, .int .i64 (heightR l x y).2]) ∧ Below W.heap.size W w') := hide (fun h W hW => roofHeight_any ((hr.below hW).mono hW.size) (by omega) x y hx hy)
  have H2 : Hid (l.length ≤ 420 → ∀ W : World, Below w.heap.size w W → Calls Try.prog 6 #[v, .int .i64 x, .int .i64 y] W fun e w' => e = .returned (.tuple #[.int .i64 (heightR l x y).1, .int .i64 (heightR l x y).2]) ∧ Below W.heap.size W w') := hide (fun h W hW => rHeight15_any ((hr.below hW).mono hW.size) (by omega) x y hx hy)
  have H3 : Hid (l.length ≤ 420 → ∀ W : World, Below w.heap.size w W → Calls Try.prog 7 #[v, .int .i64 x, .int .i64 y] W fun e w' => e = .returned (.tuple #[.int .u8 (fallsR l x y).1, .int .i64 (fallsR l x y).2]) ∧ Below W.heap.size W w') := hide (fun h W hW => roofFalls_any ((hr.below hW).mono hW.size) (by omega) x y hx hy)
  have H4 : Hid (l.length ≤ 420 → ∀ W : World, Below w.heap.size w W → Calls Try.prog 8 #[v, .int .i64 x, .int .i64 y] W fun e w' => e = .returned (.tuple #[.int .u8 (fallsR l x y).1, .int .i64 (fallsR l x y).2]) ∧ Below W.heap.size W w') := hide (fun h W hW => rFalls15_any ((hr.below hW).mono hW.size) (by omega) x y hx hy)
  obtain ⟨A, c, rfl, _⟩ := hr
  have HGR := hide (fun W => great14_any (w := W) A l.length c hl)
  clear hl hx hy
  generalize heightR l x y = HR at *
  generalize fallsR l x y = FR at *
  by_cases hg : 12 < l.length ∧ l.length ≤ 400 ∨ 420 < l.length
  · rw [decide_eq_true hg] at HGR
    clear hg
    go_enter Try.func3, Try.ntmps3
    go_wp2_with (fail)
    refine (HGR.out _).mono ?_
    rintro e w1 ⟨rfl, rfl⟩
    go_wp2_with (fail)
    go_ret
    exact ⟨rfl, Below.refl _ _⟩
  · rw [decide_eq_false hg] at HGR
    have G1 := hide (H1.out (by omega))
    have G2 := hide (H2.out (by omega))
    have G3 := hide (H3.out (by omega))
    have G4 := hide (H4.out (by omega))
    clear hg H1 H2 H3 H4
    go_enter Try.func3, Try.ntmps3
    go_wp2_with (fail)
    refine (HGR.out _).mono ?_
    rintro e w1 ⟨rfl, rfl⟩
    go_wp2_with (fail)
    refine (G1.out _ (Below.refl _ _)).mono ?_
    rintro e w2 ⟨rfl, hb⟩
    have HB := hide hb
    clear hb
    go_wp2_with (fail)
    refine (G2.out _ HB.out).mono ?_
    rintro e w3 ⟨rfl, hb⟩
    replace HB := hide (HB.out.trans (hb.mono HB.out.size))
    clear hb
    go_wp2_with (fail)
    refine (G3.out _ HB.out).mono ?_
    rintro e w4 ⟨rfl, hb⟩
    replace HB := hide (HB.out.trans (hb.mono HB.out.size))
    clear hb
    go_wp2_with (fail)
    refine (G4.out _ HB.out).mono ?_
    rintro e w5 ⟨rfl, hb⟩
    replace HB := hide (HB.out.trans (hb.mono HB.out.size))
    clear hb
    go_wp2_with (fail)
    go_ret
    exact ⟨by simp, HB.out⟩
end Go.Proofs.Ytkofodpjeknpiaa
