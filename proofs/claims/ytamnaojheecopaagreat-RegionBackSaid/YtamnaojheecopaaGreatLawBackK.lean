/- RegionBack's walk: flips, moves and cross-sections. -/
import Derived.Test.YtamnaojheecopaaGreatPk8
namespace Go.Proofs.YtamnaojheecopaaGreat
open Go.RowKit
set_option linter.unusedVariables false
set_option linter.unusedSimpArgs false

set_option maxRecDepth 100000 in
set_option maxHeartbeats 16000000 in
theorem back_walk {w : World} {va : Value} {a : List R4} (hra : RdK encR 4 w w.heap.size va a) (la : a.length ≤ maxLen) (x y : Int) (hx : -9223372036854775808 ≤ x ∧ x ≤ 9223372036854775807) (hy : -9223372036854775808 ≤ y ∧ y ≤ 9223372036854775807) :
    Calls Tryz.prog 6 #[va, .int .i64 x, .int .i64 y] w fun e w' => e = .returned (.bool true) ∧ Below w.heap.size w w' := by
  have hA := hide hra
  obtain ⟨A1, c1, hva, _⟩ := hra
  subst hva
  have HFT := hide (fun (W : World) (ra : RdK encR 4 W W.heap.size (.slice A1 a.length c1) a) => fit_any ra (RdK.nil (α := R4) (enc := encR) (k := 4) (w := W) (B := W.heap.size) none 0) la (by unfold maxLen; simp))
  cases hf : fitB a [] with
  | false =>
    rw [hf] at HFT
    clear hf la
    go_enter Tryz.func6, Tryz.ntmps6
    go_wp2_with (fail)
    refine (alive_any _).mono ?_
    rintro e w1 ⟨rfl, hb⟩
    have K0 := hide hb
    clear hb
    go_wp2_with (fail)
    refine (HFT.out _ ((hA.out.below K0.out).mono K0.out.size)).mono ?_
    rintro e wn ⟨rfl, hb⟩
    replace K0 := hide (K0.out.trans (hb.mono K0.out.size))
    clear hb
    go_wp2_with (fail)
    go_ret
    exact ⟨rfl, K0.out⟩
  | true =>
    rw [hf] at HFT
    obtain ⟨n1, _, ka, _⟩ := fitB_ok hf
    have hfl := flip_two ka
    have hmv := move_two ka x y
    obtain ⟨hcr, cr1, cr2, cr3⟩ := cross_ok ka x
    have HFL := hide (fun (W : World) (ra : RdK encR 4 W W.heap.size (.slice A1 a.length c1) a) => flip_any ra (by omega))
    have HCR := hide (fun (W : World) (ra : RdK encR 4 W W.heap.size (.slice A1 a.length c1) a) => by have := cross_any ra (by omega) x; rwa [hcr] at this)
    have HMV := hide (fun (W : World) (ra : RdK encR 4 W W.heap.size (.slice A1 a.length c1) a) => move_any ra (by omega) x y)
    have HCK := hide (fun (W : World) (v : Value) (r : RdK encS 2 W W.heap.size v (crossL a x)) => rCheckS_any r cr3 cr1 cr2)
    have hsm : decide (smem (crossL a x) y) = decide (pmem a x y) := decide_eq_decide.2 smem_crossL
    have HHS := hide (fun (W : World) (v : Value) (r : RdK encS 2 W W.heap.size v (crossL a x)) => by have := rHasS_any r (by omega) y; rwa [hsm] at this)
    have HHA := hide (fun (W : World) (ra : RdK encR 4 W W.heap.size (.slice A1 a.length c1) a) => has_any ra (by omega) x y)
    have HAR := hide (fun (l : List R4) (h : checkF l = 0) (W : World) (v : Value) (r : RdK encR 4 W W.heap.size v l) => by
      have := area_any r (by have := (checkF_ok h).1; omega)
      rw [show areaF l = (areaS l, 0) from if_pos h] at this
      exact this)
    have HSS := hide (fun (W : World) (v v' : Value) (h : RdK encR 4 W W.heap.size v a) (h' : RdK encR 4 W W.heap.size v' a) => rSameSelf h h' (by omega))
    have HKA := hide ka
    have hFP : ∀ R, (∀ u v, pmem R u v ↔ pmem a v u) → decide (pmem R y x) = decide (pmem a x y) := fun R h => decide_eq_decide.2 (h y x)
    have HFP := hide hFP
    have HX := hide hx
    have HY := hide hy
    have hxy1 := hx.1
    have hxy2 := hx.2
    have hxy3 := hy.1
    have hxy4 := hy.2
    clear hf hsm cr1 cr2 hcr hFP ka la hx hy
    generalize decide (pmem a x y) = P at *
    generalize crossL a x = S at *
    have hflip : flipF a = ([], 4) ∨ ∃ R, flipF a = (R, 0) ∧ R.length ≤ 400 ∧ Hid (∀ (W : World) (v : Value), RdK encR 4 W W.heap.size v R → (Calls Tryz.prog 18 #[v] W fun e w' => RegRet W.heap.size (a, 0) e w' ∧ Below W.heap.size W w') ∧ (Calls Tryz.prog 14 #[v] W fun e w' => e = .returned (.tuple #[.int .i64 (areaS a), .int .i64 0]) ∧ Below W.heap.size W w') ∧ Calls Tryz.prog 12 #[v, .int .i64 y, .int .i64 x] W fun e w' => e = .returned (.bool P) ∧ Below W.heap.size W w') := by
      rcases hfl with h | ⟨R, h1, h2, h3⟩
      · exact .inl h
      · have hl := (checkF_ok h2).1
        refine .inr ⟨R, h1, hl, fun W v hr => ⟨?_, ?_, ?_⟩⟩
        · have := flip_any hr (by omega)
          rwa [flip_back HKA.out h2 h3] at this
        · have := HAR.out R h2 W v hr
          rwa [flip_area HKA.out h2 h3] at this
        · have := has_any hr (by omega) y x
          rwa [HFP.out R h3] at this
    have HA2 := hide (HAR.out a HKA.out)
    have hmove : moveF a x y = ([], 16) ∨ (∃ M, moveF a x y = (M, 0) ∧ a = [] ∧ Hid (∀ (W : World) (v : Value), RdK encR 4 W W.heap.size v M → ∀ z1 z2 : Int, Calls Tryz.prog 22 #[v, .int .i64 z1, .int .i64 z2] W fun e w' => RegRet W.heap.size ([], 0) e w' ∧ Below W.heap.size W w')) ∨
        (∃ M, moveF a x y = (M, 0) ∧ a ≠ [] ∧ inMv x ∧ inMv y ∧ Hid (∀ (W : World) (v : Value), RdK encR 4 W W.heap.size v M → Calls Tryz.prog 22 #[v, .int .i64 (-x), .int .i64 (-y)] W fun e w' => RegRet W.heap.size (a, 0) e w' ∧ Below W.heap.size W w')) := by
      rcases hmv with h | ⟨h1, h2, h3, h4⟩
      · exact .inl h
      · by_cases h0 : a = []
        · refine .inr (.inl ⟨_, h1, h0, fun W v hr z1 z2 => ?_⟩)
          have e : a.map (mv x y) = [] := by rw [h0]; rfl
          rw [e] at hr h2
          have := move_any hr (by simp) z1 z2
          rwa [show moveF [] z1 z2 = ([], 0) from by unfold moveF; rw [if_pos h2, if_pos (.inl rfl)]; rfl] at this
        · obtain ⟨m1, m2⟩ := h3 h0
          refine .inr (.inr ⟨_, h1, h0, m1, m2, fun W v hr => ?_⟩)
          unfold inMv at m1 m2
          have := move_any hr (by have := (checkF_ok h2).1; omega) (-x) (-y)
          rwa [h4 h0] at this
    clear hfl hmv HAR HFP HKA HX HY
    generalize flipF a = Fp at *
    generalize moveF a x y = Mp at *
    generalize areaS a = sa at *
    have pp : (P != P) = false := by simp
    have ss : (sa != sa) = false := by simp
    rcases hflip with rfl | ⟨R, rfl, hRl, HR⟩ <;> rcases hmove with rfl | ⟨M, rfl, ha0, HM⟩ | ⟨M, rfl, ha0, m1, m2, HM⟩ <;> cases P
    case inl.inl.false =>
      go_enter Tryz.func6, Tryz.ntmps6
      go_wp2_with (fail)
      refine (alive_any _).mono ?_
      rintro e w1 ⟨rfl, hb⟩
      have K0 := hide hb
      clear hb
      go_wp2_with (fail)
      refine (HFT.out _ ((hA.out.below K0.out).mono K0.out.size)).mono ?_
      rintro e wn ⟨rfl, hb⟩
      replace K0 := hide (K0.out.trans (hb.mono K0.out.size))
      clear hb
      go_wp2_with (fail)
      refine (HFL.out _ ((hA.out.below K0.out).mono K0.out.size)).mono ?_
      rintro e wn ⟨⟨Af, cf, rfl, ho⟩, hb⟩
      replace K0 := hide (K0.out.trans (hb.mono K0.out.size))
      have rf := hide (own_rd ho (fun _ => rfl))
      clear hb ho
      go_wp2_with (fail)
      refine (HCR.out _ ((hA.out.below K0.out).mono K0.out.size)).mono ?_
      rintro e wn ⟨⟨As, cs, rfl, ho⟩, hb⟩
      replace K0 := hide (K0.out.trans (hb.mono K0.out.size))
      replace rf := hide ((rf.out.below hb).mono hb.size)
      have rs := hide (own_rd ho (fun _ => rfl))
      clear hb ho
      go_wp2_with (fail)
      refine (HCK.out _ _ rs.out).mono ?_
      rintro e wn ⟨rfl, hb⟩
      replace K0 := hide (K0.out.trans (hb.mono K0.out.size))
      replace rf := hide ((rf.out.below hb).mono hb.size)
      replace rs := hide ((rs.out.below hb).mono hb.size)
      clear hb
      go_wp2_with (fail)
      refine (HHS.out _ _ rs.out).mono ?_
      rintro e wn ⟨rfl, rfl⟩
      go_wp2_with (fail)
      refine (HHA.out _ ((hA.out.below K0.out).mono K0.out.size)).mono ?_
      rintro e wn ⟨rfl, hb⟩
      replace K0 := hide (K0.out.trans (hb.mono K0.out.size))
      replace rf := hide ((rf.out.below hb).mono hb.size)
      clear hb
      go_wp2_with (fail)
      refine (HMV.out _ ((hA.out.below K0.out).mono K0.out.size)).mono ?_
      rintro e wn ⟨⟨Am, cm, rfl, ho⟩, hb⟩
      replace K0 := hide (K0.out.trans (hb.mono K0.out.size))
      clear hb ho
      go_wp2_with (fail)
      go_ret
      exact ⟨rfl, K0.out⟩
    case inl.inl.true =>
      go_enter Tryz.func6, Tryz.ntmps6
      go_wp2_with (fail)
      refine (alive_any _).mono ?_
      rintro e w1 ⟨rfl, hb⟩
      have K0 := hide hb
      clear hb
      go_wp2_with (fail)
      refine (HFT.out _ ((hA.out.below K0.out).mono K0.out.size)).mono ?_
      rintro e wn ⟨rfl, hb⟩
      replace K0 := hide (K0.out.trans (hb.mono K0.out.size))
      clear hb
      go_wp2_with (fail)
      refine (HFL.out _ ((hA.out.below K0.out).mono K0.out.size)).mono ?_
      rintro e wn ⟨⟨Af, cf, rfl, ho⟩, hb⟩
      replace K0 := hide (K0.out.trans (hb.mono K0.out.size))
      have rf := hide (own_rd ho (fun _ => rfl))
      clear hb ho
      go_wp2_with (fail)
      refine (HCR.out _ ((hA.out.below K0.out).mono K0.out.size)).mono ?_
      rintro e wn ⟨⟨As, cs, rfl, ho⟩, hb⟩
      replace K0 := hide (K0.out.trans (hb.mono K0.out.size))
      replace rf := hide ((rf.out.below hb).mono hb.size)
      have rs := hide (own_rd ho (fun _ => rfl))
      clear hb ho
      go_wp2_with (fail)
      refine (HCK.out _ _ rs.out).mono ?_
      rintro e wn ⟨rfl, hb⟩
      replace K0 := hide (K0.out.trans (hb.mono K0.out.size))
      replace rf := hide ((rf.out.below hb).mono hb.size)
      replace rs := hide ((rs.out.below hb).mono hb.size)
      clear hb
      go_wp2_with (fail)
      refine (HHS.out _ _ rs.out).mono ?_
      rintro e wn ⟨rfl, rfl⟩
      go_wp2_with (fail)
      refine (HHA.out _ ((hA.out.below K0.out).mono K0.out.size)).mono ?_
      rintro e wn ⟨rfl, hb⟩
      replace K0 := hide (K0.out.trans (hb.mono K0.out.size))
      replace rf := hide ((rf.out.below hb).mono hb.size)
      clear hb
      go_wp2_with (fail)
      refine (HMV.out _ ((hA.out.below K0.out).mono K0.out.size)).mono ?_
      rintro e wn ⟨⟨Am, cm, rfl, ho⟩, hb⟩
      replace K0 := hide (K0.out.trans (hb.mono K0.out.size))
      clear hb ho
      go_wp2_with (fail)
      go_ret
      exact ⟨rfl, K0.out⟩
    case inl.inr.inl.false =>
      have hal : ((a.length : Nat) : Int) = 0 := by rw [ha0]; rfl
      have hal2 : (((a.length : Nat) : Int) == 0) = true := by rw [hal]; rfl
      have HMB := hide (fun (W : World) (v : Value) (r : RdK encR 4 W W.heap.size v M) => fun z1 z2 => HM.out W v r z1 z2)
      clear hal ha0
      go_enter Tryz.func6, Tryz.ntmps6
      go_wp2_with (fail)
      refine (alive_any _).mono ?_
      rintro e w1 ⟨rfl, hb⟩
      have K0 := hide hb
      clear hb
      go_wp2_with (fail)
      refine (HFT.out _ ((hA.out.below K0.out).mono K0.out.size)).mono ?_
      rintro e wn ⟨rfl, hb⟩
      replace K0 := hide (K0.out.trans (hb.mono K0.out.size))
      clear hb
      go_wp2_with (fail)
      refine (HFL.out _ ((hA.out.below K0.out).mono K0.out.size)).mono ?_
      rintro e wn ⟨⟨Af, cf, rfl, ho⟩, hb⟩
      replace K0 := hide (K0.out.trans (hb.mono K0.out.size))
      have rf := hide (own_rd ho (fun _ => rfl))
      clear hb ho
      go_wp2_with (fail)
      refine (HCR.out _ ((hA.out.below K0.out).mono K0.out.size)).mono ?_
      rintro e wn ⟨⟨As, cs, rfl, ho⟩, hb⟩
      replace K0 := hide (K0.out.trans (hb.mono K0.out.size))
      replace rf := hide ((rf.out.below hb).mono hb.size)
      have rs := hide (own_rd ho (fun _ => rfl))
      clear hb ho
      go_wp2_with (fail)
      refine (HCK.out _ _ rs.out).mono ?_
      rintro e wn ⟨rfl, hb⟩
      replace K0 := hide (K0.out.trans (hb.mono K0.out.size))
      replace rf := hide ((rf.out.below hb).mono hb.size)
      replace rs := hide ((rs.out.below hb).mono hb.size)
      clear hb
      go_wp2_with (fail)
      refine (HHS.out _ _ rs.out).mono ?_
      rintro e wn ⟨rfl, rfl⟩
      go_wp2_with (fail)
      refine (HHA.out _ ((hA.out.below K0.out).mono K0.out.size)).mono ?_
      rintro e wn ⟨rfl, hb⟩
      replace K0 := hide (K0.out.trans (hb.mono K0.out.size))
      replace rf := hide ((rf.out.below hb).mono hb.size)
      clear hb
      go_wp2_with (fail)
      refine (HMV.out _ ((hA.out.below K0.out).mono K0.out.size)).mono ?_
      rintro e wn ⟨⟨Am, cm, rfl, ho⟩, hb⟩
      replace K0 := hide (K0.out.trans (hb.mono K0.out.size))
      have rm := hide (own_rd ho (fun _ => rfl))
      clear hb ho
      go_wp2_with (fail)
      refine (HMB.out _ _ rm.out _ _).mono ?_
      rintro e wn ⟨⟨An, cn, rfl, ho⟩, hb⟩
      replace K0 := hide (K0.out.trans (hb.mono K0.out.size))
      have rn := hide (own_rd ho (fun _ => rfl))
      clear hb ho
      go_wp2_with (fail)
      go_ret
      exact ⟨rfl, K0.out⟩
    case inl.inr.inl.true =>
      have hal : ((a.length : Nat) : Int) = 0 := by rw [ha0]; rfl
      have hal2 : (((a.length : Nat) : Int) == 0) = true := by rw [hal]; rfl
      have HMB := hide (fun (W : World) (v : Value) (r : RdK encR 4 W W.heap.size v M) => fun z1 z2 => HM.out W v r z1 z2)
      clear hal ha0
      go_enter Tryz.func6, Tryz.ntmps6
      go_wp2_with (fail)
      refine (alive_any _).mono ?_
      rintro e w1 ⟨rfl, hb⟩
      have K0 := hide hb
      clear hb
      go_wp2_with (fail)
      refine (HFT.out _ ((hA.out.below K0.out).mono K0.out.size)).mono ?_
      rintro e wn ⟨rfl, hb⟩
      replace K0 := hide (K0.out.trans (hb.mono K0.out.size))
      clear hb
      go_wp2_with (fail)
      refine (HFL.out _ ((hA.out.below K0.out).mono K0.out.size)).mono ?_
      rintro e wn ⟨⟨Af, cf, rfl, ho⟩, hb⟩
      replace K0 := hide (K0.out.trans (hb.mono K0.out.size))
      have rf := hide (own_rd ho (fun _ => rfl))
      clear hb ho
      go_wp2_with (fail)
      refine (HCR.out _ ((hA.out.below K0.out).mono K0.out.size)).mono ?_
      rintro e wn ⟨⟨As, cs, rfl, ho⟩, hb⟩
      replace K0 := hide (K0.out.trans (hb.mono K0.out.size))
      replace rf := hide ((rf.out.below hb).mono hb.size)
      have rs := hide (own_rd ho (fun _ => rfl))
      clear hb ho
      go_wp2_with (fail)
      refine (HCK.out _ _ rs.out).mono ?_
      rintro e wn ⟨rfl, hb⟩
      replace K0 := hide (K0.out.trans (hb.mono K0.out.size))
      replace rf := hide ((rf.out.below hb).mono hb.size)
      replace rs := hide ((rs.out.below hb).mono hb.size)
      clear hb
      go_wp2_with (fail)
      refine (HHS.out _ _ rs.out).mono ?_
      rintro e wn ⟨rfl, rfl⟩
      go_wp2_with (fail)
      refine (HHA.out _ ((hA.out.below K0.out).mono K0.out.size)).mono ?_
      rintro e wn ⟨rfl, hb⟩
      replace K0 := hide (K0.out.trans (hb.mono K0.out.size))
      replace rf := hide ((rf.out.below hb).mono hb.size)
      clear hb
      go_wp2_with (fail)
      refine (HMV.out _ ((hA.out.below K0.out).mono K0.out.size)).mono ?_
      rintro e wn ⟨⟨Am, cm, rfl, ho⟩, hb⟩
      replace K0 := hide (K0.out.trans (hb.mono K0.out.size))
      have rm := hide (own_rd ho (fun _ => rfl))
      clear hb ho
      go_wp2_with (fail)
      refine (HMB.out _ _ rm.out _ _).mono ?_
      rintro e wn ⟨⟨An, cn, rfl, ho⟩, hb⟩
      replace K0 := hide (K0.out.trans (hb.mono K0.out.size))
      have rn := hide (own_rd ho (fun _ => rfl))
      clear hb ho
      go_wp2_with (fail)
      go_ret
      exact ⟨rfl, K0.out⟩
    case inl.inr.inr.false =>
      have hal2 : (((a.length : Nat) : Int) == 0) = false := by simpa using ha0
      have HMB := hide (fun W v r => HM.out W v r)
      unfold inMv at m1 m2
      obtain ⟨m11, m12⟩ := m1
      obtain ⟨m21, m22⟩ := m2
      clear ha0
      go_enter Tryz.func6, Tryz.ntmps6
      go_wp2_with (fail)
      refine (alive_any _).mono ?_
      rintro e w1 ⟨rfl, hb⟩
      have K0 := hide hb
      clear hb
      go_wp2_with (fail)
      refine (HFT.out _ ((hA.out.below K0.out).mono K0.out.size)).mono ?_
      rintro e wn ⟨rfl, hb⟩
      replace K0 := hide (K0.out.trans (hb.mono K0.out.size))
      clear hb
      go_wp2_with (fail)
      refine (HFL.out _ ((hA.out.below K0.out).mono K0.out.size)).mono ?_
      rintro e wn ⟨⟨Af, cf, rfl, ho⟩, hb⟩
      replace K0 := hide (K0.out.trans (hb.mono K0.out.size))
      have rf := hide (own_rd ho (fun _ => rfl))
      clear hb ho
      go_wp2_with (fail)
      refine (HCR.out _ ((hA.out.below K0.out).mono K0.out.size)).mono ?_
      rintro e wn ⟨⟨As, cs, rfl, ho⟩, hb⟩
      replace K0 := hide (K0.out.trans (hb.mono K0.out.size))
      replace rf := hide ((rf.out.below hb).mono hb.size)
      have rs := hide (own_rd ho (fun _ => rfl))
      clear hb ho
      go_wp2_with (fail)
      refine (HCK.out _ _ rs.out).mono ?_
      rintro e wn ⟨rfl, hb⟩
      replace K0 := hide (K0.out.trans (hb.mono K0.out.size))
      replace rf := hide ((rf.out.below hb).mono hb.size)
      replace rs := hide ((rs.out.below hb).mono hb.size)
      clear hb
      go_wp2_with (fail)
      refine (HHS.out _ _ rs.out).mono ?_
      rintro e wn ⟨rfl, rfl⟩
      go_wp2_with (fail)
      refine (HHA.out _ ((hA.out.below K0.out).mono K0.out.size)).mono ?_
      rintro e wn ⟨rfl, hb⟩
      replace K0 := hide (K0.out.trans (hb.mono K0.out.size))
      replace rf := hide ((rf.out.below hb).mono hb.size)
      clear hb
      go_wp2_with (fail)
      refine (HMV.out _ ((hA.out.below K0.out).mono K0.out.size)).mono ?_
      rintro e wn ⟨⟨Am, cm, rfl, ho⟩, hb⟩
      replace K0 := hide (K0.out.trans (hb.mono K0.out.size))
      have rm := hide (own_rd ho (fun _ => rfl))
      clear hb ho
      go_wp2_with (fail)
      refine (HMB.out _ _ rm.out).mono ?_
      rintro e wn ⟨⟨An, cn, rfl, ho⟩, hb⟩
      replace K0 := hide (K0.out.trans (hb.mono K0.out.size))
      have rn := hide (own_rd ho (fun _ => rfl))
      clear hb ho
      go_wp2_with (fail)
      refine (HSS.out _ _ _ rn.out ((hA.out.below K0.out).mono K0.out.size)).mono ?_
      rintro e wn ⟨rfl, hb⟩
      replace K0 := hide (K0.out.trans (hb.mono K0.out.size))
      clear hb
      go_wp2_with (fail)
      go_ret
      exact ⟨rfl, K0.out⟩
    case inl.inr.inr.true =>
      have hal2 : (((a.length : Nat) : Int) == 0) = false := by simpa using ha0
      have HMB := hide (fun W v r => HM.out W v r)
      unfold inMv at m1 m2
      obtain ⟨m11, m12⟩ := m1
      obtain ⟨m21, m22⟩ := m2
      clear ha0
      go_enter Tryz.func6, Tryz.ntmps6
      go_wp2_with (fail)
      refine (alive_any _).mono ?_
      rintro e w1 ⟨rfl, hb⟩
      have K0 := hide hb
      clear hb
      go_wp2_with (fail)
      refine (HFT.out _ ((hA.out.below K0.out).mono K0.out.size)).mono ?_
      rintro e wn ⟨rfl, hb⟩
      replace K0 := hide (K0.out.trans (hb.mono K0.out.size))
      clear hb
      go_wp2_with (fail)
      refine (HFL.out _ ((hA.out.below K0.out).mono K0.out.size)).mono ?_
      rintro e wn ⟨⟨Af, cf, rfl, ho⟩, hb⟩
      replace K0 := hide (K0.out.trans (hb.mono K0.out.size))
      have rf := hide (own_rd ho (fun _ => rfl))
      clear hb ho
      go_wp2_with (fail)
      refine (HCR.out _ ((hA.out.below K0.out).mono K0.out.size)).mono ?_
      rintro e wn ⟨⟨As, cs, rfl, ho⟩, hb⟩
      replace K0 := hide (K0.out.trans (hb.mono K0.out.size))
      replace rf := hide ((rf.out.below hb).mono hb.size)
      have rs := hide (own_rd ho (fun _ => rfl))
      clear hb ho
      go_wp2_with (fail)
      refine (HCK.out _ _ rs.out).mono ?_
      rintro e wn ⟨rfl, hb⟩
      replace K0 := hide (K0.out.trans (hb.mono K0.out.size))
      replace rf := hide ((rf.out.below hb).mono hb.size)
      replace rs := hide ((rs.out.below hb).mono hb.size)
      clear hb
      go_wp2_with (fail)
      refine (HHS.out _ _ rs.out).mono ?_
      rintro e wn ⟨rfl, rfl⟩
      go_wp2_with (fail)
      refine (HHA.out _ ((hA.out.below K0.out).mono K0.out.size)).mono ?_
      rintro e wn ⟨rfl, hb⟩
      replace K0 := hide (K0.out.trans (hb.mono K0.out.size))
      replace rf := hide ((rf.out.below hb).mono hb.size)
      clear hb
      go_wp2_with (fail)
      refine (HMV.out _ ((hA.out.below K0.out).mono K0.out.size)).mono ?_
      rintro e wn ⟨⟨Am, cm, rfl, ho⟩, hb⟩
      replace K0 := hide (K0.out.trans (hb.mono K0.out.size))
      have rm := hide (own_rd ho (fun _ => rfl))
      clear hb ho
      go_wp2_with (fail)
      refine (HMB.out _ _ rm.out).mono ?_
      rintro e wn ⟨⟨An, cn, rfl, ho⟩, hb⟩
      replace K0 := hide (K0.out.trans (hb.mono K0.out.size))
      have rn := hide (own_rd ho (fun _ => rfl))
      clear hb ho
      go_wp2_with (fail)
      refine (HSS.out _ _ _ rn.out ((hA.out.below K0.out).mono K0.out.size)).mono ?_
      rintro e wn ⟨rfl, hb⟩
      replace K0 := hide (K0.out.trans (hb.mono K0.out.size))
      clear hb
      go_wp2_with (fail)
      go_ret
      exact ⟨rfl, K0.out⟩
    case inr.inl.false =>
      have HFB := hide (fun W v r => (HR.out W v r).1)
      have HA1 := hide (fun W v r => (HR.out W v r).2.1)
      have HRH := hide (fun W v r => (HR.out W v r).2.2)
      go_enter Tryz.func6, Tryz.ntmps6
      go_wp2_with (fail)
      refine (alive_any _).mono ?_
      rintro e w1 ⟨rfl, hb⟩
      have K0 := hide hb
      clear hb
      go_wp2_with (fail)
      refine (HFT.out _ ((hA.out.below K0.out).mono K0.out.size)).mono ?_
      rintro e wn ⟨rfl, hb⟩
      replace K0 := hide (K0.out.trans (hb.mono K0.out.size))
      clear hb
      go_wp2_with (fail)
      refine (HFL.out _ ((hA.out.below K0.out).mono K0.out.size)).mono ?_
      rintro e wn ⟨⟨Af, cf, rfl, ho⟩, hb⟩
      replace K0 := hide (K0.out.trans (hb.mono K0.out.size))
      have rf := hide (own_rd ho (fun _ => rfl))
      clear hb ho
      go_wp2_with (fail)
      refine (HCR.out _ ((hA.out.below K0.out).mono K0.out.size)).mono ?_
      rintro e wn ⟨⟨As, cs, rfl, ho⟩, hb⟩
      replace K0 := hide (K0.out.trans (hb.mono K0.out.size))
      replace rf := hide ((rf.out.below hb).mono hb.size)
      have rs := hide (own_rd ho (fun _ => rfl))
      clear hb ho
      go_wp2_with (fail)
      refine (HCK.out _ _ rs.out).mono ?_
      rintro e wn ⟨rfl, hb⟩
      replace K0 := hide (K0.out.trans (hb.mono K0.out.size))
      replace rf := hide ((rf.out.below hb).mono hb.size)
      replace rs := hide ((rs.out.below hb).mono hb.size)
      clear hb
      go_wp2_with (fail)
      refine (HHS.out _ _ rs.out).mono ?_
      rintro e wn ⟨rfl, rfl⟩
      go_wp2_with (fail)
      refine (HHA.out _ ((hA.out.below K0.out).mono K0.out.size)).mono ?_
      rintro e wn ⟨rfl, hb⟩
      replace K0 := hide (K0.out.trans (hb.mono K0.out.size))
      replace rf := hide ((rf.out.below hb).mono hb.size)
      clear hb
      go_wp2_with (fail)
      refine (HFB.out _ _ rf.out).mono ?_
      rintro e wn ⟨⟨Ab, cb, rfl, ho⟩, hb⟩
      replace K0 := hide (K0.out.trans (hb.mono K0.out.size))
      replace rf := hide ((rf.out.below hb).mono hb.size)
      have rb := hide (own_rd ho (fun _ => rfl))
      clear hb ho
      go_wp2_with (fail)
      refine (HA1.out _ _ rf.out).mono ?_
      rintro e wn ⟨rfl, hb⟩
      replace K0 := hide (K0.out.trans (hb.mono K0.out.size))
      replace rf := hide ((rf.out.below hb).mono hb.size)
      replace rb := hide ((rb.out.below hb).mono hb.size)
      clear hb
      go_wp2_with (fail)
      refine (HA2.out _ _ ((hA.out.below K0.out).mono K0.out.size)).mono ?_
      rintro e wn ⟨rfl, hb⟩
      replace K0 := hide (K0.out.trans (hb.mono K0.out.size))
      replace rf := hide ((rf.out.below hb).mono hb.size)
      replace rb := hide ((rb.out.below hb).mono hb.size)
      clear hb
      go_wp2_with (fail)
      refine (HSS.out _ _ _ rb.out ((hA.out.below K0.out).mono K0.out.size)).mono ?_
      rintro e wn ⟨rfl, hb⟩
      replace K0 := hide (K0.out.trans (hb.mono K0.out.size))
      replace rf := hide ((rf.out.below hb).mono hb.size)
      clear hb
      go_wp2_with (fail)
      refine (HRH.out _ _ rf.out).mono ?_
      rintro e wn ⟨rfl, hb⟩
      replace K0 := hide (K0.out.trans (hb.mono K0.out.size))
      replace rf := hide ((rf.out.below hb).mono hb.size)
      clear hb
      go_wp2_with (fail)
      refine (HHA.out _ ((hA.out.below K0.out).mono K0.out.size)).mono ?_
      rintro e wn ⟨rfl, hb⟩
      replace K0 := hide (K0.out.trans (hb.mono K0.out.size))
      clear hb
      go_wp2_with (fail)
      refine (HMV.out _ ((hA.out.below K0.out).mono K0.out.size)).mono ?_
      rintro e wn ⟨⟨Am, cm, rfl, ho⟩, hb⟩
      replace K0 := hide (K0.out.trans (hb.mono K0.out.size))
      clear hb ho
      go_wp2_with (fail)
      go_ret
      exact ⟨rfl, K0.out⟩
    case inr.inl.true =>
      have HFB := hide (fun W v r => (HR.out W v r).1)
      have HA1 := hide (fun W v r => (HR.out W v r).2.1)
      have HRH := hide (fun W v r => (HR.out W v r).2.2)
      go_enter Tryz.func6, Tryz.ntmps6
      go_wp2_with (fail)
      refine (alive_any _).mono ?_
      rintro e w1 ⟨rfl, hb⟩
      have K0 := hide hb
      clear hb
      go_wp2_with (fail)
      refine (HFT.out _ ((hA.out.below K0.out).mono K0.out.size)).mono ?_
      rintro e wn ⟨rfl, hb⟩
      replace K0 := hide (K0.out.trans (hb.mono K0.out.size))
      clear hb
      go_wp2_with (fail)
      refine (HFL.out _ ((hA.out.below K0.out).mono K0.out.size)).mono ?_
      rintro e wn ⟨⟨Af, cf, rfl, ho⟩, hb⟩
      replace K0 := hide (K0.out.trans (hb.mono K0.out.size))
      have rf := hide (own_rd ho (fun _ => rfl))
      clear hb ho
      go_wp2_with (fail)
      refine (HCR.out _ ((hA.out.below K0.out).mono K0.out.size)).mono ?_
      rintro e wn ⟨⟨As, cs, rfl, ho⟩, hb⟩
      replace K0 := hide (K0.out.trans (hb.mono K0.out.size))
      replace rf := hide ((rf.out.below hb).mono hb.size)
      have rs := hide (own_rd ho (fun _ => rfl))
      clear hb ho
      go_wp2_with (fail)
      refine (HCK.out _ _ rs.out).mono ?_
      rintro e wn ⟨rfl, hb⟩
      replace K0 := hide (K0.out.trans (hb.mono K0.out.size))
      replace rf := hide ((rf.out.below hb).mono hb.size)
      replace rs := hide ((rs.out.below hb).mono hb.size)
      clear hb
      go_wp2_with (fail)
      refine (HHS.out _ _ rs.out).mono ?_
      rintro e wn ⟨rfl, rfl⟩
      go_wp2_with (fail)
      refine (HHA.out _ ((hA.out.below K0.out).mono K0.out.size)).mono ?_
      rintro e wn ⟨rfl, hb⟩
      replace K0 := hide (K0.out.trans (hb.mono K0.out.size))
      replace rf := hide ((rf.out.below hb).mono hb.size)
      clear hb
      go_wp2_with (fail)
      refine (HFB.out _ _ rf.out).mono ?_
      rintro e wn ⟨⟨Ab, cb, rfl, ho⟩, hb⟩
      replace K0 := hide (K0.out.trans (hb.mono K0.out.size))
      replace rf := hide ((rf.out.below hb).mono hb.size)
      have rb := hide (own_rd ho (fun _ => rfl))
      clear hb ho
      go_wp2_with (fail)
      refine (HA1.out _ _ rf.out).mono ?_
      rintro e wn ⟨rfl, hb⟩
      replace K0 := hide (K0.out.trans (hb.mono K0.out.size))
      replace rf := hide ((rf.out.below hb).mono hb.size)
      replace rb := hide ((rb.out.below hb).mono hb.size)
      clear hb
      go_wp2_with (fail)
      refine (HA2.out _ _ ((hA.out.below K0.out).mono K0.out.size)).mono ?_
      rintro e wn ⟨rfl, hb⟩
      replace K0 := hide (K0.out.trans (hb.mono K0.out.size))
      replace rf := hide ((rf.out.below hb).mono hb.size)
      replace rb := hide ((rb.out.below hb).mono hb.size)
      clear hb
      go_wp2_with (fail)
      refine (HSS.out _ _ _ rb.out ((hA.out.below K0.out).mono K0.out.size)).mono ?_
      rintro e wn ⟨rfl, hb⟩
      replace K0 := hide (K0.out.trans (hb.mono K0.out.size))
      replace rf := hide ((rf.out.below hb).mono hb.size)
      clear hb
      go_wp2_with (fail)
      refine (HRH.out _ _ rf.out).mono ?_
      rintro e wn ⟨rfl, hb⟩
      replace K0 := hide (K0.out.trans (hb.mono K0.out.size))
      replace rf := hide ((rf.out.below hb).mono hb.size)
      clear hb
      go_wp2_with (fail)
      refine (HHA.out _ ((hA.out.below K0.out).mono K0.out.size)).mono ?_
      rintro e wn ⟨rfl, hb⟩
      replace K0 := hide (K0.out.trans (hb.mono K0.out.size))
      clear hb
      go_wp2_with (fail)
      refine (HMV.out _ ((hA.out.below K0.out).mono K0.out.size)).mono ?_
      rintro e wn ⟨⟨Am, cm, rfl, ho⟩, hb⟩
      replace K0 := hide (K0.out.trans (hb.mono K0.out.size))
      clear hb ho
      go_wp2_with (fail)
      go_ret
      exact ⟨rfl, K0.out⟩
    case inr.inr.inl.false =>
      have HFB := hide (fun W v r => (HR.out W v r).1)
      have HA1 := hide (fun W v r => (HR.out W v r).2.1)
      have HRH := hide (fun W v r => (HR.out W v r).2.2)
      have hal : ((a.length : Nat) : Int) = 0 := by rw [ha0]; rfl
      have hal2 : (((a.length : Nat) : Int) == 0) = true := by rw [hal]; rfl
      have HMB := hide (fun (W : World) (v : Value) (r : RdK encR 4 W W.heap.size v M) => fun z1 z2 => HM.out W v r z1 z2)
      clear hal ha0
      go_enter Tryz.func6, Tryz.ntmps6
      go_wp2_with (fail)
      refine (alive_any _).mono ?_
      rintro e w1 ⟨rfl, hb⟩
      have K0 := hide hb
      clear hb
      go_wp2_with (fail)
      refine (HFT.out _ ((hA.out.below K0.out).mono K0.out.size)).mono ?_
      rintro e wn ⟨rfl, hb⟩
      replace K0 := hide (K0.out.trans (hb.mono K0.out.size))
      clear hb
      go_wp2_with (fail)
      refine (HFL.out _ ((hA.out.below K0.out).mono K0.out.size)).mono ?_
      rintro e wn ⟨⟨Af, cf, rfl, ho⟩, hb⟩
      replace K0 := hide (K0.out.trans (hb.mono K0.out.size))
      have rf := hide (own_rd ho (fun _ => rfl))
      clear hb ho
      go_wp2_with (fail)
      refine (HCR.out _ ((hA.out.below K0.out).mono K0.out.size)).mono ?_
      rintro e wn ⟨⟨As, cs, rfl, ho⟩, hb⟩
      replace K0 := hide (K0.out.trans (hb.mono K0.out.size))
      replace rf := hide ((rf.out.below hb).mono hb.size)
      have rs := hide (own_rd ho (fun _ => rfl))
      clear hb ho
      go_wp2_with (fail)
      refine (HCK.out _ _ rs.out).mono ?_
      rintro e wn ⟨rfl, hb⟩
      replace K0 := hide (K0.out.trans (hb.mono K0.out.size))
      replace rf := hide ((rf.out.below hb).mono hb.size)
      replace rs := hide ((rs.out.below hb).mono hb.size)
      clear hb
      go_wp2_with (fail)
      refine (HHS.out _ _ rs.out).mono ?_
      rintro e wn ⟨rfl, rfl⟩
      go_wp2_with (fail)
      refine (HHA.out _ ((hA.out.below K0.out).mono K0.out.size)).mono ?_
      rintro e wn ⟨rfl, hb⟩
      replace K0 := hide (K0.out.trans (hb.mono K0.out.size))
      replace rf := hide ((rf.out.below hb).mono hb.size)
      clear hb
      go_wp2_with (fail)
      refine (HFB.out _ _ rf.out).mono ?_
      rintro e wn ⟨⟨Ab, cb, rfl, ho⟩, hb⟩
      replace K0 := hide (K0.out.trans (hb.mono K0.out.size))
      replace rf := hide ((rf.out.below hb).mono hb.size)
      have rb := hide (own_rd ho (fun _ => rfl))
      clear hb ho
      go_wp2_with (fail)
      refine (HA1.out _ _ rf.out).mono ?_
      rintro e wn ⟨rfl, hb⟩
      replace K0 := hide (K0.out.trans (hb.mono K0.out.size))
      replace rf := hide ((rf.out.below hb).mono hb.size)
      replace rb := hide ((rb.out.below hb).mono hb.size)
      clear hb
      go_wp2_with (fail)
      refine (HA2.out _ _ ((hA.out.below K0.out).mono K0.out.size)).mono ?_
      rintro e wn ⟨rfl, hb⟩
      replace K0 := hide (K0.out.trans (hb.mono K0.out.size))
      replace rf := hide ((rf.out.below hb).mono hb.size)
      replace rb := hide ((rb.out.below hb).mono hb.size)
      clear hb
      go_wp2_with (fail)
      refine (HSS.out _ _ _ rb.out ((hA.out.below K0.out).mono K0.out.size)).mono ?_
      rintro e wn ⟨rfl, hb⟩
      replace K0 := hide (K0.out.trans (hb.mono K0.out.size))
      replace rf := hide ((rf.out.below hb).mono hb.size)
      clear hb
      go_wp2_with (fail)
      refine (HRH.out _ _ rf.out).mono ?_
      rintro e wn ⟨rfl, hb⟩
      replace K0 := hide (K0.out.trans (hb.mono K0.out.size))
      replace rf := hide ((rf.out.below hb).mono hb.size)
      clear hb
      go_wp2_with (fail)
      refine (HHA.out _ ((hA.out.below K0.out).mono K0.out.size)).mono ?_
      rintro e wn ⟨rfl, hb⟩
      replace K0 := hide (K0.out.trans (hb.mono K0.out.size))
      clear hb
      go_wp2_with (fail)
      refine (HMV.out _ ((hA.out.below K0.out).mono K0.out.size)).mono ?_
      rintro e wn ⟨⟨Am, cm, rfl, ho⟩, hb⟩
      replace K0 := hide (K0.out.trans (hb.mono K0.out.size))
      have rm := hide (own_rd ho (fun _ => rfl))
      clear hb ho
      go_wp2_with (fail)
      refine (HMB.out _ _ rm.out _ _).mono ?_
      rintro e wn ⟨⟨An, cn, rfl, ho⟩, hb⟩
      replace K0 := hide (K0.out.trans (hb.mono K0.out.size))
      have rn := hide (own_rd ho (fun _ => rfl))
      clear hb ho
      go_wp2_with (fail)
      go_ret
      exact ⟨rfl, K0.out⟩
    case inr.inr.inl.true =>
      have HFB := hide (fun W v r => (HR.out W v r).1)
      have HA1 := hide (fun W v r => (HR.out W v r).2.1)
      have HRH := hide (fun W v r => (HR.out W v r).2.2)
      have hal : ((a.length : Nat) : Int) = 0 := by rw [ha0]; rfl
      have hal2 : (((a.length : Nat) : Int) == 0) = true := by rw [hal]; rfl
      have HMB := hide (fun (W : World) (v : Value) (r : RdK encR 4 W W.heap.size v M) => fun z1 z2 => HM.out W v r z1 z2)
      clear hal ha0
      go_enter Tryz.func6, Tryz.ntmps6
      go_wp2_with (fail)
      refine (alive_any _).mono ?_
      rintro e w1 ⟨rfl, hb⟩
      have K0 := hide hb
      clear hb
      go_wp2_with (fail)
      refine (HFT.out _ ((hA.out.below K0.out).mono K0.out.size)).mono ?_
      rintro e wn ⟨rfl, hb⟩
      replace K0 := hide (K0.out.trans (hb.mono K0.out.size))
      clear hb
      go_wp2_with (fail)
      refine (HFL.out _ ((hA.out.below K0.out).mono K0.out.size)).mono ?_
      rintro e wn ⟨⟨Af, cf, rfl, ho⟩, hb⟩
      replace K0 := hide (K0.out.trans (hb.mono K0.out.size))
      have rf := hide (own_rd ho (fun _ => rfl))
      clear hb ho
      go_wp2_with (fail)
      refine (HCR.out _ ((hA.out.below K0.out).mono K0.out.size)).mono ?_
      rintro e wn ⟨⟨As, cs, rfl, ho⟩, hb⟩
      replace K0 := hide (K0.out.trans (hb.mono K0.out.size))
      replace rf := hide ((rf.out.below hb).mono hb.size)
      have rs := hide (own_rd ho (fun _ => rfl))
      clear hb ho
      go_wp2_with (fail)
      refine (HCK.out _ _ rs.out).mono ?_
      rintro e wn ⟨rfl, hb⟩
      replace K0 := hide (K0.out.trans (hb.mono K0.out.size))
      replace rf := hide ((rf.out.below hb).mono hb.size)
      replace rs := hide ((rs.out.below hb).mono hb.size)
      clear hb
      go_wp2_with (fail)
      refine (HHS.out _ _ rs.out).mono ?_
      rintro e wn ⟨rfl, rfl⟩
      go_wp2_with (fail)
      refine (HHA.out _ ((hA.out.below K0.out).mono K0.out.size)).mono ?_
      rintro e wn ⟨rfl, hb⟩
      replace K0 := hide (K0.out.trans (hb.mono K0.out.size))
      replace rf := hide ((rf.out.below hb).mono hb.size)
      clear hb
      go_wp2_with (fail)
      refine (HFB.out _ _ rf.out).mono ?_
      rintro e wn ⟨⟨Ab, cb, rfl, ho⟩, hb⟩
      replace K0 := hide (K0.out.trans (hb.mono K0.out.size))
      replace rf := hide ((rf.out.below hb).mono hb.size)
      have rb := hide (own_rd ho (fun _ => rfl))
      clear hb ho
      go_wp2_with (fail)
      refine (HA1.out _ _ rf.out).mono ?_
      rintro e wn ⟨rfl, hb⟩
      replace K0 := hide (K0.out.trans (hb.mono K0.out.size))
      replace rf := hide ((rf.out.below hb).mono hb.size)
      replace rb := hide ((rb.out.below hb).mono hb.size)
      clear hb
      go_wp2_with (fail)
      refine (HA2.out _ _ ((hA.out.below K0.out).mono K0.out.size)).mono ?_
      rintro e wn ⟨rfl, hb⟩
      replace K0 := hide (K0.out.trans (hb.mono K0.out.size))
      replace rf := hide ((rf.out.below hb).mono hb.size)
      replace rb := hide ((rb.out.below hb).mono hb.size)
      clear hb
      go_wp2_with (fail)
      refine (HSS.out _ _ _ rb.out ((hA.out.below K0.out).mono K0.out.size)).mono ?_
      rintro e wn ⟨rfl, hb⟩
      replace K0 := hide (K0.out.trans (hb.mono K0.out.size))
      replace rf := hide ((rf.out.below hb).mono hb.size)
      clear hb
      go_wp2_with (fail)
      refine (HRH.out _ _ rf.out).mono ?_
      rintro e wn ⟨rfl, hb⟩
      replace K0 := hide (K0.out.trans (hb.mono K0.out.size))
      replace rf := hide ((rf.out.below hb).mono hb.size)
      clear hb
      go_wp2_with (fail)
      refine (HHA.out _ ((hA.out.below K0.out).mono K0.out.size)).mono ?_
      rintro e wn ⟨rfl, hb⟩
      replace K0 := hide (K0.out.trans (hb.mono K0.out.size))
      clear hb
      go_wp2_with (fail)
      refine (HMV.out _ ((hA.out.below K0.out).mono K0.out.size)).mono ?_
      rintro e wn ⟨⟨Am, cm, rfl, ho⟩, hb⟩
      replace K0 := hide (K0.out.trans (hb.mono K0.out.size))
      have rm := hide (own_rd ho (fun _ => rfl))
      clear hb ho
      go_wp2_with (fail)
      refine (HMB.out _ _ rm.out _ _).mono ?_
      rintro e wn ⟨⟨An, cn, rfl, ho⟩, hb⟩
      replace K0 := hide (K0.out.trans (hb.mono K0.out.size))
      have rn := hide (own_rd ho (fun _ => rfl))
      clear hb ho
      go_wp2_with (fail)
      go_ret
      exact ⟨rfl, K0.out⟩
    case inr.inr.inr.false =>
      have HFB := hide (fun W v r => (HR.out W v r).1)
      have HA1 := hide (fun W v r => (HR.out W v r).2.1)
      have HRH := hide (fun W v r => (HR.out W v r).2.2)
      have hal2 : (((a.length : Nat) : Int) == 0) = false := by simpa using ha0
      have HMB := hide (fun W v r => HM.out W v r)
      unfold inMv at m1 m2
      obtain ⟨m11, m12⟩ := m1
      obtain ⟨m21, m22⟩ := m2
      clear ha0
      go_enter Tryz.func6, Tryz.ntmps6
      go_wp2_with (fail)
      refine (alive_any _).mono ?_
      rintro e w1 ⟨rfl, hb⟩
      have K0 := hide hb
      clear hb
      go_wp2_with (fail)
      refine (HFT.out _ ((hA.out.below K0.out).mono K0.out.size)).mono ?_
      rintro e wn ⟨rfl, hb⟩
      replace K0 := hide (K0.out.trans (hb.mono K0.out.size))
      clear hb
      go_wp2_with (fail)
      refine (HFL.out _ ((hA.out.below K0.out).mono K0.out.size)).mono ?_
      rintro e wn ⟨⟨Af, cf, rfl, ho⟩, hb⟩
      replace K0 := hide (K0.out.trans (hb.mono K0.out.size))
      have rf := hide (own_rd ho (fun _ => rfl))
      clear hb ho
      go_wp2_with (fail)
      refine (HCR.out _ ((hA.out.below K0.out).mono K0.out.size)).mono ?_
      rintro e wn ⟨⟨As, cs, rfl, ho⟩, hb⟩
      replace K0 := hide (K0.out.trans (hb.mono K0.out.size))
      replace rf := hide ((rf.out.below hb).mono hb.size)
      have rs := hide (own_rd ho (fun _ => rfl))
      clear hb ho
      go_wp2_with (fail)
      refine (HCK.out _ _ rs.out).mono ?_
      rintro e wn ⟨rfl, hb⟩
      replace K0 := hide (K0.out.trans (hb.mono K0.out.size))
      replace rf := hide ((rf.out.below hb).mono hb.size)
      replace rs := hide ((rs.out.below hb).mono hb.size)
      clear hb
      go_wp2_with (fail)
      refine (HHS.out _ _ rs.out).mono ?_
      rintro e wn ⟨rfl, rfl⟩
      go_wp2_with (fail)
      refine (HHA.out _ ((hA.out.below K0.out).mono K0.out.size)).mono ?_
      rintro e wn ⟨rfl, hb⟩
      replace K0 := hide (K0.out.trans (hb.mono K0.out.size))
      replace rf := hide ((rf.out.below hb).mono hb.size)
      clear hb
      go_wp2_with (fail)
      refine (HFB.out _ _ rf.out).mono ?_
      rintro e wn ⟨⟨Ab, cb, rfl, ho⟩, hb⟩
      replace K0 := hide (K0.out.trans (hb.mono K0.out.size))
      replace rf := hide ((rf.out.below hb).mono hb.size)
      have rb := hide (own_rd ho (fun _ => rfl))
      clear hb ho
      go_wp2_with (fail)
      refine (HA1.out _ _ rf.out).mono ?_
      rintro e wn ⟨rfl, hb⟩
      replace K0 := hide (K0.out.trans (hb.mono K0.out.size))
      replace rf := hide ((rf.out.below hb).mono hb.size)
      replace rb := hide ((rb.out.below hb).mono hb.size)
      clear hb
      go_wp2_with (fail)
      refine (HA2.out _ _ ((hA.out.below K0.out).mono K0.out.size)).mono ?_
      rintro e wn ⟨rfl, hb⟩
      replace K0 := hide (K0.out.trans (hb.mono K0.out.size))
      replace rf := hide ((rf.out.below hb).mono hb.size)
      replace rb := hide ((rb.out.below hb).mono hb.size)
      clear hb
      go_wp2_with (fail)
      refine (HSS.out _ _ _ rb.out ((hA.out.below K0.out).mono K0.out.size)).mono ?_
      rintro e wn ⟨rfl, hb⟩
      replace K0 := hide (K0.out.trans (hb.mono K0.out.size))
      replace rf := hide ((rf.out.below hb).mono hb.size)
      clear hb
      go_wp2_with (fail)
      refine (HRH.out _ _ rf.out).mono ?_
      rintro e wn ⟨rfl, hb⟩
      replace K0 := hide (K0.out.trans (hb.mono K0.out.size))
      replace rf := hide ((rf.out.below hb).mono hb.size)
      clear hb
      go_wp2_with (fail)
      refine (HHA.out _ ((hA.out.below K0.out).mono K0.out.size)).mono ?_
      rintro e wn ⟨rfl, hb⟩
      replace K0 := hide (K0.out.trans (hb.mono K0.out.size))
      clear hb
      go_wp2_with (fail)
      refine (HMV.out _ ((hA.out.below K0.out).mono K0.out.size)).mono ?_
      rintro e wn ⟨⟨Am, cm, rfl, ho⟩, hb⟩
      replace K0 := hide (K0.out.trans (hb.mono K0.out.size))
      have rm := hide (own_rd ho (fun _ => rfl))
      clear hb ho
      go_wp2_with (fail)
      refine (HMB.out _ _ rm.out).mono ?_
      rintro e wn ⟨⟨An, cn, rfl, ho⟩, hb⟩
      replace K0 := hide (K0.out.trans (hb.mono K0.out.size))
      have rn := hide (own_rd ho (fun _ => rfl))
      clear hb ho
      go_wp2_with (fail)
      refine (HSS.out _ _ _ rn.out ((hA.out.below K0.out).mono K0.out.size)).mono ?_
      rintro e wn ⟨rfl, hb⟩
      replace K0 := hide (K0.out.trans (hb.mono K0.out.size))
      clear hb
      go_wp2_with (fail)
      go_ret
      exact ⟨rfl, K0.out⟩
    case inr.inr.inr.true =>
      have HFB := hide (fun W v r => (HR.out W v r).1)
      have HA1 := hide (fun W v r => (HR.out W v r).2.1)
      have HRH := hide (fun W v r => (HR.out W v r).2.2)
      have hal2 : (((a.length : Nat) : Int) == 0) = false := by simpa using ha0
      have HMB := hide (fun W v r => HM.out W v r)
      unfold inMv at m1 m2
      obtain ⟨m11, m12⟩ := m1
      obtain ⟨m21, m22⟩ := m2
      clear ha0
      go_enter Tryz.func6, Tryz.ntmps6
      go_wp2_with (fail)
      refine (alive_any _).mono ?_
      rintro e w1 ⟨rfl, hb⟩
      have K0 := hide hb
      clear hb
      go_wp2_with (fail)
      refine (HFT.out _ ((hA.out.below K0.out).mono K0.out.size)).mono ?_
      rintro e wn ⟨rfl, hb⟩
      replace K0 := hide (K0.out.trans (hb.mono K0.out.size))
      clear hb
      go_wp2_with (fail)
      refine (HFL.out _ ((hA.out.below K0.out).mono K0.out.size)).mono ?_
      rintro e wn ⟨⟨Af, cf, rfl, ho⟩, hb⟩
      replace K0 := hide (K0.out.trans (hb.mono K0.out.size))
      have rf := hide (own_rd ho (fun _ => rfl))
      clear hb ho
      go_wp2_with (fail)
      refine (HCR.out _ ((hA.out.below K0.out).mono K0.out.size)).mono ?_
      rintro e wn ⟨⟨As, cs, rfl, ho⟩, hb⟩
      replace K0 := hide (K0.out.trans (hb.mono K0.out.size))
      replace rf := hide ((rf.out.below hb).mono hb.size)
      have rs := hide (own_rd ho (fun _ => rfl))
      clear hb ho
      go_wp2_with (fail)
      refine (HCK.out _ _ rs.out).mono ?_
      rintro e wn ⟨rfl, hb⟩
      replace K0 := hide (K0.out.trans (hb.mono K0.out.size))
      replace rf := hide ((rf.out.below hb).mono hb.size)
      replace rs := hide ((rs.out.below hb).mono hb.size)
      clear hb
      go_wp2_with (fail)
      refine (HHS.out _ _ rs.out).mono ?_
      rintro e wn ⟨rfl, rfl⟩
      go_wp2_with (fail)
      refine (HHA.out _ ((hA.out.below K0.out).mono K0.out.size)).mono ?_
      rintro e wn ⟨rfl, hb⟩
      replace K0 := hide (K0.out.trans (hb.mono K0.out.size))
      replace rf := hide ((rf.out.below hb).mono hb.size)
      clear hb
      go_wp2_with (fail)
      refine (HFB.out _ _ rf.out).mono ?_
      rintro e wn ⟨⟨Ab, cb, rfl, ho⟩, hb⟩
      replace K0 := hide (K0.out.trans (hb.mono K0.out.size))
      replace rf := hide ((rf.out.below hb).mono hb.size)
      have rb := hide (own_rd ho (fun _ => rfl))
      clear hb ho
      go_wp2_with (fail)
      refine (HA1.out _ _ rf.out).mono ?_
      rintro e wn ⟨rfl, hb⟩
      replace K0 := hide (K0.out.trans (hb.mono K0.out.size))
      replace rf := hide ((rf.out.below hb).mono hb.size)
      replace rb := hide ((rb.out.below hb).mono hb.size)
      clear hb
      go_wp2_with (fail)
      refine (HA2.out _ _ ((hA.out.below K0.out).mono K0.out.size)).mono ?_
      rintro e wn ⟨rfl, hb⟩
      replace K0 := hide (K0.out.trans (hb.mono K0.out.size))
      replace rf := hide ((rf.out.below hb).mono hb.size)
      replace rb := hide ((rb.out.below hb).mono hb.size)
      clear hb
      go_wp2_with (fail)
      refine (HSS.out _ _ _ rb.out ((hA.out.below K0.out).mono K0.out.size)).mono ?_
      rintro e wn ⟨rfl, hb⟩
      replace K0 := hide (K0.out.trans (hb.mono K0.out.size))
      replace rf := hide ((rf.out.below hb).mono hb.size)
      clear hb
      go_wp2_with (fail)
      refine (HRH.out _ _ rf.out).mono ?_
      rintro e wn ⟨rfl, hb⟩
      replace K0 := hide (K0.out.trans (hb.mono K0.out.size))
      replace rf := hide ((rf.out.below hb).mono hb.size)
      clear hb
      go_wp2_with (fail)
      refine (HHA.out _ ((hA.out.below K0.out).mono K0.out.size)).mono ?_
      rintro e wn ⟨rfl, hb⟩
      replace K0 := hide (K0.out.trans (hb.mono K0.out.size))
      clear hb
      go_wp2_with (fail)
      refine (HMV.out _ ((hA.out.below K0.out).mono K0.out.size)).mono ?_
      rintro e wn ⟨⟨Am, cm, rfl, ho⟩, hb⟩
      replace K0 := hide (K0.out.trans (hb.mono K0.out.size))
      have rm := hide (own_rd ho (fun _ => rfl))
      clear hb ho
      go_wp2_with (fail)
      refine (HMB.out _ _ rm.out).mono ?_
      rintro e wn ⟨⟨An, cn, rfl, ho⟩, hb⟩
      replace K0 := hide (K0.out.trans (hb.mono K0.out.size))
      have rn := hide (own_rd ho (fun _ => rfl))
      clear hb ho
      go_wp2_with (fail)
      refine (HSS.out _ _ _ rn.out ((hA.out.below K0.out).mono K0.out.size)).mono ?_
      rintro e wn ⟨rfl, hb⟩
      replace K0 := hide (K0.out.trans (hb.mono K0.out.size))
      clear hb
      go_wp2_with (fail)
      go_ret
      exact ⟨rfl, K0.out⟩
end Go.Proofs.YtamnaojheecopaaGreat
