/- Texts laid together: MeshD, MeshE, MTexC, TexU, LawMakes, TexQ, LookH. Lemmas for the statements of this seat; no condition. -/
import Derived.Test.YtjlfdgoijalfaaaGreatPk8
import Derived.Test.YtjlfdgoijalfaaaGreatPk6
import Derived.Test.YtjlfdgoijalfaaaGreatPk7
import Derived.Test.YtjlfdgoijalfaaaGreatPk5
import Derived.Laws.StructEq
import Derived.Deep.QuietTactic
import Derived.BigQuiet

/- The reference's checks of a quad: gambrelref16.In and Coord, gambrelref19.others, Valid and Check. -/
namespace Go.Proofs.YtjlfdgoijalfaaaGreat
open Go.RowKit
set_option linter.unusedVariables false
set_option linter.unusedSimpArgs false
attribute [local go_sem] Oper.semAt_some

theorem fine3_iff (x y z : Int) : fine3 x y z = (decide (-1000000 ≤ x) && decide (-1000000 ≤ y) && decide (-1000000 ≤ z) && decide (x ≤ 1000000) && decide (y ≤ 1000000) && decide (z ≤ 1000000)) := by
  have h : fine3 x y z = decide (-1000000 ≤ x ∧ -1000000 ≤ y ∧ -1000000 ≤ z ∧ x ≤ 1000000 ∧ y ≤ 1000000 ∧ z ≤ 1000000) := by
    unfold fine3
    rw [← Bool.decide_and]
    exact decide_eq_decide.2 (by omega)
  rw [h]
  simp only [Bool.decide_and, Bool.and_assoc]
set_option maxHeartbeats 4000000 in
theorem rIn16_any (x y z : Int) (w : World) : Calls Tryz.prog 25 #[.agg #[.int .i64 x, .int .i64 y, .int .i64 z], .int .i64 (-1000000)] w fun e w' => e = .returned (.bool (fine3 x y z)) ∧ Below w.heap.size w w' := by
  rw [fine3_iff]
  have hb := fun (b : Bool) => (Bool.eq_false_or_eq_true b).symm
  rcases hb (decide (-1000000 ≤ x)) with z0 | z0
  · simp only [z0, Bool.and_false, Bool.false_and, Bool.true_and, Bool.and_true]
    clear hb
    go_enter Tryz.func25, Tryz.ntmps25
    go_wp2
    go_ret
    exact ⟨rfl, (Below.refl _ _).alloc (Nat.le_refl _) _⟩
  rcases hb (decide (-1000000 ≤ y)) with z1 | z1
  · simp only [z0, z1, Bool.and_false, Bool.false_and, Bool.true_and, Bool.and_true]
    clear hb
    go_enter Tryz.func25, Tryz.ntmps25
    go_wp2
    go_ret
    exact ⟨rfl, (Below.refl _ _).alloc (Nat.le_refl _) _⟩
  rcases hb (decide (-1000000 ≤ z)) with z2 | z2
  · simp only [z0, z1, z2, Bool.and_false, Bool.false_and, Bool.true_and, Bool.and_true]
    clear hb
    go_enter Tryz.func25, Tryz.ntmps25
    go_wp2
    go_ret
    exact ⟨rfl, (Below.refl _ _).alloc (Nat.le_refl _) _⟩
  rcases hb (decide (x ≤ 1000000)) with z3 | z3
  · simp only [z0, z1, z2, z3, Bool.and_false, Bool.false_and, Bool.true_and, Bool.and_true]
    clear hb
    go_enter Tryz.func25, Tryz.ntmps25
    go_wp2
    go_ret
    exact ⟨rfl, (Below.refl _ _).alloc (Nat.le_refl _) _⟩
  rcases hb (decide (y ≤ 1000000)) with z4 | z4
  · simp only [z0, z1, z2, z3, z4, Bool.and_false, Bool.false_and, Bool.true_and, Bool.and_true]
    clear hb
    go_enter Tryz.func25, Tryz.ntmps25
    go_wp2
    go_ret
    exact ⟨rfl, (Below.refl _ _).alloc (Nat.le_refl _) _⟩
  rcases hb (decide (z ≤ 1000000)) with z5 | z5
  · simp only [z0, z1, z2, z3, z4, z5, Bool.and_false, Bool.false_and, Bool.true_and, Bool.and_true]
    clear hb
    go_enter Tryz.func25, Tryz.ntmps25
    go_wp2
    go_ret
    exact ⟨rfl, (Below.refl _ _).alloc (Nat.le_refl _) _⟩
  simp only [z0, z1, z2, z3, z4, z5, Bool.and_self]
  clear hb
  go_enter Tryz.func25, Tryz.ntmps25
  go_wp2
  go_ret
  exact ⟨rfl, (Below.refl _ _).alloc (Nat.le_refl _) _⟩
theorem rothers0_any (w : World) : Calls Tryz.prog 26 #[.int .i64 0] w fun e w' => e = .returned (.tuple #[.int .i64 1, .int .i64 2]) ∧ Below w.heap.size w w' := by
  go_enter Tryz.func26, Tryz.ntmps26
  go_wp2
  go_ret2
  exact ⟨rfl, Below.refl _ _⟩
theorem rcoord0_any (x y z : Int) (w : World) : Calls Tryz.prog 27 #[.agg #[.int .i64 x, .int .i64 y, .int .i64 z], .int .i64 0] w fun e w' => e = .returned (.int .i64 x) ∧ Below w.heap.size w w' := by
  go_enter Tryz.func27, Tryz.ntmps27
  go_wp2
  go_ret
  exact ⟨rfl, (Below.refl _ _).alloc (Nat.le_refl _) _⟩
theorem rothers1_any (w : World) : Calls Tryz.prog 26 #[.int .i64 1] w fun e w' => e = .returned (.tuple #[.int .i64 0, .int .i64 2]) ∧ Below w.heap.size w w' := by
  go_enter Tryz.func26, Tryz.ntmps26
  go_wp2
  go_ret2
  exact ⟨rfl, Below.refl _ _⟩
theorem rcoord1_any (x y z : Int) (w : World) : Calls Tryz.prog 27 #[.agg #[.int .i64 x, .int .i64 y, .int .i64 z], .int .i64 1] w fun e w' => e = .returned (.int .i64 y) ∧ Below w.heap.size w w' := by
  go_enter Tryz.func27, Tryz.ntmps27
  go_wp2
  go_ret
  exact ⟨rfl, (Below.refl _ _).alloc (Nat.le_refl _) _⟩
theorem rothers2_any (w : World) : Calls Tryz.prog 26 #[.int .i64 2] w fun e w' => e = .returned (.tuple #[.int .i64 0, .int .i64 1]) ∧ Below w.heap.size w w' := by
  go_enter Tryz.func26, Tryz.ntmps26
  go_wp2
  go_ret2
  exact ⟨rfl, Below.refl _ _⟩
theorem rcoord2_any (x y z : Int) (w : World) : Calls Tryz.prog 27 #[.agg #[.int .i64 x, .int .i64 y, .int .i64 z], .int .i64 2] w fun e w' => e = .returned (.int .i64 z) ∧ Below w.heap.size w w' := by
  go_enter Tryz.func27, Tryz.ntmps27
  go_wp2
  go_ret
  exact ⟨rfl, (Below.refl _ _).alloc (Nat.le_refl _) _⟩
theorem chk_ok8 (q : Qd7) : (chkQ q = 0 ∧ okQ q = true) ∨ (chkQ q = 8 ∧ okQ q = false) := by
  unfold chkQ
  cases h : okQ q with
  | true => exact .inl ⟨if_pos rfl, rfl⟩
  | false => exact .inr ⟨if_neg (by simp), rfl⟩
set_option maxRecDepth 100000 in
set_option maxHeartbeats 4000000 in
theorem rvalid6_any (dd lx ly lz hx hy hz : Int) (hd : 5 < dd) (w : World) : Calls Tryz.prog 10 #[.agg #[.int .u8 dd, .int .i64 lx, .int .i64 ly, .int .i64 lz, .int .i64 hx, .int .i64 hy, .int .i64 hz]] w fun e w' => e = .returned (.bool (okQ ⟨dd, lx, ly, lz, hx, hy, hz⟩)) ∧ Below w.heap.size w w' := by
  have hq : okQ ⟨dd, lx, ly, lz, hx, hy, hz⟩ = false := by
    unfold okQ
    rw [decide_eq_false (by show ¬ dd ≤ 5; omega)]
    rfl
  rw [hq]
  have zd : decide (5 < dd) = true := decide_eq_true hd
  clear hd hq
  have HD : Hid (Below w.heap.size w (w.alloc (.cells #[.int .u8 dd, .int .i64 lx, .int .i64 ly, .int .i64 lz, .int .i64 hx, .int .i64 hy, .int .i64 hz] 25))) := hide ((Below.refl _ _).alloc (Nat.le_refl _) _)
  obtain ⟨w1, hw1⟩ : ∃ x, x = w.alloc (.cells #[.int .u8 dd, .int .i64 lx, .int .i64 ly, .int .i64 lz, .int .i64 hx, .int .i64 hy, .int .i64 hz] 25) := ⟨_, rfl⟩
  have hw : w.heap.size < w1.heap.size := by rw [hw1]; simp
  have d0 : w1.cell? ⟨w.heap.size, 0, none⟩ = some (.int .u8 dd) := by rw [hw1]; simp [go_sem]
  have d1 : w1.cell? ⟨w.heap.size, 1, none⟩ = some (.int .i64 lx) := by rw [hw1]; simp [go_sem]
  have d2 : w1.cell? ⟨w.heap.size, 2, none⟩ = some (.int .i64 ly) := by rw [hw1]; simp [go_sem]
  have d3 : w1.cell? ⟨w.heap.size, 3, none⟩ = some (.int .i64 lz) := by rw [hw1]; simp [go_sem]
  have d4 : w1.cell? ⟨w.heap.size, 4, none⟩ = some (.int .i64 hx) := by rw [hw1]; simp [go_sem]
  have d5 : w1.cell? ⟨w.heap.size, 5, none⟩ = some (.int .i64 hy) := by rw [hw1]; simp [go_sem]
  have d6 : w1.cell? ⟨w.heap.size, 6, none⟩ = some (.int .i64 hz) := by rw [hw1]; simp [go_sem]
  rw [← hw1] at HD
  go_enter Tryz.func10, Tryz.ntmps10
  go_upto_region 1 with fail
  rw [← hw1]
  clear hw1
  go_wp2_with (fail)
  go_ret
  exact ⟨rfl, HD.out⟩
set_option maxRecDepth 100000 in
set_option maxHeartbeats 8000000 in
theorem rvalid0_any (dd lx ly lz hx hy hz : Int) (hd : dd = 0 ∨ dd = 1) (w : World) : Calls Tryz.prog 10 #[.agg #[.int .u8 dd, .int .i64 lx, .int .i64 ly, .int .i64 lz, .int .i64 hx, .int .i64 hy, .int .i64 hz]] w fun e w' => e = .returned (.bool (okQ ⟨dd, lx, ly, lz, hx, hy, hz⟩)) ∧ Below w.heap.size w w' := by
  have HCE : okQ ⟨dd, lx, ly, lz, hx, hy, hz⟩ = (fine3 lx ly lz && fine3 hx hy hz && (lx == hx) && decide (ly < hy) && decide (lz < hz)) := by
    rcases hd with rfl | rfl <;> simp [okQ, levQ, flatR]
  rw [HCE]
  have zd : decide (5 < dd) = false := decide_eq_false (by omega)
  have hquo : Int.tdiv dd 2 = 0 := by rcases hd with rfl | rfl <;> rfl
  have hcv : IntKind.i64.wrap dd = dd := IntWalk.i64_in _ (by omega)
  clear hd HCE
  obtain ⟨ua, hua⟩ : ∃ u : Int, u = 1 := ⟨_, rfl⟩
  obtain ⟨ub, hub⟩ : ∃ u : Int, u = 2 := ⟨_, rfl⟩
  have HO : Hid (∀ W : World, Calls Tryz.prog 26 #[.int .i64 0] W fun e w' => e = .returned (.tuple #[.int .i64 ua, .int .i64 ub]) ∧ Below W.heap.size W w') := hide (fun W => by rw [hua, hub]; exact rothers0_any W)
  have HCA : Hid (∀ (x y z : Int) (W : World), Calls Tryz.prog 27 #[.agg #[.int .i64 x, .int .i64 y, .int .i64 z], .int .i64 ua] W fun e w' => e = .returned (.int .i64 y) ∧ Below W.heap.size W w') := hide (fun x y z W => by rw [hua]; exact rcoord1_any x y z W)
  have HCB : Hid (∀ (x y z : Int) (W : World), Calls Tryz.prog 27 #[.agg #[.int .i64 x, .int .i64 y, .int .i64 z], .int .i64 ub] W fun e w' => e = .returned (.int .i64 z) ∧ Below W.heap.size W w') := hide (fun x y z W => by rw [hub]; exact rcoord2_any x y z W)
  clear hua hub
  have HM1 := hide (fun W => rIn16_any lx ly lz W)
  have HM2 := hide (fun W => rIn16_any hx hy hz W)
  have HD : Hid (Below w.heap.size w (w.alloc (.cells #[.int .u8 dd, .int .i64 lx, .int .i64 ly, .int .i64 lz, .int .i64 hx, .int .i64 hy, .int .i64 hz] 25))) := hide ((Below.refl _ _).alloc (Nat.le_refl _) _)
  obtain ⟨w1, hw1⟩ : ∃ x, x = w.alloc (.cells #[.int .u8 dd, .int .i64 lx, .int .i64 ly, .int .i64 lz, .int .i64 hx, .int .i64 hy, .int .i64 hz] 25) := ⟨_, rfl⟩
  have hw : w.heap.size < w1.heap.size := by rw [hw1]; simp
  have d0 : w1.cell? ⟨w.heap.size, 0, none⟩ = some (.int .u8 dd) := by rw [hw1]; simp [go_sem]
  have d1 : w1.cell? ⟨w.heap.size, 1, none⟩ = some (.int .i64 lx) := by rw [hw1]; simp [go_sem]
  have d2 : w1.cell? ⟨w.heap.size, 2, none⟩ = some (.int .i64 ly) := by rw [hw1]; simp [go_sem]
  have d3 : w1.cell? ⟨w.heap.size, 3, none⟩ = some (.int .i64 lz) := by rw [hw1]; simp [go_sem]
  have d4 : w1.cell? ⟨w.heap.size, 4, none⟩ = some (.int .i64 hx) := by rw [hw1]; simp [go_sem]
  have d5 : w1.cell? ⟨w.heap.size, 5, none⟩ = some (.int .i64 hy) := by rw [hw1]; simp [go_sem]
  have d6 : w1.cell? ⟨w.heap.size, 6, none⟩ = some (.int .i64 hz) := by rw [hw1]; simp [go_sem]
  rw [← hw1] at HD
  cases hf1 : fine3 lx ly lz with
  | false =>
    have HM := HM1
    rw [hf1] at HM
    simp only [Bool.false_and]
    clear hf1 HM1 HM2
    go_enter Tryz.func10, Tryz.ntmps10
    go_upto_region 1 with fail
    rw [← hw1]
    clear hw1
    go_wp2_with (fail)
    refine (HM.out _).mono ?_
    rintro e w2 ⟨rfl, hb⟩
    have HB2 := hide (HD.out.trans (hb.mono HD.out.size))
    replace d0 := (hb.cell (p := ⟨w.heap.size, 0, none⟩) hw).trans d0
    replace d1 := (hb.cell (p := ⟨w.heap.size, 1, none⟩) hw).trans d1
    replace d2 := (hb.cell (p := ⟨w.heap.size, 2, none⟩) hw).trans d2
    replace d3 := (hb.cell (p := ⟨w.heap.size, 3, none⟩) hw).trans d3
    replace d4 := (hb.cell (p := ⟨w.heap.size, 4, none⟩) hw).trans d4
    replace d5 := (hb.cell (p := ⟨w.heap.size, 5, none⟩) hw).trans d5
    replace d6 := (hb.cell (p := ⟨w.heap.size, 6, none⟩) hw).trans d6
    replace hw := Nat.lt_of_lt_of_le hw hb.size
    clear hb HD HM
    go_wp2_with (fail)
    go_ret
    exact ⟨rfl, HB2.out⟩
  | true =>
    have HM := HM1
    rw [hf1] at HM
    simp only [Bool.true_and]
    clear hf1 HM1
    cases hf2 : fine3 hx hy hz with
    | false =>
      have HN := HM2
      rw [hf2] at HN
      simp only [Bool.false_and]
      clear hf2 HM2
      go_enter Tryz.func10, Tryz.ntmps10
      go_upto_region 1 with fail
      rw [← hw1]
      clear hw1
      go_wp2_with (fail)
      refine (HM.out _).mono ?_
      rintro e w2 ⟨rfl, hb⟩
      have HB2 := hide (HD.out.trans (hb.mono HD.out.size))
      replace d0 := (hb.cell (p := ⟨w.heap.size, 0, none⟩) hw).trans d0
      replace d1 := (hb.cell (p := ⟨w.heap.size, 1, none⟩) hw).trans d1
      replace d2 := (hb.cell (p := ⟨w.heap.size, 2, none⟩) hw).trans d2
      replace d3 := (hb.cell (p := ⟨w.heap.size, 3, none⟩) hw).trans d3
      replace d4 := (hb.cell (p := ⟨w.heap.size, 4, none⟩) hw).trans d4
      replace d5 := (hb.cell (p := ⟨w.heap.size, 5, none⟩) hw).trans d5
      replace d6 := (hb.cell (p := ⟨w.heap.size, 6, none⟩) hw).trans d6
      replace hw := Nat.lt_of_lt_of_le hw hb.size
      clear hb HD HM
      have HM := HN
      clear HN
      go_wp2_with (fail)
      refine (HM.out _).mono ?_
      rintro e w3 ⟨rfl, hb⟩
      have HB3 := hide (HB2.out.trans (hb.mono HB2.out.size))
      replace d0 := (hb.cell (p := ⟨w.heap.size, 0, none⟩) hw).trans d0
      replace d1 := (hb.cell (p := ⟨w.heap.size, 1, none⟩) hw).trans d1
      replace d2 := (hb.cell (p := ⟨w.heap.size, 2, none⟩) hw).trans d2
      replace d3 := (hb.cell (p := ⟨w.heap.size, 3, none⟩) hw).trans d3
      replace d4 := (hb.cell (p := ⟨w.heap.size, 4, none⟩) hw).trans d4
      replace d5 := (hb.cell (p := ⟨w.heap.size, 5, none⟩) hw).trans d5
      replace d6 := (hb.cell (p := ⟨w.heap.size, 6, none⟩) hw).trans d6
      replace hw := Nat.lt_of_lt_of_le hw hb.size
      clear hb HB2 HM
      go_wp2_with (fail)
      go_ret
      exact ⟨rfl, HB3.out⟩
    | true =>
      have HN := HM2
      rw [hf2] at HN
      simp only [Bool.true_and]
      clear hf2 HM2
      go_enter Tryz.func10, Tryz.ntmps10
      go_upto_region 1 with fail
      rw [← hw1]
      clear hw1
      go_wp2_with (fail)
      refine (HM.out _).mono ?_
      rintro e w2 ⟨rfl, hb⟩
      have HB2 := hide (HD.out.trans (hb.mono HD.out.size))
      replace d0 := (hb.cell (p := ⟨w.heap.size, 0, none⟩) hw).trans d0
      replace d1 := (hb.cell (p := ⟨w.heap.size, 1, none⟩) hw).trans d1
      replace d2 := (hb.cell (p := ⟨w.heap.size, 2, none⟩) hw).trans d2
      replace d3 := (hb.cell (p := ⟨w.heap.size, 3, none⟩) hw).trans d3
      replace d4 := (hb.cell (p := ⟨w.heap.size, 4, none⟩) hw).trans d4
      replace d5 := (hb.cell (p := ⟨w.heap.size, 5, none⟩) hw).trans d5
      replace d6 := (hb.cell (p := ⟨w.heap.size, 6, none⟩) hw).trans d6
      replace hw := Nat.lt_of_lt_of_le hw hb.size
      clear hb HD HM
      have HM := HN
      clear HN
      go_wp2_with (fail)
      refine (HM.out _).mono ?_
      rintro e w3 ⟨rfl, hb⟩
      have HB3 := hide (HB2.out.trans (hb.mono HB2.out.size))
      replace d0 := (hb.cell (p := ⟨w.heap.size, 0, none⟩) hw).trans d0
      replace d1 := (hb.cell (p := ⟨w.heap.size, 1, none⟩) hw).trans d1
      replace d2 := (hb.cell (p := ⟨w.heap.size, 2, none⟩) hw).trans d2
      replace d3 := (hb.cell (p := ⟨w.heap.size, 3, none⟩) hw).trans d3
      replace d4 := (hb.cell (p := ⟨w.heap.size, 4, none⟩) hw).trans d4
      replace d5 := (hb.cell (p := ⟨w.heap.size, 5, none⟩) hw).trans d5
      replace d6 := (hb.cell (p := ⟨w.heap.size, 6, none⟩) hw).trans d6
      replace hw := Nat.lt_of_lt_of_le hw hb.size
      clear hb HB2 HM
      go_wp2_with (fail)
      refine (HO.out _).mono ?_
      rintro e w4 ⟨rfl, hb⟩
      have HB4 := hide (HB3.out.trans (hb.mono HB3.out.size))
      replace d0 := (hb.cell (p := ⟨w.heap.size, 0, none⟩) hw).trans d0
      replace d1 := (hb.cell (p := ⟨w.heap.size, 1, none⟩) hw).trans d1
      replace d2 := (hb.cell (p := ⟨w.heap.size, 2, none⟩) hw).trans d2
      replace d3 := (hb.cell (p := ⟨w.heap.size, 3, none⟩) hw).trans d3
      replace d4 := (hb.cell (p := ⟨w.heap.size, 4, none⟩) hw).trans d4
      replace d5 := (hb.cell (p := ⟨w.heap.size, 5, none⟩) hw).trans d5
      replace d6 := (hb.cell (p := ⟨w.heap.size, 6, none⟩) hw).trans d6
      replace hw := Nat.lt_of_lt_of_le hw hb.size
      clear hb HB3
      have hcs : ((lx == hx) = false) ∨ ((lx == hx) = true ∧ decide (ly < hy) = false) ∨ ((lx == hx) = true ∧ decide (ly < hy) = true ∧ decide (lz < hz) = false) ∨ ((lx == hx) = true ∧ decide (ly < hy) = true ∧ decide (lz < hz) = true) := by
        cases (lx == hx) <;> cases decide (ly < hy) <;> cases decide (lz < hz) <;> simp
      have HCS := hide hcs
      clear hcs
      obtain ⟨res, hres⟩ : ∃ r, r = ((lx == hx) && decide (ly < hy) && decide (lz < hz)) := ⟨_, rfl⟩
      have HRES := hide hres
      clear hres
      rcases HCS.out with q1 | ⟨q1, q2⟩ | ⟨q1, q2, q3⟩ | ⟨q1, q2, q3⟩
      all_goals
        have hr := HRES.out
        (first | (simp only [q1, q2, q3, Bool.and_self, Bool.and_false, Bool.false_and, Bool.true_and, Bool.and_true] at hr) | (simp only [q1, q2, Bool.and_self, Bool.and_false, Bool.false_and, Bool.true_and, Bool.and_true] at hr) | (simp only [q1, Bool.and_false, Bool.false_and] at hr))
        clear HRES HCS hr
        go_upto_region 5 with fail
        refine wp_hab fun hab => ?_
        refine wp_region_above (by kernel_rfl) (by kernel_rfl) ?_
        repeat (go_big_quiet_step ((go_at_call 27; exact above_of (rcoord0_any _ _ _ _))))
        refine wpQuiet_nil ?_
        refine above_ends fun w5 hb => ?_
        clear hab
        have HB5 := hide (HB4.out.trans (hb.mono HB4.out.size))
        replace d0 := (hb.cell (p := ⟨w.heap.size, 0, none⟩) hw).trans d0
        replace d1 := (hb.cell (p := ⟨w.heap.size, 1, none⟩) hw).trans d1
        replace d2 := (hb.cell (p := ⟨w.heap.size, 2, none⟩) hw).trans d2
        replace d3 := (hb.cell (p := ⟨w.heap.size, 3, none⟩) hw).trans d3
        replace d4 := (hb.cell (p := ⟨w.heap.size, 4, none⟩) hw).trans d4
        replace d5 := (hb.cell (p := ⟨w.heap.size, 5, none⟩) hw).trans d5
        replace d6 := (hb.cell (p := ⟨w.heap.size, 6, none⟩) hw).trans d6
        replace hw := Nat.lt_of_lt_of_le hw hb.size
        clear hb HB4
        have HGA := hide (fun (x y z : Int) (y9 : Above w5) => above_of (x := y9) (HCA.out x y z y9.get))
        have HGB := hide (fun (x y z : Int) (y9 : Above w5) => above_of (x := y9) (HCB.out x y z y9.get))
        go_upto_region 6 with fail
        refine wp_hab fun hab => ?_
        refine wp_region_above (by kernel_rfl) (by kernel_rfl) ?_
        repeat (go_big_quiet_step ((go_at_call 27; first | with_reducible exact HGA.out _ _ _ _ | with_reducible exact HGB.out _ _ _ _)))
        refine wpQuiet_nil ?_
        refine above_ends fun w6 hb => ?_
        clear hab
        have HB6 := hide (HB5.out.trans (hb.mono HB5.out.size))
        clear hb HB5 d0 d1 d2 d3 d4 d5 d6
        go_wp2_with (fail)
        go_ret
        refine ⟨?_, HB6.out⟩
        first | rfl | (rw [q1]; rfl) | (rw [q1, q2]; rfl) | (rw [q1, q2, q3]; rfl)
set_option maxRecDepth 100000 in
set_option maxHeartbeats 8000000 in
theorem rvalid1_any (dd lx ly lz hx hy hz : Int) (hd : dd = 2 ∨ dd = 3) (w : World) : Calls Tryz.prog 10 #[.agg #[.int .u8 dd, .int .i64 lx, .int .i64 ly, .int .i64 lz, .int .i64 hx, .int .i64 hy, .int .i64 hz]] w fun e w' => e = .returned (.bool (okQ ⟨dd, lx, ly, lz, hx, hy, hz⟩)) ∧ Below w.heap.size w w' := by
  have HCE : okQ ⟨dd, lx, ly, lz, hx, hy, hz⟩ = (fine3 lx ly lz && fine3 hx hy hz && (ly == hy) && decide (lx < hx) && decide (lz < hz)) := by
    rcases hd with rfl | rfl <;> simp [okQ, levQ, flatR]
  rw [HCE]
  have zd : decide (5 < dd) = false := decide_eq_false (by omega)
  have hquo : Int.tdiv dd 2 = 1 := by rcases hd with rfl | rfl <;> rfl
  have hcv : IntKind.i64.wrap dd = dd := IntWalk.i64_in _ (by omega)
  clear hd HCE
  obtain ⟨ua, hua⟩ : ∃ u : Int, u = 0 := ⟨_, rfl⟩
  obtain ⟨ub, hub⟩ : ∃ u : Int, u = 2 := ⟨_, rfl⟩
  have HO : Hid (∀ W : World, Calls Tryz.prog 26 #[.int .i64 1] W fun e w' => e = .returned (.tuple #[.int .i64 ua, .int .i64 ub]) ∧ Below W.heap.size W w') := hide (fun W => by rw [hua, hub]; exact rothers1_any W)
  have HCA : Hid (∀ (x y z : Int) (W : World), Calls Tryz.prog 27 #[.agg #[.int .i64 x, .int .i64 y, .int .i64 z], .int .i64 ua] W fun e w' => e = .returned (.int .i64 x) ∧ Below W.heap.size W w') := hide (fun x y z W => by rw [hua]; exact rcoord0_any x y z W)
  have HCB : Hid (∀ (x y z : Int) (W : World), Calls Tryz.prog 27 #[.agg #[.int .i64 x, .int .i64 y, .int .i64 z], .int .i64 ub] W fun e w' => e = .returned (.int .i64 z) ∧ Below W.heap.size W w') := hide (fun x y z W => by rw [hub]; exact rcoord2_any x y z W)
  clear hua hub
  have HM1 := hide (fun W => rIn16_any lx ly lz W)
  have HM2 := hide (fun W => rIn16_any hx hy hz W)
  have HD : Hid (Below w.heap.size w (w.alloc (.cells #[.int .u8 dd, .int .i64 lx, .int .i64 ly, .int .i64 lz, .int .i64 hx, .int .i64 hy, .int .i64 hz] 25))) := hide ((Below.refl _ _).alloc (Nat.le_refl _) _)
  obtain ⟨w1, hw1⟩ : ∃ x, x = w.alloc (.cells #[.int .u8 dd, .int .i64 lx, .int .i64 ly, .int .i64 lz, .int .i64 hx, .int .i64 hy, .int .i64 hz] 25) := ⟨_, rfl⟩
  have hw : w.heap.size < w1.heap.size := by rw [hw1]; simp
  have d0 : w1.cell? ⟨w.heap.size, 0, none⟩ = some (.int .u8 dd) := by rw [hw1]; simp [go_sem]
  have d1 : w1.cell? ⟨w.heap.size, 1, none⟩ = some (.int .i64 lx) := by rw [hw1]; simp [go_sem]
  have d2 : w1.cell? ⟨w.heap.size, 2, none⟩ = some (.int .i64 ly) := by rw [hw1]; simp [go_sem]
  have d3 : w1.cell? ⟨w.heap.size, 3, none⟩ = some (.int .i64 lz) := by rw [hw1]; simp [go_sem]
  have d4 : w1.cell? ⟨w.heap.size, 4, none⟩ = some (.int .i64 hx) := by rw [hw1]; simp [go_sem]
  have d5 : w1.cell? ⟨w.heap.size, 5, none⟩ = some (.int .i64 hy) := by rw [hw1]; simp [go_sem]
  have d6 : w1.cell? ⟨w.heap.size, 6, none⟩ = some (.int .i64 hz) := by rw [hw1]; simp [go_sem]
  rw [← hw1] at HD
  cases hf1 : fine3 lx ly lz with
  | false =>
    have HM := HM1
    rw [hf1] at HM
    simp only [Bool.false_and]
    clear hf1 HM1 HM2
    go_enter Tryz.func10, Tryz.ntmps10
    go_upto_region 1 with fail
    rw [← hw1]
    clear hw1
    go_wp2_with (fail)
    refine (HM.out _).mono ?_
    rintro e w2 ⟨rfl, hb⟩
    have HB2 := hide (HD.out.trans (hb.mono HD.out.size))
    replace d0 := (hb.cell (p := ⟨w.heap.size, 0, none⟩) hw).trans d0
    replace d1 := (hb.cell (p := ⟨w.heap.size, 1, none⟩) hw).trans d1
    replace d2 := (hb.cell (p := ⟨w.heap.size, 2, none⟩) hw).trans d2
    replace d3 := (hb.cell (p := ⟨w.heap.size, 3, none⟩) hw).trans d3
    replace d4 := (hb.cell (p := ⟨w.heap.size, 4, none⟩) hw).trans d4
    replace d5 := (hb.cell (p := ⟨w.heap.size, 5, none⟩) hw).trans d5
    replace d6 := (hb.cell (p := ⟨w.heap.size, 6, none⟩) hw).trans d6
    replace hw := Nat.lt_of_lt_of_le hw hb.size
    clear hb HD HM
    go_wp2_with (fail)
    go_ret
    exact ⟨rfl, HB2.out⟩
  | true =>
    have HM := HM1
    rw [hf1] at HM
    simp only [Bool.true_and]
    clear hf1 HM1
    cases hf2 : fine3 hx hy hz with
    | false =>
      have HN := HM2
      rw [hf2] at HN
      simp only [Bool.false_and]
      clear hf2 HM2
      go_enter Tryz.func10, Tryz.ntmps10
      go_upto_region 1 with fail
      rw [← hw1]
      clear hw1
      go_wp2_with (fail)
      refine (HM.out _).mono ?_
      rintro e w2 ⟨rfl, hb⟩
      have HB2 := hide (HD.out.trans (hb.mono HD.out.size))
      replace d0 := (hb.cell (p := ⟨w.heap.size, 0, none⟩) hw).trans d0
      replace d1 := (hb.cell (p := ⟨w.heap.size, 1, none⟩) hw).trans d1
      replace d2 := (hb.cell (p := ⟨w.heap.size, 2, none⟩) hw).trans d2
      replace d3 := (hb.cell (p := ⟨w.heap.size, 3, none⟩) hw).trans d3
      replace d4 := (hb.cell (p := ⟨w.heap.size, 4, none⟩) hw).trans d4
      replace d5 := (hb.cell (p := ⟨w.heap.size, 5, none⟩) hw).trans d5
      replace d6 := (hb.cell (p := ⟨w.heap.size, 6, none⟩) hw).trans d6
      replace hw := Nat.lt_of_lt_of_le hw hb.size
      clear hb HD HM
      have HM := HN
      clear HN
      go_wp2_with (fail)
      refine (HM.out _).mono ?_
      rintro e w3 ⟨rfl, hb⟩
      have HB3 := hide (HB2.out.trans (hb.mono HB2.out.size))
      replace d0 := (hb.cell (p := ⟨w.heap.size, 0, none⟩) hw).trans d0
      replace d1 := (hb.cell (p := ⟨w.heap.size, 1, none⟩) hw).trans d1
      replace d2 := (hb.cell (p := ⟨w.heap.size, 2, none⟩) hw).trans d2
      replace d3 := (hb.cell (p := ⟨w.heap.size, 3, none⟩) hw).trans d3
      replace d4 := (hb.cell (p := ⟨w.heap.size, 4, none⟩) hw).trans d4
      replace d5 := (hb.cell (p := ⟨w.heap.size, 5, none⟩) hw).trans d5
      replace d6 := (hb.cell (p := ⟨w.heap.size, 6, none⟩) hw).trans d6
      replace hw := Nat.lt_of_lt_of_le hw hb.size
      clear hb HB2 HM
      go_wp2_with (fail)
      go_ret
      exact ⟨rfl, HB3.out⟩
    | true =>
      have HN := HM2
      rw [hf2] at HN
      simp only [Bool.true_and]
      clear hf2 HM2
      go_enter Tryz.func10, Tryz.ntmps10
      go_upto_region 1 with fail
      rw [← hw1]
      clear hw1
      go_wp2_with (fail)
      refine (HM.out _).mono ?_
      rintro e w2 ⟨rfl, hb⟩
      have HB2 := hide (HD.out.trans (hb.mono HD.out.size))
      replace d0 := (hb.cell (p := ⟨w.heap.size, 0, none⟩) hw).trans d0
      replace d1 := (hb.cell (p := ⟨w.heap.size, 1, none⟩) hw).trans d1
      replace d2 := (hb.cell (p := ⟨w.heap.size, 2, none⟩) hw).trans d2
      replace d3 := (hb.cell (p := ⟨w.heap.size, 3, none⟩) hw).trans d3
      replace d4 := (hb.cell (p := ⟨w.heap.size, 4, none⟩) hw).trans d4
      replace d5 := (hb.cell (p := ⟨w.heap.size, 5, none⟩) hw).trans d5
      replace d6 := (hb.cell (p := ⟨w.heap.size, 6, none⟩) hw).trans d6
      replace hw := Nat.lt_of_lt_of_le hw hb.size
      clear hb HD HM
      have HM := HN
      clear HN
      go_wp2_with (fail)
      refine (HM.out _).mono ?_
      rintro e w3 ⟨rfl, hb⟩
      have HB3 := hide (HB2.out.trans (hb.mono HB2.out.size))
      replace d0 := (hb.cell (p := ⟨w.heap.size, 0, none⟩) hw).trans d0
      replace d1 := (hb.cell (p := ⟨w.heap.size, 1, none⟩) hw).trans d1
      replace d2 := (hb.cell (p := ⟨w.heap.size, 2, none⟩) hw).trans d2
      replace d3 := (hb.cell (p := ⟨w.heap.size, 3, none⟩) hw).trans d3
      replace d4 := (hb.cell (p := ⟨w.heap.size, 4, none⟩) hw).trans d4
      replace d5 := (hb.cell (p := ⟨w.heap.size, 5, none⟩) hw).trans d5
      replace d6 := (hb.cell (p := ⟨w.heap.size, 6, none⟩) hw).trans d6
      replace hw := Nat.lt_of_lt_of_le hw hb.size
      clear hb HB2 HM
      go_wp2_with (fail)
      refine (HO.out _).mono ?_
      rintro e w4 ⟨rfl, hb⟩
      have HB4 := hide (HB3.out.trans (hb.mono HB3.out.size))
      replace d0 := (hb.cell (p := ⟨w.heap.size, 0, none⟩) hw).trans d0
      replace d1 := (hb.cell (p := ⟨w.heap.size, 1, none⟩) hw).trans d1
      replace d2 := (hb.cell (p := ⟨w.heap.size, 2, none⟩) hw).trans d2
      replace d3 := (hb.cell (p := ⟨w.heap.size, 3, none⟩) hw).trans d3
      replace d4 := (hb.cell (p := ⟨w.heap.size, 4, none⟩) hw).trans d4
      replace d5 := (hb.cell (p := ⟨w.heap.size, 5, none⟩) hw).trans d5
      replace d6 := (hb.cell (p := ⟨w.heap.size, 6, none⟩) hw).trans d6
      replace hw := Nat.lt_of_lt_of_le hw hb.size
      clear hb HB3
      have hcs : ((ly == hy) = false) ∨ ((ly == hy) = true ∧ decide (lx < hx) = false) ∨ ((ly == hy) = true ∧ decide (lx < hx) = true ∧ decide (lz < hz) = false) ∨ ((ly == hy) = true ∧ decide (lx < hx) = true ∧ decide (lz < hz) = true) := by
        cases (ly == hy) <;> cases decide (lx < hx) <;> cases decide (lz < hz) <;> simp
      have HCS := hide hcs
      clear hcs
      obtain ⟨res, hres⟩ : ∃ r, r = ((ly == hy) && decide (lx < hx) && decide (lz < hz)) := ⟨_, rfl⟩
      have HRES := hide hres
      clear hres
      rcases HCS.out with q1 | ⟨q1, q2⟩ | ⟨q1, q2, q3⟩ | ⟨q1, q2, q3⟩
      all_goals
        have hr := HRES.out
        (first | (simp only [q1, q2, q3, Bool.and_self, Bool.and_false, Bool.false_and, Bool.true_and, Bool.and_true] at hr) | (simp only [q1, q2, Bool.and_self, Bool.and_false, Bool.false_and, Bool.true_and, Bool.and_true] at hr) | (simp only [q1, Bool.and_false, Bool.false_and] at hr))
        clear HRES HCS hr
        go_upto_region 5 with fail
        refine wp_hab fun hab => ?_
        refine wp_region_above (by kernel_rfl) (by kernel_rfl) ?_
        repeat (go_big_quiet_step ((go_at_call 27; exact above_of (rcoord1_any _ _ _ _))))
        refine wpQuiet_nil ?_
        refine above_ends fun w5 hb => ?_
        clear hab
        have HB5 := hide (HB4.out.trans (hb.mono HB4.out.size))
        replace d0 := (hb.cell (p := ⟨w.heap.size, 0, none⟩) hw).trans d0
        replace d1 := (hb.cell (p := ⟨w.heap.size, 1, none⟩) hw).trans d1
        replace d2 := (hb.cell (p := ⟨w.heap.size, 2, none⟩) hw).trans d2
        replace d3 := (hb.cell (p := ⟨w.heap.size, 3, none⟩) hw).trans d3
        replace d4 := (hb.cell (p := ⟨w.heap.size, 4, none⟩) hw).trans d4
        replace d5 := (hb.cell (p := ⟨w.heap.size, 5, none⟩) hw).trans d5
        replace d6 := (hb.cell (p := ⟨w.heap.size, 6, none⟩) hw).trans d6
        replace hw := Nat.lt_of_lt_of_le hw hb.size
        clear hb HB4
        have HGA := hide (fun (x y z : Int) (y9 : Above w5) => above_of (x := y9) (HCA.out x y z y9.get))
        have HGB := hide (fun (x y z : Int) (y9 : Above w5) => above_of (x := y9) (HCB.out x y z y9.get))
        go_upto_region 6 with fail
        refine wp_hab fun hab => ?_
        refine wp_region_above (by kernel_rfl) (by kernel_rfl) ?_
        repeat (go_big_quiet_step ((go_at_call 27; first | with_reducible exact HGA.out _ _ _ _ | with_reducible exact HGB.out _ _ _ _)))
        refine wpQuiet_nil ?_
        refine above_ends fun w6 hb => ?_
        clear hab
        have HB6 := hide (HB5.out.trans (hb.mono HB5.out.size))
        clear hb HB5 d0 d1 d2 d3 d4 d5 d6
        go_wp2_with (fail)
        go_ret
        refine ⟨?_, HB6.out⟩
        first | rfl | (rw [q1]; rfl) | (rw [q1, q2]; rfl) | (rw [q1, q2, q3]; rfl)
set_option maxRecDepth 100000 in
set_option maxHeartbeats 8000000 in
theorem rvalid2_any (dd lx ly lz hx hy hz : Int) (hd : dd = 4 ∨ dd = 5) (w : World) : Calls Tryz.prog 10 #[.agg #[.int .u8 dd, .int .i64 lx, .int .i64 ly, .int .i64 lz, .int .i64 hx, .int .i64 hy, .int .i64 hz]] w fun e w' => e = .returned (.bool (okQ ⟨dd, lx, ly, lz, hx, hy, hz⟩)) ∧ Below w.heap.size w w' := by
  have HCE : okQ ⟨dd, lx, ly, lz, hx, hy, hz⟩ = (fine3 lx ly lz && fine3 hx hy hz && (lz == hz) && decide (lx < hx) && decide (ly < hy)) := by
    rcases hd with rfl | rfl <;> simp [okQ, levQ, flatR]
  rw [HCE]
  have zd : decide (5 < dd) = false := decide_eq_false (by omega)
  have hquo : Int.tdiv dd 2 = 2 := by rcases hd with rfl | rfl <;> rfl
  have hcv : IntKind.i64.wrap dd = dd := IntWalk.i64_in _ (by omega)
  clear hd HCE
  obtain ⟨ua, hua⟩ : ∃ u : Int, u = 0 := ⟨_, rfl⟩
  obtain ⟨ub, hub⟩ : ∃ u : Int, u = 1 := ⟨_, rfl⟩
  have HO : Hid (∀ W : World, Calls Tryz.prog 26 #[.int .i64 2] W fun e w' => e = .returned (.tuple #[.int .i64 ua, .int .i64 ub]) ∧ Below W.heap.size W w') := hide (fun W => by rw [hua, hub]; exact rothers2_any W)
  have HCA : Hid (∀ (x y z : Int) (W : World), Calls Tryz.prog 27 #[.agg #[.int .i64 x, .int .i64 y, .int .i64 z], .int .i64 ua] W fun e w' => e = .returned (.int .i64 x) ∧ Below W.heap.size W w') := hide (fun x y z W => by rw [hua]; exact rcoord0_any x y z W)
  have HCB : Hid (∀ (x y z : Int) (W : World), Calls Tryz.prog 27 #[.agg #[.int .i64 x, .int .i64 y, .int .i64 z], .int .i64 ub] W fun e w' => e = .returned (.int .i64 y) ∧ Below W.heap.size W w') := hide (fun x y z W => by rw [hub]; exact rcoord1_any x y z W)
  clear hua hub
  have HM1 := hide (fun W => rIn16_any lx ly lz W)
  have HM2 := hide (fun W => rIn16_any hx hy hz W)
  have HD : Hid (Below w.heap.size w (w.alloc (.cells #[.int .u8 dd, .int .i64 lx, .int .i64 ly, .int .i64 lz, .int .i64 hx, .int .i64 hy, .int .i64 hz] 25))) := hide ((Below.refl _ _).alloc (Nat.le_refl _) _)
  obtain ⟨w1, hw1⟩ : ∃ x, x = w.alloc (.cells #[.int .u8 dd, .int .i64 lx, .int .i64 ly, .int .i64 lz, .int .i64 hx, .int .i64 hy, .int .i64 hz] 25) := ⟨_, rfl⟩
  have hw : w.heap.size < w1.heap.size := by rw [hw1]; simp
  have d0 : w1.cell? ⟨w.heap.size, 0, none⟩ = some (.int .u8 dd) := by rw [hw1]; simp [go_sem]
  have d1 : w1.cell? ⟨w.heap.size, 1, none⟩ = some (.int .i64 lx) := by rw [hw1]; simp [go_sem]
  have d2 : w1.cell? ⟨w.heap.size, 2, none⟩ = some (.int .i64 ly) := by rw [hw1]; simp [go_sem]
  have d3 : w1.cell? ⟨w.heap.size, 3, none⟩ = some (.int .i64 lz) := by rw [hw1]; simp [go_sem]
  have d4 : w1.cell? ⟨w.heap.size, 4, none⟩ = some (.int .i64 hx) := by rw [hw1]; simp [go_sem]
  have d5 : w1.cell? ⟨w.heap.size, 5, none⟩ = some (.int .i64 hy) := by rw [hw1]; simp [go_sem]
  have d6 : w1.cell? ⟨w.heap.size, 6, none⟩ = some (.int .i64 hz) := by rw [hw1]; simp [go_sem]
  rw [← hw1] at HD
  cases hf1 : fine3 lx ly lz with
  | false =>
    have HM := HM1
    rw [hf1] at HM
    simp only [Bool.false_and]
    clear hf1 HM1 HM2
    go_enter Tryz.func10, Tryz.ntmps10
    go_upto_region 1 with fail
    rw [← hw1]
    clear hw1
    go_wp2_with (fail)
    refine (HM.out _).mono ?_
    rintro e w2 ⟨rfl, hb⟩
    have HB2 := hide (HD.out.trans (hb.mono HD.out.size))
    replace d0 := (hb.cell (p := ⟨w.heap.size, 0, none⟩) hw).trans d0
    replace d1 := (hb.cell (p := ⟨w.heap.size, 1, none⟩) hw).trans d1
    replace d2 := (hb.cell (p := ⟨w.heap.size, 2, none⟩) hw).trans d2
    replace d3 := (hb.cell (p := ⟨w.heap.size, 3, none⟩) hw).trans d3
    replace d4 := (hb.cell (p := ⟨w.heap.size, 4, none⟩) hw).trans d4
    replace d5 := (hb.cell (p := ⟨w.heap.size, 5, none⟩) hw).trans d5
    replace d6 := (hb.cell (p := ⟨w.heap.size, 6, none⟩) hw).trans d6
    replace hw := Nat.lt_of_lt_of_le hw hb.size
    clear hb HD HM
    go_wp2_with (fail)
    go_ret
    exact ⟨rfl, HB2.out⟩
  | true =>
    have HM := HM1
    rw [hf1] at HM
    simp only [Bool.true_and]
    clear hf1 HM1
    cases hf2 : fine3 hx hy hz with
    | false =>
      have HN := HM2
      rw [hf2] at HN
      simp only [Bool.false_and]
      clear hf2 HM2
      go_enter Tryz.func10, Tryz.ntmps10
      go_upto_region 1 with fail
      rw [← hw1]
      clear hw1
      go_wp2_with (fail)
      refine (HM.out _).mono ?_
      rintro e w2 ⟨rfl, hb⟩
      have HB2 := hide (HD.out.trans (hb.mono HD.out.size))
      replace d0 := (hb.cell (p := ⟨w.heap.size, 0, none⟩) hw).trans d0
      replace d1 := (hb.cell (p := ⟨w.heap.size, 1, none⟩) hw).trans d1
      replace d2 := (hb.cell (p := ⟨w.heap.size, 2, none⟩) hw).trans d2
      replace d3 := (hb.cell (p := ⟨w.heap.size, 3, none⟩) hw).trans d3
      replace d4 := (hb.cell (p := ⟨w.heap.size, 4, none⟩) hw).trans d4
      replace d5 := (hb.cell (p := ⟨w.heap.size, 5, none⟩) hw).trans d5
      replace d6 := (hb.cell (p := ⟨w.heap.size, 6, none⟩) hw).trans d6
      replace hw := Nat.lt_of_lt_of_le hw hb.size
      clear hb HD HM
      have HM := HN
      clear HN
      go_wp2_with (fail)
      refine (HM.out _).mono ?_
      rintro e w3 ⟨rfl, hb⟩
      have HB3 := hide (HB2.out.trans (hb.mono HB2.out.size))
      replace d0 := (hb.cell (p := ⟨w.heap.size, 0, none⟩) hw).trans d0
      replace d1 := (hb.cell (p := ⟨w.heap.size, 1, none⟩) hw).trans d1
      replace d2 := (hb.cell (p := ⟨w.heap.size, 2, none⟩) hw).trans d2
      replace d3 := (hb.cell (p := ⟨w.heap.size, 3, none⟩) hw).trans d3
      replace d4 := (hb.cell (p := ⟨w.heap.size, 4, none⟩) hw).trans d4
      replace d5 := (hb.cell (p := ⟨w.heap.size, 5, none⟩) hw).trans d5
      replace d6 := (hb.cell (p := ⟨w.heap.size, 6, none⟩) hw).trans d6
      replace hw := Nat.lt_of_lt_of_le hw hb.size
      clear hb HB2 HM
      go_wp2_with (fail)
      go_ret
      exact ⟨rfl, HB3.out⟩
    | true =>
      have HN := HM2
      rw [hf2] at HN
      simp only [Bool.true_and]
      clear hf2 HM2
      go_enter Tryz.func10, Tryz.ntmps10
      go_upto_region 1 with fail
      rw [← hw1]
      clear hw1
      go_wp2_with (fail)
      refine (HM.out _).mono ?_
      rintro e w2 ⟨rfl, hb⟩
      have HB2 := hide (HD.out.trans (hb.mono HD.out.size))
      replace d0 := (hb.cell (p := ⟨w.heap.size, 0, none⟩) hw).trans d0
      replace d1 := (hb.cell (p := ⟨w.heap.size, 1, none⟩) hw).trans d1
      replace d2 := (hb.cell (p := ⟨w.heap.size, 2, none⟩) hw).trans d2
      replace d3 := (hb.cell (p := ⟨w.heap.size, 3, none⟩) hw).trans d3
      replace d4 := (hb.cell (p := ⟨w.heap.size, 4, none⟩) hw).trans d4
      replace d5 := (hb.cell (p := ⟨w.heap.size, 5, none⟩) hw).trans d5
      replace d6 := (hb.cell (p := ⟨w.heap.size, 6, none⟩) hw).trans d6
      replace hw := Nat.lt_of_lt_of_le hw hb.size
      clear hb HD HM
      have HM := HN
      clear HN
      go_wp2_with (fail)
      refine (HM.out _).mono ?_
      rintro e w3 ⟨rfl, hb⟩
      have HB3 := hide (HB2.out.trans (hb.mono HB2.out.size))
      replace d0 := (hb.cell (p := ⟨w.heap.size, 0, none⟩) hw).trans d0
      replace d1 := (hb.cell (p := ⟨w.heap.size, 1, none⟩) hw).trans d1
      replace d2 := (hb.cell (p := ⟨w.heap.size, 2, none⟩) hw).trans d2
      replace d3 := (hb.cell (p := ⟨w.heap.size, 3, none⟩) hw).trans d3
      replace d4 := (hb.cell (p := ⟨w.heap.size, 4, none⟩) hw).trans d4
      replace d5 := (hb.cell (p := ⟨w.heap.size, 5, none⟩) hw).trans d5
      replace d6 := (hb.cell (p := ⟨w.heap.size, 6, none⟩) hw).trans d6
      replace hw := Nat.lt_of_lt_of_le hw hb.size
      clear hb HB2 HM
      go_wp2_with (fail)
      refine (HO.out _).mono ?_
      rintro e w4 ⟨rfl, hb⟩
      have HB4 := hide (HB3.out.trans (hb.mono HB3.out.size))
      replace d0 := (hb.cell (p := ⟨w.heap.size, 0, none⟩) hw).trans d0
      replace d1 := (hb.cell (p := ⟨w.heap.size, 1, none⟩) hw).trans d1
      replace d2 := (hb.cell (p := ⟨w.heap.size, 2, none⟩) hw).trans d2
      replace d3 := (hb.cell (p := ⟨w.heap.size, 3, none⟩) hw).trans d3
      replace d4 := (hb.cell (p := ⟨w.heap.size, 4, none⟩) hw).trans d4
      replace d5 := (hb.cell (p := ⟨w.heap.size, 5, none⟩) hw).trans d5
      replace d6 := (hb.cell (p := ⟨w.heap.size, 6, none⟩) hw).trans d6
      replace hw := Nat.lt_of_lt_of_le hw hb.size
      clear hb HB3
      have hcs : ((lz == hz) = false) ∨ ((lz == hz) = true ∧ decide (lx < hx) = false) ∨ ((lz == hz) = true ∧ decide (lx < hx) = true ∧ decide (ly < hy) = false) ∨ ((lz == hz) = true ∧ decide (lx < hx) = true ∧ decide (ly < hy) = true) := by
        cases (lz == hz) <;> cases decide (lx < hx) <;> cases decide (ly < hy) <;> simp
      have HCS := hide hcs
      clear hcs
      obtain ⟨res, hres⟩ : ∃ r, r = ((lz == hz) && decide (lx < hx) && decide (ly < hy)) := ⟨_, rfl⟩
      have HRES := hide hres
      clear hres
      rcases HCS.out with q1 | ⟨q1, q2⟩ | ⟨q1, q2, q3⟩ | ⟨q1, q2, q3⟩
      all_goals
        have hr := HRES.out
        (first | (simp only [q1, q2, q3, Bool.and_self, Bool.and_false, Bool.false_and, Bool.true_and, Bool.and_true] at hr) | (simp only [q1, q2, Bool.and_self, Bool.and_false, Bool.false_and, Bool.true_and, Bool.and_true] at hr) | (simp only [q1, Bool.and_false, Bool.false_and] at hr))
        clear HRES HCS hr
        go_upto_region 5 with fail
        refine wp_hab fun hab => ?_
        refine wp_region_above (by kernel_rfl) (by kernel_rfl) ?_
        repeat (go_big_quiet_step ((go_at_call 27; exact above_of (rcoord2_any _ _ _ _))))
        refine wpQuiet_nil ?_
        refine above_ends fun w5 hb => ?_
        clear hab
        have HB5 := hide (HB4.out.trans (hb.mono HB4.out.size))
        replace d0 := (hb.cell (p := ⟨w.heap.size, 0, none⟩) hw).trans d0
        replace d1 := (hb.cell (p := ⟨w.heap.size, 1, none⟩) hw).trans d1
        replace d2 := (hb.cell (p := ⟨w.heap.size, 2, none⟩) hw).trans d2
        replace d3 := (hb.cell (p := ⟨w.heap.size, 3, none⟩) hw).trans d3
        replace d4 := (hb.cell (p := ⟨w.heap.size, 4, none⟩) hw).trans d4
        replace d5 := (hb.cell (p := ⟨w.heap.size, 5, none⟩) hw).trans d5
        replace d6 := (hb.cell (p := ⟨w.heap.size, 6, none⟩) hw).trans d6
        replace hw := Nat.lt_of_lt_of_le hw hb.size
        clear hb HB4
        have HGA := hide (fun (x y z : Int) (y9 : Above w5) => above_of (x := y9) (HCA.out x y z y9.get))
        have HGB := hide (fun (x y z : Int) (y9 : Above w5) => above_of (x := y9) (HCB.out x y z y9.get))
        go_upto_region 6 with fail
        refine wp_hab fun hab => ?_
        refine wp_region_above (by kernel_rfl) (by kernel_rfl) ?_
        repeat (go_big_quiet_step ((go_at_call 27; first | with_reducible exact HGA.out _ _ _ _ | with_reducible exact HGB.out _ _ _ _)))
        refine wpQuiet_nil ?_
        refine above_ends fun w6 hb => ?_
        clear hab
        have HB6 := hide (HB5.out.trans (hb.mono HB5.out.size))
        clear hb HB5 d0 d1 d2 d3 d4 d5 d6
        go_wp2_with (fail)
        go_ret
        refine ⟨?_, HB6.out⟩
        first | rfl | (rw [q1]; rfl) | (rw [q1, q2]; rfl) | (rw [q1, q2, q3]; rfl)
end Go.Proofs.YtjlfdgoijalfaaaGreat

/- One quad: gambrelref19.Check, gambrelref41.Flat, mesh.Check. -/
namespace Go.Proofs.YtjlfdgoijalfaaaGreat
open Go.RowKit
set_option linter.unusedVariables false
set_option linter.unusedSimpArgs false
attribute [local go_sem] Oper.semAt_some

theorem dir_cs {d : Int} (h : 0 ≤ d) : (d = 0 ∨ d = 1) ∨ (d = 2 ∨ d = 3) ∨ (d = 4 ∨ d = 5) ∨ 5 < d := by omega
theorem rvalid_any (dd lx ly lz hx hy hz : Int) (hd : 0 ≤ dd) (w : World) : Calls Tryz.prog 10 #[.agg #[.int .u8 dd, .int .i64 lx, .int .i64 ly, .int .i64 lz, .int .i64 hx, .int .i64 hy, .int .i64 hz]] w fun e w' => e = .returned (.bool (okQ ⟨dd, lx, ly, lz, hx, hy, hz⟩)) ∧ Below w.heap.size w w' := by
  rcases dir_cs hd with h | h | h | h
  · exact rvalid0_any dd lx ly lz hx hy hz h w
  · exact rvalid1_any dd lx ly lz hx hy hz h w
  · exact rvalid2_any dd lx ly lz hx hy hz h w
  · exact rvalid6_any dd lx ly lz hx hy hz h w
theorem mcheck_any {w : World} {v : Value} {dd lx ly lz hx hy hz : Int} (hr : RdK encQd 7 w w.heap.size v [⟨dd, lx, ly, lz, hx, hy, hz⟩]) (hd : 0 ≤ dd) :
    Calls Tryz.prog 15 #[v] w fun e w' => e = .returned (.int .i64 (chkQ ⟨dd, lx, ly, lz, hx, hy, hz⟩)) ∧ Below w.heap.size w w' := by
  rcases dir_cs hd with h | h | h | h
  · exact mck0_any hr h
  · exact mck1_any hr h
  · exact mck2_any hr h
  · have e : chkQ ⟨dd, lx, ly, lz, hx, hy, hz⟩ = 8 := by
      unfold chkQ okQ
      rw [if_neg]
      rw [decide_eq_false (by show ¬ dd ≤ 5; omega)]
      simp
    rw [e]
    exact mesh6_any hr h
set_option maxRecDepth 100000 in
set_option maxHeartbeats 4000000 in
theorem rcheck19_any {w : World} {v : Value} {dd lx ly lz hx hy hz : Int} (hr : RdK encQd 7 w w.heap.size v [⟨dd, lx, ly, lz, hx, hy, hz⟩]) (hd : 0 ≤ dd) :
    Calls Tryz.prog 16 #[v] w fun e w' => e = .returned (.int .i64 (chkQ ⟨dd, lx, ly, lz, hx, hy, hz⟩)) ∧ Below w.heap.size w w' := by
  obtain ⟨A, c, rfl, hc⟩ := hr
  obtain ⟨b, o, rfl, hbl, kk⟩ := hc (by simp)
  have x0 := kk 0 _ rfl 0 _ rfl
  have x1 := kk 0 _ rfl 1 _ rfl
  have x2 := kk 0 _ rfl 2 _ rfl
  have x3 := kk 0 _ rfl 3 _ rfl
  have x4 := kk 0 _ rfl 4 _ rfl
  have x5 := kk 0 _ rfl 5 _ rfl
  have x6 := kk 0 _ rfl 6 _ rfl
  simp only [Nat.zero_mul, Nat.add_zero] at x0 x1 x2 x3 x4 x5 x6
  have X := hide (And.intro x0 (And.intro x1 (And.intro x2 (And.intro x3 (And.intro x4 (And.intro x5 x6))))))
  have HV := hide (fun W => rvalid_any dd lx ly lz hx hy hz hd W)
  clear hc kk x0 x1 x2 x3 x4 x5 x6 hd
  show Calls Tryz.prog _ #[.slice (some ⟨b, o, none⟩) 1 c] w _
  rcases chk_ok8 ⟨dd, lx, ly, lz, hx, hy, hz⟩ with ⟨e1, e2⟩ | ⟨e1, e2⟩
  · rw [e1]
    rw [e2] at HV
    clear e1 e2
    go_enter Tryz.func16, Tryz.ntmps16
    go_wp2
    go_loopw [3] (fun i wr => ∃ m : Nat, m ≤ 1 ∧ i = .int .i64 (m : Int) ∧ Hid (Below w.heap.size w wr)) (fun i _ => 1 - (intOf i).toNat)
    case atStart => exact ⟨0, by omega, rfl, hide (Below.refl _ _)⟩
    case round =>
      obtain ⟨m, hm, rfl, HB⟩ := hrel
      have hm2 : m = 0 ∨ m = 1 := by omega
      rcases hm2 with rfl | rfl
      · obtain ⟨x0, x1, x2, x3, x4, x5, x6⟩ := X.out
        replace x0 := (HB.out.cell (p := ⟨b, _, none⟩) hbl).trans x0
        replace x1 := (HB.out.cell (p := ⟨b, _, none⟩) hbl).trans x1
        replace x2 := (HB.out.cell (p := ⟨b, _, none⟩) hbl).trans x2
        replace x3 := (HB.out.cell (p := ⟨b, _, none⟩) hbl).trans x3
        replace x4 := (HB.out.cell (p := ⟨b, _, none⟩) hbl).trans x4
        replace x5 := (HB.out.cell (p := ⟨b, _, none⟩) hbl).trans x5
        replace x6 := (HB.out.cell (p := ⟨b, _, none⟩) hbl).trans x6
        rw [show ((0 : Nat) : Int) = 0 from rfl]
        go_wp2_with (fail)
        refine (HV.out _).mono ?_
        rintro e w2 ⟨rfl, hb⟩
        have HB2 := hide (HB.out.trans (hb.mono HB.out.size))
        clear hb HB x0 x1 x2 x3 x4 x5 x6
        go_wp2_with (fail)
        go_roundw
        case rel => exact ⟨1, by omega, rfl, HB2⟩
        case measure => first | (simp [intOf]; done) | (simp [intOf]; omega)
      · rw [show ((1 : Nat) : Int) = 1 from rfl]
        go_wp2
        go_ret
        exact ⟨rfl, HB.out⟩
  · rw [e1]
    rw [e2] at HV
    clear e1 e2
    go_enter Tryz.func16, Tryz.ntmps16
    go_wp2
    go_loopw [3] (fun i wr => i = .int .i64 0 ∧ Hid (Below w.heap.size w wr)) (fun i _ => 1 - (intOf i).toNat)
    case atStart => exact ⟨rfl, hide (Below.refl _ _)⟩
    case round =>
      obtain ⟨rfl, HB⟩ := hrel
      obtain ⟨x0, x1, x2, x3, x4, x5, x6⟩ := X.out
      replace x0 := (HB.out.cell (p := ⟨b, _, none⟩) hbl).trans x0
      replace x1 := (HB.out.cell (p := ⟨b, _, none⟩) hbl).trans x1
      replace x2 := (HB.out.cell (p := ⟨b, _, none⟩) hbl).trans x2
      replace x3 := (HB.out.cell (p := ⟨b, _, none⟩) hbl).trans x3
      replace x4 := (HB.out.cell (p := ⟨b, _, none⟩) hbl).trans x4
      replace x5 := (HB.out.cell (p := ⟨b, _, none⟩) hbl).trans x5
      replace x6 := (HB.out.cell (p := ⟨b, _, none⟩) hbl).trans x6
      go_wp2_with (fail)
      refine (HV.out _).mono ?_
      rintro e w2 ⟨rfl, hb⟩
      have HB2 := hide (HB.out.trans (hb.mono HB.out.size))
      clear hb HB x0 x1 x2 x3 x4 x5 x6
      go_wp2_with (fail)
      go_ret
      exact ⟨rfl, HB2.out⟩
set_option maxHeartbeats 4000000 in
theorem rflat0_any (dd lx ly lz hx hy hz : Int) (hd : dd < 2) (w : World) : Calls Tryz.prog 13 #[.agg #[.int .u8 dd, .int .i64 lx, .int .i64 ly, .int .i64 lz, .int .i64 hx, .int .i64 hy, .int .i64 hz]] w fun e w' => e = .returned (.agg #[.int .i64 ly, .int .i64 lz, .int .i64 hy, .int .i64 hz]) ∧ Below w.heap.size w w' := by
  have z1 : decide (dd < 2) = true := decide_eq_true hd
  clear hd
  go_enter Tryz.func13, Tryz.ntmps13
  go_wp2
  refine bodyPost_ret (v := .agg #[.int .i64 ly, .int .i64 lz, .int .i64 hy, .int .i64 hz]) (by simp [results, Tryz.results13, go_sem]) rfl ⟨rfl, ?_⟩
  repeat (first | with_reducible exact Below.refl _ _ | with_reducible refine Below.setCell ?_ (by first | (simp; done) | (simp; omega)) _ | with_reducible refine Below.alloc ?_ (by first | omega | (simp; omega) | simp) _)
set_option maxHeartbeats 4000000 in
theorem rflat1_any (dd lx ly lz hx hy hz : Int) (hd : ¬ dd < 2 ∧ dd < 4) (w : World) : Calls Tryz.prog 13 #[.agg #[.int .u8 dd, .int .i64 lx, .int .i64 ly, .int .i64 lz, .int .i64 hx, .int .i64 hy, .int .i64 hz]] w fun e w' => e = .returned (.agg #[.int .i64 lx, .int .i64 lz, .int .i64 hx, .int .i64 hz]) ∧ Below w.heap.size w w' := by
  have z1 : decide (dd < 2) = false := decide_eq_false hd.1
  have z2 : decide (dd < 4) = true := decide_eq_true hd.2
  clear hd
  go_enter Tryz.func13, Tryz.ntmps13
  go_wp2
  refine bodyPost_ret (v := .agg #[.int .i64 lx, .int .i64 lz, .int .i64 hx, .int .i64 hz]) (by simp [results, Tryz.results13, go_sem]) rfl ⟨rfl, ?_⟩
  repeat (first | with_reducible exact Below.refl _ _ | with_reducible refine Below.setCell ?_ (by first | (simp; done) | (simp; omega)) _ | with_reducible refine Below.alloc ?_ (by first | omega | (simp; omega) | simp) _)
set_option maxHeartbeats 4000000 in
theorem rflat2_any (dd lx ly lz hx hy hz : Int) (hd : ¬ dd < 2 ∧ ¬ dd < 4) (w : World) : Calls Tryz.prog 13 #[.agg #[.int .u8 dd, .int .i64 lx, .int .i64 ly, .int .i64 lz, .int .i64 hx, .int .i64 hy, .int .i64 hz]] w fun e w' => e = .returned (.agg #[.int .i64 lx, .int .i64 ly, .int .i64 hx, .int .i64 hy]) ∧ Below w.heap.size w w' := by
  have z1 : decide (dd < 2) = false := decide_eq_false hd.1
  have z2 : decide (dd < 4) = false := decide_eq_false hd.2
  clear hd
  go_enter Tryz.func13, Tryz.ntmps13
  go_wp2
  refine bodyPost_ret (v := .agg #[.int .i64 lx, .int .i64 ly, .int .i64 hx, .int .i64 hy]) (by simp [results, Tryz.results13, go_sem]) rfl ⟨rfl, ?_⟩
  repeat (first | with_reducible exact Below.refl _ _ | with_reducible refine Below.setCell ?_ (by first | (simp; done) | (simp; omega)) _ | with_reducible refine Below.alloc ?_ (by first | omega | (simp; omega) | simp) _)
theorem rflat_any (dd lx ly lz hx hy hz : Int) (w : World) : Calls Tryz.prog 13 #[.agg #[.int .u8 dd, .int .i64 lx, .int .i64 ly, .int .i64 lz, .int .i64 hx, .int .i64 hy, .int .i64 hz]] w fun e w' => e = .returned (.agg #[.int .i64 (flatR ⟨dd, lx, ly, lz, hx, hy, hz⟩).x0, .int .i64 (flatR ⟨dd, lx, ly, lz, hx, hy, hz⟩).y0, .int .i64 (flatR ⟨dd, lx, ly, lz, hx, hy, hz⟩).x1, .int .i64 (flatR ⟨dd, lx, ly, lz, hx, hy, hz⟩).y1]) ∧ Below w.heap.size w w' := by
  by_cases h1 : dd < 2
  · have e : flatR ⟨dd, lx, ly, lz, hx, hy, hz⟩ = ⟨ly, lz, hy, hz⟩ := if_pos h1
    rw [e]
    exact rflat0_any dd lx ly lz hx hy hz h1 w
  · by_cases h2 : dd < 4
    · have e : flatR ⟨dd, lx, ly, lz, hx, hy, hz⟩ = ⟨lx, lz, hx, hz⟩ := by unfold flatR; rw [if_neg h1, if_pos h2]
      rw [e]
      exact rflat1_any dd lx ly lz hx hy hz ⟨h1, h2⟩ w
    · have e : flatR ⟨dd, lx, ly, lz, hx, hy, hz⟩ = ⟨lx, ly, hx, hy⟩ := by unfold flatR; rw [if_neg h1, if_neg h2]
      rw [e]
      exact rflat2_any dd lx ly lz hx hy hz ⟨h1, h2⟩ w
end Go.Proofs.YtjlfdgoijalfaaaGreat

/- Plain law: a piece is whole when its area is that of a brick; the pieces of a tiling and the region's area; pieces of a part of a region. -/
namespace Go.Proofs.YtjlfdgoijalfaaaGreat
set_option linter.unusedVariables false
set_option linter.unusedSimpArgs false

theorem sumZ_all {f : Int → Int} {lo : Int} : ∀ {n : Nat}, (∀ i, lo ≤ i → i < lo + n → 0 ≤ f i) → sumZ f lo n = 0 → ∀ i, lo ≤ i → i < lo + n → f i = 0
  | 0, _, _, i, h1, h2 => by omega
  | n + 1, h, hz, i, h1, h2 => by
    have a := sumZ_nonneg (f := f) (lo := lo) (n := n) fun i h1 h2 => h i h1 (by omega)
    have b := h (lo + n) (by omega) (by omega)
    simp only [sumZ] at hz
    by_cases e : i = lo + n
    · subst e; omega
    · exact sumZ_all (n := n) (fun i h1 h2 => h i h1 (by omega)) (by omega) i h1 (by omega)
theorem vol_all {m : Nat} {f : Int → Int → Int} (h : ∀ x y, 0 ≤ f x y) (hz : vol m f = 0) (x y : Int) (h1 : -(m : Int) ≤ x) (h2 : x < m) (h3 : -(m : Int) ≤ y) (h4 : y < m) : f x y = 0 := by
  have a := sumZ_all (fun i _ _ => sumZ_nonneg fun j _ _ => h i j) hz x h1 (by omega)
  exact sumZ_all (fun j _ _ => h x j) a y h3 (by omega)
theorem can_one {r : R4} (h : wf4 r) : RCan [r] := ⟨[⟨r.x0, r.x1, [(r.y0, r.y1)]⟩], ⟨h.1, by simp, by simp [SCan]; exact h.2⟩, by simp [flat, flat1]⟩
theorem check_wfs {l : List R4} (h : checkF l = 0) : ∀ r ∈ l, wf4 r := fun r hr => ⟨((checkF_ok h).2.1 r hr).1, ((checkF_ok h).2.1 r hr).2.1⟩
theorem piece_check {W H S : Int} (hp : okPat W H S) {l : List R4} (h : checkF l = 0) (k : Ky) : checkF (pieceR W H S l k) = 0 := by
  obtain ⟨h1, h2⟩ := piece_ok hp (check_wfs h) k
  exact can_check h1 (sub_valid (can_wf h1) (checkF_ok h).2.1 fun x y hm => ((h2 x y).1 hm).1) (piece_len hp h k)
theorem mem_keysT {W H S : Int} (hp : okPat W H S) {l : List R4} (hl : ∀ r ∈ l, wf4 r) (k : Ky) : k ∈ keysT W H S l ↔ ∃ x y, pmem l x y ∧ keyP W H S x y = k := by
  rw [← mem_allK hp hl]
  exact (srtK_ok _).2 k
theorem keysT_srt (W H S : Int) (l : List R4) : (keysT W H S l).Pairwise klt := (srtK_ok _).1
theorem piece_ne {W H S : Int} (hp : okPat W H S) {l : List R4} (hl : ∀ r ∈ l, wf4 r) {k : Ky} (hk : k ∈ keysT W H S l) : pieceR W H S l k ≠ [] := by
  obtain ⟨x, y, h1, h2⟩ := (mem_keysT hp hl k).1 hk
  intro e
  have := ((piece_ok hp hl k).2 x y).2 ⟨h1, h2⟩
  rw [e] at this
  obtain ⟨r, hr, _⟩ := this
  cases hr
theorem brR_in {W H S : Int} (hp : okPat W H S) {l : List R4} (h : checkF l = 0) {k : Ky} (hk : k ∈ keysT W H S l) : inFr 2000000 (brR W H S k) := by
  obtain ⟨x, y, ⟨r, hr, h1⟩, h2⟩ := (mem_keysT hp (check_wfs h) k).1 hk
  obtain ⟨a1, a2, a3, a4⟩ := (rin_brR hp k x y).2 h2
  obtain ⟨_, _, v1, v2, v3, v4⟩ := (checkF_ok h).2.1 r hr
  obtain ⟨p1, p2, p3, p4, _⟩ := hp
  unfold fineP at v1 v2 v3 v4
  unfold rin at h1
  unfold inFr
  simp only [brR] at a1 a2 a3 a4 ⊢
  rw [Int.add_mul] at a4 ⊢
  omega
theorem brR_box (W H S : Int) (k : Ky) (hp : okPat W H S) : box (brR W H S k) = W * H := by
  obtain ⟨p1, p2, p3, p4, _⟩ := hp
  unfold box brR
  simp only
  rw [show brX W H S k.2 k.1 + W - brX W H S k.2 k.1 = W by omega, show (k.1 + 1) * H - k.1 * H = H by rw [Int.add_mul]; omega, Int.max_eq_right (by omega), Int.max_eq_right (by omega)]
/-- A piece is its brick when its area is the brick's. -/
theorem piece_whole {W H S : Int} (hp : okPat W H S) {l : List R4} (h : checkF l = 0) {k : Ky} (hk : k ∈ keysT W H S l) : areaS (pieceR W H S l k) = W * H ↔ pieceR W H S l k = [brR W H S k] := by
  obtain ⟨m, hm⟩ : ∃ m : Nat, m = 2000000 := ⟨_, rfl⟩
  have hf := brR_in hp h hk
  rw [← hm] at hf
  obtain ⟨f1, f2, f3, f4⟩ := hf
  obtain ⟨c1, c2⟩ := piece_ok hp (check_wfs h) k
  have hv := vol_rect (m := m) f1 f2 f3 f4
  rw [brR_box W H S k hp] at hv
  rw [area_vol (piece_check hp h k) (m := m) (by omega), ← hv]
  constructor
  · intro e
    refine c1.ext (can_one (brR_wf hp k)) fun x y => ?_
    have h0 : ∀ x y, 0 ≤ ind (rin (brR W H S k) x y) - one (pieceR W H S l k) x y := fun x y => by
      unfold one
      by_cases hq : pmem (pieceR W H S l k) x y
      · have : rin (brR W H S k) x y := (rin_brR hp k x y).2 ((c2 x y).1 hq).2
        rw [ind_t hq, ind_t this]; omega
      · rw [ind_f hq]
        rcases ind_01 (rin (brR W H S k) x y) with h | h <;> omega
    have hz : vol m (fun x y => ind (rin (brR W H S k) x y) - one (pieceR W H S l k) x y) = 0 := by rw [vol_sub, e]; omega
    rw [show pmem [brR W H S k] x y ↔ rin (brR W H S k) x y by simp [pmem]]
    constructor
    · intro hq; exact (rin_brR hp k x y).2 ((c2 x y).1 hq).2
    · intro hq
      have hq2 := hq
      obtain ⟨q1, q2, q3, q4⟩ := hq2
      have := vol_all h0 hz x y (by omega) (by omega) (by omega) (by omega)
      rw [ind_t hq] at this
      apply Decidable.byContradiction
      intro hn
      unfold one at this
      rw [ind_f hn] at this
      omega
  · intro e
    refine vol_congr fun x y _ _ _ _ => ?_
    rw [e]
    unfold one
    exact ind_iff (by simp [pmem])
/-- Areas of the pieces. -/
theorem vol_sum {α : Type} (m : Nat) (f : α → Int → Int → Int) : ∀ L : List α, (L.map fun k => vol m (f k)).sum = vol m (fun x y => (L.map fun k => f k x y).sum)
  | [] => by simp [vol_zero]
  | k :: L => by simp only [List.map_cons, List.sum_cons, vol_sum m f L, vol_add]
theorem sum_key {W H S : Int} (hp : okPat W H S) {l : List R4} (hl : ∀ r ∈ l, wf4 r) (x y : Int) : ∀ {L : List Ky}, L.Pairwise klt → (L.map fun k => one (pieceR W H S l k) x y).sum = if pmem l x y ∧ keyP W H S x y ∈ L then 1 else 0
  | [], _ => by simp
  | k :: L, h => by
    obtain ⟨h1, h2⟩ := List.pairwise_cons.1 h
    simp only [List.map_cons, List.sum_cons, sum_key hp hl x y h2]
    have hm := (piece_ok hp hl k).2 x y
    unfold one
    rw [ind_iff hm]
    by_cases e : keyP W H S x y = k
    · subst e
      have hn : keyP W H S x y ∉ L := fun hm => klt_irr _ (h1 _ hm)
      by_cases hq : pmem l x y
      · rw [ind_t ⟨hq, rfl⟩]; simp [hq, hn]
      · rw [ind_f (fun h => hq h.1)]; simp [hq]
    · rw [ind_f (fun h => e h.2)]
      simp [e]
theorem sum_pieces {W H S : Int} (hp : okPat W H S) {l : List R4} (h : checkF l = 0) : ((keysT W H S l).map fun k => areaS (pieceR W H S l k)).sum = areaS l := by
  obtain ⟨m, hm⟩ : ∃ m : Nat, m = 2000000 := ⟨_, rfl⟩
  rw [List.map_congr_left (g := fun k => vol m (one (pieceR W H S l k))) fun k _ => area_vol (piece_check hp h k) (by omega), vol_sum, area_vol h (m := m) (by omega)]
  refine vol_congr fun x y _ _ _ _ => ?_
  rw [sum_key hp (check_wfs h) x y (keysT_srt W H S l)]
  unfold one ind
  by_cases hq : pmem l x y
  · rw [if_pos hq, if_pos ⟨hq, (mem_keysT hp (check_wfs h) _).2 ⟨x, y, hq, rfl⟩⟩]
  · rw [if_neg hq, if_neg (fun h => hq h.1)]
/-- Count. -/
def wholeB (W H S : Int) (q : Ky × List R4) : Bool := decide (q.2 = [brR W H S q.1])
def countF (W H S : Int) (l : List R4) : Int × Int × Int :=
  if (tileF W H S l).2 = 0 then (((tileF W H S l).1.filter (wholeB W H S)).length, ((tileF W H S l).1.length : Int) - ((tileF W H S l).1.filter (wholeB W H S)).length, 0) else (0, 0, (tileF W H S l).2)
theorem tileF_mem {W H S : Int} {l : List R4} {q : Ky × List R4} (h : q ∈ (tileF W H S l).1) : checkF l = 0 ∧ okPat W H S ∧ q.1 ∈ keysT W H S l ∧ q.2 = pieceR W H S l q.1 := by
  unfold tileF at h
  split at h
  · rename_i h1
    split at h
    · rename_i h2
      split at h
      · cases h
      · obtain ⟨k, hk, rfl⟩ := List.mem_map.1 h
        exact ⟨h1, h2, hk, rfl⟩
    · cases h
  · cases h
theorem whole_area {W H S : Int} {l : List R4} {q : Ky × List R4} (h : q ∈ (tileF W H S l).1) : wholeB W H S q = decide (areaS q.2 = W * H) := by
  obtain ⟨h1, h2, h3, h4⟩ := tileF_mem h
  unfold wholeB
  rw [h4]
  exact decide_eq_decide.2 (piece_whole h2 h1 h3).symm
/-- A part of a region: its pieces are parts of the region's pieces. -/
theorem part_keys {W H S : Int} (hp : okPat W H S) {l p : List R4} (hl : ∀ r ∈ l, wf4 r) (hw : ∀ r ∈ p, wf4 r) (hs : ∀ x y, pmem p x y → pmem l x y) {k : Ky} (hk : k ∈ keysT W H S p) : k ∈ keysT W H S l := by
  obtain ⟨x, y, h1, h2⟩ := (mem_keysT hp hw k).1 hk
  exact (mem_keysT hp hl k).2 ⟨x, y, hs x y h1, h2⟩
theorem part_piece {W H S : Int} (hp : okPat W H S) {l p : List R4} (hl : checkF l = 0) (hw : checkF p = 0) (hs : ∀ x y, pmem p x y → pmem l x y) (k : Ky) : joinF hAnd (pieceR W H S l k) p = (pieceR W H S p k, 0) := by
  have c1 := piece_check hp hl k
  obtain ⟨p1, p2⟩ := piece_ok hp (check_wfs hw) k
  have e : rjoin hAnd (pieceR W H S l k) p = pieceR W H S p k := by
    obtain ⟨q1, q2⟩ := rjoin_ok (h := hAnd) rfl (check_wfs c1) (check_wfs hw)
    refine q1.ext p1 fun x y => ?_
    rw [q2, p2]
    have hm := (piece_ok hp (check_wfs hl) k).2 x y
    simp only [hAnd, Bool.and_eq_true, decide_eq_true_eq]
    rw [hm]
    constructor
    · rintro ⟨⟨_, h2⟩, h3⟩; exact ⟨h3, h2⟩
    · rintro ⟨h3, h2⟩; exact ⟨⟨hs x y h3, h2⟩, h3⟩
  rw [joinF_ok c1 hw, e, if_neg (by have := piece_len hp hw k; omega)]
/-- A piece leaves nothing of the region's, nor of its brick's. -/
theorem piece_out {W H S : Int} (hp : okPat W H S) {l m : List R4} (hl : checkF l = 0) (hm : checkF m = 0) (k : Ky) {h : Bool → Bool → Bool} (h0 : ∀ a b, h a b = (a && !b)) (hs : ∀ x y, pmem l x y → keyP W H S x y = k → pmem m x y) : joinF h (pieceR W H S l k) m = ([], 0) := by
  have c1 := piece_check hp hl k
  have hf : h false false = false := by rw [h0]; rfl
  have e : rjoin h (pieceR W H S l k) m = [] := by
    obtain ⟨q1, q2⟩ := rjoin_ok (h := h) hf (check_wfs c1) (check_wfs hm)
    refine q1.ext RCan.nil fun x y => ?_
    rw [q2]
    have hk := (piece_ok hp (check_wfs hl) k).2 x y
    rw [h0]
    simp only [Bool.and_eq_true, decide_eq_true_eq, Bool.not_eq_true', decide_eq_false_iff_not]
    constructor
    · rintro ⟨h1, h2⟩
      obtain ⟨h3, h4⟩ := hk.1 h1
      exact absurd (hs x y h3 h4) h2
    · rintro ⟨r, hr, _⟩; cases hr
  rw [joinF_ok c1 hm, e, if_neg (by simp)]
end Go.Proofs.YtjlfdgoijalfaaaGreat

/- The pieces as they lie in memory: read by place; one put in between. -/
namespace Go.Proofs.YtjlfdgoijalfaaaGreat
open Go.RowKit
set_option linter.unusedVariables false
set_option linter.unusedSimpArgs false

theorem set_three {α : Type} : ∀ (L : List α) (o : Nat) (a b c : α), o + 3 ≤ L.length → ((L.set o a).set (o + 1) b).set (o + 2) c = splice L o [a, b, c]
  | [], o, a, b, c, h => by simp at h
  | x :: T, o + 1, a, b, c, h => by
    have ih := set_three T o a b c (by simpa using h)
    have e : splice (x :: T) (o + 1) [a, b, c] = x :: splice T o [a, b, c] := by
      simp [splice, show o + 1 + 3 = (o + 3) + 1 by omega]
    rw [e, ← ih]
    rfl
  | [_], 0, a, b, c, h => by simp at h
  | [_, _], 0, a, b, c, h => by simp at h
  | x :: y :: z :: T, 0, a, b, c, h => by simp [splice]
theorem encP_one {L : List (Ky × Value)} (h : ∀ q ∈ L, q.2.oneCell' = true) : ∀ v ∈ L.flatMap encP, v.oneCell' = true := by
  intro v hv
  obtain ⟨a, ha, hv⟩ := List.mem_flatMap.1 hv
  simp only [encP, List.mem_cons, List.not_mem_nil, or_false] at hv
  rcases hv with rfl | rfl | rfl
  · rfl
  · rfl
  · exact h a ha
theorem ids {n : Nat} {w : World} {B : Nat} {e : TypeId} {s : Nat} {v : Value} {xs : List Value} (h : w.ownsRow B e s v n xs) : v.oneCell' = true := by
  obtain ⟨A, c, rfl⟩ := own_form h
  rfl
/-- The pieces by their places. -/
theorem Pcs.form {w wr : World} {Ao : Option Addr} {n co : Nat} {R : List (Ky × List R4)} (h : Pcs w (.slice Ao n co) R wr) (hn : 0 < R.length) : ∃ g, Ao = some ⟨g, 0, none⟩ ∧ w.heap.size ≤ g ∧ g < wr.heap.size ∧ ∀ (j : Nat) (k : Ky) (r : List R4), R[j]? = some (k, r) →
    wr.cell? ⟨g, j * 3, none⟩ = some (.int .i64 k.2) ∧ wr.cell? ⟨g, j * 3 + 1, none⟩ = some (.int .i64 k.1) ∧ ∃ u, wr.cell? ⟨g, j * 3 + 2, none⟩ = some u ∧ wr.ownsRow w.heap.size 41 4 u r.length (r.flatMap encR) := by
  obtain ⟨L, h0, h1, h2⟩ := h.o
  obtain ⟨g, cap, hv, h3, h4⟩ := h1.form hn
  injection hv with e1 _ e3
  subst e1; subst e3
  refine ⟨g, rfl, h3, h4, fun j k r hj => ?_⟩
  obtain ⟨u, h5, h6⟩ := h2 j k r hj
  have cl : ∀ (i : Nat) (v : Value), (encP (k, u))[i]? = some v → wr.cell? ⟨g, j * 3 + i, none⟩ = some v := fun i v hv => by
    have := (h1.cells (g := g) (by rfl)) _ _ (flat_get (k := 3) (fun _ => rfl) L j (k, u) i v h5 hv)
    rwa [addr_add] at this
  exact ⟨cl 0 _ rfl, cl 1 _ rfl, u, cl 2 _ rfl, h6⟩
theorem ins_at {α : Type} (L : List α) (n : Nat) (x : α) (hn : n ≤ L.length) (i : Nat) : (L.take n ++ x :: L.drop n)[i]? = if i < n then L[i]? else if i = n then some x else L[i - 1]? := by
  rw [List.getElem?_append, List.length_take, Nat.min_eq_left hn]
  by_cases h1 : i < n
  · rw [if_pos h1, if_pos h1, List.getElem?_take, if_pos h1]
  · rw [if_neg h1, if_neg h1]
    by_cases h2 : i = n
    · subst h2; simp
    · rw [if_neg h2]
      obtain ⟨d, hd⟩ : ∃ d, i - n = d + 1 := ⟨i - n - 1, by omega⟩
      rw [hd, List.getElem?_cons_succ, List.getElem?_drop]
      congr 1
      omega
/-- A piece put in. -/
theorem Pcs.ins {w wp w6 : World} {v6 : Value} {R : List (Ky × List R4)} {L : List (Ky × Value)} {n : Nat} {k : Ky} {r : List R4} {u : Value} (low : Below w.heap.size w w6) (hL : L.length = R.length) (hn : n ≤ R.length)
    (h2 : ∀ (i : Nat) (k : Ky) (r : List R4), R[i]? = some (k, r) → ∃ u, L[i]? = some (k, u) ∧ wp.ownsRow w.heap.size 41 4 u r.length (r.flatMap encR))
    (hk : ∀ (v : Value) (m : Nat) (xs : List Value), wp.ownsRow w.heap.size 41 4 v m xs → w6.ownsRow w.heap.size 41 4 v m xs) (hu : w6.ownsRow w.heap.size 41 4 u r.length (r.flatMap encR))
    (h6 : w6.ownsRow w.heap.size 48 3 v6 (R.length + 1) ((L.take n ++ (k, u) :: L.drop n).flatMap encP)) : Pcs w v6 (R.take n ++ (k, r) :: R.drop n) w6 := by
  have e : (R.take n ++ (k, r) :: R.drop n).length = R.length + 1 := by simp; omega
  refine ⟨low, L.take n ++ (k, u) :: L.drop n, by simp; omega, by rw [e]; exact h6, fun i k' x hx => ?_⟩
  rw [ins_at R n _ hn] at hx
  rw [ins_at L n _ (by omega)]
  split at hx
  · rename_i h1
    rw [if_pos h1]
    obtain ⟨v, q1, q2⟩ := h2 i k' x hx
    exact ⟨v, q1, hk _ _ _ q2⟩
  · rename_i h1
    rw [if_neg h1]
    split at hx
    · rename_i h3
      rw [if_pos h3]
      injection hx with hx
      injection hx with e1 e2
      subst e1; subst e2
      exact ⟨u, rfl, hu⟩
    · rename_i h3
      rw [if_neg h3]
      obtain ⟨v, q1, q2⟩ := h2 _ k' x hx
      exact ⟨v, q1, hk _ _ _ q2⟩
/-- The reference's box for the pattern. -/
structure T1 (w : World) (W H S : Int) (wi : World) : Prop where
  low : Below w.heap.size w wi
  hb : w.heap.size + 1 ≤ wi.heap.size
  p0 : wi.cell? ⟨w.heap.size, 0, none⟩ = some (.int .i64 W)
  p1 : wi.cell? ⟨w.heap.size, 1, none⟩ = some (.int .i64 H)
  p2 : wi.cell? ⟨w.heap.size, 2, none⟩ = some (.int .i64 S)
theorem T1.start (w : World) (W H S : Int) : T1 w W H S (w.alloc (.cells #[.int .i64 W, .int .i64 H, .int .i64 S] 27)) := by
  refine ⟨(Below.refl _ _).alloc (Nat.le_refl _) _, by simp, ?_, ?_, ?_⟩ <;> simp [go_sem]
theorem T1.below {w : World} {W H S : Int} {wi wj : World} (h : T1 w W H S wi) (hb : Below wi.heap.size wi wj) : T1 w W H S wj := by
  have h3 := h.hb
  have cl : ∀ b o u, b < wi.heap.size → wi.cell? ⟨b, o, none⟩ = some u → wj.cell? ⟨b, o, none⟩ = some u := fun b o u hlt e => (hb.cell (p := ⟨b, o, none⟩) hlt).trans e
  exact ⟨h.low.trans (hb.mono (by omega)), Nat.le_trans h3 hb.size, cl _ _ _ (by omega) h.p0, cl _ _ _ (by omega) h.p1, cl _ _ _ (by omega) h.p2⟩
theorem T1.keep {w : World} {W H S : Int} {wi wj : World} (h : T1 w W H S wi) (hb : Below wi.heap.size wi wj) : T1 w W H S wj := h.below hb
/-- The hull near the origin. -/
theorem hull_near {l : List R4} (h0 : checkF l = 0) (hn : ∀ r ∈ l, near4 30 r) : ∃ x0 y0 x1 y1 e : Int, hullF l = (⟨x0, y0, x1, y1⟩, e) ∧ ((l = [] ∧ x0 = 0 ∧ y0 = 0 ∧ x1 = 0 ∧ y1 = 0) ∨ (l ≠ [] ∧ IsHull l ⟨x0, y0, x1, y1⟩ ∧ e = 0)) ∧ -30 ≤ x0 ∧ -30 ≤ y0 ∧ x1 ≤ 30 ∧ y1 ≤ 30 ∧ x0 ≤ x1 ∧ y0 ≤ y1 := by
  by_cases hl : l = []
  · subst hl
    exact ⟨0, 0, 0, 0, 6, by unfold hullF; rw [if_pos h0, if_pos rfl], .inl ⟨rfl, rfl, rfl, rfl, rfl⟩, by omega, by omega, by omega, by omega, by omega, by omega⟩
  · have hh := hullL_ok hl
    obtain ⟨⟨p0, q0, e0⟩, ⟨p1, q1, e1⟩, ⟨p2, q2, e2⟩, ⟨p3, q3, e3⟩, hb⟩ := id hh
    have w0 := check_wfs h0 p0 q0
    have w1 := check_wfs h0 p1 q1
    have b0 := hb p0 q0
    have b1 := hb p1 q1
    have n0 := hn p0 q0
    have n1 := hn p1 q1
    have n2 := hn p2 q2
    have n3 := hn p3 q3
    refine ⟨(hullL l).x0, (hullL l).y0, (hullL l).x1, (hullL l).y1, 0, by unfold hullF; rw [if_pos h0, if_neg hl], .inr ⟨hl, hh, rfl⟩, ?_⟩
    unfold near4 at n0 n1 n2 n3
    unfold wf4 at w0 w1
    omega
theorem insK_len (k : Ky) : ∀ L : List Ky, (insK k L).length ≤ L.length + 1
  | [] => by simp [insK]
  | a :: L => by
    unfold insK
    have := insK_len k L
    split
    · simp
    · split <;> simp <;> omega
theorem SK.fin {W H S : Int} (hp : okPat W H S) {l : List R4} (hl : ∀ r ∈ l, wf4 r) {h : R4} {e : Int} (hh : (l = [] ∧ h.x0 = 0 ∧ h.y0 = 0 ∧ h.x1 = 0 ∧ h.y1 = 0) ∨ (l ≠ [] ∧ IsHull l h ∧ e = 0)) {y : Int} (hy : h.y1 ≤ y) {L : List Ky} (q : SK W H S l h y h.x0 L) : L = keysT W H S l := by
  rcases hh with ⟨rfl, _⟩ | ⟨_, hu, _⟩
  · rw [keysT_nil]
    cases L with
    | nil => rfl
    | cons k L =>
      obtain ⟨u, v, _, ⟨r, hr, _⟩, _⟩ := (q.mem k).1 (by simp)
      cases hr
  · exact q.all hp hl hu hy
end Go.Proofs.YtjlfdgoijalfaaaGreat

/- RegionMakes' walk: Check, Make, Has, Area and Same against the reference. -/
namespace Go.Proofs.YtjlfdgoijalfaaaGreat
open Go.RowKit
set_option linter.unusedVariables false
set_option linter.unusedSimpArgs false

theorem not_great {n : Nat} (h : ¬ greatP n) : n ≤ 420 := by unfold greatP at h; omega
theorem rSameSelf {w : World} {v v' : Value} {l : List R4} (h : RdK encR 4 w w.heap.size v l) (h' : RdK encR 4 w w.heap.size v' l) (hl : l.length ≤ 100000000) :
    Calls Tryz.prog 18 #[v, v'] w fun e w' => e = .returned (.bool true) ∧ Below w.heap.size w w' := by
  have := rSameRects_any h h' hl (Nat.le_refl _) (Nat.le_refl _)
  rwa [decide_eq_true rfl] at this

end Go.Proofs.YtjlfdgoijalfaaaGreat

/- Tilings read from memory: a list of pieces, as a law or the reference reads it; the reference's Same at two tilings with the same pieces. -/
namespace Go.Proofs.YtjlfdgoijalfaaaGreat
open Go.RowKit
set_option linter.unusedVariables false
set_option linter.unusedSimpArgs false
attribute [local go_sem] Oper.semAt_some

def RdP (w : World) (B : Nat) (v : Value) (R : List (Ky × List R4)) : Prop :=
  ∃ A c, v = .slice A R.length c ∧ (R ≠ [] → ∃ b, A = some ⟨b, 0, none⟩ ∧ b < B ∧ ∀ (j : Nat) (k : Ky) (r : List R4), R[j]? = some (k, r) →
    w.cell? ⟨b, j * 3, none⟩ = some (.int .i64 k.2) ∧ w.cell? ⟨b, j * 3 + 1, none⟩ = some (.int .i64 k.1) ∧ ∃ u, w.cell? ⟨b, j * 3 + 2, none⟩ = some u ∧ RdK encR 4 w B u r)
theorem RdP.below {w w' : World} {B : Nat} {v : Value} {R : List (Ky × List R4)} (h : RdP w B v R) (hb : Below B w w') : RdP w' B v R := by
  obtain ⟨A, c, hv, h⟩ := h
  refine ⟨A, c, hv, fun hne => ?_⟩
  obtain ⟨b, h1, h2, h3⟩ := h hne
  refine ⟨b, h1, h2, fun j k r hj => ?_⟩
  obtain ⟨q1, q2, u, q3, q4⟩ := h3 j k r hj
  exact ⟨(hb.cell (p := ⟨b, _, none⟩) h2).trans q1, (hb.cell (p := ⟨b, _, none⟩) h2).trans q2, u, (hb.cell (p := ⟨b, _, none⟩) h2).trans q3, q4.below hb⟩
theorem RdP.mono {w : World} {B B' : Nat} {v : Value} {R : List (Ky × List R4)} (h : RdP w B v R) (hB : B ≤ B') : RdP w B' v R := by
  obtain ⟨A, c, hv, h⟩ := h
  refine ⟨A, c, hv, fun hne => ?_⟩
  obtain ⟨b, h1, h2, h3⟩ := h hne
  refine ⟨b, h1, by omega, fun j k r hj => ?_⟩
  obtain ⟨q1, q2, u, q3, q4⟩ := h3 j k r hj
  exact ⟨q1, q2, u, q3, q4.mono hB⟩
theorem pcs_rd {B : Nat} {x : List (Ky × List R4) × Int} {e : Ending} {w' : World} (h : PcsRet B x e w') : ∃ v, e = .returned (.tuple #[v, .int .i64 x.2]) ∧ RdP w' w'.heap.size v x.1 := by
  obtain ⟨A, c, L, he, h0, h1, h2⟩ := h
  refine ⟨_, he, A, c, rfl, fun hne => ?_⟩
  have hn : 0 < x.1.length := List.length_pos_iff.2 hne
  obtain ⟨g, cap, hv, h3, h4⟩ := h1.form hn
  injection hv with e1 _ e3
  subst e1; subst e3
  refine ⟨g, rfl, h4, fun j k r hj => ?_⟩
  obtain ⟨u, h5, h6⟩ := h2 j k r hj
  have cl : ∀ (i : Nat) (v : Value), (encP (k, u))[i]? = some v → w'.cell? ⟨g, j * 3 + i, none⟩ = some v := fun i v hv => by
    have := (h1.cells (g := g) (by rfl)) _ _ (flat_get (k := 3) (fun _ => rfl) L j (k, u) i v h5 hv)
    rwa [addr_add] at this
  exact ⟨cl 0 _ rfl, cl 1 _ rfl, u, cl 2 _ rfl, own_rd h6 (fun _ => rfl)⟩
set_option maxRecDepth 100000 in
set_option maxHeartbeats 4000000 in
theorem rSameT {w : World} {va vb : Value} {R : List (Ky × List R4)} (ha : RdP w w.heap.size va R) (hb : RdP w w.heap.size vb R) (hl : R.length ≤ 400) (hj : ∀ q ∈ R, q.2.length ≤ 400) :
    Calls Tryz.prog 8 #[va, vb] w fun e w' => e = .returned (.bool true) ∧ Below w.heap.size w w' := by
  obtain ⟨A1, c1, rfl, h1⟩ := ha
  obtain ⟨A2, c2, rfl, h2⟩ := hb
  have H1 := hide h1
  have H2 := hide h2
  have HJ := hide hj
  clear h1 h2 hj
  go_enter Tryz.func8, Tryz.ntmps8
  go_wp2
  go_loopw [5] (fun i wr => ∃ m : Nat, m ≤ R.length ∧ i = .int .i64 (m : Int) ∧ Hid (Below w.heap.size w wr)) (fun i _ => R.length - (intOf i).toNat)
  case atStart => exact ⟨0, Nat.zero_le _, rfl, hide (Below.refl _ _)⟩
  case round =>
    obtain ⟨m, hm, rfl, HB⟩ := hrel
    by_cases hlt : m < R.length
    · obtain ⟨⟨⟨row, col⟩, J⟩, hk⟩ : ∃ q, R[m]? = some q := ⟨_, List.getElem?_eq_getElem hlt⟩
      have hne : R ≠ [] := by intro e; rw [e] at hlt; simp at hlt
      obtain ⟨g1, rfl, hg1, k1⟩ := H1.out hne
      obtain ⟨g2, rfl, hg2, k2⟩ := H2.out hne
      obtain ⟨a0, a1, u1, a2, r1⟩ := k1 m _ _ hk
      obtain ⟨b0, b1, u2, b2, r2⟩ := k2 m _ _ hk
      have hJl := HJ.out _ (List.mem_of_getElem? hk)
      have hls := HB.out.size
      have a0 : wr.cell? ⟨g1, m * 3, none⟩ = some (.int .i64 col) := (HB.out.cell (p := ⟨g1, _, none⟩) hg1).trans a0
      have a1 : wr.cell? ⟨g1, m * 3 + 1, none⟩ = some (.int .i64 row) := (HB.out.cell (p := ⟨g1, _, none⟩) hg1).trans a1
      have a2 : wr.cell? ⟨g1, m * 3 + 2, none⟩ = some u1 := (HB.out.cell (p := ⟨g1, _, none⟩) hg1).trans a2
      have b0 : wr.cell? ⟨g2, m * 3, none⟩ = some (.int .i64 col) := (HB.out.cell (p := ⟨g2, _, none⟩) hg2).trans b0
      have b1 : wr.cell? ⟨g2, m * 3 + 1, none⟩ = some (.int .i64 row) := (HB.out.cell (p := ⟨g2, _, none⟩) hg2).trans b1
      have b2 : wr.cell? ⟨g2, m * 3 + 2, none⟩ = some u2 := (HB.out.cell (p := ⟨g2, _, none⟩) hg2).trans b2
      have HSS : Hid (∀ y : Above wr, Calls Tryz.prog 18 #[u1, u2] y.get fun e w'' => e = .returned (.bool true) ∧ ∃ z : Above wr, w'' = z.get) := hide (fun y => above_of (rSameSelf (((r1.below HB.out).mono HB.out.size).below y.keeps |>.mono y.keeps.size) (((r2.below HB.out).mono HB.out.size).below y.keeps |>.mono y.keeps.size) (by simp only at hJl; omega)))
      have mz : (m : Int) < (R.length : Int) := by omega
      have hg1r : g1 < wr.heap.size := by omega
      have hg2r : g2 < wr.heap.size := by omega
      clear hk k1 k2 r1 r2 hne hJl
      go_upto_region 6 with fail
      refine wp_hab fun hab => ?_
      refine wp_region_above (by kernel_rfl) (by kernel_rfl) ?_
      repeat (go_big_quiet_step ((go_at_call 18; exact HSS.out _)))
      refine wpQuiet_nil ?_
      refine above_ends fun w3 hb3 => ?_
      clear hab
      have HB3 := hide (HB.out.trans (hb3.mono HB.out.size))
      clear hb3 a0 a1 a2 b0 b1 b2
      go_wp2
      go_roundw
      case rel => exact ⟨m + 1, by omega, by go_num, HB3⟩
      case measure => simp [intOf]; omega
    · obtain rfl : m = R.length := by omega
      have mz : ¬ (R.length : Int) < (R.length : Int) := by omega
      go_wp2
      go_ret
      exact ⟨rfl, HB.out⟩
end Go.Proofs.YtjlfdgoijalfaaaGreat

/- region.Hull and the reference's Hull. -/
namespace Go.Proofs.YtjlfdgoijalfaaaGreat
open Go.RowKit
set_option linter.unusedVariables false
set_option linter.unusedSimpArgs false

/-- The result's box R and the hull's box H, between two rectangles. -/
structure HullR (w : World) (H : Nat) (P : R4) (wr : World) : Prop where
  low : Below w.heap.size w wr
  gt : w.heap.size < H
  lt : H < wr.heap.size
  c : wr.cell? ⟨H, 0, none⟩ = some (.int .i64 P.x0) ∧ wr.cell? ⟨H, 1, none⟩ = some (.int .i64 P.y0) ∧ wr.cell? ⟨H, 2, none⟩ = some (.int .i64 P.x1) ∧ wr.cell? ⟨H, 3, none⟩ = some (.int .i64 P.y1)
  f : ∀ j, wr.frozen? ⟨H, j, none⟩ = false
  r : wr.cell? ⟨w.heap.size, 0, none⟩ = some (.int .i64 0) ∧ wr.cell? ⟨w.heap.size, 1, none⟩ = some (.int .i64 0) ∧ wr.cell? ⟨w.heap.size, 2, none⟩ = some (.int .i64 0) ∧ wr.cell? ⟨w.heap.size, 3, none⟩ = some (.int .i64 0)
  fr : ∀ j, wr.frozen? ⟨w.heap.size, j, none⟩ = false
theorem HullR.below {w wr w2 : World} {H : Nat} {P : R4} (h : HullR w H P wr) (hb : Below wr.heap.size wr w2) : HullR w H P w2 := by
  have hl := h.lt
  have hg := h.gt
  have k1 := fun j => hb.cell (p := ⟨H, j, none⟩) hl
  have k2 := fun j => hb.frozen (p := ⟨H, j, none⟩) hl
  have k3 := fun j => hb.cell (p := ⟨w.heap.size, j, none⟩) (by show w.heap.size < _; omega)
  have k4 := fun j => hb.frozen (p := ⟨w.heap.size, j, none⟩) (by show w.heap.size < _; omega)
  exact ⟨h.low.trans (hb.mono h.low.size), hg, Nat.lt_of_lt_of_le hl hb.size, ⟨(k1 0).trans h.c.1, (k1 1).trans h.c.2.1, (k1 2).trans h.c.2.2.1, (k1 3).trans h.c.2.2.2⟩, fun j => (k2 j).trans (h.f j), ⟨(k3 0).trans h.r.1, (k3 1).trans h.r.2.1, (k3 2).trans h.r.2.2.1, (k3 3).trans h.r.2.2.2⟩, fun j => (k4 j).trans (h.fr j)⟩
theorem HullR.set {w wr : World} {H : Nat} {P : R4} (h : HullR w H P wr) (a b c d : Int) : HullR w H ⟨a, b, c, d⟩ ((((wr.setCell ⟨H, 0, none⟩ (.int .i64 a)).setCell ⟨H, 1, none⟩ (.int .i64 b)).setCell ⟨H, 2, none⟩ (.int .i64 c)).setCell ⟨H, 3, none⟩ (.int .i64 d)) := by
  have hl := h.lt
  have hg := h.gt
  obtain ⟨c0, c1, c2, c3⟩ := h.c
  obtain ⟨r0, r1, r2, r3⟩ := h.r
  have ne : w.heap.size ≠ H := by omega
  have ge : w.heap.size ≤ H := by omega
  refine ⟨(((h.low.setCell ge _).setCell ge _).setCell ge _).setCell ge _, hg, by simpa [World.setCell] using hl, ⟨by simp [go_sem, c0], by simp [go_sem, c1], by simp [go_sem, c2], by simp [go_sem, c3]⟩, fun j => ?_, ⟨by simp [go_sem, r0, ne], by simp [go_sem, r1, ne], by simp [go_sem, r2, ne], by simp [go_sem, r3, ne]⟩, fun j => ?_⟩
  · rw [World.frozen?_setCell, World.frozen?_setCell, World.frozen?_setCell, World.frozen?_setCell]; exact h.f j
  · rw [World.frozen?_setCell, World.frozen?_setCell, World.frozen?_setCell, World.frozen?_setCell]; exact h.fr j

set_option maxRecDepth 100000 in
set_option maxHeartbeats 4000000 in
theorem rHull_any {w : World} {v : Value} {l : List R4} (hr : RdK encR 4 w w.heap.size v l) (hl : l.length ≤ 100000000) :
    Calls Tryz.prog 38 #[v] w fun e w' => e = .returned (.tuple #[.agg (encR (hullF l).1).toArray, .int .i64 (hullF l).2]) ∧ Below w.heap.size w w' := by
  have hck := fun (W : World) (hW : Below w.heap.size w W) => rCheck_any (w := W) ((hr.below hW).mono hW.size) hl
  obtain ⟨A, c, hv, hc⟩ := id hr
  subst hv
  have HCK := hide hck
  have HR := hide hr
  clear hck hr hc
  have hb0 : Below w.heap.size w (w.alloc (.cells #[.int .i64 0, .int .i64 0, .int .i64 0, .int .i64 0] 41)) := (Below.refl _ _).alloc (Nat.le_refl _) _
  have HB0 := hide hb0
  clear hb0
  have key : ∀ w1, Below (w.alloc (.cells #[.int .i64 0, .int .i64 0, .int .i64 0, .int .i64 0] 41)).heap.size (w.alloc (.cells #[.int .i64 0, .int .i64 0, .int .i64 0, .int .i64 0] 41)) w1 →
      (w1.cell? ⟨w.heap.size, 0, none⟩ = some (.int .i64 0) ∧ w1.cell? ⟨w.heap.size, 1, none⟩ = some (.int .i64 0) ∧ w1.cell? ⟨w.heap.size, 2, none⟩ = some (.int .i64 0) ∧ w1.cell? ⟨w.heap.size, 3, none⟩ = some (.int .i64 0)) ∧ ∀ j, w1.frozen? ⟨w.heap.size, j, none⟩ = false := by
    intro w1 hb
    have hc := fun j => hb.cell (p := ⟨w.heap.size, j, none⟩) (by simp)
    have hf := fun j => hb.frozen (p := ⟨w.heap.size, j, none⟩) (by simp)
    exact ⟨⟨(hc 0).trans (by simp [go_sem]), (hc 1).trans (by simp [go_sem]), (hc 2).trans (by simp [go_sem]), (hc 3).trans (by simp [go_sem])⟩, fun j => (hf j).trans (by simp [go_sem])⟩
  have KEY := hide key
  clear key
  by_cases h0 : checkF l = 0
  · obtain ⟨k1, k2, _⟩ := checkF_ok h0
    rw [h0] at HCK
    have H0 := hide h0
    clear h0
    by_cases hle : l = []
    · have HF : Hid (hullF l = (⟨0, 0, 0, 0⟩, 6)) := hide (by unfold hullF; rw [if_pos H0.out, if_pos hle])
      subst hle
      clear k2
      go_enter Tryz.func38, Tryz.ntmps38
      go_wp2_with (fail)
      refine (HCK.out _ HB0.out).mono ?_
      rintro e w1 ⟨rfl, hb1⟩
      obtain ⟨⟨r0, r1, r2, r3⟩, hf⟩ := KEY.out w1 hb1
      have f0 := hf 0
      have f1 := hf 1
      have f2 := hf 2
      have f3 := hf 3
      have HB1 := hide hb1
      clear hb1 hf
      go_wp2_with (fail)
      refine bodyPost_ret (v := .tuple #[.agg #[.int .i64 0, .int .i64 0, .int .i64 0, .int .i64 0], .int .i64 6]) (by simp [results, Tryz.results38, go_sem, r0, r1, r2, r3]) rfl ⟨by rw [HF.out]; rfl, ?_⟩
      exact ((((HB0.out.trans (HB1.out.mono (by simp))).setCell (Nat.le_refl _) _).setCell (Nat.le_refl _) _).setCell (Nat.le_refl _) _).setCell (Nat.le_refl _) _
    · have HF : Hid (hullF l = (hullL l, 0)) := hide (by unfold hullF; rw [if_pos H0.out, if_neg hle])
      have hlp : 0 < l.length := List.length_pos_iff.2 hle
      have hne0 : ((l.length : Int) == 0) = false := by simp; omega
      have hcuts := hull_cuts hle (fun r hr => ⟨(k2 r hr).1, (k2 r hr).2.1⟩)
      have hX := fun (W : World) (hW : Below w.heap.size w W) => rXs_any (w := W) ((HR.out.below hW).mono hW.size) (RdK.nil (α := R4) none 0) (Nat.le_refl _) (by omega) (by simp)
      have hY := fun (W : World) (hW : Below w.heap.size w W) => rYs_any (w := W) ((HR.out.below hW).mono hW.size) (RdK.nil (α := R4) none 0) (Nat.le_refl _) (by omega) (by simp)
      have hxl : (srt (cutsL l ++ cutsL [])).length ≤ 1000 := by have := srt_len (cutsL l ++ cutsL []); rw [List.length_append, cutsL_len, cutsL_len] at this; simp at this; omega
      have hyl : (srt (cutsY l ++ cutsY [])).length ≤ 1000 := by have := srt_len (cutsY l ++ cutsY []); rw [List.length_append, cutsY_len, cutsY_len] at this; simp at this; omega
      generalize srt (cutsL l ++ cutsL []) = xs at *
      generalize srt (cutsY l ++ cutsY []) = ys at *
      generalize hullL l = P at *
      obtain ⟨p0, p1, p2, p3⟩ := P
      obtain ⟨⟨e0, e2, lx⟩, e1, e3, ly⟩ := hcuts
      obtain ⟨nx, hnx⟩ : ∃ nx, xs.length = nx + 1 := ⟨xs.length - 1, by omega⟩
      obtain ⟨ny, hny⟩ : ∃ ny, ys.length = ny + 1 := ⟨ys.length - 1, by omega⟩
      rw [hnx, Nat.add_sub_cancel] at e2
      rw [hny, Nat.add_sub_cancel] at e3
      have hnx2 : nx ≤ 1000 := by omega
      have hny2 : ny ≤ 1000 := by omega
      have HE := hide (And.intro (And.intro e0 e2) (And.intro e1 e3))
      have HNX := hide hnx
      have HNY := hide hny
      have HX := hide hX
      have HY := hide hY
      clear hle k2 hX hY e0 e1 e2 e3 hnx hny hxl hyl lx ly
      go_enter Tryz.func38, Tryz.ntmps38
      go_wp2_with (fail)
      refine (HCK.out _ HB0.out).mono ?_
      rintro e w1 ⟨rfl, hb1⟩
      have HB1 := hide (HB0.out.trans (hb1.mono (by simp)))
      have HB1' := hide hb1
      clear hb1
      go_wp2_with (fail)
      refine (HX.out _ HB1.out).mono ?_
      rintro e w2 ⟨vx, rfl, ox, hb2⟩
      have HB2 := hide (HB1.out.trans (hb2.mono HB1.out.size))
      have HB2' := hide (HB1'.out.trans (hb2.mono HB1'.out.size))
      obtain ⟨gx, cpx, hvx, hgx0, hgx⟩ := ox.form (by rw [HNX.out]; omega)
      subst hvx
      have OX := hide ox
      clear hb2 ox
      go_wp2_with (fail)
      refine (HY.out _ HB2.out).mono ?_
      rintro e w3 ⟨vy, rfl, oy, hb3⟩
      obtain ⟨gy, cpy, hvy, hgy0, hgy⟩ := oy.form (by rw [HNY.out]; omega)
      subst hvy
      have ox3 := own_below OX.out hb3
      have x0 : w3.cell? ⟨gx, 0, none⟩ = some (.int .i64 p0) := by
        have := (ox3.cells (g := gx) rfl) 0 (iv p0) (by rw [List.getElem?_map, HE.out.1.1]; rfl)
        rwa [addr_add] at this
      have x2 : w3.cell? ⟨gx, nx, none⟩ = some (.int .i64 p2) := by
        have := (ox3.cells (g := gx) rfl) nx (iv p2) (by rw [List.getElem?_map, HE.out.1.2]; rfl)
        rwa [addr_add] at this
      have x1 : w3.cell? ⟨gy, 0, none⟩ = some (.int .i64 p1) := by
        have := (oy.cells (g := gy) rfl) 0 (iv p1) (by rw [List.getElem?_map, HE.out.2.1]; rfl)
        rwa [addr_add] at this
      have x3 : w3.cell? ⟨gy, ny, none⟩ = some (.int .i64 p3) := by
        have := (oy.cells (g := gy) rfl) ny (iv p3) (by rw [List.getElem?_map, HE.out.2.2]; rfl)
        rwa [addr_add] at this
      have HB3 := hide (HB2.out.trans (hb3.mono HB2.out.size))
      have hs1 : w.heap.size < w1.heap.size := by have := HB1'.out.size; simp at this; omega
      have hs2 := HB2'.out.size
      have hs3 := HB2.out.size
      have nx1 : gx ≠ w.heap.size := by omega
      have ny1 : gy ≠ w.heap.size := by simp at hs2; omega
      have nx2 : w.heap.size ≠ gx := fun e => nx1 e.symm
      have ny2 : w.heap.size ≠ gy := fun e => ny1 e.symm
      obtain ⟨⟨r0, r1, r2, r3⟩, hf⟩ := KEY.out w3 (HB2'.out.trans (hb3.mono HB2'.out.size))
      have f0 := hf 0
      have f1 := hf 1
      have f2 := hf 2
      have f3 := hf 3
      clear hb3 oy ox3 hf
      rw [HNX.out, HNY.out]
      have t1 : IntKind.i64.wrap (nx : Int) = nx := by simp [IntKind.wrap, IntKind.bits, IntKind.signed]; omega
      have t2 : IntKind.i64.wrap (ny : Int) = ny := by simp [IntKind.wrap, IntKind.bits, IntKind.signed]; omega
      have q1 : (0 : Int) ≤ (nx : Int) := by omega
      have q2 : (0 : Int) ≤ (ny : Int) := by omega
      have q3 : (nx : Int) < (nx : Int) + 1 := by omega
      have q4 : (ny : Int) < (ny : Int) + 1 := by omega
      have q5 : (0 : Int) < (nx : Int) + 1 := by omega
      have q6 : (0 : Int) < (ny : Int) + 1 := by omega
      go_wp2_with (fail)
      refine wp_region_mix [0, 1, 2, 3, 4, 5, 6, 7, 8, 9, 10, 11, 12, 13, 14, 15, 16, 17, 18] [19, 20] (fun w' => (w'.cell? ⟨gx, 0, none⟩ = some (.int .i64 p0) ∧ w'.cell? ⟨gx, nx, none⟩ = some (.int .i64 p2)) ∧ w'.cell? ⟨gy, 0, none⟩ = some (.int .i64 p1) ∧ w'.cell? ⟨gy, ny, none⟩ = some (.int .i64 p3)) (by kernel_rfl) (by kernel_rfl) ⟨⟨x0, x2⟩, x1, x3⟩ ?_
      simp only [List.map_cons, List.map_nil, opAt, List.getElem?_cons_succ, List.getElem?_cons_zero, Option.getD_some]
      iterate 19
        refine ⟨?_, Or.inl ⟨by rfl, ?_⟩, ?_⟩
        rotate_left 1
        · intro w' hSw
          obtain ⟨⟨z1, z2⟩, z3, z4⟩ := hSw
          go_simp
          first | done | with_reducible rfl
        simp only [Act.put, List.setIfInBounds_toArray, List.set_cons_zero, List.set_cons_succ]
      clear t1 t2 q1 q2 q3 q4 q5 q6
      simp only [wpReads]
      intro K hK
      simp only [Act.put, List.setIfInBounds_toArray, List.set_cons_zero, List.set_cons_succ] at hK ⊢
      go_simp
      refine hK _ _ (fun _ => ⟨⟨by go_keep, by go_keep⟩, by go_keep, by go_keep⟩) ?_
      clear hK K
      intro K hK
      simp only [Act.put, List.setIfInBounds_toArray, List.set_cons_zero, List.set_cons_succ] at hK ⊢
      go_simp
      refine hK _ _ (fun h => absurd rfl h) ?_
      clear hK K
      refine NoPanic.normal ?_
      go_wp2_with (fail)
      refine bodyPost_ret (v := .tuple #[.agg #[.int .i64 p0, .int .i64 p1, .int .i64 p2, .int .i64 p3], .int .i64 0]) (by simp [results, Tryz.results38, go_sem, r0, r1, r2, r3]) rfl ⟨by rw [HF.out]; rfl, ?_⟩
      exact ((((HB3.out.drew).setCell (Nat.le_refl _) _).setCell (Nat.le_refl _) _).setCell (Nat.le_refl _) _).setCell (Nat.le_refl _) _
  · have HF : Hid (hullF l = (⟨0, 0, 0, 0⟩, checkF l)) := hide (if_neg h0)
    generalize checkF l = ck at *
    have hne : (ck != 0) = true := by simpa using h0
    clear h0
    go_enter Tryz.func38, Tryz.ntmps38
    go_wp2_with (fail)
    refine (HCK.out _ HB0.out).mono ?_
    rintro e w1 ⟨rfl, hb1⟩
    have HB1 := hide (HB0.out.trans (hb1.mono (by simp)))
    have HB1' := hide hb1
    clear hb1
    go_wp2_with (fail)
    refine (HCK.out _ HB1.out).mono ?_
    rintro e w2 ⟨rfl, hb2⟩
    obtain ⟨⟨r0, r1, r2, r3⟩, hf⟩ := KEY.out w2 (HB1'.out.trans (hb2.mono HB1'.out.size))
    have f0 := hf 0
    have f1 := hf 1
    have f2 := hf 2
    have f3 := hf 3
    have HB2 := hide (HB1.out.trans (hb2.mono HB1.out.size))
    clear hb2 hf
    go_wp2_with (fail)
    refine bodyPost_ret (v := .tuple #[.agg #[.int .i64 0, .int .i64 0, .int .i64 0, .int .i64 0], .int .i64 ck]) (by simp [results, Tryz.results38, go_sem, r0, r1, r2, r3]) rfl ⟨by rw [HF.out]; rfl, ?_⟩
    exact (((HB2.out.setCell (Nat.le_refl _) _).setCell (Nat.le_refl _) _).setCell (Nat.le_refl _) _).setCell (Nat.le_refl _) _
end Go.Proofs.YtjlfdgoijalfaaaGreat
