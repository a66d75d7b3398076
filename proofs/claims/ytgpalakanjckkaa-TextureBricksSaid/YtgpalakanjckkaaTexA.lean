/- The walks of texture's and its reference's small functions. -/
import Derived.Test.YtgpalakanjckkaaKit
import Derived.Test.YtgpalakanjckkaaTexM
namespace Go.Proofs.Ytgpalakanjckkaa
open Go.RowKit
set_option linter.unusedVariables false
set_option linter.unusedSimpArgs false

set_option maxHeartbeats 400000 in
theorem split_any (x n : Int) (w : World) (h1 : 1 ≤ n) (h2 : n ≤ 1000) (h3 : -1000000000000 ≤ x) (h4 : x ≤ 1000000000000) :
    Calls Try.prog 13 #[.int .i64 x, .int .i64 n] w fun e w' => e = .returned (.tuple #[.int .i64 (x / n), .int .i64 (x % n)]) ∧ Below w.heap.size w w' := by
  have hq := ediv_bd x n 1000000000000 h1 h3 h4 (by omega)
  have hr := emod_bd x n h1
  by_cases hx : x.tmod n < 0
  · have H := Lib.hid (tdm_neg x n (by omega) hx)
    go_enter Try.func13, Try.ntmps13
    go_wp2
    go_quiet (fail)
    go_wp2
    go_ret2
    rw [H.out.1, H.out.2]
    exact ⟨ret2_eq (int_eq (IntWalk.wrap64_in _ (by omega))) (int_eq (IntWalk.wrap64_in _ (by omega))), below_drewN (Below.refl _ _) _⟩
  · have hx' : 0 ≤ x.tmod n := by omega
    have H := Lib.hid (tdm_pos x n (by omega) hx')
    go_enter Try.func13, Try.ntmps13
    go_wp2
    go_quiet (fail)
    go_wp2
    go_ret2
    rw [H.out.1, H.out.2]
    exact ⟨rfl, below_drewN (Below.refl _ _) _⟩
set_option maxHeartbeats 400000 in
theorem mod_any (x n : Int) (w : World) (h1 : 1 ≤ n) (h2 : n ≤ 1000) (h3 : -1000000000000 ≤ x) (h4 : x ≤ 1000000000000) :
    Calls Try.prog 21 #[.int .i64 x, .int .i64 n] w fun e w' => e = .returned (.int .i64 (x % n)) ∧ w = w' := by
  have hr := emod_bd x n h1
  by_cases hx : x.tmod n < 0
  · have H := Lib.hid (tdm_neg x n (by omega) hx)
    go_enter Try.func21, Try.ntmps21
    go_wp2
    go_ret
    rw [H.out.2]
    exact ⟨ret_eq (int_eq (IntWalk.wrap64_in _ (by omega))), rfl⟩
  · have hx' : 0 ≤ x.tmod n := by omega
    have H := Lib.hid (tdm_pos x n (by omega) hx')
    go_enter Try.func21, Try.ntmps21
    go_wp2
    go_ret
    rw [H.out.2]
    exact ⟨rfl, rfl⟩
set_option maxHeartbeats 400000 in
theorem check_any (W H S : Int) (w : World) :
    Calls Try.prog 10 #[.agg #[.int .i64 W, .int .i64 H, .int .i64 S]] w fun e w' => e = .returned (.int .i64 (chk W H S)) ∧ Below w.heap.size w w' := by
  go_enter Try.func10, Try.ntmps10
  go_wp2
  all_goals
    go_ret
    refine ⟨ret_eq (int_eq ?_), (Below.refl _ _).alloc (Nat.le_refl _) _⟩
    first
      | exact (chk_bad (by unfold okPat; omega)).symm
      | exact (chk_ok (by unfold okPat; omega)).symm
set_option maxHeartbeats 400000 in
theorem rcheck_any (W H S : Int) (w : World) :
    Calls Try.prog 11 #[.agg #[.int .i64 W, .int .i64 H, .int .i64 S]] w fun e w' => e = .returned (.int .i64 (chk W H S)) ∧ Below w.heap.size w w' := by
  go_enter Try.func11, Try.ntmps11
  go_wp2
  all_goals
    go_ret
    refine ⟨ret_eq (int_eq ?_), (Below.refl _ _).alloc (Nat.le_refl _) _⟩
    first
      | exact (chk_bad (by unfold okPat; omega)).symm
      | exact (chk_ok (by unfold okPat; omega)).symm
theorem fine_any (x : Int) (w : World) :
    Calls Try.prog 12 #[.int .i64 x] w fun e w' => e = .returned (.bool (fineB x)) ∧ w = w' := by
  go_enter Try.func12, Try.ntmps12
  go_wp2
  all_goals
    go_ret
    refine ⟨ret_eq (bool_eq ?_), rfl⟩
    first
      | exact (fineB_t (by omega) (by omega)).symm
      | exact (fineB_lo (by omega)).symm
      | exact (fineB_hi (by omega)).symm
      | (simp [fineB]; omega)
theorem in_any (x : Int) (w : World) :
    Calls Try.prog 15 #[.int .i64 x] w fun e w' => e = .returned (.bool (fineB x)) ∧ w = w' := by
  go_enter Try.func15, Try.ntmps15
  go_wp2
  all_goals
    go_ret
    refine ⟨ret_eq (bool_eq ?_), rfl⟩
    first
      | exact (fineB_t (by omega) (by omega)).symm
      | exact (fineB_lo (by omega)).symm
      | exact (fineB_hi (by omega)).symm
      | (simp [fineB]; omega)
set_option maxHeartbeats 400000 in
theorem shift_any (W H S row : Int) (w : World) (hp : okPat W H S) (h1 : -1000000 ≤ row) (h2 : row ≤ 1000000) :
    Calls Try.prog 14 #[.agg #[.int .i64 W, .int .i64 H, .int .i64 S], .int .i64 row] w fun e w' => e = .returned (.int .i64 (shiftI W S row)) ∧ Below w.heap.size w w' := by
  unfold okPat at hp
  have hm := mul_bd row S 1000000 1000 h1 h2 (by omega) (by omega) (by omega)
  go_enter Try.func14, Try.ntmps14
  go_wp2_with (go_at_call 13; refine (split_any _ _ _ (by omega) (by omega) (by omega) (by omega)).mono ?_; rintro e w' ⟨rfl, hb⟩)
  go_ret
  exact ⟨rfl, ((Below.refl _ _).alloc (Nat.le_refl _) _).trans (hb.mono (by simp))⟩
end Go.Proofs.Ytgpalakanjckkaa
