/- The walks of the reference of texture: Rect, Where, At. -/
import Derived.Test.YtgpalakanjckkaaTexB
namespace Go.Proofs.Ytgpalakanjckkaa
open Go.RowKit
set_option linter.unusedVariables false
set_option linter.unusedSimpArgs false

theorem tdiv_sub (x n : Int) (hn : 1 ≤ n) : (x - x % n).tdiv n = x / n := by
  have e := Int.mul_ediv_add_emod x n
  have h : x - x % n = n * (x / n) := by omega
  rw [h, Int.mul_tdiv_cancel_left _ (by omega)]

set_option maxHeartbeats 1000000 in
theorem rect_any (W H S col row : Int) (w : World) (hp : okPat W H S) (h1 : -2000000 ≤ col) (h2 : col ≤ 2000000) (h3 : -1000000 ≤ row) (h4 : row ≤ 1000000) :
    Calls Try.prog 18 #[.agg #[.int .i64 W, .int .i64 H, .int .i64 S], .int .i64 col, .int .i64 row] w fun e w' => e = .returned (.agg #[.int .i64 (brX W H S col row), .int .i64 (row * H), .int .i64 (brX W H S col row + W), .int .i64 ((row + 1) * H)]) ∧ Below w.heap.size w w' := by
  have hsb := shiftI_bd hp row
  unfold okPat at hp
  have m0 := mul_bd row S 1000000 1000 h3 h4 (by omega) (by omega) (by omega)
  have m1 := mul_bd col W 2000000 1000 h1 h2 (by omega) (by omega) (by omega)
  have m2 := mul_bd row H 1000000 1000 h3 h4 (by omega) (by omega) (by omega)
  have m3 := mul_bd (row + 1) H 1000001 1000 (by omega) (by omega) (by omega) (by omega) (by omega)
  have m4 := mul_bd (col + 1) W 2000001 1000 (by omega) (by omega) (by omega) (by omega) (by omega)
  have hmod := fun w => (mod_any (row * S) W w (by omega) (by omega) (by omega) (by omega)).mono (R' := fun e w' => e = .returned (.int .i64 (shiftI W S row)) ∧ w = w') fun e w' h => h
  unfold brX
  go_enter Try.func18, Try.ntmps18
  go_wp2_with (go_at_call 21; refine (hmod _).mono ?_; rintro e w' ⟨rfl, rfl⟩)
  have e5 : (col + 1) * W = col * W + W := by rw [Int.add_mul, Int.one_mul]
  refine bodyPost_ret (v := .agg #[.int .i64 (col * W + shiftI W S row), .int .i64 (row * H), .int .i64 ((col + 1) * W + shiftI W S row), .int .i64 ((row + 1) * H)]) (by simp [results, Try.results18, go_sem]) rfl ⟨?_, ?_⟩
  · rw [e5, show col * W + W + shiftI W S row = col * W + shiftI W S row + W by omega]
  · exact ((Below.refl _ _).alloc (Nat.le_refl _) _).alloc (by simp) _

set_option maxHeartbeats 1000000 in
theorem where_any (W H S x y : Int) (w : World) (hp : okPat W H S) (h1 : -1000000 ≤ x) (h2 : x ≤ 1000000) (h3 : -1000000 ≤ y) (h4 : y ≤ 1000000) :
    Calls Try.prog 16 #[.agg #[.int .i64 W, .int .i64 H, .int .i64 S], .int .i64 x, .int .i64 y] w fun e w' => e = .returned (.tuple #[.int .i64 (colI W H S x y), .int .i64 (rowI H y)]) ∧ Below w.heap.size w w' := by
  have hsb := shiftI_bd hp (y / H)
  unfold okPat at hp
  have q1 := ediv_bd y H 1000000 (by omega) h3 h4 (by omega)
  have m0 := mul_bd (y / H) S 1000000 1000 q1.1 q1.2 (by omega) (by omega) (by omega)
  have r1 := emod_bd y H (by omega)
  have r2 := emod_bd (x - shiftI W S (y / H)) W (by omega)
  have q2 := ediv_bd (x - shiftI W S (y / H)) W 2000000 (by omega) (by omega) (by omega) (by omega)
  have e1 := tdiv_sub y H (by omega)
  have e2 := tdiv_sub (x - shiftI W S (y / H)) W (by omega)
  have hmod1 := fun w => (mod_any y H w (by omega) (by omega) (by omega) (by omega))
  have hmod2 := fun w => (mod_any (y / H * S) W w (by omega) (by omega) (by omega) (by omega)).mono (R' := fun e w' => e = .returned (.int .i64 (shiftI W S (y / H))) ∧ w = w') fun e w' h => h
  have hmod3 := fun w => (mod_any (x - shiftI W S (y / H)) W w (by omega) (by omega) (by omega) (by omega))
  unfold colI rowI
  go_enter Try.func16, Try.ntmps16
  go_wp2
  refine wp_hab fun hab => ?_
  refine wp_region_above (by kernel_rfl) (by kernel_rfl) ?_
  repeat (go_big_quiet_step ((go_at_call 21; exact above_same (hmod1 _))))
  refine wpQuiet_nil ?_
  refine above_ends fun w3 hb3 => ?_
  clear hab
  obtain ⟨hc3, hf3⟩ := bcell hb3
  have hz3 : w.heap.size < w3.heap.size := by have := hb3.size; simp at this; omega
  go_wp2_with (go_at_call 21; refine (hmod2 _).mono ?_; rintro e w' ⟨rfl, rfl⟩)
  refine wp_hab fun hab => ?_
  refine wp_region_above (by kernel_rfl) (by kernel_rfl) ?_
  repeat (go_big_quiet_step ((go_at_call 21; exact above_same (hmod3 _))))
  refine wpQuiet_nil ?_
  refine above_ends fun w4 hb4 => ?_
  go_wp2
  go_ret2
  exact ⟨rfl, (((Below.refl _ _).alloc (Nat.le_refl _) _).trans (hb3.mono (by simp))).trans (hb4.mono (by omega))⟩
end Go.Proofs.Ytgpalakanjckkaa
