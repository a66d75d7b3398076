/- The walks of texture.At, texture.brick, Brick and of their references. -/
import Derived.Test.YtgpalakanjckkaaTexA
namespace Go.Proofs.Ytgpalakanjckkaa
open Go.RowKit
set_option linter.unusedVariables false
set_option linter.unusedSimpArgs false

/-- Column and row of the brick of a point. -/
def rowI (H y : Int) : Int := y / H
def colI (W H S x y : Int) : Int := (x - shiftI W S (rowI H y)) / W

set_option maxHeartbeats 400000 in
theorem at_bad (W H S x y : Int) (w : World) (hp : ¬ okPat W H S) :
    Calls Try.prog 4 #[.agg #[.int .i64 W, .int .i64 H, .int .i64 S], .int .i64 x, .int .i64 y] w fun e w' => e = .returned (.tuple #[.int .i64 0, .int .i64 0, .int .i64 8]) ∧ Below w.heap.size w w' := by
  have hc := fun w => (check_any W H S w).mono (R' := fun e w' => e = .returned (.int .i64 8) ∧ Below w.heap.size w w') fun e w' h => by rw [chk_bad hp] at h; exact h
  go_enter Try.func4, Try.ntmps4
  go_wp2_with (go_at_call 10; refine (hc _).mono ?_; rintro e w' ⟨rfl, hb⟩)
  go_ret3
  exact ⟨rfl, ((Below.refl _ _).alloc (Nat.le_refl _) _).trans (hb.mono (by simp))⟩
set_option maxHeartbeats 400000 in
theorem at_arg (W H S x y : Int) (w : World) (hp : okPat W H S) (hf : (fineB x && fineB y) = false) :
    Calls Try.prog 4 #[.agg #[.int .i64 W, .int .i64 H, .int .i64 S], .int .i64 x, .int .i64 y] w fun e w' => e = .returned (.tuple #[.int .i64 0, .int .i64 0, .int .i64 2]) ∧ Below w.heap.size w w' := by
  have hc := fun w => (check_any W H S w).mono (R' := fun e w' => e = .returned (.int .i64 0) ∧ Below w.heap.size w w') fun e w' h => by rw [chk_ok hp] at h; exact h
  cases hx : fineB x
  · have hcx := fun w => (fine_any x w).mono (R' := fun e w' => e = .returned (.bool false) ∧ w = w') fun e w' h => by rw [hx] at h; exact h
    clear hf hx
    go_enter Try.func4, Try.ntmps4
    go_wp2_with (first | (go_at_call 10; refine (hc _).mono ?_; rintro e w' ⟨rfl, hb⟩) | (go_at_call 12; refine (hcx _).mono ?_; rintro e w' ⟨rfl, rfl⟩))
    go_ret3
    exact ⟨rfl, ((Below.refl _ _).alloc (Nat.le_refl _) _).trans (hb.mono (by simp))⟩
  · have hy : fineB y = false := by simpa [hx] using hf
    have hcx := fun w => (fine_any x w).mono (R' := fun e w' => e = .returned (.bool true) ∧ w = w') fun e w' h => by rw [hx] at h; exact h
    have hcy := fun w => (fine_any y w).mono (R' := fun e w' => e = .returned (.bool false) ∧ w = w') fun e w' h => by rw [hy] at h; exact h
    clear hf hx hy
    go_enter Try.func4, Try.ntmps4
    go_wp2_with (first | (go_at_call 10; refine (hc _).mono ?_; rintro e w' ⟨rfl, hb⟩) | (go_at_call_of 12 (Value.int .i64 x); refine (hcx _).mono ?_; rintro e w' ⟨rfl, rfl⟩) | (go_at_call_of 12 (Value.int .i64 y); refine (hcy _).mono ?_; rintro e w' ⟨rfl, rfl⟩))
    go_ret3
    exact ⟨rfl, ((Below.refl _ _).alloc (Nat.le_refl _) _).trans (hb.mono (by simp))⟩
set_option maxHeartbeats 1000000 in
theorem at_ok (W H S x y : Int) (w : World) (hp : okPat W H S) (hfx : fineB x = true) (hfy : fineB y = true) :
    Calls Try.prog 4 #[.agg #[.int .i64 W, .int .i64 H, .int .i64 S], .int .i64 x, .int .i64 y] w fun e w' => e = .returned (.tuple #[.int .i64 (colI W H S x y), .int .i64 (rowI H y), .int .i64 0]) ∧ Below w.heap.size w w' := by
  have hc := fun w => (check_any W H S w).mono (R' := fun e w' => e = .returned (.int .i64 0) ∧ Below w.heap.size w w') fun e w' h => by rw [chk_ok hp] at h; exact h
  have hcx := fun w => (fine_any x w).mono (R' := fun e w' => e = .returned (.bool true) ∧ w = w') fun e w' h => by rw [hfx] at h; exact h
  have hcy := fun w => (fine_any y w).mono (R' := fun e w' => e = .returned (.bool true) ∧ w = w') fun e w' h => by rw [hfy] at h; exact h
  have hx := fineB_of hfx
  have hy := fineB_of hfy
  have hp' := hp
  unfold okPat at hp'
  have hr := ediv_bd y H 1000000 (by omega) (by omega) (by omega) (by omega)
  have hs := emod_bd (y / H * S) W (by omega)
  have hs1 := fun w => (split_any y H w (by omega) (by omega) (by omega) (by omega))
  have hsh := fun w => (shift_any W H S (y / H) w hp (by omega) (by omega))
  have hs2 := fun w => (split_any (x - shiftI W S (y / H)) W w (by omega) (by omega) (by unfold shiftI; omega) (by unfold shiftI; omega))
  have hsb : 0 ≤ shiftI W S (y / H) ∧ shiftI W S (y / H) < 1000 := by unfold shiftI; omega
  clear hfx hfy hp hs
  go_enter Try.func4, Try.ntmps4
  go_wp2_with (first
    | (go_at_call 10; refine (hc _).mono ?_; rintro e w1 ⟨rfl, hb1⟩; obtain ⟨hc1, hf1⟩ := bcell hb1; have hz1 := hb1.size)
    | (go_at_call_of 12 (Value.int .i64 x); refine (hcx _).mono ?_; rintro e w' ⟨rfl, rfl⟩)
    | (go_at_call_of 12 (Value.int .i64 y); refine (hcy _).mono ?_; rintro e w' ⟨rfl, rfl⟩)
    | (go_at_call 13; refine (hs1 _).mono ?_; rintro e w2 ⟨rfl, hb2⟩; obtain ⟨hc2, hf2⟩ := bcell hb2))
  have hm : w.heap.size < w2.heap.size := by have := hb1.size; have := hb2.size; simp at *; omega
  have hab := @above_cell w2
  have k0 : w2.cell? ⟨w.heap.size, 0, none⟩ = some (.int .i64 W) := by rw [hc2 _ _ (by simp at hz1; omega), hc1 _ _ (by simp)]; simp
  have k1 : w2.cell? ⟨w.heap.size, 1, none⟩ = some (.int .i64 H) := by rw [hc2 _ _ (by simp at hz1; omega), hc1 _ _ (by simp)]; simp
  have k2 : w2.cell? ⟨w.heap.size, 2, none⟩ = some (.int .i64 S) := by rw [hc2 _ _ (by simp at hz1; omega), hc1 _ _ (by simp)]; simp
  refine wp_region_above (by kernel_rfl) (by kernel_rfl) ?_
  repeat (go_big_quiet_step ((first | (go_at_call 14; exact above_of (hsh _)) | (go_at_call 13; exact above_of (hs2 _)))))
  refine wpQuiet_nil ?_
  refine above_ends fun w3 hb3 => ?_
  go_wp2
  go_ret3
  exact ⟨rfl, ((((Below.refl _ _).alloc (Nat.le_refl _) _).trans (hb1.mono (by simp))).trans (hb2.mono (by simp at hz1; omega))).trans (hb3.mono (by omega))⟩

/-- The rectangle of a brick. -/
def brX (W H S col row : Int) : Int := col * W + shiftI W S row
theorem shiftI_bd {W H S : Int} (hp : okPat W H S) (row : Int) : 0 ≤ shiftI W S row ∧ shiftI W S row < 1000 := by
  unfold okPat at hp
  have := emod_bd (row * S) W (by omega)
  unfold shiftI; omega

set_option maxHeartbeats 1000000 in
theorem brick_any (W H S col row : Int) (w : World) (hp : okPat W H S) (h1 : -1000000 ≤ col) (h2 : col ≤ 1000000) (h3 : -1000000 ≤ row) (h4 : row ≤ 1000000) :
    Calls Try.prog 17 #[.agg #[.int .i64 W, .int .i64 H, .int .i64 S], .int .i64 col, .int .i64 row] w fun e w' => e = .returned (.agg #[.int .i64 (brX W H S col row), .int .i64 (row * H), .int .i64 (brX W H S col row + W), .int .i64 ((row + 1) * H)]) ∧ Below w.heap.size w w' := by
  have hsh := fun w => (shift_any W H S row w hp h3 h4)
  have hsb := shiftI_bd hp row
  unfold okPat at hp
  have m1 := mul_bd col W 1000000 1000 h1 h2 (by omega) (by omega) (by omega)
  have m2 := mul_bd row H 1000000 1000 h3 h4 (by omega) (by omega) (by omega)
  have m3 := mul_bd (row + 1) H 1000001 1000 (by omega) (by omega) (by omega) (by omega) (by omega)
  unfold brX
  go_enter Try.func17, Try.ntmps17
  go_wp2
  refine wp_hab fun hab => ?_
  refine wp_region_above (by kernel_rfl) (by kernel_rfl) ?_
  repeat (go_big_quiet_step ((go_at_call 14; exact above_of (hsh _))))
  refine wpQuiet_nil ?_
  refine above_ends fun w3 hb3 => ?_
  clear hab
  obtain ⟨hc3, hf3⟩ := bcell hb3
  have hz3 := hb3.size
  go_wp2
  refine bodyPost_ret (v := .agg #[.int .i64 (col * W + shiftI W S row), .int .i64 (row * H), .int .i64 (col * W + shiftI W S row + W), .int .i64 ((row + 1) * H)]) (by simp [results, Try.results17, go_sem, hc3, hz3]) rfl ⟨rfl, ?_⟩
  have b3 := (((Below.refl _ _).alloc (Nat.le_refl _) _).alloc (by simp) _).trans (hb3.mono (by simp; omega))
  exact (((b3.setCell (by simp) _).setCell (by simp) _).setCell (by simp) _).setCell (by simp) _
end Go.Proofs.Ytgpalakanjckkaa
