/- Coords of the reference of texture; both Coords whole. -/
import Derived.Test.YtgpalakanjckkaaTexG
namespace Go.Proofs.Ytgpalakanjckkaa
open Go.RowKit
set_option linter.unusedVariables false
set_option linter.unusedSimpArgs false

set_option maxHeartbeats 2000000 in
theorem rcoords_yes (W H S x y : Int) (a g b k : Nat) (w : World) (h : atOK W H S x y) (hcA : coA W H S x y = a) (hcB : coB H y = b) (hg : Hid (Nat.gcd a W.toNat = g)) (hk : Hid (Nat.gcd b H.toNat = k)) :
    Calls Try.prog 9 #[.agg #[.int .i64 W, .int .i64 H, .int .i64 S], .int .i64 x, .int .i64 y] w fun e w' => e = .returned (.tuple #[.agg #[.int .i64 ((a : Int) / (g : Int)), .int .i64 ((W.toNat : Int) / (g : Int))], .agg #[.int .i64 ((b : Int) / (k : Int)), .int .i64 ((H.toNat : Int) / (k : Int))], .int .i64 0]) ∧ Below w.heap.size w w' := by
  have hat := fun w => rat_any W H S x y w
  have hE : atE W H S x y = 0 := by unfold atE; rw [if_pos h.1, if_pos h.2]
  simp only [atC, atR, if_pos h, hE] at hat
  obtain ⟨hp, hf⟩ := h
  simp only [Bool.and_eq_true] at hf
  have hx := fineB_of hf.1
  have hy := fineB_of hf.2
  have hp' := hp
  unfold okPat at hp'
  have q1 : -1000000 ≤ rowI H y ∧ rowI H y ≤ 1000000 := ediv_bd y H 1000000 (by omega) hy.1 hy.2 (by omega)
  have hsb := shiftI_bd hp (rowI H y)
  have q2 : -2000000 ≤ colI W H S x y ∧ colI W H S x y ≤ 2000000 := ediv_bd (x - shiftI W S (rowI H y)) W 2000000 (by omega) (by omega) (by omega) (by omega)
  have hre := fun w => rect_any W H S (colI W H S x y) (rowI H y) w hp q2.1 q2.2 q1.1 q1.2
  have r1 := emod_bd y H (by omega)
  have r2 := emod_bd (x - shiftI W S (rowI H y)) W (by omega)
  have eA : (x - shiftI W S (rowI H y)) % W = (a : Int) := by rw [← hcA]; unfold coA; omega
  have eB : y % H = (b : Int) := by rw [← hcB]; unfold coB; omega
  have eX : x - brX W H S (colI W H S x y) (rowI H y) = (a : Int) := by
    rw [← eA]
    have := Int.mul_ediv_add_emod (x - shiftI W S (rowI H y)) W
    unfold brX colI
    rw [Int.mul_comm]
    omega
  have eY : y - rowI H y * H = (b : Int) := by
    rw [← eB]
    have := Int.mul_ediv_add_emod y H
    unfold rowI
    rw [Int.mul_comm]
    omega
  rw [eA] at r2
  rw [eB] at r1
  have eW : W = (W.toNat : Int) := by omega
  have eH : H = (H.toNat : Int) := by omega
  have hm1 := fun w => rmake_any a W.toNat g w (by omega) (by omega) (by omega) hg
  have hm2 := fun w => rmake_any b H.toNat k w (by omega) (by omega) (by omega) hk
  rw [← eW] at hm1
  rw [← eH] at hm2
  rw [← eW, ← eH]
  obtain ⟨X, hX⟩ : ∃ X, brX W H S (colI W H S x y) (rowI H y) = X := ⟨_, rfl⟩
  obtain ⟨Y, hY⟩ : ∃ Y, rowI H y * H = Y := ⟨_, rfl⟩
  rw [hX] at eX hre
  rw [hY] at eY hre
  obtain ⟨V, hV⟩ : ∃ V, X + W = V := ⟨_, rfl⟩
  obtain ⟨Z, hZ⟩ : ∃ Z, (rowI H y + 1) * H = Z := ⟨_, rfl⟩
  rw [hV, hZ] at hre
  clear eW eH eA eB hcA hcB hf hp hX hY hE hV hZ
  go_enter Try.func9, Try.ntmps9
  go_wp2_with (first
    | (go_at_call 5; refine (hat _).mono ?_; rintro e w1 ⟨rfl, hb1⟩; obtain ⟨hc1, hf1⟩ := bcell hb1; have hz1 : w.heap.size + 1 + 1 < w1.heap.size ∧ w.heap.size < w1.heap.size ∧ w.heap.size + 1 < w1.heap.size := by have := hb1.size; simp at this; omega)
    | (go_at_call 18; refine (hre _).mono ?_; rintro e w2 ⟨rfl, hb2⟩; obtain ⟨hc2, hf2⟩ := bcell hb2; have hz2 : w.heap.size + 1 + 1 < w2.heap.size ∧ w.heap.size < w2.heap.size ∧ w.heap.size + 1 < w2.heap.size := by have := hb2.size; omega)
    | (go_at_call_of 20 (Value.int .i64 W); refine (hm1 _).mono ?_; rintro e w4 ⟨rfl, hb4⟩; obtain ⟨hc4, hf4⟩ := bcell hb4; have hz4 : w2.heap.size < w4.heap.size ∧ w.heap.size + 1 + 1 < w4.heap.size ∧ w.heap.size < w4.heap.size ∧ w.heap.size + 1 < w4.heap.size := by have := hb4.size; simp at this; omega)
    | (go_at_call_of 20 (Value.int .i64 H); refine (hm2 _).mono ?_; rintro e w5 ⟨rfl, hb5⟩; obtain ⟨hc5, hf5⟩ := bcell hb5; have hz5 : w4.heap.size < w5.heap.size ∧ w.heap.size + 1 + 1 < w5.heap.size ∧ w.heap.size < w5.heap.size ∧ w.heap.size + 1 < w5.heap.size := by have := hb5.size; simp at this; omega))
  refine wp_name fun w6 hw6 => ?_
  have b6 : Below w.heap.size w w6 := by
    rw [hw6]
    have b1 := (((((Below.refl _ _).alloc (Nat.le_refl _) _).alloc (by simp) _).alloc (by simp; omega) _).trans (hb1.mono (by simp; omega)))
    have b4 := ((b1.trans (hb2.mono (by omega))).alloc (by omega) _).trans (hb4.mono (by simp; omega))
    exact ((b4.alloc (by omega) _).trans (hb5.mono (by simp; omega))).alloc (by omega) _
  have k0 : w6.cell? ⟨w4.heap.size, 0, none⟩ = some (.int .i64 ((a : Int) / (g : Int))) := by rw [hw6]; simp [go_sem, hc5, hz5, hz4, hc4, hz2, hc2, hc1, hz1, Nat.lt_succ_of_lt hz4.1, Nat.lt_succ_of_lt hz4.2.1, Nat.lt_succ_of_lt hz4.2.2.1, Nat.lt_succ_of_lt hz4.2.2.2, Nat.lt_succ_of_lt hz2.1, Nat.lt_succ_of_lt hz2.2.1, Nat.lt_succ_of_lt hz2.2.2]
  have k1 : w6.cell? ⟨w4.heap.size, 1, none⟩ = some (.int .i64 (W / (g : Int))) := by rw [hw6]; simp [go_sem, hc5, hz5, hz4, hc4, hz2, hc2, hc1, hz1, Nat.lt_succ_of_lt hz4.1, Nat.lt_succ_of_lt hz4.2.1, Nat.lt_succ_of_lt hz4.2.2.1, Nat.lt_succ_of_lt hz4.2.2.2, Nat.lt_succ_of_lt hz2.1, Nat.lt_succ_of_lt hz2.2.1, Nat.lt_succ_of_lt hz2.2.2]
  have k2 : w6.cell? ⟨w5.heap.size, 0, none⟩ = some (.int .i64 ((b : Int) / (k : Int))) := by rw [hw6]; simp [go_sem, hc5, hz5, hz4, hc4, hz2, hc2, hc1, hz1, Nat.lt_succ_of_lt hz4.1, Nat.lt_succ_of_lt hz4.2.1, Nat.lt_succ_of_lt hz4.2.2.1, Nat.lt_succ_of_lt hz4.2.2.2, Nat.lt_succ_of_lt hz2.1, Nat.lt_succ_of_lt hz2.2.1, Nat.lt_succ_of_lt hz2.2.2]
  have k3 : w6.cell? ⟨w5.heap.size, 1, none⟩ = some (.int .i64 (H / (k : Int))) := by rw [hw6]; simp [go_sem, hc5, hz5, hz4, hc4, hz2, hc2, hc1, hz1, Nat.lt_succ_of_lt hz4.1, Nat.lt_succ_of_lt hz4.2.1, Nat.lt_succ_of_lt hz4.2.2.1, Nat.lt_succ_of_lt hz4.2.2.2, Nat.lt_succ_of_lt hz2.1, Nat.lt_succ_of_lt hz2.2.1, Nat.lt_succ_of_lt hz2.2.2]
  have j0 : w6.cell? ⟨w.heap.size + 1, 0, none⟩ = some (.int .i64 0) := by rw [hw6]; simp [go_sem, hc5, hz5, hz4, hc4, hz2, hc2, hc1, hz1, Nat.lt_succ_of_lt hz4.1, Nat.lt_succ_of_lt hz4.2.1, Nat.lt_succ_of_lt hz4.2.2.1, Nat.lt_succ_of_lt hz4.2.2.2, Nat.lt_succ_of_lt hz2.1, Nat.lt_succ_of_lt hz2.2.1, Nat.lt_succ_of_lt hz2.2.2]
  have j1 : w6.cell? ⟨w.heap.size + 1, 1, none⟩ = some (.int .i64 0) := by rw [hw6]; simp [go_sem, hc5, hz5, hz4, hc4, hz2, hc2, hc1, hz1, Nat.lt_succ_of_lt hz4.1, Nat.lt_succ_of_lt hz4.2.1, Nat.lt_succ_of_lt hz4.2.2.1, Nat.lt_succ_of_lt hz4.2.2.2, Nat.lt_succ_of_lt hz2.1, Nat.lt_succ_of_lt hz2.2.1, Nat.lt_succ_of_lt hz2.2.2]
  have j2 : w6.cell? ⟨w.heap.size + 2, 0, none⟩ = some (.int .i64 0) := by rw [hw6]; simp [go_sem, hc5, hz5, hz4, hc4, hz2, hc2, hc1, hz1, Nat.lt_succ_of_lt hz4.1, Nat.lt_succ_of_lt hz4.2.1, Nat.lt_succ_of_lt hz4.2.2.1, Nat.lt_succ_of_lt hz4.2.2.2, Nat.lt_succ_of_lt hz2.1, Nat.lt_succ_of_lt hz2.2.1, Nat.lt_succ_of_lt hz2.2.2]
  have j3 : w6.cell? ⟨w.heap.size + 2, 1, none⟩ = some (.int .i64 0) := by rw [hw6]; simp [go_sem, hc5, hz5, hz4, hc4, hz2, hc2, hc1, hz1, Nat.lt_succ_of_lt hz4.1, Nat.lt_succ_of_lt hz4.2.1, Nat.lt_succ_of_lt hz4.2.2.1, Nat.lt_succ_of_lt hz4.2.2.2, Nat.lt_succ_of_lt hz2.1, Nat.lt_succ_of_lt hz2.2.1, Nat.lt_succ_of_lt hz2.2.2]
  have f0 : ∀ o, w6.frozen? ⟨w.heap.size + 1, o, none⟩ = false := by intro o; rw [hw6]; simp [go_sem, hf5, hz5, hz4, hf4, hz2, hf2, hf1, hz1, Nat.lt_succ_of_lt hz4.1, Nat.lt_succ_of_lt hz4.2.1, Nat.lt_succ_of_lt hz4.2.2.1, Nat.lt_succ_of_lt hz4.2.2.2, Nat.lt_succ_of_lt hz2.1, Nat.lt_succ_of_lt hz2.2.1, Nat.lt_succ_of_lt hz2.2.2]
  have f1 : ∀ o, w6.frozen? ⟨w.heap.size + 2, o, none⟩ = false := by intro o; rw [hw6]; simp [go_sem, hf5, hz5, hz4, hf4, hz2, hf2, hf1, hz1, Nat.lt_succ_of_lt hz4.1, Nat.lt_succ_of_lt hz4.2.1, Nat.lt_succ_of_lt hz4.2.2.1, Nat.lt_succ_of_lt hz4.2.2.2, Nat.lt_succ_of_lt hz2.1, Nat.lt_succ_of_lt hz2.2.1, Nat.lt_succ_of_lt hz2.2.2]
  clear hc1 hc2 hc4 hc5 hf1 hf2 hf4 hf5 hw6 hb1 hb2 hb4 hb5
  go_region
  all_goals
    go_wp2
    refine bodyPost_ret (v := .tuple #[.agg #[.int .i64 ((a : Int) / (g : Int)), .int .i64 (W / (g : Int))], .agg #[.int .i64 ((b : Int) / (k : Int)), .int .i64 (H / (k : Int))], .int .i64 0]) (by simp [results, Try.results9, go_sem, j0, j1, j2, j3]) rfl ⟨rfl, ?_⟩
    first
      | exact ((((b6.setCell (by simp) _).setCell (by simp) _).setCell (by simp; omega) _).setCell (by simp; omega) _).drew
      | exact ((((b6.setCell (by simp; omega) _).setCell (by simp; omega) _).setCell (by simp) _).setCell (by simp) _).drew

/-- Coords of texture, whole. -/
theorem coords_any (W H S x y : Int) (w : World) :
    Calls Try.prog 8 #[.agg #[.int .i64 W, .int .i64 H, .int .i64 S], .int .i64 x, .int .i64 y] w fun e w' => e = .returned (.tuple #[.agg #[.int .i64 (co0 W H S x y), .int .i64 (co1 W H S x y)], .agg #[.int .i64 (co2 W H S x y), .int .i64 (co3 W H S x y)], .int .i64 (atE W H S x y)]) ∧ Below w.heap.size w w' := by
  by_cases h : atOK W H S x y
  · have hE : atE W H S x y = 0 := by unfold atE; rw [if_pos h.1, if_pos h.2]
    simp only [co0, co1, co2, co3, if_pos h, hE]
    exact coords_yes W H S x y 0 _ _ _ _ w h rfl rfl (hide rfl) (hide rfl)
  · have hat := fun w => at_any W H S x y w
    simp only [atC, atR, if_neg h] at hat
    simp only [co0, co1, co2, co3, if_neg h]
    refine coords_no W H S x y _ w ?_ hat
    unfold atE
    split
    · rename_i hp
      rw [if_neg (fun hf => h ⟨hp, hf⟩)]
      rfl
    · rfl
theorem rcoords_any (W H S x y : Int) (w : World) :
    Calls Try.prog 9 #[.agg #[.int .i64 W, .int .i64 H, .int .i64 S], .int .i64 x, .int .i64 y] w fun e w' => e = .returned (.tuple #[.agg #[.int .i64 (co0 W H S x y), .int .i64 (co1 W H S x y)], .agg #[.int .i64 (co2 W H S x y), .int .i64 (co3 W H S x y)], .int .i64 (atE W H S x y)]) ∧ Below w.heap.size w w' := by
  by_cases h : atOK W H S x y
  · have hE : atE W H S x y = 0 := by unfold atE; rw [if_pos h.1, if_pos h.2]
    simp only [co0, co1, co2, co3, if_pos h, hE]
    exact rcoords_yes W H S x y _ _ _ _ w h rfl rfl (hide rfl) (hide rfl)
  · have hat := fun w => rat_any W H S x y w
    simp only [atC, atR, if_neg h] at hat
    simp only [co0, co1, co2, co3, if_neg h]
    refine rcoords_no W H S x y _ w ?_ hat
    unfold atE
    split
    · rename_i hp
      rw [if_neg (fun hf => h ⟨hp, hf⟩)]
      rfl
    · rfl
end Go.Proofs.Ytgpalakanjckkaa
