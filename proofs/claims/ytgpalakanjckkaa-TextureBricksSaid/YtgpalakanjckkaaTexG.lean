/- Coords of texture and of its reference. -/
import Derived.Test.YtgpalakanjckkaaTexC
import Derived.Test.YtgpalakanjckkaaTexD
import Derived.Test.YtgpalakanjckkaaGcd
namespace Go.Proofs.Ytgpalakanjckkaa
open Go.RowKit
set_option linter.unusedVariables false
set_option linter.unusedSimpArgs false

/-- What Coords returns. -/
def coA (W H S x y : Int) : Nat := ((x - shiftI W S (rowI H y)) % W).toNat
def coB (H y : Int) : Nat := (y % H).toNat
def co0 (W H S x y : Int) : Int := if atOK W H S x y then (coA W H S x y : Int) / ((Nat.gcd (coA W H S x y) W.toNat : Nat) : Int) else 0
def co1 (W H S x y : Int) : Int := if atOK W H S x y then (W.toNat : Int) / ((Nat.gcd (coA W H S x y) W.toNat : Nat) : Int) else 0
def co2 (W H S x y : Int) : Int := if atOK W H S x y then (coB H y : Int) / ((Nat.gcd (coB H y) H.toNat : Nat) : Int) else 0
def co3 (W H S x y : Int) : Int := if atOK W H S x y then (H.toNat : Int) / ((Nat.gcd (coB H y) H.toNat : Nat) : Int) else 0

set_option maxHeartbeats 1000000 in
theorem coords_no (W H S x y c : Int) (w : World) (hc : (c != 0) = true)
    (hat : ∀ w, Calls Try.prog 4 #[.agg #[.int .i64 W, .int .i64 H, .int .i64 S], .int .i64 x, .int .i64 y] w fun e w' => e = .returned (.tuple #[.int .i64 0, .int .i64 0, .int .i64 c]) ∧ Below w.heap.size w w') :
    Calls Try.prog 8 #[.agg #[.int .i64 W, .int .i64 H, .int .i64 S], .int .i64 x, .int .i64 y] w fun e w' => e = .returned (.tuple #[.agg #[.int .i64 0, .int .i64 0], .agg #[.int .i64 0, .int .i64 0], .int .i64 c]) ∧ Below w.heap.size w w' := by
  go_enter Try.func8, Try.ntmps8
  go_wp2_with (go_at_call 4; refine (hat _).mono ?_; rintro e w1 ⟨rfl, hb1⟩; obtain ⟨hc1, hf1⟩ := bcell hb1; have hz1 : w.heap.size + 2 < w1.heap.size := by have := hb1.size; simp at this; omega)
  refine bodyPost_ret (v := .tuple #[.agg #[.int .i64 0, .int .i64 0], .agg #[.int .i64 0, .int .i64 0], .int .i64 c]) (by simp [results, Try.results8, go_sem, hc1, hz1, Nat.lt_of_succ_lt hz1]) rfl ⟨rfl, ?_⟩
  have b2 := ((((Below.refl _ _).alloc (Nat.le_refl _) _).alloc (by simp) _).alloc (by simp; omega) _).trans (hb1.mono (by simp; omega))
  exact (((b2.setCell (by first | (simp; done) | (simp; omega) | omega) _).setCell (by first | (simp; done) | (simp; omega) | omega) _).setCell (by first | (simp; done) | (simp; omega) | omega) _).setCell (by first | (simp; done) | (simp; omega) | omega) _
set_option maxHeartbeats 1000000 in
theorem rcoords_no (W H S x y c : Int) (w : World) (hc : (c != 0) = true)
    (hat : ∀ w, Calls Try.prog 5 #[.agg #[.int .i64 W, .int .i64 H, .int .i64 S], .int .i64 x, .int .i64 y] w fun e w' => e = .returned (.tuple #[.int .i64 0, .int .i64 0, .int .i64 c]) ∧ Below w.heap.size w w') :
    Calls Try.prog 9 #[.agg #[.int .i64 W, .int .i64 H, .int .i64 S], .int .i64 x, .int .i64 y] w fun e w' => e = .returned (.tuple #[.agg #[.int .i64 0, .int .i64 0], .agg #[.int .i64 0, .int .i64 0], .int .i64 c]) ∧ Below w.heap.size w w' := by
  go_enter Try.func9, Try.ntmps9
  go_wp2_with (go_at_call 5; refine (hat _).mono ?_; rintro e w1 ⟨rfl, hb1⟩; obtain ⟨hc1, hf1⟩ := bcell hb1; have hz1 : w.heap.size + 2 < w1.heap.size := by have := hb1.size; simp at this; omega)
  refine bodyPost_ret (v := .tuple #[.agg #[.int .i64 0, .int .i64 0], .agg #[.int .i64 0, .int .i64 0], .int .i64 c]) (by simp [results, Try.results9, go_sem, hc1, hz1, Nat.lt_of_succ_lt hz1]) rfl ⟨rfl, ?_⟩
  have b2 := ((((Below.refl _ _).alloc (Nat.le_refl _) _).alloc (by simp) _).alloc (by simp; omega) _).trans (hb1.mono (by simp; omega))
  exact (((b2.setCell (by first | (simp; done) | (simp; omega) | omega) _).setCell (by first | (simp; done) | (simp; omega) | omega) _).setCell (by first | (simp; done) | (simp; omega) | omega) _).setCell (by first | (simp; done) | (simp; omega) | omega) _

set_option maxHeartbeats 2000000 in
theorem coords_yes (W H S x y : Int) (c a g b k : Nat) (w : World) (h : atOK W H S x y) (hcA : coA W H S x y = a) (hcB : coB H y = b) (hg : Hid (Nat.gcd a W.toNat = g)) (hk : Hid (Nat.gcd b H.toNat = k)) :
    Calls Try.prog 8 #[.agg #[.int .i64 W, .int .i64 H, .int .i64 S], .int .i64 x, .int .i64 y] w fun e w' => e = .returned (.tuple #[.agg #[.int .i64 ((a : Int) / (g : Int)), .int .i64 ((W.toNat : Int) / (g : Int))], .agg #[.int .i64 ((b : Int) / (k : Int)), .int .i64 ((H.toNat : Int) / (k : Int))], .int .i64 0]) ∧ Below w.heap.size w w' := by
  obtain ⟨hp, hf⟩ := h
  simp only [Bool.and_eq_true] at hf
  have hx := fineB_of hf.1
  have hy := fineB_of hf.2
  have hat := fun w => at_ok W H S x y w hp hf.1 hf.2
  have hp' := hp
  unfold okPat at hp'
  have q1 : -1000000 ≤ rowI H y ∧ rowI H y ≤ 1000000 := ediv_bd y H 1000000 (by omega) hy.1 hy.2 (by omega)
  have hsb := shiftI_bd hp (rowI H y)
  have hsh := fun w => shift_any W H S (rowI H y) w hp q1.1 q1.2
  have r1 := emod_bd y H (by omega)
  have r2 := emod_bd (x - shiftI W S (rowI H y)) W (by omega)
  have eA : (x - shiftI W S (rowI H y)) % W = (a : Int) := by rw [← hcA]; unfold coA; omega
  have eB : y % H = (b : Int) := by rw [← hcB]; unfold coB; omega
  have hs1 := fun w => split_any (x - shiftI W S (rowI H y)) W w (by omega) (by omega) (by omega) (by omega)
  have hs2 := fun w => split_any y H w (by omega) (by omega) (by omega) (by omega)
  rw [eA] at hs1 r2
  rw [eB] at hs2 r1
  have eW : W = (W.toNat : Int) := by omega
  have eH : H = (H.toNat : Int) := by omega
  have hm1 := fun w => make_any a W.toNat g w (by omega) (by omega) (by omega) hg
  have hm2 := fun w => make_any b H.toNat k w (by omega) (by omega) (by omega) hk
  rw [← eW] at hm1
  rw [← eH] at hm2
  rw [← eW, ← eH]
  clear eW eH eA eB hcA hcB hf hp
  go_enter Try.func8, Try.ntmps8
  go_wp2_with (go_at_call 4; refine (hat _).mono ?_; rintro e w1 ⟨rfl, hb1⟩; obtain ⟨hc1, hf1⟩ := bcell hb1; have hz1 : w.heap.size + 2 < w1.heap.size := by have := hb1.size; simp at this; omega)
  have hl1 : w.heap.size < w1.heap.size ∧ w.heap.size + 1 < w1.heap.size := by omega
  refine wp_hab fun hab => ?_
  refine wp_region_above (by kernel_rfl) (by kernel_rfl) ?_
  repeat (go_big_quiet_step ((first | (go_at_call 14; exact above_of (hsh _)) | (go_at_call 13; exact above_of (hs1 _)))))
  refine wpQuiet_nil ?_
  refine above_ends fun w2 hb2 => ?_
  clear hab
  obtain ⟨hc2, hf2⟩ := bcell hb2
  have hz2 : w.heap.size + 2 < w2.heap.size ∧ w.heap.size < w2.heap.size ∧ w.heap.size + 1 < w2.heap.size := by have := hb2.size; omega
  have b2 := (((((Below.refl _ _).alloc (Nat.le_refl _) _).alloc (by simp) _).alloc (by simp; omega) _).trans (hb1.mono (by simp; omega))).trans (hb2.mono (by omega))
  go_wp2_with (first
    | (go_at_call 13; refine (hs2 _).mono ?_; rintro e w3 ⟨rfl, hb3⟩; obtain ⟨hc3, hf3⟩ := bcell hb3; have hz3 : w.heap.size + 2 < w3.heap.size ∧ w.heap.size < w3.heap.size ∧ w.heap.size + 1 < w3.heap.size := by have := hb3.size; omega)
    | (go_at_call_of 19 (Value.int .i64 W); refine (hm1 _).mono ?_; rintro e w4 ⟨rfl, hb4⟩; obtain ⟨hc4, hf4⟩ := bcell hb4; have hz4 : w.heap.size + 2 < w4.heap.size ∧ w.heap.size < w4.heap.size ∧ w.heap.size + 1 < w4.heap.size := by have := hb4.size; omega)
    | (go_at_call_of 19 (Value.int .i64 H); refine (hm2 _).mono ?_; rintro e w5 ⟨rfl, hb5⟩; obtain ⟨hc5, hf5⟩ := bcell hb5; have hz5 : w.heap.size + 2 < w5.heap.size ∧ w.heap.size < w5.heap.size ∧ w.heap.size + 1 < w5.heap.size := by have := hb5.size; simp at this; omega))
  refine wp_name fun w6 hw6 => ?_
  have b6 : Below w.heap.size w w6 := by
    rw [hw6]
    have b4 := (b2.trans (hb3.mono (by omega))).trans (hb4.mono (by omega))
    have b5 := ((b4.setCell (p := ⟨w.heap.size + 1, 0, none⟩) (by simp) (.int .i64 ((a : Int) / (g : Int)))).setCell (p := ⟨w.heap.size + 1, 1, none⟩) (by simp) (.int .i64 (W / (g : Int)))).trans (hb5.mono (by simp; omega))
    exact (b5.setCell (by simp; omega) _).setCell (by simp; omega) _
  have k0 : w6.cell? ⟨w.heap.size + 1, 0, none⟩ = some (.int .i64 ((a : Int) / (g : Int))) := by rw [hw6]; simp [go_sem, hc5, hz5, hz4, hc4, hc3, hz3, hc2, hz2, hc1, hz1, hl1]
  have k1 : w6.cell? ⟨w.heap.size + 1, 1, none⟩ = some (.int .i64 (W / (g : Int))) := by rw [hw6]; simp [go_sem, hc5, hz5, hz4, hc4, hc3, hz3, hc2, hz2, hc1, hz1, hl1]
  have k2 : w6.cell? ⟨w.heap.size + 2, 0, none⟩ = some (.int .i64 ((b : Int) / (k : Int))) := by rw [hw6]; simp [go_sem, hc5, hz5, hz4, hc4, hc3, hz3, hc2, hz2, hc1, hz1, hl1]
  have k3 : w6.cell? ⟨w.heap.size + 2, 1, none⟩ = some (.int .i64 (H / (k : Int))) := by rw [hw6]; simp [go_sem, hc5, hz5, hz4, hc4, hc3, hz3, hc2, hz2, hc1, hz1, hl1]
  have f0 : ∀ o, w6.frozen? ⟨w.heap.size + 1, o, none⟩ = false := by intro o; rw [hw6]; simp [go_sem, hf5, hz5, hz4, hf4, hf3, hz3, hf2, hz2, hf1, hz1, hl1]
  have f1 : ∀ o, w6.frozen? ⟨w.heap.size + 2, o, none⟩ = false := by intro o; rw [hw6]; simp [go_sem, hf5, hz5, hz4, hf4, hf3, hz3, hf2, hz2, hf1, hz1, hl1]
  clear hc1 hc2 hc3 hc4 hc5 hf1 hf2 hf3 hf4 hf5 hw6 b2 hb1 hb2 hb3 hb4 hb5
  go_region
  all_goals
    go_wp2
    refine bodyPost_ret (v := .tuple #[.agg #[.int .i64 ((a : Int) / (g : Int)), .int .i64 (W / (g : Int))], .agg #[.int .i64 ((b : Int) / (k : Int)), .int .i64 (H / (k : Int))], .int .i64 0]) (by simp [results, Try.results8, go_sem, k0, k1, k2, k3]) rfl ⟨rfl, ?_⟩
    first
      | exact (((b6.drew.setCell (by simp) _).setCell (by simp) _).setCell (by simp; omega) _).setCell (by simp; omega) _
      | exact (((b6.drew.setCell (by simp; omega) _).setCell (by simp; omega) _).setCell (by simp) _).setCell (by simp) _
      | exact ((((b6.setCell (by simp) _).setCell (by simp) _).setCell (by simp; omega) _).setCell (by simp; omega) _).drew
      | exact ((((b6.setCell (by simp; omega) _).setCell (by simp; omega) _).setCell (by simp) _).setCell (by simp) _).drew
end Go.Proofs.Ytgpalakanjckkaa
