/- texture.At and Brick, and their references, each whole: the results as functions of the input. -/
import Derived.Test.YtgpalakanjckkaaTexC
namespace Go.Proofs.Ytgpalakanjckkaa
open Go.RowKit
set_option linter.unusedVariables false
set_option linter.unusedSimpArgs false

/-- What At returns. -/
def atOK (W H S x y : Int) : Prop := okPat W H S ∧ (fineB x && fineB y) = true
instance (W H S x y : Int) : Decidable (atOK W H S x y) := by unfold atOK; infer_instance
def atC (W H S x y : Int) : Int := if atOK W H S x y then colI W H S x y else 0
def atR (W H S x y : Int) : Int := if atOK W H S x y then rowI H y else 0
def atE (W H S x y : Int) : Int := if okPat W H S then (if (fineB x && fineB y) = true then 0 else 2) else 8
theorem at_any (W H S x y : Int) (w : World) :
    Calls Try.prog 4 #[.agg #[.int .i64 W, .int .i64 H, .int .i64 S], .int .i64 x, .int .i64 y] w fun e w' => e = .returned (.tuple #[.int .i64 (atC W H S x y), .int .i64 (atR W H S x y), .int .i64 (atE W H S x y)]) ∧ Below w.heap.size w w' := by
  by_cases hp : okPat W H S
  · by_cases hf : (fineB x && fineB y) = true
    · have h1 : atOK W H S x y := ⟨hp, hf⟩
      simp only [atC, atR, atE, if_pos h1, if_pos hp, if_pos hf]
      simp only [Bool.and_eq_true] at hf
      exact at_ok W H S x y w hp hf.1 hf.2
    · have h1 : ¬ atOK W H S x y := fun h => hf h.2
      simp only [atC, atR, atE, if_neg h1, if_pos hp, if_neg hf]
      exact at_arg W H S x y w hp (by simpa using hf)
  · have h1 : ¬ atOK W H S x y := fun h => hp h.1
    simp only [atC, atR, atE, if_neg h1, if_neg hp]
    exact at_bad W H S x y w hp
set_option maxHeartbeats 1000000 in
theorem rat_any (W H S x y : Int) (w : World) :
    Calls Try.prog 5 #[.agg #[.int .i64 W, .int .i64 H, .int .i64 S], .int .i64 x, .int .i64 y] w fun e w' => e = .returned (.tuple #[.int .i64 (atC W H S x y), .int .i64 (atR W H S x y), .int .i64 (atE W H S x y)]) ∧ Below w.heap.size w w' := by
  by_cases hp : okPat W H S
  · have hc := fun w => (rcheck_any W H S w).mono (R' := fun e w' => e = .returned (.int .i64 0) ∧ Below w.heap.size w w') fun e w' h => by rw [chk_ok hp] at h; exact h
    by_cases hf : (fineB x && fineB y) = true
    · have h1 : atOK W H S x y := ⟨hp, hf⟩
      simp only [atC, atR, atE, if_pos h1, if_pos hp, if_pos hf]
      simp only [Bool.and_eq_true] at hf
      obtain ⟨hx, hy⟩ := hf
      have hcx := fun w => (in_any x w).mono (R' := fun e w' => e = .returned (.bool true) ∧ w = w') fun e w' h => by rw [hx] at h; exact h
      have hcy := fun w => (in_any y w).mono (R' := fun e w' => e = .returned (.bool true) ∧ w = w') fun e w' h => by rw [hy] at h; exact h
      have hx' := fineB_of hx
      have hy' := fineB_of hy
      have hwh := fun w => where_any W H S x y w hp hx'.1 hx'.2 hy'.1 hy'.2
      clear h1 hx hy hx' hy' hp
      go_enter Try.func5, Try.ntmps5
      go_wp2_with (first
        | (go_at_call 11; refine (hc _).mono ?_; rintro e w1 ⟨rfl, hb1⟩; obtain ⟨hc1, hf1⟩ := bcell hb1; have hz1 : w.heap.size < w1.heap.size := by have := hb1.size; simp at this; omega)
        | (go_at_call_of 15 (Value.int .i64 x); refine (hcx _).mono ?_; rintro e w' ⟨rfl, rfl⟩)
        | (go_at_call_of 15 (Value.int .i64 y); refine (hcy _).mono ?_; rintro e w' ⟨rfl, rfl⟩)
        | (go_at_call 16; refine (hwh _).mono ?_; rintro e w2 ⟨rfl, hb2⟩))
      go_ret3
      exact ⟨rfl, (((Below.refl _ _).alloc (Nat.le_refl _) _).trans (hb1.mono (by simp))).trans (hb2.mono (by omega))⟩
    · have h1 : ¬ atOK W H S x y := fun h => hf h.2
      simp only [atC, atR, atE, if_neg h1, if_pos hp, if_neg hf]
      have hf' : (fineB x && fineB y) = false := by simpa using hf
      clear hf h1 hp
      cases hx : fineB x
      · have hcx := fun w => (in_any x w).mono (R' := fun e w' => e = .returned (.bool false) ∧ w = w') fun e w' h => by rw [hx] at h; exact h
        clear hf' hx
        go_enter Try.func5, Try.ntmps5
        go_wp2_with (first
          | (go_at_call 11; refine (hc _).mono ?_; rintro e w1 ⟨rfl, hb1⟩; obtain ⟨hc1, hf1⟩ := bcell hb1)
          | (go_at_call 15; refine (hcx _).mono ?_; rintro e w' ⟨rfl, rfl⟩))
        go_ret3
        exact ⟨rfl, ((Below.refl _ _).alloc (Nat.le_refl _) _).trans (hb1.mono (by simp))⟩
      · have hy : fineB y = false := by simpa [hx] using hf'
        have hcx := fun w => (in_any x w).mono (R' := fun e w' => e = .returned (.bool true) ∧ w = w') fun e w' h => by rw [hx] at h; exact h
        have hcy := fun w => (in_any y w).mono (R' := fun e w' => e = .returned (.bool false) ∧ w = w') fun e w' h => by rw [hy] at h; exact h
        clear hf' hx hy
        go_enter Try.func5, Try.ntmps5
        go_wp2_with (first
          | (go_at_call 11; refine (hc _).mono ?_; rintro e w1 ⟨rfl, hb1⟩; obtain ⟨hc1, hf1⟩ := bcell hb1)
          | (go_at_call_of 15 (Value.int .i64 x); refine (hcx _).mono ?_; rintro e w' ⟨rfl, rfl⟩)
          | (go_at_call_of 15 (Value.int .i64 y); refine (hcy _).mono ?_; rintro e w' ⟨rfl, rfl⟩))
        go_ret3
        exact ⟨rfl, ((Below.refl _ _).alloc (Nat.le_refl _) _).trans (hb1.mono (by simp))⟩
  · have h1 : ¬ atOK W H S x y := fun h => hp h.1
    simp only [atC, atR, atE, if_neg h1, if_neg hp]
    have hc := fun w => (rcheck_any W H S w).mono (R' := fun e w' => e = .returned (.int .i64 8) ∧ Below w.heap.size w w') fun e w' h => by rw [chk_bad hp] at h; exact h
    clear h1 hp
    go_enter Try.func5, Try.ntmps5
    go_wp2_with fail
    refine (hc _).mono ?_
    rintro e w1 ⟨rfl, hb1⟩
    obtain ⟨hc1, hf1⟩ := bcell hb1
    have hz1 : w.heap.size < w1.heap.size := by have := hb1.size; simp at this; omega
    go_wp2_with fail
    refine (hc _).mono ?_
    rintro e w2 ⟨rfl, hb2⟩
    go_wp2
    go_ret3
    exact ⟨rfl, (((Below.refl _ _).alloc (Nat.le_refl _) _).trans (hb1.mono (by simp))).trans (hb2.mono (by omega))⟩

/-- What Brick returns. -/
def brOK (W H S col row : Int) : Prop := atOK W H S col row ∧ (fineB (brX W H S col row) && fineB (brX W H S col row + W) && fineB (row * H) && fineB ((row + 1) * H)) = true
instance (W H S col row : Int) : Decidable (brOK W H S col row) := by unfold brOK; infer_instance
def br0 (W H S col row : Int) : Int := if brOK W H S col row then brX W H S col row else 0
def br1 (W H S col row : Int) : Int := if brOK W H S col row then row * H else 0
def br2 (W H S col row : Int) : Int := if brOK W H S col row then brX W H S col row + W else 0
def br3 (W H S col row : Int) : Int := if brOK W H S col row then (row + 1) * H else 0
def brE (W H S col row : Int) : Int := if atOK W H S col row then (if brOK W H S col row then 0 else 16) else atE W H S col row

end Go.Proofs.Ytgpalakanjckkaa
