/- Plain arithmetic of bricks: no Go in sight. -/
import Derived.Below
namespace Go.Proofs.Ytgpalakanjckkaa

theorem tdm_neg (x n : Int) (hn : 0 < n) (hx : x.tmod n < 0) : x.tdiv n - 1 = x / n ∧ x.tmod n + n = x % n := by
  have h1 := Int.mul_tdiv_add_tmod x n
  have h2 : -n < x.tmod n := by
    have := Int.lt_tmod_of_pos x hn
    exact this
  have := (Int.ediv_emod_unique (a := x) (b := n) (r := x.tmod n + n) (q := x.tdiv n - 1) hn).2 ⟨by rw [Int.mul_sub]; omega, by omega, by omega⟩
  exact ⟨this.1.symm, this.2.symm⟩
theorem tdm_pos (x n : Int) (hn : 0 < n) (hx : 0 ≤ x.tmod n) : x.tdiv n = x / n ∧ x.tmod n = x % n := by
  have h1 := Int.mul_tdiv_add_tmod x n
  have h2 : x.tmod n < n := Int.tmod_lt_of_pos x hn
  have := (Int.ediv_emod_unique (a := x) (b := n) (r := x.tmod n) (q := x.tdiv n) hn).2 ⟨by omega, by omega, by omega⟩
  exact ⟨this.1.symm, this.2.symm⟩
theorem ediv_bd (x n B : Int) (hn : 1 ≤ n) (h1 : -B ≤ x) (h2 : x ≤ B) (hB : 0 ≤ B) : -B ≤ x / n ∧ x / n ≤ B := by
  have e := Int.emod_add_mul_ediv x n
  have r1 := Int.emod_nonneg x (show n ≠ 0 by omega)
  have r2 := Int.emod_lt_of_pos x (show 0 < n by omega)
  constructor
  · rcases Int.lt_or_le (x / n) (-B) with h | h
    · have : n * (x / n) ≤ n * (-B - 1) := Int.mul_le_mul_of_nonneg_left (by omega) (by omega)
      have h3 : n * (-B - 1) = -(n * B) - n := by rw [Int.mul_sub, Int.mul_neg]; omega
      have h4 : 1 * B ≤ n * B := Int.mul_le_mul_of_nonneg_right hn hB
      omega
    · exact h
  · rcases Int.lt_or_le B (x / n) with h | h
    · have : n * (B + 1) ≤ n * (x / n) := Int.mul_le_mul_of_nonneg_left (by omega) (by omega)
      have h3 : n * (B + 1) = n * B + n := by rw [Int.mul_add]; omega
      have h4 : 1 * B ≤ n * B := Int.mul_le_mul_of_nonneg_right hn hB
      omega
    · exact h
theorem emod_bd (x n : Int) (hn : 1 ≤ n) : 0 ≤ x % n ∧ x % n < n := ⟨Int.emod_nonneg x (by omega), Int.emod_lt_of_pos x (by omega)⟩
theorem mul_bd (a b A B : Int) (h1 : -A ≤ a) (h2 : a ≤ A) (h3 : 0 ≤ b) (h4 : b ≤ B) (hA : 0 ≤ A) : -(A * B) ≤ a * b ∧ a * b ≤ A * B := by
  have e1 : A * b ≤ A * B := Int.mul_le_mul_of_nonneg_left h4 hA
  have e2 : a * b ≤ A * b := Int.mul_le_mul_of_nonneg_right h2 h3
  have e3 : -A * b ≤ a * b := Int.mul_le_mul_of_nonneg_right h1 h3
  have e4 : -A * b = -(A * b) := Int.neg_mul A b
  omega

/-- The valid patterns. -/
def okPat (W H S : Int) : Prop := 1 ≤ W ∧ W ≤ 1000 ∧ 1 ≤ H ∧ H ≤ 1000 ∧ 0 ≤ S ∧ S < W
instance (W H S : Int) : Decidable (okPat W H S) := by unfold okPat; infer_instance
def chk (W H S : Int) : Int := if okPat W H S then 0 else 8
theorem chk_ok {W H S : Int} (h : okPat W H S) : chk W H S = 0 := if_pos h
theorem chk_bad {W H S : Int} (h : ¬ okPat W H S) : chk W H S = 8 := if_neg h
def fineB (x : Int) : Bool := decide (-1000000 ≤ x) && decide (x ≤ 1000000)
theorem fineB_t {x : Int} (h1 : -1000000 ≤ x) (h2 : x ≤ 1000000) : fineB x = true := by simp [fineB, h1, h2]
theorem fineB_lo {x : Int} (h1 : x < -1000000) : fineB x = false := by simp [fineB]; omega
theorem fineB_hi {x : Int} (h1 : 1000000 < x) : fineB x = false := by simp [fineB]; omega
theorem fineB_of {x : Int} (h : fineB x = true) : -1000000 ≤ x ∧ x ≤ 1000000 := by simpa [fineB] using h
def shiftI (W S row : Int) : Int := (row * S) % W
end Go.Proofs.Ytgpalakanjckkaa
