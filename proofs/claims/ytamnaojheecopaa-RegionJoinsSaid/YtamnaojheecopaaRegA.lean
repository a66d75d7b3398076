/- The walks of region's small functions. -/
import Derived.Test.YtamnaojheecopaaKit
import Derived.Test.YtamnaojheecopaaMRegion
namespace Go.Proofs.Ytamnaojheecopaa
open Go.RowKit
set_option linter.unusedVariables false
set_option linter.unusedSimpArgs false

def encR (r : R4) : List Value := [.int .i64 r.x0, .int .i64 r.y0, .int .i64 r.x1, .int .i64 r.y1]
def encS (p : Sp) : List Value := [.int .i64 p.1, .int .i64 p.2]
def encE (e : En) : List Value := [.int .i64 e.1, .int .i64 e.2.1, .int .i64 e.2.2]
def fineP (x : Int) : Prop := -1000000 ≤ x ∧ x ≤ 1000000
def valid4 (r : R4) : Prop := r.x0 < r.x1 ∧ r.y0 < r.y1 ∧ fineP r.x0 ∧ fineP r.x1 ∧ fineP r.y0 ∧ fineP r.y1
instance (r : R4) : Decidable (valid4 r) := by unfold valid4 fineP; infer_instance
def validS (p : Sp) : Prop := p.1 < p.2 ∧ -1000000 ≤ p.1 ∧ p.2 ≤ 1000000
instance (p : Sp) : Decidable (validS p) := by unfold validS; infer_instance

set_option maxHeartbeats 1000000 in
theorem valid_any (r : R4) (w : World) :
    Calls Try.prog 41 #[.agg (encR r).toArray] w fun e w' => e = .returned (.bool (decide (valid4 r))) ∧ Below w.heap.size w w' := by
  obtain ⟨a, b, c, d⟩ := r
  show Calls Try.prog 41 #[.agg #[.int .i64 a, .int .i64 b, .int .i64 c, .int .i64 d]] w _
  go_enter Try.func41, Try.ntmps41
  go_wp2
  all_goals
    go_ret
    refine ⟨ret_eq (bool_eq ?_), (Below.refl _ _).alloc (Nat.le_refl _) _⟩
    first
      | exact (decide_eq_false (by simp only [valid4, fineP]; omega)).symm
      | exact (decide_eq_true (by simp only [valid4, fineP]; omega)).symm
      | exact decide_eq_decide.2 (by simp only [valid4, fineP]; omega)

set_option maxHeartbeats 1000000 in
theorem validS_any (p : Sp) (w : World) :
    Calls Try.prog 81 #[.agg (encS p).toArray] w fun e w' => e = .returned (.bool (decide (validS p))) ∧ Below w.heap.size w w' := by
  obtain ⟨a, b⟩ := p
  show Calls Try.prog 81 #[.agg #[.int .i64 a, .int .i64 b]] w _
  go_enter Try.func81, Try.ntmps81
  go_wp2
  all_goals
    go_ret
    refine ⟨ret_eq (bool_eq ?_), (Below.refl _ _).alloc (Nat.le_refl _) _⟩
    first
      | exact (decide_eq_false (by simp only [validS]; omega)).symm
      | exact (decide_eq_true (by simp only [validS]; omega)).symm
      | exact decide_eq_decide.2 (by simp only [validS]; omega)
end Go.Proofs.Ytamnaojheecopaa
