/- Plain: what a join is; areas of regions. -/
import Derived.Test.YtmnhlcbmoibahaaGreatPk12
namespace Go.Proofs.YtmnhlcbmoibahaaGreat
open Go.RowKit
set_option linter.unusedVariables false
set_option linter.unusedSimpArgs false

theorem join_is {h : Bool → Bool → Bool} (h0 : h false false = false) {a b c : List R4} (ha : checkF a = 0) (hb : checkF b = 0) (hc : checkF c = 0) (hp : ∀ x y, pmem c x y ↔ h (decide (pmem a x y)) (decide (pmem b x y)) = true) : joinF h a b = (c, 0) := by
  have e : rjoin h a b = c := (rjoin_eq h0 (check_wf ha) (check_wf hb) (check_rcan hc) hp).symm
  rw [joinF_ok ha hb, e, if_neg (by have := (checkF_ok hc).1; omega)]
theorem check_nil : checkF [] = 0 := by kernel_rfl
theorem area_le {l : List R4} (h : checkF l = 0) : 0 ≤ areaS l ∧ areaS l ≤ 1600000000000000 := by
  have h1 := areaS_bd (l := l) fun r hr => (checkF_ok h).2.1 r hr
  have h2 := (checkF_ok h).1
  omega
end Go.Proofs.YtmnhlcbmoibahaaGreat
