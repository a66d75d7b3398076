/- OutlineSides' walk. -/
import Derived.Test.YtdfpbhlnlkjjlaaGreatXtsK
import Derived.Test.YtdfpbhlnlkjjlaaGreatLawOSfK
import Derived.Test.YtdfpbhlnlkjjlaaGreatLawOStK
import Derived.Deep.QuietTactic
import Derived.BigQuiet
import Derived.StillTactics
import Derived.Deep.CutBlock
namespace Go.Proofs.YtdfpbhlnlkjjlaaGreat
open Go.RowKit
set_option linter.unusedVariables false
set_option linter.unusedSimpArgs false
theorem osides_walk {w : World} {v : Value} {l : List R4} (hr : RdK encR 4 w w.heap.size v l) (la : l.length ≤ maxLen) (x y : Int) (low : Bool) (hx : -9223372036854775808 ≤ x ∧ x ≤ 9223372036854775807) (hy : -9223372036854775808 ≤ y ∧ y ≤ 9223372036854775807) :
    Calls Tryz.prog 6 #[v, .int .i64 x, .int .i64 y, .bool low] w fun e w' => e = .returned (.bool true) ∧ Below w.heap.size w w' := by
  cases low
  · exact osides_f hr la x y hx hy
  · exact osides_t hr la x y hx hy
end Go.Proofs.YtdfpbhlnlkjjlaaGreat
