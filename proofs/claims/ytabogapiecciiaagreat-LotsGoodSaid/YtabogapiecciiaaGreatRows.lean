/-
  No cell of these rows narrows 'for every input' (looked for: loops, veiled, ifaces, maps, wideKeys, modest, calm, conditions, laid).
  DERIVED. THE GIVEN ROWS OF THIS SEAT. 5 by the template 'for every input the law returns true; each argument reads behind the call as it read before'; 0 by the template 'total and deterministic' (their statements: YtabogapiecciiaaGreatTotals.lean).
  GIVEN WITH THE SEED: the statements are not yours to turn. If you find one false, say at which input.
  Laid BY PROGRAM, IN A SANDBOX (cutbox-rows.mjs): the forced cells as the released guide's own fill.sh prints them over the translation 373050d5719896c4… (all of the seat's roots in one cut). By AI agents, Wed Nov 11 2026. No macro, syntax, notation, axiom, sorry.
-/
import Derived.Test.YtabogapiecciiaaGreatChecked
import GoSem.Claim
import GoSem.ClaimJoined
import GoSem.ClaimMapViews
import Derived.JoinedTies
import Derived.KernelRfl
namespace Go.Proofs.YtabogapiecciiaaGreat
/- THE CELL 'sum', in the pinned program and in every row, IS THE sha256 OF THE DUMP (.gsa) THAT YtabogapiecciiaaGreatProg.lean LOADS. Nothing in Lean hashes anything: it is a label: what it is worth is what the hold of that sum in a sandbox is worth. -/
noncomputable def Tryz.pinned : Pinned := { name := "ytabogapiecciiaagreat", sum := "373050d5719896c485b3dbd4456be76ee445466ec0431ffa62ccb5c27d7b2f02", checked := Tryz.checked }
namespace Rows
def none {H : Type} : Left H := { results := [], args := [] }

/-- 'gambrellaw36.LotsTown': WHATEVER THE INPUT: true; the input reads as it did. -/
def lotsTownSpec : ChangeSpec := { name := "lotsTown", fn := fun _ => fun
  | [d1, d2, d3] => { results := [.lit (.bool true)], args := [d1, d2, d3] }
  | _ => none }
def lotsTownRow : OpenClaim := { program := "ytabogapiecciiaagreat", sum := "373050d5719896c485b3dbd4456be76ee445466ec0431ffa62ccb5c27d7b2f02", func := "gambrel/gambrellaw36.LotsTown", spec := "lotsTown", unfollowed := true, recurses := true, plainKeys := false, apart := false }
def LotsTownSaid : Prop := lotsTownRow.holds Tryz.pinned (OpenSpec.ofChange lotsTownSpec)

/-- ITS FALSE NEIGHBOUR: 'it returns false'. Refute it at one input. -/
def lotsTownWrong : ChangeSpec := { name := "lotsTown", fn := fun _ => fun
  | [d1, d2, d3] => { results := [.lit (.bool false)], args := [d1, d2, d3] }
  | _ => none }
def LotsTownWrongFalsely : Prop := lotsTownRow.holds Tryz.pinned (OpenSpec.ofChange lotsTownWrong)

/-- 'gambrellaw36.LotsParcels': WHATEVER THE INPUT: true; the input reads as it did. -/
def lotsParcelsSpec : ChangeSpec := { name := "lotsParcels", fn := fun _ => fun
  | [d1, d2, d3] => { results := [.lit (.bool true)], args := [d1, d2, d3] }
  | _ => none }
def lotsParcelsRow : OpenClaim := { program := "ytabogapiecciiaagreat", sum := "373050d5719896c485b3dbd4456be76ee445466ec0431ffa62ccb5c27d7b2f02", func := "gambrel/gambrellaw36.LotsParcels", spec := "lotsParcels", unfollowed := true, recurses := true, plainKeys := false, apart := false }
def LotsParcelsSaid : Prop := lotsParcelsRow.holds Tryz.pinned (OpenSpec.ofChange lotsParcelsSpec)

/-- ITS FALSE NEIGHBOUR: 'it returns false'. Refute it at one input. -/
def lotsParcelsWrong : ChangeSpec := { name := "lotsParcels", fn := fun _ => fun
  | [d1, d2, d3] => { results := [.lit (.bool false)], args := [d1, d2, d3] }
  | _ => none }
def LotsParcelsWrongFalsely : Prop := lotsParcelsRow.holds Tryz.pinned (OpenSpec.ofChange lotsParcelsWrong)

/-- 'gambrellaw36.LotsFill': WHATEVER THE INPUT: true; the input reads as it did. -/
def lotsFillSpec : ChangeSpec := { name := "lotsFill", fn := fun _ => fun
  | [d1, d2, d3] => { results := [.lit (.bool true)], args := [d1, d2, d3] }
  | _ => none }
def lotsFillRow : OpenClaim := { program := "ytabogapiecciiaagreat", sum := "373050d5719896c485b3dbd4456be76ee445466ec0431ffa62ccb5c27d7b2f02", func := "gambrel/gambrellaw36.LotsFill", spec := "lotsFill", unfollowed := true, recurses := true, plainKeys := false, apart := false }
def LotsFillSaid : Prop := lotsFillRow.holds Tryz.pinned (OpenSpec.ofChange lotsFillSpec)

/-- ITS FALSE NEIGHBOUR: 'it returns false'. Refute it at one input. -/
def lotsFillWrong : ChangeSpec := { name := "lotsFill", fn := fun _ => fun
  | [d1, d2, d3] => { results := [.lit (.bool false)], args := [d1, d2, d3] }
  | _ => none }
def LotsFillWrongFalsely : Prop := lotsFillRow.holds Tryz.pinned (OpenSpec.ofChange lotsFillWrong)

/-- 'gambrellaw36.LotsReach': WHATEVER THE INPUT: true; the input reads as it did. -/
def lotsReachSpec : ChangeSpec := { name := "lotsReach", fn := fun _ => fun
  | [d1, d2, d3] => { results := [.lit (.bool true)], args := [d1, d2, d3] }
  | _ => none }
def lotsReachRow : OpenClaim := { program := "ytabogapiecciiaagreat", sum := "373050d5719896c485b3dbd4456be76ee445466ec0431ffa62ccb5c27d7b2f02", func := "gambrel/gambrellaw36.LotsReach", spec := "lotsReach", unfollowed := true, recurses := true, plainKeys := false, apart := false }
def LotsReachSaid : Prop := lotsReachRow.holds Tryz.pinned (OpenSpec.ofChange lotsReachSpec)

/-- ITS FALSE NEIGHBOUR: 'it returns false'. Refute it at one input. -/
def lotsReachWrong : ChangeSpec := { name := "lotsReach", fn := fun _ => fun
  | [d1, d2, d3] => { results := [.lit (.bool false)], args := [d1, d2, d3] }
  | _ => none }
def LotsReachWrongFalsely : Prop := lotsReachRow.holds Tryz.pinned (OpenSpec.ofChange lotsReachWrong)

/-- 'gambrellaw36.LotsGood': WHATEVER THE INPUT: true; the input reads as it did. -/
def lotsGoodSpec : ChangeSpec := { name := "lotsGood", fn := fun _ => fun
  | [d1, d2, d3] => { results := [.lit (.bool true)], args := [d1, d2, d3] }
  | _ => none }
def lotsGoodRow : OpenClaim := { program := "ytabogapiecciiaagreat", sum := "373050d5719896c485b3dbd4456be76ee445466ec0431ffa62ccb5c27d7b2f02", func := "gambrel/gambrellaw36.LotsGood", spec := "lotsGood", unfollowed := true, recurses := true, plainKeys := false, apart := false }
def LotsGoodSaid : Prop := lotsGoodRow.holds Tryz.pinned (OpenSpec.ofChange lotsGoodSpec)

/-- ITS FALSE NEIGHBOUR: 'it returns false'. Refute it at one input. -/
def lotsGoodWrong : ChangeSpec := { name := "lotsGood", fn := fun _ => fun
  | [d1, d2, d3] => { results := [.lit (.bool false)], args := [d1, d2, d3] }
  | _ => none }
def LotsGoodWrongFalsely : Prop := lotsGoodRow.holds Tryz.pinned (OpenSpec.ofChange lotsGoodWrong)

/- THE SECOND FORM. 'bulk': how many values and letters a reading holds, each counted each time it is reached (what is shared counts as often as it is met; a slice's spare places count too). A statement '..UptoSaid' is the law's where the arguments, and the package variables that the reading takes, are together of bulk at most 1048576: NARROWER than '..Said'. Prove '..Said' where nothing that the law and all that it calls make is longer than what came in: it says more and counts as full. Else prove '..UptoSaid'. A law counts once. -/
mutual
def uptoBulk {H : Type} : DataW H → Nat
  | .lit (.string bytes) => bytes.length + 1
  | .lit _ => 1
  | .nil => 1
  | .ptr d => uptoBulk d + 1
  | .slice elems spare => uptoBulkAll elems + uptoBulkAll spare + 1
  | .agg parts => uptoBulkAll parts + 1
  | .iface _ d => uptoBulk d + 1
  | .map entries => uptoBulkEntries entries + 1
  | .held _ => 1
def uptoBulkAll {H : Type} : List (DataW H) → Nat
  | [] => 0
  | d :: r => uptoBulk d + uptoBulkAll r
def uptoBulkEntries {H : Type} : List (Lit × DataW H) → Nat
  | [] => 0
  | x :: r => uptoBulkEntry x + uptoBulkEntries r
def uptoBulkEntry {H : Type} : Lit × DataW H → Nat
  | (.string bytes, d) => bytes.length + uptoBulk d + 1
  | (_, d) => uptoBulk d + 1
 end
def uptoSmall : (H : Type) → List (DataW H) → Bool := fun _ ds => decide (uptoBulkAll ds ≤ 1048576)
def OpenSpec.upto (s : _root_.Go.ChangeSpec) : _root_.Go.OpenSpec := { _root_.Go.OpenSpec.ofChange s with cond := some uptoSmall }

/-- 'gambrellaw36.LotsTown', WHERE WHAT IT READS IS OF BULK AT MOST 1048576: true; the input reads as it did. -/
def lotsTownUptoRow : OpenClaim := { program := "ytabogapiecciiaagreat", sum := "373050d5719896c485b3dbd4456be76ee445466ec0431ffa62ccb5c27d7b2f02", func := "gambrel/gambrellaw36.LotsTown", spec := "lotsTown", unfollowed := true, recurses := true, plainKeys := false, apart := false, narrowed := true }
def LotsTownUptoSaid : Prop := lotsTownUptoRow.holds Tryz.pinned (OpenSpec.upto lotsTownSpec)

/-- 'gambrellaw36.LotsParcels', WHERE WHAT IT READS IS OF BULK AT MOST 1048576: true; the input reads as it did. -/
def lotsParcelsUptoRow : OpenClaim := { program := "ytabogapiecciiaagreat", sum := "373050d5719896c485b3dbd4456be76ee445466ec0431ffa62ccb5c27d7b2f02", func := "gambrel/gambrellaw36.LotsParcels", spec := "lotsParcels", unfollowed := true, recurses := true, plainKeys := false, apart := false, narrowed := true }
def LotsParcelsUptoSaid : Prop := lotsParcelsUptoRow.holds Tryz.pinned (OpenSpec.upto lotsParcelsSpec)

/-- 'gambrellaw36.LotsFill', WHERE WHAT IT READS IS OF BULK AT MOST 1048576: true; the input reads as it did. -/
def lotsFillUptoRow : OpenClaim := { program := "ytabogapiecciiaagreat", sum := "373050d5719896c485b3dbd4456be76ee445466ec0431ffa62ccb5c27d7b2f02", func := "gambrel/gambrellaw36.LotsFill", spec := "lotsFill", unfollowed := true, recurses := true, plainKeys := false, apart := false, narrowed := true }
def LotsFillUptoSaid : Prop := lotsFillUptoRow.holds Tryz.pinned (OpenSpec.upto lotsFillSpec)

/-- 'gambrellaw36.LotsReach', WHERE WHAT IT READS IS OF BULK AT MOST 1048576: true; the input reads as it did. -/
def lotsReachUptoRow : OpenClaim := { program := "ytabogapiecciiaagreat", sum := "373050d5719896c485b3dbd4456be76ee445466ec0431ffa62ccb5c27d7b2f02", func := "gambrel/gambrellaw36.LotsReach", spec := "lotsReach", unfollowed := true, recurses := true, plainKeys := false, apart := false, narrowed := true }
def LotsReachUptoSaid : Prop := lotsReachUptoRow.holds Tryz.pinned (OpenSpec.upto lotsReachSpec)

/-- 'gambrellaw36.LotsGood', WHERE WHAT IT READS IS OF BULK AT MOST 1048576: true; the input reads as it did. -/
def lotsGoodUptoRow : OpenClaim := { program := "ytabogapiecciiaagreat", sum := "373050d5719896c485b3dbd4456be76ee445466ec0431ffa62ccb5c27d7b2f02", func := "gambrel/gambrellaw36.LotsGood", spec := "lotsGood", unfollowed := true, recurses := true, plainKeys := false, apart := false, narrowed := true }
def LotsGoodUptoSaid : Prop := lotsGoodUptoRow.holds Tryz.pinned (OpenSpec.upto lotsGoodSpec)

end Rows
end Go.Proofs.YtabogapiecciiaaGreat
