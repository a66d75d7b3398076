/-
  No cell of these rows narrows 'for every input' (looked for: loops, veiled, ifaces, maps, wideKeys, modest, calm, conditions, laid).
  DERIVED. THE GIVEN ROWS OF THIS SEAT. 5 by the template 'for every input the law returns true; each argument reads behind the call as it read before'; 0 by the template 'total and deterministic' (their statements: YtamnaojheecopaaTotals.lean).
  GIVEN WITH THE SEED: the statements are not yours to turn. If you find one false, say at which input.
  Laid BY PROGRAM, IN A SANDBOX (cutbox-rows.mjs): the forced cells as the released guide's own fill.sh prints them over the translation fbad2e813dd17f04… (all of the seat's roots in one cut). By AI agents, Wed Nov 11 2026. No macro, syntax, notation, axiom, sorry.
-/
import Derived.Test.YtamnaojheecopaaChecked
import GoSem.Claim
import GoSem.ClaimJoined
import GoSem.ClaimMapViews
import Derived.JoinedTies
import Derived.KernelRfl
namespace Go.Proofs.Ytamnaojheecopaa
/- THE CELL 'sum', in the pinned program and in every row, IS THE sha256 OF THE DUMP (.gsa) THAT YtamnaojheecopaaProg.lean LOADS. Nothing in Lean hashes anything: it is a label: what it is worth is what the hold of that sum in a sandbox is worth. -/
noncomputable def Try.pinned : Pinned := { name := "ytamnaojheecopaa", sum := "fbad2e813dd17f0437dac3115e73f1afd055e7a4554c7943a8f1b4bfa790b349", checked := Try.checked }
namespace Rows
def none {H : Type} : Left H := { results := [], args := [] }

/-- 'gambrellaw12.RegionMakes': WHATEVER THE INPUT: true; the input reads as it did. -/
def regionMakesSpec : ChangeSpec := { name := "regionMakes", fn := fun _ => fun
  | [d1, d2, d3, d4] => { results := [.lit (.bool true)], args := [d1, d2, d3, d4] }
  | _ => none }
def regionMakesRow : OpenClaim := { program := "ytamnaojheecopaa", sum := "fbad2e813dd17f0437dac3115e73f1afd055e7a4554c7943a8f1b4bfa790b349", func := "gambrel/gambrellaw12.RegionMakes", spec := "regionMakes", unfollowed := true, recurses := true, apart := false }
def RegionMakesSaid : Prop := regionMakesRow.holds Try.pinned (OpenSpec.ofChange regionMakesSpec)

/-- ITS FALSE NEIGHBOUR: 'it returns false'. Refute it at one input. -/
def regionMakesWrong : ChangeSpec := { name := "regionMakes", fn := fun _ => fun
  | [d1, d2, d3, d4] => { results := [.lit (.bool false)], args := [d1, d2, d3, d4] }
  | _ => none }
def RegionMakesWrongFalsely : Prop := regionMakesRow.holds Try.pinned (OpenSpec.ofChange regionMakesWrong)

/-- 'gambrellaw12.RegionLooks': WHATEVER THE INPUT: true; the input reads as it did. -/
def regionLooksSpec : ChangeSpec := { name := "regionLooks", fn := fun _ => fun
  | [d1, d2, d3] => { results := [.lit (.bool true)], args := [d1, d2, d3] }
  | _ => none }
def regionLooksRow : OpenClaim := { program := "ytamnaojheecopaa", sum := "fbad2e813dd17f0437dac3115e73f1afd055e7a4554c7943a8f1b4bfa790b349", func := "gambrel/gambrellaw12.RegionLooks", spec := "regionLooks", unfollowed := true, recurses := true, apart := false }
def RegionLooksSaid : Prop := regionLooksRow.holds Try.pinned (OpenSpec.ofChange regionLooksSpec)

/-- ITS FALSE NEIGHBOUR: 'it returns false'. Refute it at one input. -/
def regionLooksWrong : ChangeSpec := { name := "regionLooks", fn := fun _ => fun
  | [d1, d2, d3] => { results := [.lit (.bool false)], args := [d1, d2, d3] }
  | _ => none }
def RegionLooksWrongFalsely : Prop := regionLooksRow.holds Try.pinned (OpenSpec.ofChange regionLooksWrong)

/-- 'gambrellaw12.RegionParts': WHATEVER THE INPUT: true; the input reads as it did. -/
def regionPartsSpec : ChangeSpec := { name := "regionParts", fn := fun _ => fun
  | [d1, d2] => { results := [.lit (.bool true)], args := [d1, d2] }
  | _ => none }
def regionPartsRow : OpenClaim := { program := "ytamnaojheecopaa", sum := "fbad2e813dd17f0437dac3115e73f1afd055e7a4554c7943a8f1b4bfa790b349", func := "gambrel/gambrellaw12.RegionParts", spec := "regionParts", unfollowed := true, recurses := true, apart := false }
def RegionPartsSaid : Prop := regionPartsRow.holds Try.pinned (OpenSpec.ofChange regionPartsSpec)

/-- ITS FALSE NEIGHBOUR: 'it returns false'. Refute it at one input. -/
def regionPartsWrong : ChangeSpec := { name := "regionParts", fn := fun _ => fun
  | [d1, d2] => { results := [.lit (.bool false)], args := [d1, d2] }
  | _ => none }
def RegionPartsWrongFalsely : Prop := regionPartsRow.holds Try.pinned (OpenSpec.ofChange regionPartsWrong)

/-- 'gambrellaw12.RegionJoins': WHATEVER THE INPUT: true; the input reads as it did. -/
def regionJoinsSpec : ChangeSpec := { name := "regionJoins", fn := fun _ => fun
  | [d1, d2] => { results := [.lit (.bool true)], args := [d1, d2] }
  | _ => none }
def regionJoinsRow : OpenClaim := { program := "ytamnaojheecopaa", sum := "fbad2e813dd17f0437dac3115e73f1afd055e7a4554c7943a8f1b4bfa790b349", func := "gambrel/gambrellaw12.RegionJoins", spec := "regionJoins", unfollowed := true, recurses := true, apart := false }
def RegionJoinsSaid : Prop := regionJoinsRow.holds Try.pinned (OpenSpec.ofChange regionJoinsSpec)

/-- ITS FALSE NEIGHBOUR: 'it returns false'. Refute it at one input. -/
def regionJoinsWrong : ChangeSpec := { name := "regionJoins", fn := fun _ => fun
  | [d1, d2] => { results := [.lit (.bool false)], args := [d1, d2] }
  | _ => none }
def RegionJoinsWrongFalsely : Prop := regionJoinsRow.holds Try.pinned (OpenSpec.ofChange regionJoinsWrong)

/-- 'gambrellaw12.RegionNames': WHATEVER THE INPUT: true; the input reads as it did. -/
def regionNamesSpec : ChangeSpec := { name := "regionNames", fn := fun _ => fun
  | [] => { results := [.lit (.bool true)], args := [] }
  | _ => none }
def regionNamesRow : OpenClaim := { program := "ytamnaojheecopaa", sum := "fbad2e813dd17f0437dac3115e73f1afd055e7a4554c7943a8f1b4bfa790b349", func := "gambrel/gambrellaw12.RegionNames", spec := "regionNames", unfollowed := true, recurses := true, apart := false }
def RegionNamesSaid : Prop := regionNamesRow.holds Try.pinned (OpenSpec.ofChange regionNamesSpec)

/-- ITS FALSE NEIGHBOUR: 'it returns false'. Refute it at one input. -/
def regionNamesWrong : ChangeSpec := { name := "regionNames", fn := fun _ => fun
  | [] => { results := [.lit (.bool false)], args := [] }
  | _ => none }
def RegionNamesWrongFalsely : Prop := regionNamesRow.holds Try.pinned (OpenSpec.ofChange regionNamesWrong)

/- THE SECOND FORM. 'bulk': how many values and letters a reading holds, each counted each time it is reached (what is shared counts as often as it is met; a slice's spare places count too). A statement '..UptoSaid' is the law's where the arguments, and the package variables that the reading takes, are together of bulk at most 1048576: NARROWER than '..Said'. Prove '..Said' where nothing that the law and all that it calls make is longer than what came in: it says more and counts as full. Else prove '..UptoSaid'. A law counts once. -/
mutual
def uptoBulk {H : Type} : DataW H → Nat
  | .lit (.string bytes) => bytes.length + 1
  | .lit _ => 1
  | .nil => 1
  | .ptr d => uptoBulk d + 1
  | .slice elems spare => uptoBulkAll elems + uptoBulkAll spare + 1
  | .agg parts => uptoBulkAll parts + 1
  | .iface _ d => uptoBulk d + 1
  | .map entries => uptoBulkEntries entries + 1
  | .held _ => 1
def uptoBulkAll {H : Type} : List (DataW H) → Nat
  | [] => 0
  | d :: r => uptoBulk d + uptoBulkAll r
def uptoBulkEntries {H : Type} : List (Lit × DataW H) → Nat
  | [] => 0
  | x :: r => uptoBulkEntry x + uptoBulkEntries r
def uptoBulkEntry {H : Type} : Lit × DataW H → Nat
  | (.string bytes, d) => bytes.length + uptoBulk d + 1
  | (_, d) => uptoBulk d + 1
 end
def uptoSmall : (H : Type) → List (DataW H) → Bool := fun _ ds => decide (uptoBulkAll ds ≤ 1048576)
def OpenSpec.upto (s : _root_.Go.ChangeSpec) : _root_.Go.OpenSpec := { _root_.Go.OpenSpec.ofChange s with cond := some uptoSmall }

/-- 'gambrellaw12.RegionMakes', WHERE WHAT IT READS IS OF BULK AT MOST 1048576: true; the input reads as it did. -/
def regionMakesUptoRow : OpenClaim := { program := "ytamnaojheecopaa", sum := "fbad2e813dd17f0437dac3115e73f1afd055e7a4554c7943a8f1b4bfa790b349", func := "gambrel/gambrellaw12.RegionMakes", spec := "regionMakes", unfollowed := true, recurses := true, apart := false, narrowed := true }
def RegionMakesUptoSaid : Prop := regionMakesUptoRow.holds Try.pinned (OpenSpec.upto regionMakesSpec)

/-- 'gambrellaw12.RegionLooks', WHERE WHAT IT READS IS OF BULK AT MOST 1048576: true; the input reads as it did. -/
def regionLooksUptoRow : OpenClaim := { program := "ytamnaojheecopaa", sum := "fbad2e813dd17f0437dac3115e73f1afd055e7a4554c7943a8f1b4bfa790b349", func := "gambrel/gambrellaw12.RegionLooks", spec := "regionLooks", unfollowed := true, recurses := true, apart := false, narrowed := true }
def RegionLooksUptoSaid : Prop := regionLooksUptoRow.holds Try.pinned (OpenSpec.upto regionLooksSpec)

/-- 'gambrellaw12.RegionParts', WHERE WHAT IT READS IS OF BULK AT MOST 1048576: true; the input reads as it did. -/
def regionPartsUptoRow : OpenClaim := { program := "ytamnaojheecopaa", sum := "fbad2e813dd17f0437dac3115e73f1afd055e7a4554c7943a8f1b4bfa790b349", func := "gambrel/gambrellaw12.RegionParts", spec := "regionParts", unfollowed := true, recurses := true, apart := false, narrowed := true }
def RegionPartsUptoSaid : Prop := regionPartsUptoRow.holds Try.pinned (OpenSpec.upto regionPartsSpec)

/-- 'gambrellaw12.RegionJoins', WHERE WHAT IT READS IS OF BULK AT MOST 1048576: true; the input reads as it did. -/
def regionJoinsUptoRow : OpenClaim := { program := "ytamnaojheecopaa", sum := "fbad2e813dd17f0437dac3115e73f1afd055e7a4554c7943a8f1b4bfa790b349", func := "gambrel/gambrellaw12.RegionJoins", spec := "regionJoins", unfollowed := true, recurses := true, apart := false, narrowed := true }
def RegionJoinsUptoSaid : Prop := regionJoinsUptoRow.holds Try.pinned (OpenSpec.upto regionJoinsSpec)

/-- 'gambrellaw12.RegionNames', WHERE WHAT IT READS IS OF BULK AT MOST 1048576: true; the input reads as it did. -/
def regionNamesUptoRow : OpenClaim := { program := "ytamnaojheecopaa", sum := "fbad2e813dd17f0437dac3115e73f1afd055e7a4554c7943a8f1b4bfa790b349", func := "gambrel/gambrellaw12.RegionNames", spec := "regionNames", unfollowed := true, recurses := true, apart := false, narrowed := true }
def RegionNamesUptoSaid : Prop := regionNamesUptoRow.holds Try.pinned (OpenSpec.upto regionNamesSpec)

end Rows
end Go.Proofs.Ytamnaojheecopaa
