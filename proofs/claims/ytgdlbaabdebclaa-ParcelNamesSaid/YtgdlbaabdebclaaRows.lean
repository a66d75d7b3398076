/-
  No cell of these rows narrows 'for every input' (looked for: loops, veiled, ifaces, maps, wideKeys, modest, calm, conditions, laid).
  DERIVED. THE GIVEN ROWS OF THIS SEAT. 8 by the template 'for every input the law returns true; each argument reads behind the call as it read before'; 0 by the template 'total and deterministic' (their statements: YtgdlbaabdebclaaTotals.lean).
  GIVEN WITH THE SEED: the statements are not yours to turn. If you find one false, say at which input.
  Laid BY PROGRAM, IN A SANDBOX (cutbox-rows.mjs): the forced cells as the released guide's own fill.sh prints them over the translation 64ab5694674a80a4… (all of the seat's roots in one cut). By AI agents, Wed Nov 11 2026. No macro, syntax, notation, axiom, sorry.
-/
import Derived.Test.YtgdlbaabdebclaaChecked
import GoSem.Claim
import GoSem.ClaimJoined
import GoSem.ClaimMapViews
import Derived.JoinedTies
import Derived.KernelRfl
namespace Go.Proofs.Ytgdlbaabdebclaa
/- THE CELL 'sum', in the pinned program and in every row, IS THE sha256 OF THE DUMP (.gsa) THAT YtgdlbaabdebclaaProg.lean LOADS. Nothing in Lean hashes anything: it is a label: what it is worth is what the hold of that sum in a sandbox is worth. -/
noncomputable def Try.pinned : Pinned := { name := "ytgdlbaabdebclaa", sum := "64ab5694674a80a4abf648385caf1680ca0e7965c8b976a86c5a33d2ff22d476", checked := Try.checked }
namespace Rows
def none {H : Type} : Left H := { results := [], args := [] }

/-- 'gambrellaw24.ParcelSplits': WHATEVER THE INPUT: true; the input reads as it did. -/
def parcelSplitsSpec : ChangeSpec := { name := "parcelSplits", fn := fun _ => fun
  | [d1, d2] => { results := [.lit (.bool true)], args := [d1, d2] }
  | _ => none }
def parcelSplitsRow : OpenClaim := { program := "ytgdlbaabdebclaa", sum := "64ab5694674a80a4abf648385caf1680ca0e7965c8b976a86c5a33d2ff22d476", func := "gambrel/gambrellaw24.ParcelSplits", spec := "parcelSplits", unfollowed := true, recurses := true, apart := false }
def ParcelSplitsSaid : Prop := parcelSplitsRow.holds Try.pinned (OpenSpec.ofChange parcelSplitsSpec)

/-- ITS FALSE NEIGHBOUR: 'it returns false'. Refute it at one input. -/
def parcelSplitsWrong : ChangeSpec := { name := "parcelSplits", fn := fun _ => fun
  | [d1, d2] => { results := [.lit (.bool false)], args := [d1, d2] }
  | _ => none }
def ParcelSplitsWrongFalsely : Prop := parcelSplitsRow.holds Try.pinned (OpenSpec.ofChange parcelSplitsWrong)

/-- 'gambrellaw24.ParcelFills': WHATEVER THE INPUT: true; the input reads as it did. -/
def parcelFillsSpec : ChangeSpec := { name := "parcelFills", fn := fun _ => fun
  | [d1, d2] => { results := [.lit (.bool true)], args := [d1, d2] }
  | _ => none }
def parcelFillsRow : OpenClaim := { program := "ytgdlbaabdebclaa", sum := "64ab5694674a80a4abf648385caf1680ca0e7965c8b976a86c5a33d2ff22d476", func := "gambrel/gambrellaw24.ParcelFills", spec := "parcelFills", unfollowed := true, recurses := true, apart := false }
def ParcelFillsSaid : Prop := parcelFillsRow.holds Try.pinned (OpenSpec.ofChange parcelFillsSpec)

/-- ITS FALSE NEIGHBOUR: 'it returns false'. Refute it at one input. -/
def parcelFillsWrong : ChangeSpec := { name := "parcelFills", fn := fun _ => fun
  | [d1, d2] => { results := [.lit (.bool false)], args := [d1, d2] }
  | _ => none }
def ParcelFillsWrongFalsely : Prop := parcelFillsRow.holds Try.pinned (OpenSpec.ofChange parcelFillsWrong)

/-- 'gambrellaw24.ParcelMoves': WHATEVER THE INPUT: true; the input reads as it did. -/
def parcelMovesSpec : ChangeSpec := { name := "parcelMoves", fn := fun _ => fun
  | [d1, d2, d3, d4] => { results := [.lit (.bool true)], args := [d1, d2, d3, d4] }
  | _ => none }
def parcelMovesRow : OpenClaim := { program := "ytgdlbaabdebclaa", sum := "64ab5694674a80a4abf648385caf1680ca0e7965c8b976a86c5a33d2ff22d476", func := "gambrel/gambrellaw24.ParcelMoves", spec := "parcelMoves", unfollowed := true, recurses := true, apart := false }
def ParcelMovesSaid : Prop := parcelMovesRow.holds Try.pinned (OpenSpec.ofChange parcelMovesSpec)

/-- ITS FALSE NEIGHBOUR: 'it returns false'. Refute it at one input. -/
def parcelMovesWrong : ChangeSpec := { name := "parcelMoves", fn := fun _ => fun
  | [d1, d2, d3, d4] => { results := [.lit (.bool false)], args := [d1, d2, d3, d4] }
  | _ => none }
def ParcelMovesWrongFalsely : Prop := parcelMovesRow.holds Try.pinned (OpenSpec.ofChange parcelMovesWrong)

/-- 'gambrellaw24.ParcelLots': WHATEVER THE INPUT: true; the input reads as it did. -/
def parcelLotsSpec : ChangeSpec := { name := "parcelLots", fn := fun _ => fun
  | [d1, d2] => { results := [.lit (.bool true)], args := [d1, d2] }
  | _ => none }
def parcelLotsRow : OpenClaim := { program := "ytgdlbaabdebclaa", sum := "64ab5694674a80a4abf648385caf1680ca0e7965c8b976a86c5a33d2ff22d476", func := "gambrel/gambrellaw24.ParcelLots", spec := "parcelLots", unfollowed := true, recurses := true, apart := false }
def ParcelLotsSaid : Prop := parcelLotsRow.holds Try.pinned (OpenSpec.ofChange parcelLotsSpec)

/-- ITS FALSE NEIGHBOUR: 'it returns false'. Refute it at one input. -/
def parcelLotsWrong : ChangeSpec := { name := "parcelLots", fn := fun _ => fun
  | [d1, d2] => { results := [.lit (.bool false)], args := [d1, d2] }
  | _ => none }
def ParcelLotsWrongFalsely : Prop := parcelLotsRow.holds Try.pinned (OpenSpec.ofChange parcelLotsWrong)

/-- 'gambrellaw24.ParcelFronts': WHATEVER THE INPUT: true; the input reads as it did. -/
def parcelFrontsSpec : ChangeSpec := { name := "parcelFronts", fn := fun _ => fun
  | [d1, d2] => { results := [.lit (.bool true)], args := [d1, d2] }
  | _ => none }
def parcelFrontsRow : OpenClaim := { program := "ytgdlbaabdebclaa", sum := "64ab5694674a80a4abf648385caf1680ca0e7965c8b976a86c5a33d2ff22d476", func := "gambrel/gambrellaw24.ParcelFronts", spec := "parcelFronts", unfollowed := true, recurses := true, apart := false }
def ParcelFrontsSaid : Prop := parcelFrontsRow.holds Try.pinned (OpenSpec.ofChange parcelFrontsSpec)

/-- ITS FALSE NEIGHBOUR: 'it returns false'. Refute it at one input. -/
def parcelFrontsWrong : ChangeSpec := { name := "parcelFronts", fn := fun _ => fun
  | [d1, d2] => { results := [.lit (.bool false)], args := [d1, d2] }
  | _ => none }
def ParcelFrontsWrongFalsely : Prop := parcelFrontsRow.holds Try.pinned (OpenSpec.ofChange parcelFrontsWrong)

/-- 'gambrellaw24.ParcelEnds': WHATEVER THE INPUT: true; the input reads as it did. -/
def parcelEndsSpec : ChangeSpec := { name := "parcelEnds", fn := fun _ => fun
  | [d1, d2] => { results := [.lit (.bool true)], args := [d1, d2] }
  | _ => none }
def parcelEndsRow : OpenClaim := { program := "ytgdlbaabdebclaa", sum := "64ab5694674a80a4abf648385caf1680ca0e7965c8b976a86c5a33d2ff22d476", func := "gambrel/gambrellaw24.ParcelEnds", spec := "parcelEnds", unfollowed := true, recurses := true, apart := false }
def ParcelEndsSaid : Prop := parcelEndsRow.holds Try.pinned (OpenSpec.ofChange parcelEndsSpec)

/-- ITS FALSE NEIGHBOUR: 'it returns false'. Refute it at one input. -/
def parcelEndsWrong : ChangeSpec := { name := "parcelEnds", fn := fun _ => fun
  | [d1, d2] => { results := [.lit (.bool false)], args := [d1, d2] }
  | _ => none }
def ParcelEndsWrongFalsely : Prop := parcelEndsRow.holds Try.pinned (OpenSpec.ofChange parcelEndsWrong)

/-- 'gambrellaw24.ParcelTurns': WHATEVER THE INPUT: true; the input reads as it did. -/
def parcelTurnsSpec : ChangeSpec := { name := "parcelTurns", fn := fun _ => fun
  | [d1, d2] => { results := [.lit (.bool true)], args := [d1, d2] }
  | _ => none }
def parcelTurnsRow : OpenClaim := { program := "ytgdlbaabdebclaa", sum := "64ab5694674a80a4abf648385caf1680ca0e7965c8b976a86c5a33d2ff22d476", func := "gambrel/gambrellaw24.ParcelTurns", spec := "parcelTurns", unfollowed := true, recurses := true, apart := false }
def ParcelTurnsSaid : Prop := parcelTurnsRow.holds Try.pinned (OpenSpec.ofChange parcelTurnsSpec)

/-- ITS FALSE NEIGHBOUR: 'it returns false'. Refute it at one input. -/
def parcelTurnsWrong : ChangeSpec := { name := "parcelTurns", fn := fun _ => fun
  | [d1, d2] => { results := [.lit (.bool false)], args := [d1, d2] }
  | _ => none }
def ParcelTurnsWrongFalsely : Prop := parcelTurnsRow.holds Try.pinned (OpenSpec.ofChange parcelTurnsWrong)

/-- 'gambrellaw24.ParcelNames': WHATEVER THE INPUT: true; the input reads as it did. -/
def parcelNamesSpec : ChangeSpec := { name := "parcelNames", fn := fun _ => fun
  | [] => { results := [.lit (.bool true)], args := [] }
  | _ => none }
def parcelNamesRow : OpenClaim := { program := "ytgdlbaabdebclaa", sum := "64ab5694674a80a4abf648385caf1680ca0e7965c8b976a86c5a33d2ff22d476", func := "gambrel/gambrellaw24.ParcelNames", spec := "parcelNames", unfollowed := true, recurses := true, apart := false }
def ParcelNamesSaid : Prop := parcelNamesRow.holds Try.pinned (OpenSpec.ofChange parcelNamesSpec)

/-- ITS FALSE NEIGHBOUR: 'it returns false'. Refute it at one input. -/
def parcelNamesWrong : ChangeSpec := { name := "parcelNames", fn := fun _ => fun
  | [] => { results := [.lit (.bool false)], args := [] }
  | _ => none }
def ParcelNamesWrongFalsely : Prop := parcelNamesRow.holds Try.pinned (OpenSpec.ofChange parcelNamesWrong)

/- THE SECOND FORM. 'bulk': how many values and letters a reading holds, each counted each time it is reached (what is shared counts as often as it is met; a slice's spare places count too). A statement '..UptoSaid' is the law's where the arguments, and the package variables that the reading takes, are together of bulk at most 1048576: NARROWER than '..Said'. Prove '..Said' where nothing that the law and all that it calls make is longer than what came in: it says more and counts as full. Else prove '..UptoSaid'. A law counts once. -/
mutual
def uptoBulk {H : Type} : DataW H → Nat
  | .lit (.string bytes) => bytes.length + 1
  | .lit _ => 1
  | .nil => 1
  | .ptr d => uptoBulk d + 1
  | .slice elems spare => uptoBulkAll elems + uptoBulkAll spare + 1
  | .agg parts => uptoBulkAll parts + 1
  | .iface _ d => uptoBulk d + 1
  | .map entries => uptoBulkEntries entries + 1
  | .held _ => 1
def uptoBulkAll {H : Type} : List (DataW H) → Nat
  | [] => 0
  | d :: r => uptoBulk d + uptoBulkAll r
def uptoBulkEntries {H : Type} : List (Lit × DataW H) → Nat
  | [] => 0
  | x :: r => uptoBulkEntry x + uptoBulkEntries r
def uptoBulkEntry {H : Type} : Lit × DataW H → Nat
  | (.string bytes, d) => bytes.length + uptoBulk d + 1
  | (_, d) => uptoBulk d + 1
 end
def uptoSmall : (H : Type) → List (DataW H) → Bool := fun _ ds => decide (uptoBulkAll ds ≤ 1048576)
def OpenSpec.upto (s : _root_.Go.ChangeSpec) : _root_.Go.OpenSpec := { _root_.Go.OpenSpec.ofChange s with cond := some uptoSmall }

/-- 'gambrellaw24.ParcelSplits', WHERE WHAT IT READS IS OF BULK AT MOST 1048576: true; the input reads as it did. -/
def parcelSplitsUptoRow : OpenClaim := { program := "ytgdlbaabdebclaa", sum := "64ab5694674a80a4abf648385caf1680ca0e7965c8b976a86c5a33d2ff22d476", func := "gambrel/gambrellaw24.ParcelSplits", spec := "parcelSplits", unfollowed := true, recurses := true, apart := false, narrowed := true }
def ParcelSplitsUptoSaid : Prop := parcelSplitsUptoRow.holds Try.pinned (OpenSpec.upto parcelSplitsSpec)

/-- 'gambrellaw24.ParcelFills', WHERE WHAT IT READS IS OF BULK AT MOST 1048576: true; the input reads as it did. -/
def parcelFillsUptoRow : OpenClaim := { program := "ytgdlbaabdebclaa", sum := "64ab5694674a80a4abf648385caf1680ca0e7965c8b976a86c5a33d2ff22d476", func := "gambrel/gambrellaw24.ParcelFills", spec := "parcelFills", unfollowed := true, recurses := true, apart := false, narrowed := true }
def ParcelFillsUptoSaid : Prop := parcelFillsUptoRow.holds Try.pinned (OpenSpec.upto parcelFillsSpec)

/-- 'gambrellaw24.ParcelMoves', WHERE WHAT IT READS IS OF BULK AT MOST 1048576: true; the input reads as it did. -/
def parcelMovesUptoRow : OpenClaim := { program := "ytgdlbaabdebclaa", sum := "64ab5694674a80a4abf648385caf1680ca0e7965c8b976a86c5a33d2ff22d476", func := "gambrel/gambrellaw24.ParcelMoves", spec := "parcelMoves", unfollowed := true, recurses := true, apart := false, narrowed := true }
def ParcelMovesUptoSaid : Prop := parcelMovesUptoRow.holds Try.pinned (OpenSpec.upto parcelMovesSpec)

/-- 'gambrellaw24.ParcelLots', WHERE WHAT IT READS IS OF BULK AT MOST 1048576: true; the input reads as it did. -/
def parcelLotsUptoRow : OpenClaim := { program := "ytgdlbaabdebclaa", sum := "64ab5694674a80a4abf648385caf1680ca0e7965c8b976a86c5a33d2ff22d476", func := "gambrel/gambrellaw24.ParcelLots", spec := "parcelLots", unfollowed := true, recurses := true, apart := false, narrowed := true }
def ParcelLotsUptoSaid : Prop := parcelLotsUptoRow.holds Try.pinned (OpenSpec.upto parcelLotsSpec)

/-- 'gambrellaw24.ParcelFronts', WHERE WHAT IT READS IS OF BULK AT MOST 1048576: true; the input reads as it did. -/
def parcelFrontsUptoRow : OpenClaim := { program := "ytgdlbaabdebclaa", sum := "64ab5694674a80a4abf648385caf1680ca0e7965c8b976a86c5a33d2ff22d476", func := "gambrel/gambrellaw24.ParcelFronts", spec := "parcelFronts", unfollowed := true, recurses := true, apart := false, narrowed := true }
def ParcelFrontsUptoSaid : Prop := parcelFrontsUptoRow.holds Try.pinned (OpenSpec.upto parcelFrontsSpec)

/-- 'gambrellaw24.ParcelEnds', WHERE WHAT IT READS IS OF BULK AT MOST 1048576: true; the input reads as it did. -/
def parcelEndsUptoRow : OpenClaim := { program := "ytgdlbaabdebclaa", sum := "64ab5694674a80a4abf648385caf1680ca0e7965c8b976a86c5a33d2ff22d476", func := "gambrel/gambrellaw24.ParcelEnds", spec := "parcelEnds", unfollowed := true, recurses := true, apart := false, narrowed := true }
def ParcelEndsUptoSaid : Prop := parcelEndsUptoRow.holds Try.pinned (OpenSpec.upto parcelEndsSpec)

/-- 'gambrellaw24.ParcelTurns', WHERE WHAT IT READS IS OF BULK AT MOST 1048576: true; the input reads as it did. -/
def parcelTurnsUptoRow : OpenClaim := { program := "ytgdlbaabdebclaa", sum := "64ab5694674a80a4abf648385caf1680ca0e7965c8b976a86c5a33d2ff22d476", func := "gambrel/gambrellaw24.ParcelTurns", spec := "parcelTurns", unfollowed := true, recurses := true, apart := false, narrowed := true }
def ParcelTurnsUptoSaid : Prop := parcelTurnsUptoRow.holds Try.pinned (OpenSpec.upto parcelTurnsSpec)

/-- 'gambrellaw24.ParcelNames', WHERE WHAT IT READS IS OF BULK AT MOST 1048576: true; the input reads as it did. -/
def parcelNamesUptoRow : OpenClaim := { program := "ytgdlbaabdebclaa", sum := "64ab5694674a80a4abf648385caf1680ca0e7965c8b976a86c5a33d2ff22d476", func := "gambrel/gambrellaw24.ParcelNames", spec := "parcelNames", unfollowed := true, recurses := true, apart := false, narrowed := true }
def ParcelNamesUptoSaid : Prop := parcelNamesUptoRow.holds Try.pinned (OpenSpec.upto parcelNamesSpec)

end Rows
end Go.Proofs.Ytgdlbaabdebclaa
