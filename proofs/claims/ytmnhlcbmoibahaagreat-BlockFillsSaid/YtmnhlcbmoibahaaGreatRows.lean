/-
  No cell of these rows narrows 'for every input' (looked for: loops, veiled, ifaces, maps, wideKeys, modest, calm, conditions, laid).
  DERIVED. THE GIVEN ROWS OF THIS SEAT. 7 by the template 'for every input the law returns true; each argument reads behind the call as it read before'; 0 by the template 'total and deterministic' (their statements: YtmnhlcbmoibahaaGreatTotals.lean).
  GIVEN WITH THE SEED: the statements are not yours to turn. If you find one false, say at which input.
  Laid BY PROGRAM, IN A SANDBOX (cutbox-rows.mjs): the forced cells as the released guide's own fill.sh prints them over the translation 9d2966589e541d64… (all of the seat's roots in one cut). By AI agents, Wed Nov 11 2026. No macro, syntax, notation, axiom, sorry.
-/
import Derived.Test.YtmnhlcbmoibahaaGreatChecked
import GoSem.Claim
import GoSem.ClaimJoined
import GoSem.ClaimMapViews
import Derived.JoinedTies
import Derived.KernelRfl
namespace Go.Proofs.YtmnhlcbmoibahaaGreat
/- THE CELL 'sum', in the pinned program and in every row, IS THE sha256 OF THE DUMP (.gsa) THAT YtmnhlcbmoibahaaGreatProg.lean LOADS. Nothing in Lean hashes anything: it is a label: what it is worth is what the hold of that sum in a sandbox is worth. -/
noncomputable def Tryz.pinned : Pinned := { name := "ytmnhlcbmoibahaagreat", sum := "9d2966589e541d64ee2d8a65936b6422fb2a14c38c50bb8514c9fbfbfaf72973", checked := Tryz.checked }
namespace Rows
def none {H : Type} : Left H := { results := [], args := [] }

/-- 'gambrellaw35.BlockStreets': WHATEVER THE INPUT: true; the input reads as it did. -/
def blockStreetsSpec : ChangeSpec := { name := "blockStreets", fn := fun _ => fun
  | [d1, d2, d3] => { results := [.lit (.bool true)], args := [d1, d2, d3] }
  | _ => none }
def blockStreetsRow : OpenClaim := { program := "ytmnhlcbmoibahaagreat", sum := "9d2966589e541d64ee2d8a65936b6422fb2a14c38c50bb8514c9fbfbfaf72973", func := "gambrel/gambrellaw35.BlockStreets", spec := "blockStreets", unfollowed := true, recurses := true, plainKeys := false, apart := false }
def BlockStreetsSaid : Prop := blockStreetsRow.holds Tryz.pinned (OpenSpec.ofChange blockStreetsSpec)

/-- ITS FALSE NEIGHBOUR: 'it returns false'. Refute it at one input. -/
def blockStreetsWrong : ChangeSpec := { name := "blockStreets", fn := fun _ => fun
  | [d1, d2, d3] => { results := [.lit (.bool false)], args := [d1, d2, d3] }
  | _ => none }
def BlockStreetsWrongFalsely : Prop := blockStreetsRow.holds Tryz.pinned (OpenSpec.ofChange blockStreetsWrong)

/-- 'gambrellaw35.BlockBeside': WHATEVER THE INPUT: true; the input reads as it did. -/
def blockBesideSpec : ChangeSpec := { name := "blockBeside", fn := fun _ => fun
  | [d1, d2] => { results := [.lit (.bool true)], args := [d1, d2] }
  | _ => none }
def blockBesideRow : OpenClaim := { program := "ytmnhlcbmoibahaagreat", sum := "9d2966589e541d64ee2d8a65936b6422fb2a14c38c50bb8514c9fbfbfaf72973", func := "gambrel/gambrellaw35.BlockBeside", spec := "blockBeside", unfollowed := true, recurses := true, plainKeys := false, apart := false }
def BlockBesideSaid : Prop := blockBesideRow.holds Tryz.pinned (OpenSpec.ofChange blockBesideSpec)

/-- ITS FALSE NEIGHBOUR: 'it returns false'. Refute it at one input. -/
def blockBesideWrong : ChangeSpec := { name := "blockBeside", fn := fun _ => fun
  | [d1, d2] => { results := [.lit (.bool false)], args := [d1, d2] }
  | _ => none }
def BlockBesideWrongFalsely : Prop := blockBesideRow.holds Tryz.pinned (OpenSpec.ofChange blockBesideWrong)

/-- 'gambrellaw35.BlockNames': WHATEVER THE INPUT: true; the input reads as it did. -/
def blockNamesSpec : ChangeSpec := { name := "blockNames", fn := fun _ => fun
  | [] => { results := [.lit (.bool true)], args := [] }
  | _ => none }
def blockNamesRow : OpenClaim := { program := "ytmnhlcbmoibahaagreat", sum := "9d2966589e541d64ee2d8a65936b6422fb2a14c38c50bb8514c9fbfbfaf72973", func := "gambrel/gambrellaw35.BlockNames", spec := "blockNames", unfollowed := true, recurses := true, plainKeys := false, apart := false }
def BlockNamesSaid : Prop := blockNamesRow.holds Tryz.pinned (OpenSpec.ofChange blockNamesSpec)

/-- ITS FALSE NEIGHBOUR: 'it returns false'. Refute it at one input. -/
def blockNamesWrong : ChangeSpec := { name := "blockNames", fn := fun _ => fun
  | [] => { results := [.lit (.bool false)], args := [] }
  | _ => none }
def BlockNamesWrongFalsely : Prop := blockNamesRow.holds Tryz.pinned (OpenSpec.ofChange blockNamesWrong)

/-- 'gambrellaw35.BlockEuler': WHATEVER THE INPUT: true; the input reads as it did. -/
def blockEulerSpec : ChangeSpec := { name := "blockEuler", fn := fun _ => fun
  | [d] => { results := [.lit (.bool true)], args := [d] }
  | _ => none }
def blockEulerRow : OpenClaim := { program := "ytmnhlcbmoibahaagreat", sum := "9d2966589e541d64ee2d8a65936b6422fb2a14c38c50bb8514c9fbfbfaf72973", func := "gambrel/gambrellaw35.BlockEuler", spec := "blockEuler", unfollowed := true, recurses := true, plainKeys := false, apart := false }
def BlockEulerSaid : Prop := blockEulerRow.holds Tryz.pinned (OpenSpec.ofChange blockEulerSpec)

/-- ITS FALSE NEIGHBOUR: 'it returns false'. Refute it at one input. -/
def blockEulerWrong : ChangeSpec := { name := "blockEuler", fn := fun _ => fun
  | [d] => { results := [.lit (.bool false)], args := [d] }
  | _ => none }
def BlockEulerWrongFalsely : Prop := blockEulerRow.holds Tryz.pinned (OpenSpec.ofChange blockEulerWrong)

/-- 'gambrellaw35.BlockParts': WHATEVER THE INPUT: true; the input reads as it did. -/
def blockPartsSpec : ChangeSpec := { name := "blockParts", fn := fun _ => fun
  | [d1, d2, d3] => { results := [.lit (.bool true)], args := [d1, d2, d3] }
  | _ => none }
def blockPartsRow : OpenClaim := { program := "ytmnhlcbmoibahaagreat", sum := "9d2966589e541d64ee2d8a65936b6422fb2a14c38c50bb8514c9fbfbfaf72973", func := "gambrel/gambrellaw35.BlockParts", spec := "blockParts", unfollowed := true, recurses := true, plainKeys := false, apart := false }
def BlockPartsSaid : Prop := blockPartsRow.holds Tryz.pinned (OpenSpec.ofChange blockPartsSpec)

/-- ITS FALSE NEIGHBOUR: 'it returns false'. Refute it at one input. -/
def blockPartsWrong : ChangeSpec := { name := "blockParts", fn := fun _ => fun
  | [d1, d2, d3] => { results := [.lit (.bool false)], args := [d1, d2, d3] }
  | _ => none }
def BlockPartsWrongFalsely : Prop := blockPartsRow.holds Tryz.pinned (OpenSpec.ofChange blockPartsWrong)

/-- 'gambrellaw35.BlockFills': WHATEVER THE INPUT: true; the input reads as it did. -/
def blockFillsSpec : ChangeSpec := { name := "blockFills", fn := fun _ => fun
  | [d1, d2, d3] => { results := [.lit (.bool true)], args := [d1, d2, d3] }
  | _ => none }
def blockFillsRow : OpenClaim := { program := "ytmnhlcbmoibahaagreat", sum := "9d2966589e541d64ee2d8a65936b6422fb2a14c38c50bb8514c9fbfbfaf72973", func := "gambrel/gambrellaw35.BlockFills", spec := "blockFills", unfollowed := true, recurses := true, plainKeys := false, apart := false }
def BlockFillsSaid : Prop := blockFillsRow.holds Tryz.pinned (OpenSpec.ofChange blockFillsSpec)

/-- ITS FALSE NEIGHBOUR: 'it returns false'. Refute it at one input. -/
def blockFillsWrong : ChangeSpec := { name := "blockFills", fn := fun _ => fun
  | [d1, d2, d3] => { results := [.lit (.bool false)], args := [d1, d2, d3] }
  | _ => none }
def BlockFillsWrongFalsely : Prop := blockFillsRow.holds Tryz.pinned (OpenSpec.ofChange blockFillsWrong)

/-- 'gambrellaw36.LotsTown': WHATEVER THE INPUT: true; the input reads as it did. -/
def lotsTownSpec : ChangeSpec := { name := "lotsTown", fn := fun _ => fun
  | [d1, d2, d3] => { results := [.lit (.bool true)], args := [d1, d2, d3] }
  | _ => none }
def lotsTownRow : OpenClaim := { program := "ytmnhlcbmoibahaagreat", sum := "9d2966589e541d64ee2d8a65936b6422fb2a14c38c50bb8514c9fbfbfaf72973", func := "gambrel/gambrellaw36.LotsTown", spec := "lotsTown", unfollowed := true, recurses := true, plainKeys := false, apart := false }
def LotsTownSaid : Prop := lotsTownRow.holds Tryz.pinned (OpenSpec.ofChange lotsTownSpec)

/-- ITS FALSE NEIGHBOUR: 'it returns false'. Refute it at one input. -/
def lotsTownWrong : ChangeSpec := { name := "lotsTown", fn := fun _ => fun
  | [d1, d2, d3] => { results := [.lit (.bool false)], args := [d1, d2, d3] }
  | _ => none }
def LotsTownWrongFalsely : Prop := lotsTownRow.holds Tryz.pinned (OpenSpec.ofChange lotsTownWrong)

/- THE SECOND FORM. 'bulk': how many values and letters a reading holds, each counted each time it is reached (what is shared counts as often as it is met; a slice's spare places count too). A statement '..UptoSaid' is the law's where the arguments, and the package variables that the reading takes, are together of bulk at most 1048576: NARROWER than '..Said'. Prove '..Said' where nothing that the law and all that it calls make is longer than what came in: it says more and counts as full. Else prove '..UptoSaid'. A law counts once. -/
mutual
def uptoBulk {H : Type} : DataW H → Nat
  | .lit (.string bytes) => bytes.length + 1
  | .lit _ => 1
  | .nil => 1
  | .ptr d => uptoBulk d + 1
  | .slice elems spare => uptoBulkAll elems + uptoBulkAll spare + 1
  | .agg parts => uptoBulkAll parts + 1
  | .iface _ d => uptoBulk d + 1
  | .map entries => uptoBulkEntries entries + 1
  | .held _ => 1
def uptoBulkAll {H : Type} : List (DataW H) → Nat
  | [] => 0
  | d :: r => uptoBulk d + uptoBulkAll r
def uptoBulkEntries {H : Type} : List (Lit × DataW H) → Nat
  | [] => 0
  | x :: r => uptoBulkEntry x + uptoBulkEntries r
def uptoBulkEntry {H : Type} : Lit × DataW H → Nat
  | (.string bytes, d) => bytes.length + uptoBulk d + 1
  | (_, d) => uptoBulk d + 1
 end
def uptoSmall : (H : Type) → List (DataW H) → Bool := fun _ ds => decide (uptoBulkAll ds ≤ 1048576)
def OpenSpec.upto (s : _root_.Go.ChangeSpec) : _root_.Go.OpenSpec := { _root_.Go.OpenSpec.ofChange s with cond := some uptoSmall }

/-- 'gambrellaw35.BlockStreets', WHERE WHAT IT READS IS OF BULK AT MOST 1048576: true; the input reads as it did. -/
def blockStreetsUptoRow : OpenClaim := { program := "ytmnhlcbmoibahaagreat", sum := "9d2966589e541d64ee2d8a65936b6422fb2a14c38c50bb8514c9fbfbfaf72973", func := "gambrel/gambrellaw35.BlockStreets", spec := "blockStreets", unfollowed := true, recurses := true, plainKeys := false, apart := false, narrowed := true }
def BlockStreetsUptoSaid : Prop := blockStreetsUptoRow.holds Tryz.pinned (OpenSpec.upto blockStreetsSpec)

/-- 'gambrellaw35.BlockBeside', WHERE WHAT IT READS IS OF BULK AT MOST 1048576: true; the input reads as it did. -/
def blockBesideUptoRow : OpenClaim := { program := "ytmnhlcbmoibahaagreat", sum := "9d2966589e541d64ee2d8a65936b6422fb2a14c38c50bb8514c9fbfbfaf72973", func := "gambrel/gambrellaw35.BlockBeside", spec := "blockBeside", unfollowed := true, recurses := true, plainKeys := false, apart := false, narrowed := true }
def BlockBesideUptoSaid : Prop := blockBesideUptoRow.holds Tryz.pinned (OpenSpec.upto blockBesideSpec)

/-- 'gambrellaw35.BlockNames', WHERE WHAT IT READS IS OF BULK AT MOST 1048576: true; the input reads as it did. -/
def blockNamesUptoRow : OpenClaim := { program := "ytmnhlcbmoibahaagreat", sum := "9d2966589e541d64ee2d8a65936b6422fb2a14c38c50bb8514c9fbfbfaf72973", func := "gambrel/gambrellaw35.BlockNames", spec := "blockNames", unfollowed := true, recurses := true, plainKeys := false, apart := false, narrowed := true }
def BlockNamesUptoSaid : Prop := blockNamesUptoRow.holds Tryz.pinned (OpenSpec.upto blockNamesSpec)

/-- 'gambrellaw35.BlockEuler', WHERE WHAT IT READS IS OF BULK AT MOST 1048576: true; the input reads as it did. -/
def blockEulerUptoRow : OpenClaim := { program := "ytmnhlcbmoibahaagreat", sum := "9d2966589e541d64ee2d8a65936b6422fb2a14c38c50bb8514c9fbfbfaf72973", func := "gambrel/gambrellaw35.BlockEuler", spec := "blockEuler", unfollowed := true, recurses := true, plainKeys := false, apart := false, narrowed := true }
def BlockEulerUptoSaid : Prop := blockEulerUptoRow.holds Tryz.pinned (OpenSpec.upto blockEulerSpec)

/-- 'gambrellaw35.BlockParts', WHERE WHAT IT READS IS OF BULK AT MOST 1048576: true; the input reads as it did. -/
def blockPartsUptoRow : OpenClaim := { program := "ytmnhlcbmoibahaagreat", sum := "9d2966589e541d64ee2d8a65936b6422fb2a14c38c50bb8514c9fbfbfaf72973", func := "gambrel/gambrellaw35.BlockParts", spec := "blockParts", unfollowed := true, recurses := true, plainKeys := false, apart := false, narrowed := true }
def BlockPartsUptoSaid : Prop := blockPartsUptoRow.holds Tryz.pinned (OpenSpec.upto blockPartsSpec)

/-- 'gambrellaw35.BlockFills', WHERE WHAT IT READS IS OF BULK AT MOST 1048576: true; the input reads as it did. -/
def blockFillsUptoRow : OpenClaim := { program := "ytmnhlcbmoibahaagreat", sum := "9d2966589e541d64ee2d8a65936b6422fb2a14c38c50bb8514c9fbfbfaf72973", func := "gambrel/gambrellaw35.BlockFills", spec := "blockFills", unfollowed := true, recurses := true, plainKeys := false, apart := false, narrowed := true }
def BlockFillsUptoSaid : Prop := blockFillsUptoRow.holds Tryz.pinned (OpenSpec.upto blockFillsSpec)

/-- 'gambrellaw36.LotsTown', WHERE WHAT IT READS IS OF BULK AT MOST 1048576: true; the input reads as it did. -/
def lotsTownUptoRow : OpenClaim := { program := "ytmnhlcbmoibahaagreat", sum := "9d2966589e541d64ee2d8a65936b6422fb2a14c38c50bb8514c9fbfbfaf72973", func := "gambrel/gambrellaw36.LotsTown", spec := "lotsTown", unfollowed := true, recurses := true, plainKeys := false, apart := false, narrowed := true }
def LotsTownUptoSaid : Prop := lotsTownUptoRow.holds Tryz.pinned (OpenSpec.upto lotsTownSpec)

end Rows
end Go.Proofs.YtmnhlcbmoibahaaGreat
