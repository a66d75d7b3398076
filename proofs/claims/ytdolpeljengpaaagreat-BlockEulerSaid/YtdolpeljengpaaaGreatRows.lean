/-
  No cell of these rows narrows 'for every input' (looked for: loops, veiled, ifaces, maps, wideKeys, modest, calm, conditions, laid).
  DERIVED. THE GIVEN ROWS OF THIS SEAT. 6 by the template 'for every input the law returns true; each argument reads behind the call as it read before'; 0 by the template 'total and deterministic' (their statements: YtdolpeljengpaaaGreatTotals.lean).
  GIVEN WITH THE SEED: the statements are not yours to turn. If you find one false, say at which input.
  Laid BY PROGRAM, IN A SANDBOX (cutbox-rows.mjs): the forced cells as the released guide's own fill.sh prints them over the translation 35ccf097248f6dfb… (all of the seat's roots in one cut). By AI agents, Wed Nov 11 2026. No macro, syntax, notation, axiom, sorry.
-/
import Derived.Test.YtdolpeljengpaaaGreatChecked
import GoSem.Claim
import GoSem.ClaimJoined
import GoSem.ClaimMapViews
import Derived.JoinedTies
import Derived.KernelRfl
namespace Go.Proofs.YtdolpeljengpaaaGreat
/- THE CELL 'sum', in the pinned program and in every row, IS THE sha256 OF THE DUMP (.gsa) THAT YtdolpeljengpaaaGreatProg.lean LOADS. Nothing in Lean hashes anything: it is a label: what it is worth is what the hold of that sum in a sandbox is worth. -/
noncomputable def Tryz.pinned : Pinned := { name := "ytdolpeljengpaaagreat", sum := "35ccf097248f6dfb0eedcdc790258da39a37c35c298bcce3cec7b0f579c26f25", checked := Tryz.checked }
namespace Rows
def none {H : Type} : Left H := { results := [], args := [] }

/-- 'gambrellaw35.BlockStreets': WHATEVER THE INPUT: true; the input reads as it did. -/
def blockStreetsSpec : ChangeSpec := { name := "blockStreets", fn := fun _ => fun
  | [d1, d2, d3] => { results := [.lit (.bool true)], args := [d1, d2, d3] }
  | _ => none }
def blockStreetsRow : OpenClaim := { program := "ytdolpeljengpaaagreat", sum := "35ccf097248f6dfb0eedcdc790258da39a37c35c298bcce3cec7b0f579c26f25", func := "gambrel/gambrellaw35.BlockStreets", spec := "blockStreets", unfollowed := true, recurses := true, plainKeys := false, apart := false }
def BlockStreetsSaid : Prop := blockStreetsRow.holds Tryz.pinned (OpenSpec.ofChange blockStreetsSpec)

/-- ITS FALSE NEIGHBOUR: 'it returns false'. Refute it at one input. -/
def blockStreetsWrong : ChangeSpec := { name := "blockStreets", fn := fun _ => fun
  | [d1, d2, d3] => { results := [.lit (.bool false)], args := [d1, d2, d3] }
  | _ => none }
def BlockStreetsWrongFalsely : Prop := blockStreetsRow.holds Tryz.pinned (OpenSpec.ofChange blockStreetsWrong)

/-- 'gambrellaw35.BlockEuler': WHATEVER THE INPUT: true; the input reads as it did. -/
def blockEulerSpec : ChangeSpec := { name := "blockEuler", fn := fun _ => fun
  | [d] => { results := [.lit (.bool true)], args := [d] }
  | _ => none }
def blockEulerRow : OpenClaim := { program := "ytdolpeljengpaaagreat", sum := "35ccf097248f6dfb0eedcdc790258da39a37c35c298bcce3cec7b0f579c26f25", func := "gambrel/gambrellaw35.BlockEuler", spec := "blockEuler", unfollowed := true, recurses := true, plainKeys := false, apart := false }
def BlockEulerSaid : Prop := blockEulerRow.holds Tryz.pinned (OpenSpec.ofChange blockEulerSpec)

/-- ITS FALSE NEIGHBOUR: 'it returns false'. Refute it at one input. -/
def blockEulerWrong : ChangeSpec := { name := "blockEuler", fn := fun _ => fun
  | [d] => { results := [.lit (.bool false)], args := [d] }
  | _ => none }
def BlockEulerWrongFalsely : Prop := blockEulerRow.holds Tryz.pinned (OpenSpec.ofChange blockEulerWrong)

/-- 'gambrellaw36.LotsTown': WHATEVER THE INPUT: true; the input reads as it did. -/
def lotsTownSpec : ChangeSpec := { name := "lotsTown", fn := fun _ => fun
  | [d1, d2, d3] => { results := [.lit (.bool true)], args := [d1, d2, d3] }
  | _ => none }
def lotsTownRow : OpenClaim := { program := "ytdolpeljengpaaagreat", sum := "35ccf097248f6dfb0eedcdc790258da39a37c35c298bcce3cec7b0f579c26f25", func := "gambrel/gambrellaw36.LotsTown", spec := "lotsTown", unfollowed := true, recurses := true, plainKeys := false, apart := false }
def LotsTownSaid : Prop := lotsTownRow.holds Tryz.pinned (OpenSpec.ofChange lotsTownSpec)

/-- ITS FALSE NEIGHBOUR: 'it returns false'. Refute it at one input. -/
def lotsTownWrong : ChangeSpec := { name := "lotsTown", fn := fun _ => fun
  | [d1, d2, d3] => { results := [.lit (.bool false)], args := [d1, d2, d3] }
  | _ => none }
def LotsTownWrongFalsely : Prop := lotsTownRow.holds Tryz.pinned (OpenSpec.ofChange lotsTownWrong)

/-- 'gambrellaw15.RoofLevels': WHATEVER THE INPUT: true; the input reads as it did. -/
def roofLevelsSpec : ChangeSpec := { name := "roofLevels", fn := fun _ => fun
  | [d] => { results := [.lit (.bool true)], args := [d] }
  | _ => none }
def roofLevelsRow : OpenClaim := { program := "ytdolpeljengpaaagreat", sum := "35ccf097248f6dfb0eedcdc790258da39a37c35c298bcce3cec7b0f579c26f25", func := "gambrel/gambrellaw15.RoofLevels", spec := "roofLevels", unfollowed := true, recurses := true, plainKeys := false, apart := false }
def RoofLevelsSaid : Prop := roofLevelsRow.holds Tryz.pinned (OpenSpec.ofChange roofLevelsSpec)

/-- ITS FALSE NEIGHBOUR: 'it returns false'. Refute it at one input. -/
def roofLevelsWrong : ChangeSpec := { name := "roofLevels", fn := fun _ => fun
  | [d] => { results := [.lit (.bool false)], args := [d] }
  | _ => none }
def RoofLevelsWrongFalsely : Prop := roofLevelsRow.holds Tryz.pinned (OpenSpec.ofChange roofLevelsWrong)

/-- 'gambrellaw15.RoofVolumes': WHATEVER THE INPUT: true; the input reads as it did. -/
def roofVolumesSpec : ChangeSpec := { name := "roofVolumes", fn := fun _ => fun
  | [d] => { results := [.lit (.bool true)], args := [d] }
  | _ => none }
def roofVolumesRow : OpenClaim := { program := "ytdolpeljengpaaagreat", sum := "35ccf097248f6dfb0eedcdc790258da39a37c35c298bcce3cec7b0f579c26f25", func := "gambrel/gambrellaw15.RoofVolumes", spec := "roofVolumes", unfollowed := true, recurses := true, plainKeys := false, apart := false }
def RoofVolumesSaid : Prop := roofVolumesRow.holds Tryz.pinned (OpenSpec.ofChange roofVolumesSpec)

/-- ITS FALSE NEIGHBOUR: 'it returns false'. Refute it at one input. -/
def roofVolumesWrong : ChangeSpec := { name := "roofVolumes", fn := fun _ => fun
  | [d] => { results := [.lit (.bool false)], args := [d] }
  | _ => none }
def RoofVolumesWrongFalsely : Prop := roofVolumesRow.holds Tryz.pinned (OpenSpec.ofChange roofVolumesWrong)

/-- 'gambrellaw15.RoofNames': WHATEVER THE INPUT: true; the input reads as it did. -/
def roofNamesSpec : ChangeSpec := { name := "roofNames", fn := fun _ => fun
  | [] => { results := [.lit (.bool true)], args := [] }
  | _ => none }
def roofNamesRow : OpenClaim := { program := "ytdolpeljengpaaagreat", sum := "35ccf097248f6dfb0eedcdc790258da39a37c35c298bcce3cec7b0f579c26f25", func := "gambrel/gambrellaw15.RoofNames", spec := "roofNames", unfollowed := true, recurses := true, plainKeys := false, apart := false }
def RoofNamesSaid : Prop := roofNamesRow.holds Tryz.pinned (OpenSpec.ofChange roofNamesSpec)

/-- ITS FALSE NEIGHBOUR: 'it returns false'. Refute it at one input. -/
def roofNamesWrong : ChangeSpec := { name := "roofNames", fn := fun _ => fun
  | [] => { results := [.lit (.bool false)], args := [] }
  | _ => none }
def RoofNamesWrongFalsely : Prop := roofNamesRow.holds Tryz.pinned (OpenSpec.ofChange roofNamesWrong)

/- THE SECOND FORM. 'bulk': how many values and letters a reading holds, each counted each time it is reached (what is shared counts as often as it is met; a slice's spare places count too). A statement '..UptoSaid' is the law's where the arguments, and the package variables that the reading takes, are together of bulk at most 1048576: NARROWER than '..Said'. Prove '..Said' where nothing that the law and all that it calls make is longer than what came in: it says more and counts as full. Else prove '..UptoSaid'. A law counts once. -/
mutual
def uptoBulk {H : Type} : DataW H → Nat
  | .lit (.string bytes) => bytes.length + 1
  | .lit _ => 1
  | .nil => 1
  | .ptr d => uptoBulk d + 1
  | .slice elems spare => uptoBulkAll elems + uptoBulkAll spare + 1
  | .agg parts => uptoBulkAll parts + 1
  | .iface _ d => uptoBulk d + 1
  | .map entries => uptoBulkEntries entries + 1
  | .held _ => 1
def uptoBulkAll {H : Type} : List (DataW H) → Nat
  | [] => 0
  | d :: r => uptoBulk d + uptoBulkAll r
def uptoBulkEntries {H : Type} : List (Lit × DataW H) → Nat
  | [] => 0
  | x :: r => uptoBulkEntry x + uptoBulkEntries r
def uptoBulkEntry {H : Type} : Lit × DataW H → Nat
  | (.string bytes, d) => bytes.length + uptoBulk d + 1
  | (_, d) => uptoBulk d + 1
 end
def uptoSmall : (H : Type) → List (DataW H) → Bool := fun _ ds => decide (uptoBulkAll ds ≤ 1048576)
def OpenSpec.upto (s : _root_.Go.ChangeSpec) : _root_.Go.OpenSpec := { _root_.Go.OpenSpec.ofChange s with cond := some uptoSmall }

/-- 'gambrellaw35.BlockStreets', WHERE WHAT IT READS IS OF BULK AT MOST 1048576: true; the input reads as it did. -/
def blockStreetsUptoRow : OpenClaim := { program := "ytdolpeljengpaaagreat", sum := "35ccf097248f6dfb0eedcdc790258da39a37c35c298bcce3cec7b0f579c26f25", func := "gambrel/gambrellaw35.BlockStreets", spec := "blockStreets", unfollowed := true, recurses := true, plainKeys := false, apart := false, narrowed := true }
def BlockStreetsUptoSaid : Prop := blockStreetsUptoRow.holds Tryz.pinned (OpenSpec.upto blockStreetsSpec)

/-- 'gambrellaw35.BlockEuler', WHERE WHAT IT READS IS OF BULK AT MOST 1048576: true; the input reads as it did. -/
def blockEulerUptoRow : OpenClaim := { program := "ytdolpeljengpaaagreat", sum := "35ccf097248f6dfb0eedcdc790258da39a37c35c298bcce3cec7b0f579c26f25", func := "gambrel/gambrellaw35.BlockEuler", spec := "blockEuler", unfollowed := true, recurses := true, plainKeys := false, apart := false, narrowed := true }
def BlockEulerUptoSaid : Prop := blockEulerUptoRow.holds Tryz.pinned (OpenSpec.upto blockEulerSpec)

/-- 'gambrellaw36.LotsTown', WHERE WHAT IT READS IS OF BULK AT MOST 1048576: true; the input reads as it did. -/
def lotsTownUptoRow : OpenClaim := { program := "ytdolpeljengpaaagreat", sum := "35ccf097248f6dfb0eedcdc790258da39a37c35c298bcce3cec7b0f579c26f25", func := "gambrel/gambrellaw36.LotsTown", spec := "lotsTown", unfollowed := true, recurses := true, plainKeys := false, apart := false, narrowed := true }
def LotsTownUptoSaid : Prop := lotsTownUptoRow.holds Tryz.pinned (OpenSpec.upto lotsTownSpec)

/-- 'gambrellaw15.RoofLevels', WHERE WHAT IT READS IS OF BULK AT MOST 1048576: true; the input reads as it did. -/
def roofLevelsUptoRow : OpenClaim := { program := "ytdolpeljengpaaagreat", sum := "35ccf097248f6dfb0eedcdc790258da39a37c35c298bcce3cec7b0f579c26f25", func := "gambrel/gambrellaw15.RoofLevels", spec := "roofLevels", unfollowed := true, recurses := true, plainKeys := false, apart := false, narrowed := true }
def RoofLevelsUptoSaid : Prop := roofLevelsUptoRow.holds Tryz.pinned (OpenSpec.upto roofLevelsSpec)

/-- 'gambrellaw15.RoofVolumes', WHERE WHAT IT READS IS OF BULK AT MOST 1048576: true; the input reads as it did. -/
def roofVolumesUptoRow : OpenClaim := { program := "ytdolpeljengpaaagreat", sum := "35ccf097248f6dfb0eedcdc790258da39a37c35c298bcce3cec7b0f579c26f25", func := "gambrel/gambrellaw15.RoofVolumes", spec := "roofVolumes", unfollowed := true, recurses := true, plainKeys := false, apart := false, narrowed := true }
def RoofVolumesUptoSaid : Prop := roofVolumesUptoRow.holds Tryz.pinned (OpenSpec.upto roofVolumesSpec)

/-- 'gambrellaw15.RoofNames', WHERE WHAT IT READS IS OF BULK AT MOST 1048576: true; the input reads as it did. -/
def roofNamesUptoRow : OpenClaim := { program := "ytdolpeljengpaaagreat", sum := "35ccf097248f6dfb0eedcdc790258da39a37c35c298bcce3cec7b0f579c26f25", func := "gambrel/gambrellaw15.RoofNames", spec := "roofNames", unfollowed := true, recurses := true, plainKeys := false, apart := false, narrowed := true }
def RoofNamesUptoSaid : Prop := roofNamesUptoRow.holds Tryz.pinned (OpenSpec.upto roofNamesSpec)

end Rows
end Go.Proofs.YtdolpeljengpaaaGreat
