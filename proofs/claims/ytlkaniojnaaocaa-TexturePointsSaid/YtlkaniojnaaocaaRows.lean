/-
  No cell of these rows narrows 'for every input' (looked for: loops, veiled, ifaces, maps, wideKeys, modest, calm, conditions, laid).
  DERIVED. THE GIVEN ROWS OF THIS SEAT. 4 by the template 'for every input the law returns true; each argument reads behind the call as it read before'; 0 by the template 'total and deterministic' (their statements: YtlkaniojnaaocaaTotals.lean).
  GIVEN WITH THE SEED: the statements are not yours to turn. If you find one false, say at which input.
  Laid BY PROGRAM, IN A SANDBOX (cutbox-rows.mjs): the forced cells as the released guide's own fill.sh prints them over the translation 0d85f3186d6f997a… (all of the seat's roots in one cut). By AI agents, Wed Nov 11 2026. No macro, syntax, notation, axiom, sorry.
-/
import Derived.Test.YtlkaniojnaaocaaChecked
import GoSem.Claim
import GoSem.ClaimJoined
import GoSem.ClaimMapViews
import Derived.JoinedTies
import Derived.KernelRfl
namespace Go.Proofs.Ytlkaniojnaaocaa
/- THE CELL 'sum', in the pinned program and in every row, IS THE sha256 OF THE DUMP (.gsa) THAT YtlkaniojnaaocaaProg.lean LOADS. Nothing in Lean hashes anything: it is a label: what it is worth is what the hold of that sum in a sandbox is worth. -/
noncomputable def Try.pinned : Pinned := { name := "ytlkaniojnaaocaa", sum := "0d85f3186d6f997a2154ffe98786cff45a655f092a7ee108c82c9bd2bd6eaebf", checked := Try.checked }
namespace Rows
def none {H : Type} : Left H := { results := [], args := [] }

/-- 'gambrellaw41.TextureBricks': WHATEVER THE INPUT: true; the input reads as it did. -/
def textureBricksSpec : ChangeSpec := { name := "textureBricks", fn := fun _ => fun
  | [d1, d2, d3] => { results := [.lit (.bool true)], args := [d1, d2, d3] }
  | _ => none }
def textureBricksRow : OpenClaim := { program := "ytlkaniojnaaocaa", sum := "0d85f3186d6f997a2154ffe98786cff45a655f092a7ee108c82c9bd2bd6eaebf", func := "gambrel/gambrellaw41.TextureBricks", spec := "textureBricks", recurses := true, plainKeys := false, apart := false }
def TextureBricksSaid : Prop := textureBricksRow.holds Try.pinned (OpenSpec.ofChange textureBricksSpec)

/-- ITS FALSE NEIGHBOUR: 'it returns false'. Refute it at one input. -/
def textureBricksWrong : ChangeSpec := { name := "textureBricks", fn := fun _ => fun
  | [d1, d2, d3] => { results := [.lit (.bool false)], args := [d1, d2, d3] }
  | _ => none }
def TextureBricksWrongFalsely : Prop := textureBricksRow.holds Try.pinned (OpenSpec.ofChange textureBricksWrong)

/-- 'gambrellaw41.TextureTiles': WHATEVER THE INPUT: true; the input reads as it did. -/
def textureTilesSpec : ChangeSpec := { name := "textureTiles", fn := fun _ => fun
  | [d1, d2] => { results := [.lit (.bool true)], args := [d1, d2] }
  | _ => none }
def textureTilesRow : OpenClaim := { program := "ytlkaniojnaaocaa", sum := "0d85f3186d6f997a2154ffe98786cff45a655f092a7ee108c82c9bd2bd6eaebf", func := "gambrel/gambrellaw41.TextureTiles", spec := "textureTiles", unfollowed := true, recurses := true, plainKeys := false, apart := false }
def TextureTilesSaid : Prop := textureTilesRow.holds Try.pinned (OpenSpec.ofChange textureTilesSpec)

/-- ITS FALSE NEIGHBOUR: 'it returns false'. Refute it at one input. -/
def textureTilesWrong : ChangeSpec := { name := "textureTiles", fn := fun _ => fun
  | [d1, d2] => { results := [.lit (.bool false)], args := [d1, d2] }
  | _ => none }
def TextureTilesWrongFalsely : Prop := textureTilesRow.holds Try.pinned (OpenSpec.ofChange textureTilesWrong)

/-- 'gambrellaw41.TexturePoints': WHATEVER THE INPUT: true; the input reads as it did. -/
def texturePointsSpec : ChangeSpec := { name := "texturePoints", fn := fun _ => fun
  | [d1, d2, d3] => { results := [.lit (.bool true)], args := [d1, d2, d3] }
  | _ => none }
def texturePointsRow : OpenClaim := { program := "ytlkaniojnaaocaa", sum := "0d85f3186d6f997a2154ffe98786cff45a655f092a7ee108c82c9bd2bd6eaebf", func := "gambrel/gambrellaw41.TexturePoints", spec := "texturePoints", unfollowed := true, recurses := true, plainKeys := false, apart := false }
def TexturePointsSaid : Prop := texturePointsRow.holds Try.pinned (OpenSpec.ofChange texturePointsSpec)

/-- ITS FALSE NEIGHBOUR: 'it returns false'. Refute it at one input. -/
def texturePointsWrong : ChangeSpec := { name := "texturePoints", fn := fun _ => fun
  | [d1, d2, d3] => { results := [.lit (.bool false)], args := [d1, d2, d3] }
  | _ => none }
def TexturePointsWrongFalsely : Prop := texturePointsRow.holds Try.pinned (OpenSpec.ofChange texturePointsWrong)

/-- 'gambrellaw41.TextureMoves': WHATEVER THE INPUT: true; the input reads as it did. -/
def textureMovesSpec : ChangeSpec := { name := "textureMoves", fn := fun _ => fun
  | [d1, d2, d3, d4] => { results := [.lit (.bool true)], args := [d1, d2, d3, d4] }
  | _ => none }
def textureMovesRow : OpenClaim := { program := "ytlkaniojnaaocaa", sum := "0d85f3186d6f997a2154ffe98786cff45a655f092a7ee108c82c9bd2bd6eaebf", func := "gambrel/gambrellaw41.TextureMoves", spec := "textureMoves", unfollowed := true, recurses := true, plainKeys := false, apart := false }
def TextureMovesSaid : Prop := textureMovesRow.holds Try.pinned (OpenSpec.ofChange textureMovesSpec)

/-- ITS FALSE NEIGHBOUR: 'it returns false'. Refute it at one input. -/
def textureMovesWrong : ChangeSpec := { name := "textureMoves", fn := fun _ => fun
  | [d1, d2, d3, d4] => { results := [.lit (.bool false)], args := [d1, d2, d3, d4] }
  | _ => none }
def TextureMovesWrongFalsely : Prop := textureMovesRow.holds Try.pinned (OpenSpec.ofChange textureMovesWrong)

/- THE SECOND FORM. 'bulk': how many values and letters a reading holds, each counted each time it is reached (what is shared counts as often as it is met; a slice's spare places count too). A statement '..UptoSaid' is the law's where the arguments, and the package variables that the reading takes, are together of bulk at most 1048576: NARROWER than '..Said'. Prove '..Said' where nothing that the law and all that it calls make is longer than what came in: it says more and counts as full. Else prove '..UptoSaid'. A law counts once. -/
mutual
def uptoBulk {H : Type} : DataW H → Nat
  | .lit (.string bytes) => bytes.length + 1
  | .lit _ => 1
  | .nil => 1
  | .ptr d => uptoBulk d + 1
  | .slice elems spare => uptoBulkAll elems + uptoBulkAll spare + 1
  | .agg parts => uptoBulkAll parts + 1
  | .iface _ d => uptoBulk d + 1
  | .map entries => uptoBulkEntries entries + 1
  | .held _ => 1
def uptoBulkAll {H : Type} : List (DataW H) → Nat
  | [] => 0
  | d :: r => uptoBulk d + uptoBulkAll r
def uptoBulkEntries {H : Type} : List (Lit × DataW H) → Nat
  | [] => 0
  | x :: r => uptoBulkEntry x + uptoBulkEntries r
def uptoBulkEntry {H : Type} : Lit × DataW H → Nat
  | (.string bytes, d) => bytes.length + uptoBulk d + 1
  | (_, d) => uptoBulk d + 1
 end
def uptoSmall : (H : Type) → List (DataW H) → Bool := fun _ ds => decide (uptoBulkAll ds ≤ 1048576)
def OpenSpec.upto (s : _root_.Go.ChangeSpec) : _root_.Go.OpenSpec := { _root_.Go.OpenSpec.ofChange s with cond := some uptoSmall }

/-- 'gambrellaw41.TextureBricks', WHERE WHAT IT READS IS OF BULK AT MOST 1048576: true; the input reads as it did. -/
def textureBricksUptoRow : OpenClaim := { program := "ytlkaniojnaaocaa", sum := "0d85f3186d6f997a2154ffe98786cff45a655f092a7ee108c82c9bd2bd6eaebf", func := "gambrel/gambrellaw41.TextureBricks", spec := "textureBricks", recurses := true, plainKeys := false, apart := false, narrowed := true }
def TextureBricksUptoSaid : Prop := textureBricksUptoRow.holds Try.pinned (OpenSpec.upto textureBricksSpec)

/-- 'gambrellaw41.TextureTiles', WHERE WHAT IT READS IS OF BULK AT MOST 1048576: true; the input reads as it did. -/
def textureTilesUptoRow : OpenClaim := { program := "ytlkaniojnaaocaa", sum := "0d85f3186d6f997a2154ffe98786cff45a655f092a7ee108c82c9bd2bd6eaebf", func := "gambrel/gambrellaw41.TextureTiles", spec := "textureTiles", unfollowed := true, recurses := true, plainKeys := false, apart := false, narrowed := true }
def TextureTilesUptoSaid : Prop := textureTilesUptoRow.holds Try.pinned (OpenSpec.upto textureTilesSpec)

/-- 'gambrellaw41.TexturePoints', WHERE WHAT IT READS IS OF BULK AT MOST 1048576: true; the input reads as it did. -/
def texturePointsUptoRow : OpenClaim := { program := "ytlkaniojnaaocaa", sum := "0d85f3186d6f997a2154ffe98786cff45a655f092a7ee108c82c9bd2bd6eaebf", func := "gambrel/gambrellaw41.TexturePoints", spec := "texturePoints", unfollowed := true, recurses := true, plainKeys := false, apart := false, narrowed := true }
def TexturePointsUptoSaid : Prop := texturePointsUptoRow.holds Try.pinned (OpenSpec.upto texturePointsSpec)

/-- 'gambrellaw41.TextureMoves', WHERE WHAT IT READS IS OF BULK AT MOST 1048576: true; the input reads as it did. -/
def textureMovesUptoRow : OpenClaim := { program := "ytlkaniojnaaocaa", sum := "0d85f3186d6f997a2154ffe98786cff45a655f092a7ee108c82c9bd2bd6eaebf", func := "gambrel/gambrellaw41.TextureMoves", spec := "textureMoves", unfollowed := true, recurses := true, plainKeys := false, apart := false, narrowed := true }
def TextureMovesUptoSaid : Prop := textureMovesUptoRow.holds Try.pinned (OpenSpec.upto textureMovesSpec)

end Rows
end Go.Proofs.Ytlkaniojnaaocaa
