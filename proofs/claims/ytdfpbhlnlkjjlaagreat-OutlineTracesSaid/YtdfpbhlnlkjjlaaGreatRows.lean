/-
  No cell of these rows narrows 'for every input' (looked for: loops, veiled, ifaces, maps, wideKeys, modest, calm, conditions, laid).
  DERIVED. THE GIVEN ROWS OF THIS SEAT. 6 by the template 'for every input the law returns true; each argument reads behind the call as it read before'; 0 by the template 'total and deterministic' (their statements: YtdfpbhlnlkjjlaaGreatTotals.lean).
  GIVEN WITH THE SEED: the statements are not yours to turn. If you find one false, say at which input.
  Laid BY PROGRAM, IN A SANDBOX (cutbox-rows.mjs): the forced cells as the released guide's own fill.sh prints them over the translation 16f9f57a36dbaf99… (all of the seat's roots in one cut). By AI agents, Wed Nov 11 2026. No macro, syntax, notation, axiom, sorry.
-/
import Derived.Test.YtdfpbhlnlkjjlaaGreatChecked
import GoSem.Claim
import GoSem.ClaimJoined
import GoSem.ClaimMapViews
import Derived.JoinedTies
import Derived.KernelRfl
namespace Go.Proofs.YtdfpbhlnlkjjlaaGreat
/- THE CELL 'sum', in the pinned program and in every row, IS THE sha256 OF THE DUMP (.gsa) THAT YtdfpbhlnlkjjlaaGreatProg.lean LOADS. Nothing in Lean hashes anything: it is a label: what it is worth is what the hold of that sum in a sandbox is worth. -/
noncomputable def Tryz.pinned : Pinned := { name := "ytdfpbhlnlkjjlaagreat", sum := "16f9f57a36dbaf99991289c304f1f7599db2af404ad3d2c952cbfa3dfe97765a", checked := Tryz.checked }
namespace Rows
def none {H : Type} : Left H := { results := [], args := [] }

/-- 'gambrellaw13.OutlineParts': WHATEVER THE INPUT: true; the input reads as it did. -/
def outlinePartsSpec : ChangeSpec := { name := "outlineParts", fn := fun _ => fun
  | [d] => { results := [.lit (.bool true)], args := [d] }
  | _ => none }
def outlinePartsRow : OpenClaim := { program := "ytdfpbhlnlkjjlaagreat", sum := "16f9f57a36dbaf99991289c304f1f7599db2af404ad3d2c952cbfa3dfe97765a", func := "gambrel/gambrellaw13.OutlineParts", spec := "outlineParts", unfollowed := true, recurses := true, plainKeys := false, apart := false }
def OutlinePartsSaid : Prop := outlinePartsRow.holds Tryz.pinned (OpenSpec.ofChange outlinePartsSpec)

/-- ITS FALSE NEIGHBOUR: 'it returns false'. Refute it at one input. -/
def outlinePartsWrong : ChangeSpec := { name := "outlineParts", fn := fun _ => fun
  | [d] => { results := [.lit (.bool false)], args := [d] }
  | _ => none }
def OutlinePartsWrongFalsely : Prop := outlinePartsRow.holds Tryz.pinned (OpenSpec.ofChange outlinePartsWrong)

/-- 'gambrellaw13.OutlineTraces': WHATEVER THE INPUT: true; the input reads as it did. -/
def outlineTracesSpec : ChangeSpec := { name := "outlineTraces", fn := fun _ => fun
  | [d] => { results := [.lit (.bool true)], args := [d] }
  | _ => none }
def outlineTracesRow : OpenClaim := { program := "ytdfpbhlnlkjjlaagreat", sum := "16f9f57a36dbaf99991289c304f1f7599db2af404ad3d2c952cbfa3dfe97765a", func := "gambrel/gambrellaw13.OutlineTraces", spec := "outlineTraces", unfollowed := true, recurses := true, plainKeys := false, apart := false }
def OutlineTracesSaid : Prop := outlineTracesRow.holds Tryz.pinned (OpenSpec.ofChange outlineTracesSpec)

/-- ITS FALSE NEIGHBOUR: 'it returns false'. Refute it at one input. -/
def outlineTracesWrong : ChangeSpec := { name := "outlineTraces", fn := fun _ => fun
  | [d] => { results := [.lit (.bool false)], args := [d] }
  | _ => none }
def OutlineTracesWrongFalsely : Prop := outlineTracesRow.holds Tryz.pinned (OpenSpec.ofChange outlineTracesWrong)

/-- 'gambrellaw13.OutlineBack': WHATEVER THE INPUT: true; the input reads as it did. -/
def outlineBackSpec : ChangeSpec := { name := "outlineBack", fn := fun _ => fun
  | [d] => { results := [.lit (.bool true)], args := [d] }
  | _ => none }
def outlineBackRow : OpenClaim := { program := "ytdfpbhlnlkjjlaagreat", sum := "16f9f57a36dbaf99991289c304f1f7599db2af404ad3d2c952cbfa3dfe97765a", func := "gambrel/gambrellaw13.OutlineBack", spec := "outlineBack", unfollowed := true, recurses := true, plainKeys := false, apart := false }
def OutlineBackSaid : Prop := outlineBackRow.holds Tryz.pinned (OpenSpec.ofChange outlineBackSpec)

/-- ITS FALSE NEIGHBOUR: 'it returns false'. Refute it at one input. -/
def outlineBackWrong : ChangeSpec := { name := "outlineBack", fn := fun _ => fun
  | [d] => { results := [.lit (.bool false)], args := [d] }
  | _ => none }
def OutlineBackWrongFalsely : Prop := outlineBackRow.holds Tryz.pinned (OpenSpec.ofChange outlineBackWrong)

/-- 'gambrellaw13.OutlineSides': WHATEVER THE INPUT: true; the input reads as it did. -/
def outlineSidesSpec : ChangeSpec := { name := "outlineSides", fn := fun _ => fun
  | [d1, d2, d3, d4] => { results := [.lit (.bool true)], args := [d1, d2, d3, d4] }
  | _ => none }
def outlineSidesRow : OpenClaim := { program := "ytdfpbhlnlkjjlaagreat", sum := "16f9f57a36dbaf99991289c304f1f7599db2af404ad3d2c952cbfa3dfe97765a", func := "gambrel/gambrellaw13.OutlineSides", spec := "outlineSides", unfollowed := true, recurses := true, plainKeys := false, apart := false }
def OutlineSidesSaid : Prop := outlineSidesRow.holds Tryz.pinned (OpenSpec.ofChange outlineSidesSpec)

/-- ITS FALSE NEIGHBOUR: 'it returns false'. Refute it at one input. -/
def outlineSidesWrong : ChangeSpec := { name := "outlineSides", fn := fun _ => fun
  | [d1, d2, d3, d4] => { results := [.lit (.bool false)], args := [d1, d2, d3, d4] }
  | _ => none }
def OutlineSidesWrongFalsely : Prop := outlineSidesRow.holds Tryz.pinned (OpenSpec.ofChange outlineSidesWrong)

/-- 'gambrellaw13.OutlineAreas': WHATEVER THE INPUT: true; the input reads as it did. -/
def outlineAreasSpec : ChangeSpec := { name := "outlineAreas", fn := fun _ => fun
  | [d] => { results := [.lit (.bool true)], args := [d] }
  | _ => none }
def outlineAreasRow : OpenClaim := { program := "ytdfpbhlnlkjjlaagreat", sum := "16f9f57a36dbaf99991289c304f1f7599db2af404ad3d2c952cbfa3dfe97765a", func := "gambrel/gambrellaw13.OutlineAreas", spec := "outlineAreas", unfollowed := true, recurses := true, plainKeys := false, apart := false }
def OutlineAreasSaid : Prop := outlineAreasRow.holds Tryz.pinned (OpenSpec.ofChange outlineAreasSpec)

/-- ITS FALSE NEIGHBOUR: 'it returns false'. Refute it at one input. -/
def outlineAreasWrong : ChangeSpec := { name := "outlineAreas", fn := fun _ => fun
  | [d] => { results := [.lit (.bool false)], args := [d] }
  | _ => none }
def OutlineAreasWrongFalsely : Prop := outlineAreasRow.holds Tryz.pinned (OpenSpec.ofChange outlineAreasWrong)

/-- 'gambrellaw13.OutlineNames': WHATEVER THE INPUT: true; the input reads as it did. -/
def outlineNamesSpec : ChangeSpec := { name := "outlineNames", fn := fun _ => fun
  | [] => { results := [.lit (.bool true)], args := [] }
  | _ => none }
def outlineNamesRow : OpenClaim := { program := "ytdfpbhlnlkjjlaagreat", sum := "16f9f57a36dbaf99991289c304f1f7599db2af404ad3d2c952cbfa3dfe97765a", func := "gambrel/gambrellaw13.OutlineNames", spec := "outlineNames", unfollowed := true, recurses := true, plainKeys := false, apart := false }
def OutlineNamesSaid : Prop := outlineNamesRow.holds Tryz.pinned (OpenSpec.ofChange outlineNamesSpec)

/-- ITS FALSE NEIGHBOUR: 'it returns false'. Refute it at one input. -/
def outlineNamesWrong : ChangeSpec := { name := "outlineNames", fn := fun _ => fun
  | [] => { results := [.lit (.bool false)], args := [] }
  | _ => none }
def OutlineNamesWrongFalsely : Prop := outlineNamesRow.holds Tryz.pinned (OpenSpec.ofChange outlineNamesWrong)

/- THE SECOND FORM. 'bulk': how many values and letters a reading holds, each counted each time it is reached (what is shared counts as often as it is met; a slice's spare places count too). A statement '..UptoSaid' is the law's where the arguments, and the package variables that the reading takes, are together of bulk at most 1048576: NARROWER than '..Said'. Prove '..Said' where nothing that the law and all that it calls make is longer than what came in: it says more and counts as full. Else prove '..UptoSaid'. A law counts once. -/
mutual
def uptoBulk {H : Type} : DataW H → Nat
  | .lit (.string bytes) => bytes.length + 1
  | .lit _ => 1
  | .nil => 1
  | .ptr d => uptoBulk d + 1
  | .slice elems spare => uptoBulkAll elems + uptoBulkAll spare + 1
  | .agg parts => uptoBulkAll parts + 1
  | .iface _ d => uptoBulk d + 1
  | .map entries => uptoBulkEntries entries + 1
  | .held _ => 1
def uptoBulkAll {H : Type} : List (DataW H) → Nat
  | [] => 0
  | d :: r => uptoBulk d + uptoBulkAll r
def uptoBulkEntries {H : Type} : List (Lit × DataW H) → Nat
  | [] => 0
  | x :: r => uptoBulkEntry x + uptoBulkEntries r
def uptoBulkEntry {H : Type} : Lit × DataW H → Nat
  | (.string bytes, d) => bytes.length + uptoBulk d + 1
  | (_, d) => uptoBulk d + 1
 end
def uptoSmall : (H : Type) → List (DataW H) → Bool := fun _ ds => decide (uptoBulkAll ds ≤ 1048576)
def OpenSpec.upto (s : _root_.Go.ChangeSpec) : _root_.Go.OpenSpec := { _root_.Go.OpenSpec.ofChange s with cond := some uptoSmall }

/-- 'gambrellaw13.OutlineParts', WHERE WHAT IT READS IS OF BULK AT MOST 1048576: true; the input reads as it did. -/
def outlinePartsUptoRow : OpenClaim := { program := "ytdfpbhlnlkjjlaagreat", sum := "16f9f57a36dbaf99991289c304f1f7599db2af404ad3d2c952cbfa3dfe97765a", func := "gambrel/gambrellaw13.OutlineParts", spec := "outlineParts", unfollowed := true, recurses := true, plainKeys := false, apart := false, narrowed := true }
def OutlinePartsUptoSaid : Prop := outlinePartsUptoRow.holds Tryz.pinned (OpenSpec.upto outlinePartsSpec)

/-- 'gambrellaw13.OutlineTraces', WHERE WHAT IT READS IS OF BULK AT MOST 1048576: true; the input reads as it did. -/
def outlineTracesUptoRow : OpenClaim := { program := "ytdfpbhlnlkjjlaagreat", sum := "16f9f57a36dbaf99991289c304f1f7599db2af404ad3d2c952cbfa3dfe97765a", func := "gambrel/gambrellaw13.OutlineTraces", spec := "outlineTraces", unfollowed := true, recurses := true, plainKeys := false, apart := false, narrowed := true }
def OutlineTracesUptoSaid : Prop := outlineTracesUptoRow.holds Tryz.pinned (OpenSpec.upto outlineTracesSpec)

/-- 'gambrellaw13.OutlineBack', WHERE WHAT IT READS IS OF BULK AT MOST 1048576: true; the input reads as it did. -/
def outlineBackUptoRow : OpenClaim := { program := "ytdfpbhlnlkjjlaagreat", sum := "16f9f57a36dbaf99991289c304f1f7599db2af404ad3d2c952cbfa3dfe97765a", func := "gambrel/gambrellaw13.OutlineBack", spec := "outlineBack", unfollowed := true, recurses := true, plainKeys := false, apart := false, narrowed := true }
def OutlineBackUptoSaid : Prop := outlineBackUptoRow.holds Tryz.pinned (OpenSpec.upto outlineBackSpec)

/-- 'gambrellaw13.OutlineSides', WHERE WHAT IT READS IS OF BULK AT MOST 1048576: true; the input reads as it did. -/
def outlineSidesUptoRow : OpenClaim := { program := "ytdfpbhlnlkjjlaagreat", sum := "16f9f57a36dbaf99991289c304f1f7599db2af404ad3d2c952cbfa3dfe97765a", func := "gambrel/gambrellaw13.OutlineSides", spec := "outlineSides", unfollowed := true, recurses := true, plainKeys := false, apart := false, narrowed := true }
def OutlineSidesUptoSaid : Prop := outlineSidesUptoRow.holds Tryz.pinned (OpenSpec.upto outlineSidesSpec)

/-- 'gambrellaw13.OutlineAreas', WHERE WHAT IT READS IS OF BULK AT MOST 1048576: true; the input reads as it did. -/
def outlineAreasUptoRow : OpenClaim := { program := "ytdfpbhlnlkjjlaagreat", sum := "16f9f57a36dbaf99991289c304f1f7599db2af404ad3d2c952cbfa3dfe97765a", func := "gambrel/gambrellaw13.OutlineAreas", spec := "outlineAreas", unfollowed := true, recurses := true, plainKeys := false, apart := false, narrowed := true }
def OutlineAreasUptoSaid : Prop := outlineAreasUptoRow.holds Tryz.pinned (OpenSpec.upto outlineAreasSpec)

/-- 'gambrellaw13.OutlineNames', WHERE WHAT IT READS IS OF BULK AT MOST 1048576: true; the input reads as it did. -/
def outlineNamesUptoRow : OpenClaim := { program := "ytdfpbhlnlkjjlaagreat", sum := "16f9f57a36dbaf99991289c304f1f7599db2af404ad3d2c952cbfa3dfe97765a", func := "gambrel/gambrellaw13.OutlineNames", spec := "outlineNames", unfollowed := true, recurses := true, plainKeys := false, apart := false, narrowed := true }
def OutlineNamesUptoSaid : Prop := outlineNamesUptoRow.holds Tryz.pinned (OpenSpec.upto outlineNamesSpec)

end Rows
end Go.Proofs.YtdfpbhlnlkjjlaaGreat
