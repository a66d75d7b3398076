/-
  No cell of these rows narrows 'for every input' (looked for: loops, veiled, ifaces, maps, wideKeys, modest, calm, conditions, laid).
  DERIVED. THE GIVEN ROWS OF THIS SEAT. 4 by the template 'for every input the law returns true; each argument reads behind the call as it read before'; 0 by the template 'total and deterministic' (their statements: YtamnaojheecopaaGreatTotals.lean).
  GIVEN WITH THE SEED: the statements are not yours to turn. If you find one false, say at which input.
  Laid BY PROGRAM, IN A SANDBOX (cutbox-rows.mjs): the forced cells as the released guide's own fill.sh prints them over the translation b45c342d90197527… (all of the seat's roots in one cut). By AI agents, Wed Nov 11 2026. No macro, syntax, notation, axiom, sorry.
-/
import Derived.Test.YtamnaojheecopaaGreatChecked
import GoSem.Claim
import GoSem.ClaimJoined
import GoSem.ClaimMapViews
import Derived.JoinedTies
import Derived.KernelRfl
namespace Go.Proofs.YtamnaojheecopaaGreat
/- THE CELL 'sum', in the pinned program and in every row, IS THE sha256 OF THE DUMP (.gsa) THAT YtamnaojheecopaaGreatProg.lean LOADS. Nothing in Lean hashes anything: it is a label: what it is worth is what the hold of that sum in a sandbox is worth. -/
noncomputable def Tryz.pinned : Pinned := { name := "ytamnaojheecopaagreat", sum := "b45c342d901975276914fe42e13afa16ccba74cc0f2d2bebc98f5527ee4ba4a3", checked := Tryz.checked }
namespace Rows
def none {H : Type} : Left H := { results := [], args := [] }

/-- 'gambrellaw12.RegionPoints': WHATEVER THE INPUT: true; the input reads as it did. -/
def regionPointsSpec : ChangeSpec := { name := "regionPoints", fn := fun _ => fun
  | [d1, d2, d3, d4] => { results := [.lit (.bool true)], args := [d1, d2, d3, d4] }
  | _ => none }
def regionPointsRow : OpenClaim := { program := "ytamnaojheecopaagreat", sum := "b45c342d901975276914fe42e13afa16ccba74cc0f2d2bebc98f5527ee4ba4a3", func := "gambrel/gambrellaw12.RegionPoints", spec := "regionPoints", unfollowed := true, recurses := true, apart := false }
def RegionPointsSaid : Prop := regionPointsRow.holds Tryz.pinned (OpenSpec.ofChange regionPointsSpec)

/-- ITS FALSE NEIGHBOUR: 'it returns false'. Refute it at one input. -/
def regionPointsWrong : ChangeSpec := { name := "regionPoints", fn := fun _ => fun
  | [d1, d2, d3, d4] => { results := [.lit (.bool false)], args := [d1, d2, d3, d4] }
  | _ => none }
def RegionPointsWrongFalsely : Prop := regionPointsRow.holds Tryz.pinned (OpenSpec.ofChange regionPointsWrong)

/-- 'gambrellaw12.RegionAreas': WHATEVER THE INPUT: true; the input reads as it did. -/
def regionAreasSpec : ChangeSpec := { name := "regionAreas", fn := fun _ => fun
  | [d1, d2] => { results := [.lit (.bool true)], args := [d1, d2] }
  | _ => none }
def regionAreasRow : OpenClaim := { program := "ytamnaojheecopaagreat", sum := "b45c342d901975276914fe42e13afa16ccba74cc0f2d2bebc98f5527ee4ba4a3", func := "gambrel/gambrellaw12.RegionAreas", spec := "regionAreas", unfollowed := true, recurses := true, apart := false }
def RegionAreasSaid : Prop := regionAreasRow.holds Tryz.pinned (OpenSpec.ofChange regionAreasSpec)

/-- ITS FALSE NEIGHBOUR: 'it returns false'. Refute it at one input. -/
def regionAreasWrong : ChangeSpec := { name := "regionAreas", fn := fun _ => fun
  | [d1, d2] => { results := [.lit (.bool false)], args := [d1, d2] }
  | _ => none }
def RegionAreasWrongFalsely : Prop := regionAreasRow.holds Tryz.pinned (OpenSpec.ofChange regionAreasWrong)

/-- 'gambrellaw12.RegionWhole': WHATEVER THE INPUT: true; the input reads as it did. -/
def regionWholeSpec : ChangeSpec := { name := "regionWhole", fn := fun _ => fun
  | [d] => { results := [.lit (.bool true)], args := [d] }
  | _ => none }
def regionWholeRow : OpenClaim := { program := "ytamnaojheecopaagreat", sum := "b45c342d901975276914fe42e13afa16ccba74cc0f2d2bebc98f5527ee4ba4a3", func := "gambrel/gambrellaw12.RegionWhole", spec := "regionWhole", unfollowed := true, recurses := true, apart := false }
def RegionWholeSaid : Prop := regionWholeRow.holds Tryz.pinned (OpenSpec.ofChange regionWholeSpec)

/-- ITS FALSE NEIGHBOUR: 'it returns false'. Refute it at one input. -/
def regionWholeWrong : ChangeSpec := { name := "regionWhole", fn := fun _ => fun
  | [d] => { results := [.lit (.bool false)], args := [d] }
  | _ => none }
def RegionWholeWrongFalsely : Prop := regionWholeRow.holds Tryz.pinned (OpenSpec.ofChange regionWholeWrong)

/-- 'gambrellaw12.RegionBack': WHATEVER THE INPUT: true; the input reads as it did. -/
def regionBackSpec : ChangeSpec := { name := "regionBack", fn := fun _ => fun
  | [d1, d2, d3] => { results := [.lit (.bool true)], args := [d1, d2, d3] }
  | _ => none }
def regionBackRow : OpenClaim := { program := "ytamnaojheecopaagreat", sum := "b45c342d901975276914fe42e13afa16ccba74cc0f2d2bebc98f5527ee4ba4a3", func := "gambrel/gambrellaw12.RegionBack", spec := "regionBack", unfollowed := true, recurses := true, apart := false }
def RegionBackSaid : Prop := regionBackRow.holds Tryz.pinned (OpenSpec.ofChange regionBackSpec)

/-- ITS FALSE NEIGHBOUR: 'it returns false'. Refute it at one input. -/
def regionBackWrong : ChangeSpec := { name := "regionBack", fn := fun _ => fun
  | [d1, d2, d3] => { results := [.lit (.bool false)], args := [d1, d2, d3] }
  | _ => none }
def RegionBackWrongFalsely : Prop := regionBackRow.holds Tryz.pinned (OpenSpec.ofChange regionBackWrong)

/- THE SECOND FORM. 'bulk': how many values and letters a reading holds, each counted each time it is reached (what is shared counts as often as it is met; a slice's spare places count too). A statement '..UptoSaid' is the law's where the arguments, and the package variables that the reading takes, are together of bulk at most 1048576: NARROWER than '..Said'. Prove '..Said' where nothing that the law and all that it calls make is longer than what came in: it says more and counts as full. Else prove '..UptoSaid'. A law counts once. -/
mutual
def uptoBulk {H : Type} : DataW H → Nat
  | .lit (.string bytes) => bytes.length + 1
  | .lit _ => 1
  | .nil => 1
  | .ptr d => uptoBulk d + 1
  | .slice elems spare => uptoBulkAll elems + uptoBulkAll spare + 1
  | .agg parts => uptoBulkAll parts + 1
  | .iface _ d => uptoBulk d + 1
  | .map entries => uptoBulkEntries entries + 1
  | .held _ => 1
def uptoBulkAll {H : Type} : List (DataW H) → Nat
  | [] => 0
  | d :: r => uptoBulk d + uptoBulkAll r
def uptoBulkEntries {H : Type} : List (Lit × DataW H) → Nat
  | [] => 0
  | x :: r => uptoBulkEntry x + uptoBulkEntries r
def uptoBulkEntry {H : Type} : Lit × DataW H → Nat
  | (.string bytes, d) => bytes.length + uptoBulk d + 1
  | (_, d) => uptoBulk d + 1
 end
def uptoSmall : (H : Type) → List (DataW H) → Bool := fun _ ds => decide (uptoBulkAll ds ≤ 1048576)
def OpenSpec.upto (s : _root_.Go.ChangeSpec) : _root_.Go.OpenSpec := { _root_.Go.OpenSpec.ofChange s with cond := some uptoSmall }

/-- 'gambrellaw12.RegionPoints', WHERE WHAT IT READS IS OF BULK AT MOST 1048576: true; the input reads as it did. -/
def regionPointsUptoRow : OpenClaim := { program := "ytamnaojheecopaagreat", sum := "b45c342d901975276914fe42e13afa16ccba74cc0f2d2bebc98f5527ee4ba4a3", func := "gambrel/gambrellaw12.RegionPoints", spec := "regionPoints", unfollowed := true, recurses := true, apart := false, narrowed := true }
def RegionPointsUptoSaid : Prop := regionPointsUptoRow.holds Tryz.pinned (OpenSpec.upto regionPointsSpec)

/-- 'gambrellaw12.RegionAreas', WHERE WHAT IT READS IS OF BULK AT MOST 1048576: true; the input reads as it did. -/
def regionAreasUptoRow : OpenClaim := { program := "ytamnaojheecopaagreat", sum := "b45c342d901975276914fe42e13afa16ccba74cc0f2d2bebc98f5527ee4ba4a3", func := "gambrel/gambrellaw12.RegionAreas", spec := "regionAreas", unfollowed := true, recurses := true, apart := false, narrowed := true }
def RegionAreasUptoSaid : Prop := regionAreasUptoRow.holds Tryz.pinned (OpenSpec.upto regionAreasSpec)

/-- 'gambrellaw12.RegionWhole', WHERE WHAT IT READS IS OF BULK AT MOST 1048576: true; the input reads as it did. -/
def regionWholeUptoRow : OpenClaim := { program := "ytamnaojheecopaagreat", sum := "b45c342d901975276914fe42e13afa16ccba74cc0f2d2bebc98f5527ee4ba4a3", func := "gambrel/gambrellaw12.RegionWhole", spec := "regionWhole", unfollowed := true, recurses := true, apart := false, narrowed := true }
def RegionWholeUptoSaid : Prop := regionWholeUptoRow.holds Tryz.pinned (OpenSpec.upto regionWholeSpec)

/-- 'gambrellaw12.RegionBack', WHERE WHAT IT READS IS OF BULK AT MOST 1048576: true; the input reads as it did. -/
def regionBackUptoRow : OpenClaim := { program := "ytamnaojheecopaagreat", sum := "b45c342d901975276914fe42e13afa16ccba74cc0f2d2bebc98f5527ee4ba4a3", func := "gambrel/gambrellaw12.RegionBack", spec := "regionBack", unfollowed := true, recurses := true, apart := false, narrowed := true }
def RegionBackUptoSaid : Prop := regionBackUptoRow.holds Tryz.pinned (OpenSpec.upto regionBackSpec)

end Rows
end Go.Proofs.YtamnaojheecopaaGreat
