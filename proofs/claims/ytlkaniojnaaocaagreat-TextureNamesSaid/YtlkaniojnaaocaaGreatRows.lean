/-
  No cell of these rows narrows 'for every input' (looked for: loops, veiled, ifaces, maps, wideKeys, modest, calm, conditions, laid).
  DERIVED. THE GIVEN ROWS OF THIS SEAT. 5 by the template 'for every input the law returns true; each argument reads behind the call as it read before'; 0 by the template 'total and deterministic' (their statements: YtlkaniojnaaocaaGreatTotals.lean).
  GIVEN WITH THE SEED: the statements are not yours to turn. If you find one false, say at which input.
  Laid BY PROGRAM, IN A SANDBOX (cutbox-rows.mjs): the forced cells as the released guide's own fill.sh prints them over the translation 2031f0ff0129e681… (all of the seat's roots in one cut). By AI agents, Wed Nov 11 2026. No macro, syntax, notation, axiom, sorry.
-/
import Derived.Test.YtlkaniojnaaocaaGreatChecked
import GoSem.Claim
import GoSem.ClaimJoined
import GoSem.ClaimMapViews
import Derived.JoinedTies
import Derived.KernelRfl
namespace Go.Proofs.YtlkaniojnaaocaaGreat
/- THE CELL 'sum', in the pinned program and in every row, IS THE sha256 OF THE DUMP (.gsa) THAT YtlkaniojnaaocaaGreatProg.lean LOADS. Nothing in Lean hashes anything: it is a label: what it is worth is what the hold of that sum in a sandbox is worth. -/
noncomputable def Tryz.pinned : Pinned := { name := "ytlkaniojnaaocaagreat", sum := "2031f0ff0129e6819d8fab78abcd77d4eb658eedc74aa8cd5f6d481837216922", checked := Tryz.checked }
namespace Rows
def none {H : Type} : Left H := { results := [], args := [] }

/-- 'gambrellaw41.TextureFaces': WHATEVER THE INPUT: true; the input reads as it did. -/
def textureFacesSpec : ChangeSpec := { name := "textureFaces", fn := fun _ => fun
  | [d1, d2] => { results := [.lit (.bool true)], args := [d1, d2] }
  | _ => none }
def textureFacesRow : OpenClaim := { program := "ytlkaniojnaaocaagreat", sum := "2031f0ff0129e6819d8fab78abcd77d4eb658eedc74aa8cd5f6d481837216922", func := "gambrel/gambrellaw41.TextureFaces", spec := "textureFaces", unfollowed := true, recurses := true, plainKeys := false, apart := false }
def TextureFacesSaid : Prop := textureFacesRow.holds Tryz.pinned (OpenSpec.ofChange textureFacesSpec)

/-- ITS FALSE NEIGHBOUR: 'it returns false'. Refute it at one input. -/
def textureFacesWrong : ChangeSpec := { name := "textureFaces", fn := fun _ => fun
  | [d1, d2] => { results := [.lit (.bool false)], args := [d1, d2] }
  | _ => none }
def TextureFacesWrongFalsely : Prop := textureFacesRow.holds Tryz.pinned (OpenSpec.ofChange textureFacesWrong)

/-- 'gambrellaw41.TextureNames': WHATEVER THE INPUT: true; the input reads as it did. -/
def textureNamesSpec : ChangeSpec := { name := "textureNames", fn := fun _ => fun
  | [] => { results := [.lit (.bool true)], args := [] }
  | _ => none }
def textureNamesRow : OpenClaim := { program := "ytlkaniojnaaocaagreat", sum := "2031f0ff0129e6819d8fab78abcd77d4eb658eedc74aa8cd5f6d481837216922", func := "gambrel/gambrellaw41.TextureNames", spec := "textureNames", unfollowed := true, recurses := true, plainKeys := false, apart := false }
def TextureNamesSaid : Prop := textureNamesRow.holds Tryz.pinned (OpenSpec.ofChange textureNamesSpec)

/-- ITS FALSE NEIGHBOUR: 'it returns false'. Refute it at one input. -/
def textureNamesWrong : ChangeSpec := { name := "textureNames", fn := fun _ => fun
  | [] => { results := [.lit (.bool false)], args := [] }
  | _ => none }
def TextureNamesWrongFalsely : Prop := textureNamesRow.holds Tryz.pinned (OpenSpec.ofChange textureNamesWrong)

/-- 'gambrellaw41.TextureJoints': WHATEVER THE INPUT: true; the input reads as it did. -/
def textureJointsSpec : ChangeSpec := { name := "textureJoints", fn := fun _ => fun
  | [d1, d2, d3] => { results := [.lit (.bool true)], args := [d1, d2, d3] }
  | _ => none }
def textureJointsRow : OpenClaim := { program := "ytlkaniojnaaocaagreat", sum := "2031f0ff0129e6819d8fab78abcd77d4eb658eedc74aa8cd5f6d481837216922", func := "gambrel/gambrellaw41.TextureJoints", spec := "textureJoints", unfollowed := true, recurses := true, plainKeys := false, apart := false }
def TextureJointsSaid : Prop := textureJointsRow.holds Tryz.pinned (OpenSpec.ofChange textureJointsSpec)

/-- ITS FALSE NEIGHBOUR: 'it returns false'. Refute it at one input. -/
def textureJointsWrong : ChangeSpec := { name := "textureJoints", fn := fun _ => fun
  | [d1, d2, d3] => { results := [.lit (.bool false)], args := [d1, d2, d3] }
  | _ => none }
def TextureJointsWrongFalsely : Prop := textureJointsRow.holds Tryz.pinned (OpenSpec.ofChange textureJointsWrong)

/-- 'gambrellaw41.TextureQuads': WHATEVER THE INPUT: true; the input reads as it did. -/
def textureQuadsSpec : ChangeSpec := { name := "textureQuads", fn := fun _ => fun
  | [d1, d2] => { results := [.lit (.bool true)], args := [d1, d2] }
  | _ => none }
def textureQuadsRow : OpenClaim := { program := "ytlkaniojnaaocaagreat", sum := "2031f0ff0129e6819d8fab78abcd77d4eb658eedc74aa8cd5f6d481837216922", func := "gambrel/gambrellaw41.TextureQuads", spec := "textureQuads", unfollowed := true, recurses := true, plainKeys := false, apart := false }
def TextureQuadsSaid : Prop := textureQuadsRow.holds Tryz.pinned (OpenSpec.ofChange textureQuadsSpec)

/-- ITS FALSE NEIGHBOUR: 'it returns false'. Refute it at one input. -/
def textureQuadsWrong : ChangeSpec := { name := "textureQuads", fn := fun _ => fun
  | [d1, d2] => { results := [.lit (.bool false)], args := [d1, d2] }
  | _ => none }
def TextureQuadsWrongFalsely : Prop := textureQuadsRow.holds Tryz.pinned (OpenSpec.ofChange textureQuadsWrong)

/-- 'gambrellaw41.TextureOnce': WHATEVER THE INPUT: true; the input reads as it did. -/
def textureOnceSpec : ChangeSpec := { name := "textureOnce", fn := fun _ => fun
  | [d1, d2] => { results := [.lit (.bool true)], args := [d1, d2] }
  | _ => none }
def textureOnceRow : OpenClaim := { program := "ytlkaniojnaaocaagreat", sum := "2031f0ff0129e6819d8fab78abcd77d4eb658eedc74aa8cd5f6d481837216922", func := "gambrel/gambrellaw41.TextureOnce", spec := "textureOnce", unfollowed := true, recurses := true, plainKeys := false, apart := false }
def TextureOnceSaid : Prop := textureOnceRow.holds Tryz.pinned (OpenSpec.ofChange textureOnceSpec)

/-- ITS FALSE NEIGHBOUR: 'it returns false'. Refute it at one input. -/
def textureOnceWrong : ChangeSpec := { name := "textureOnce", fn := fun _ => fun
  | [d1, d2] => { results := [.lit (.bool false)], args := [d1, d2] }
  | _ => none }
def TextureOnceWrongFalsely : Prop := textureOnceRow.holds Tryz.pinned (OpenSpec.ofChange textureOnceWrong)

/- THE SECOND FORM. 'bulk': how many values and letters a reading holds, each counted each time it is reached (what is shared counts as often as it is met; a slice's spare places count too). A statement '..UptoSaid' is the law's where the arguments, and the package variables that the reading takes, are together of bulk at most 1048576: NARROWER than '..Said'. Prove '..Said' where nothing that the law and all that it calls make is longer than what came in: it says more and counts as full. Else prove '..UptoSaid'. A law counts once. -/
mutual
def uptoBulk {H : Type} : DataW H → Nat
  | .lit (.string bytes) => bytes.length + 1
  | .lit _ => 1
  | .nil => 1
  | .ptr d => uptoBulk d + 1
  | .slice elems spare => uptoBulkAll elems + uptoBulkAll spare + 1
  | .agg parts => uptoBulkAll parts + 1
  | .iface _ d => uptoBulk d + 1
  | .map entries => uptoBulkEntries entries + 1
  | .held _ => 1
def uptoBulkAll {H : Type} : List (DataW H) → Nat
  | [] => 0
  | d :: r => uptoBulk d + uptoBulkAll r
def uptoBulkEntries {H : Type} : List (Lit × DataW H) → Nat
  | [] => 0
  | x :: r => uptoBulkEntry x + uptoBulkEntries r
def uptoBulkEntry {H : Type} : Lit × DataW H → Nat
  | (.string bytes, d) => bytes.length + uptoBulk d + 1
  | (_, d) => uptoBulk d + 1
 end
def uptoSmall : (H : Type) → List (DataW H) → Bool := fun _ ds => decide (uptoBulkAll ds ≤ 1048576)
def OpenSpec.upto (s : _root_.Go.ChangeSpec) : _root_.Go.OpenSpec := { _root_.Go.OpenSpec.ofChange s with cond := some uptoSmall }

/-- 'gambrellaw41.TextureFaces', WHERE WHAT IT READS IS OF BULK AT MOST 1048576: true; the input reads as it did. -/
def textureFacesUptoRow : OpenClaim := { program := "ytlkaniojnaaocaagreat", sum := "2031f0ff0129e6819d8fab78abcd77d4eb658eedc74aa8cd5f6d481837216922", func := "gambrel/gambrellaw41.TextureFaces", spec := "textureFaces", unfollowed := true, recurses := true, plainKeys := false, apart := false, narrowed := true }
def TextureFacesUptoSaid : Prop := textureFacesUptoRow.holds Tryz.pinned (OpenSpec.upto textureFacesSpec)

/-- 'gambrellaw41.TextureNames', WHERE WHAT IT READS IS OF BULK AT MOST 1048576: true; the input reads as it did. -/
def textureNamesUptoRow : OpenClaim := { program := "ytlkaniojnaaocaagreat", sum := "2031f0ff0129e6819d8fab78abcd77d4eb658eedc74aa8cd5f6d481837216922", func := "gambrel/gambrellaw41.TextureNames", spec := "textureNames", unfollowed := true, recurses := true, plainKeys := false, apart := false, narrowed := true }
def TextureNamesUptoSaid : Prop := textureNamesUptoRow.holds Tryz.pinned (OpenSpec.upto textureNamesSpec)

/-- 'gambrellaw41.TextureJoints', WHERE WHAT IT READS IS OF BULK AT MOST 1048576: true; the input reads as it did. -/
def textureJointsUptoRow : OpenClaim := { program := "ytlkaniojnaaocaagreat", sum := "2031f0ff0129e6819d8fab78abcd77d4eb658eedc74aa8cd5f6d481837216922", func := "gambrel/gambrellaw41.TextureJoints", spec := "textureJoints", unfollowed := true, recurses := true, plainKeys := false, apart := false, narrowed := true }
def TextureJointsUptoSaid : Prop := textureJointsUptoRow.holds Tryz.pinned (OpenSpec.upto textureJointsSpec)

/-- 'gambrellaw41.TextureQuads', WHERE WHAT IT READS IS OF BULK AT MOST 1048576: true; the input reads as it did. -/
def textureQuadsUptoRow : OpenClaim := { program := "ytlkaniojnaaocaagreat", sum := "2031f0ff0129e6819d8fab78abcd77d4eb658eedc74aa8cd5f6d481837216922", func := "gambrel/gambrellaw41.TextureQuads", spec := "textureQuads", unfollowed := true, recurses := true, plainKeys := false, apart := false, narrowed := true }
def TextureQuadsUptoSaid : Prop := textureQuadsUptoRow.holds Tryz.pinned (OpenSpec.upto textureQuadsSpec)

/-- 'gambrellaw41.TextureOnce', WHERE WHAT IT READS IS OF BULK AT MOST 1048576: true; the input reads as it did. -/
def textureOnceUptoRow : OpenClaim := { program := "ytlkaniojnaaocaagreat", sum := "2031f0ff0129e6819d8fab78abcd77d4eb658eedc74aa8cd5f6d481837216922", func := "gambrel/gambrellaw41.TextureOnce", spec := "textureOnce", unfollowed := true, recurses := true, plainKeys := false, apart := false, narrowed := true }
def TextureOnceUptoSaid : Prop := textureOnceUptoRow.holds Tryz.pinned (OpenSpec.upto textureOnceSpec)

end Rows
end Go.Proofs.YtlkaniojnaaocaaGreat
