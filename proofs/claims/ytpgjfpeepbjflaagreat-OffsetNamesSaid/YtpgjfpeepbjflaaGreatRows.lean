/-
  No cell of these rows narrows 'for every input' (looked for: loops, veiled, ifaces, maps, wideKeys, modest, calm, conditions, laid).
  DERIVED. THE GIVEN ROWS OF THIS SEAT. 8 by the template 'for every input the law returns true; each argument reads behind the call as it read before'; 0 by the template 'total and deterministic' (their statements: YtpgjfpeepbjflaaGreatTotals.lean).
  GIVEN WITH THE SEED: the statements are not yours to turn. If you find one false, say at which input.
  Laid BY PROGRAM, IN A SANDBOX (cutbox-rows.mjs): the forced cells as the released guide's own fill.sh prints them over the translation edad46826fe339d5… (all of the seat's roots in one cut). By AI agents, Wed Nov 11 2026. No macro, syntax, notation, axiom, sorry.
-/
import Derived.Test.YtpgjfpeepbjflaaGreatChecked
import GoSem.Claim
import GoSem.ClaimJoined
import GoSem.ClaimMapViews
import Derived.JoinedTies
import Derived.KernelRfl
namespace Go.Proofs.YtpgjfpeepbjflaaGreat
/- THE CELL 'sum', in the pinned program and in every row, IS THE sha256 OF THE DUMP (.gsa) THAT YtpgjfpeepbjflaaGreatProg.lean LOADS. Nothing in Lean hashes anything: it is a label: what it is worth is what the hold of that sum in a sandbox is worth. -/
noncomputable def Tryz.pinned : Pinned := { name := "ytpgjfpeepbjflaagreat", sum := "edad46826fe339d5c1971259887a59323dd7852868c4b098df0df7e0094c91ff", checked := Tryz.checked }
namespace Rows
def none {H : Type} : Left H := { results := [], args := [] }

/-- 'gambrellaw14.OffsetWorks': WHATEVER THE INPUT: true; the input reads as it did. -/
def offsetWorksSpec : ChangeSpec := { name := "offsetWorks", fn := fun _ => fun
  | [d1, d2, d3, d4] => { results := [.lit (.bool true)], args := [d1, d2, d3, d4] }
  | _ => none }
def offsetWorksRow : OpenClaim := { program := "ytpgjfpeepbjflaagreat", sum := "edad46826fe339d5c1971259887a59323dd7852868c4b098df0df7e0094c91ff", func := "gambrel/gambrellaw14.OffsetWorks", spec := "offsetWorks", unfollowed := true, recurses := true, apart := false }
def OffsetWorksSaid : Prop := offsetWorksRow.holds Tryz.pinned (OpenSpec.ofChange offsetWorksSpec)

/-- ITS FALSE NEIGHBOUR: 'it returns false'. Refute it at one input. -/
def offsetWorksWrong : ChangeSpec := { name := "offsetWorks", fn := fun _ => fun
  | [d1, d2, d3, d4] => { results := [.lit (.bool false)], args := [d1, d2, d3, d4] }
  | _ => none }
def OffsetWorksWrongFalsely : Prop := offsetWorksRow.holds Tryz.pinned (OpenSpec.ofChange offsetWorksWrong)

/-- 'gambrellaw14.OffsetSums': WHATEVER THE INPUT: true; the input reads as it did. -/
def offsetSumsSpec : ChangeSpec := { name := "offsetSums", fn := fun _ => fun
  | [d1, d2, d3] => { results := [.lit (.bool true)], args := [d1, d2, d3] }
  | _ => none }
def offsetSumsRow : OpenClaim := { program := "ytpgjfpeepbjflaagreat", sum := "edad46826fe339d5c1971259887a59323dd7852868c4b098df0df7e0094c91ff", func := "gambrel/gambrellaw14.OffsetSums", spec := "offsetSums", unfollowed := true, recurses := true, apart := false }
def OffsetSumsSaid : Prop := offsetSumsRow.holds Tryz.pinned (OpenSpec.ofChange offsetSumsSpec)

/-- ITS FALSE NEIGHBOUR: 'it returns false'. Refute it at one input. -/
def offsetSumsWrong : ChangeSpec := { name := "offsetSums", fn := fun _ => fun
  | [d1, d2, d3] => { results := [.lit (.bool false)], args := [d1, d2, d3] }
  | _ => none }
def OffsetSumsWrongFalsely : Prop := offsetSumsRow.holds Tryz.pinned (OpenSpec.ofChange offsetSumsWrong)

/-- 'gambrellaw14.OffsetDepths': WHATEVER THE INPUT: true; the input reads as it did. -/
def offsetDepthsSpec : ChangeSpec := { name := "offsetDepths", fn := fun _ => fun
  | [d1, d2, d3, d4, d5, d6] => { results := [.lit (.bool true)], args := [d1, d2, d3, d4, d5, d6] }
  | _ => none }
def offsetDepthsRow : OpenClaim := { program := "ytpgjfpeepbjflaagreat", sum := "edad46826fe339d5c1971259887a59323dd7852868c4b098df0df7e0094c91ff", func := "gambrel/gambrellaw14.OffsetDepths", spec := "offsetDepths", unfollowed := true, recurses := true, apart := false }
def OffsetDepthsSaid : Prop := offsetDepthsRow.holds Tryz.pinned (OpenSpec.ofChange offsetDepthsSpec)

/-- ITS FALSE NEIGHBOUR: 'it returns false'. Refute it at one input. -/
def offsetDepthsWrong : ChangeSpec := { name := "offsetDepths", fn := fun _ => fun
  | [d1, d2, d3, d4, d5, d6] => { results := [.lit (.bool false)], args := [d1, d2, d3, d4, d5, d6] }
  | _ => none }
def OffsetDepthsWrongFalsely : Prop := offsetDepthsRow.holds Tryz.pinned (OpenSpec.ofChange offsetDepthsWrong)

/-- 'gambrellaw14.OffsetTwice': WHATEVER THE INPUT: true; the input reads as it did. -/
def offsetTwiceSpec : ChangeSpec := { name := "offsetTwice", fn := fun _ => fun
  | [d1, d2] => { results := [.lit (.bool true)], args := [d1, d2] }
  | _ => none }
def offsetTwiceRow : OpenClaim := { program := "ytpgjfpeepbjflaagreat", sum := "edad46826fe339d5c1971259887a59323dd7852868c4b098df0df7e0094c91ff", func := "gambrel/gambrellaw14.OffsetTwice", spec := "offsetTwice", unfollowed := true, recurses := true, apart := false }
def OffsetTwiceSaid : Prop := offsetTwiceRow.holds Tryz.pinned (OpenSpec.ofChange offsetTwiceSpec)

/-- ITS FALSE NEIGHBOUR: 'it returns false'. Refute it at one input. -/
def offsetTwiceWrong : ChangeSpec := { name := "offsetTwice", fn := fun _ => fun
  | [d1, d2] => { results := [.lit (.bool false)], args := [d1, d2] }
  | _ => none }
def OffsetTwiceWrongFalsely : Prop := offsetTwiceRow.holds Tryz.pinned (OpenSpec.ofChange offsetTwiceWrong)

/-- 'gambrellaw14.OffsetPair': WHATEVER THE INPUT: true; the input reads as it did. -/
def offsetPairSpec : ChangeSpec := { name := "offsetPair", fn := fun _ => fun
  | [d1, d2, d3] => { results := [.lit (.bool true)], args := [d1, d2, d3] }
  | _ => none }
def offsetPairRow : OpenClaim := { program := "ytpgjfpeepbjflaagreat", sum := "edad46826fe339d5c1971259887a59323dd7852868c4b098df0df7e0094c91ff", func := "gambrel/gambrellaw14.OffsetPair", spec := "offsetPair", unfollowed := true, recurses := true, apart := false }
def OffsetPairSaid : Prop := offsetPairRow.holds Tryz.pinned (OpenSpec.ofChange offsetPairSpec)

/-- ITS FALSE NEIGHBOUR: 'it returns false'. Refute it at one input. -/
def offsetPairWrong : ChangeSpec := { name := "offsetPair", fn := fun _ => fun
  | [d1, d2, d3] => { results := [.lit (.bool false)], args := [d1, d2, d3] }
  | _ => none }
def OffsetPairWrongFalsely : Prop := offsetPairRow.holds Tryz.pinned (OpenSpec.ofChange offsetPairWrong)

/-- 'gambrellaw14.OffsetOpens': WHATEVER THE INPUT: true; the input reads as it did. -/
def offsetOpensSpec : ChangeSpec := { name := "offsetOpens", fn := fun _ => fun
  | [d1, d2] => { results := [.lit (.bool true)], args := [d1, d2] }
  | _ => none }
def offsetOpensRow : OpenClaim := { program := "ytpgjfpeepbjflaagreat", sum := "edad46826fe339d5c1971259887a59323dd7852868c4b098df0df7e0094c91ff", func := "gambrel/gambrellaw14.OffsetOpens", spec := "offsetOpens", unfollowed := true, recurses := true, apart := false }
def OffsetOpensSaid : Prop := offsetOpensRow.holds Tryz.pinned (OpenSpec.ofChange offsetOpensSpec)

/-- ITS FALSE NEIGHBOUR: 'it returns false'. Refute it at one input. -/
def offsetOpensWrong : ChangeSpec := { name := "offsetOpens", fn := fun _ => fun
  | [d1, d2] => { results := [.lit (.bool false)], args := [d1, d2] }
  | _ => none }
def OffsetOpensWrongFalsely : Prop := offsetOpensRow.holds Tryz.pinned (OpenSpec.ofChange offsetOpensWrong)

/-- 'gambrellaw14.OffsetNames': WHATEVER THE INPUT: true; the input reads as it did. -/
def offsetNamesSpec : ChangeSpec := { name := "offsetNames", fn := fun _ => fun
  | [] => { results := [.lit (.bool true)], args := [] }
  | _ => none }
def offsetNamesRow : OpenClaim := { program := "ytpgjfpeepbjflaagreat", sum := "edad46826fe339d5c1971259887a59323dd7852868c4b098df0df7e0094c91ff", func := "gambrel/gambrellaw14.OffsetNames", spec := "offsetNames", unfollowed := true, recurses := true, apart := false }
def OffsetNamesSaid : Prop := offsetNamesRow.holds Tryz.pinned (OpenSpec.ofChange offsetNamesSpec)

/-- ITS FALSE NEIGHBOUR: 'it returns false'. Refute it at one input. -/
def offsetNamesWrong : ChangeSpec := { name := "offsetNames", fn := fun _ => fun
  | [] => { results := [.lit (.bool false)], args := [] }
  | _ => none }
def OffsetNamesWrongFalsely : Prop := offsetNamesRow.holds Tryz.pinned (OpenSpec.ofChange offsetNamesWrong)

/-- 'gambrellaw14.OffsetBands': WHATEVER THE INPUT: true; the input reads as it did. -/
def offsetBandsSpec : ChangeSpec := { name := "offsetBands", fn := fun _ => fun
  | [d1, d2] => { results := [.lit (.bool true)], args := [d1, d2] }
  | _ => none }
def offsetBandsRow : OpenClaim := { program := "ytpgjfpeepbjflaagreat", sum := "edad46826fe339d5c1971259887a59323dd7852868c4b098df0df7e0094c91ff", func := "gambrel/gambrellaw14.OffsetBands", spec := "offsetBands", unfollowed := true, recurses := true, apart := false }
def OffsetBandsSaid : Prop := offsetBandsRow.holds Tryz.pinned (OpenSpec.ofChange offsetBandsSpec)

/-- ITS FALSE NEIGHBOUR: 'it returns false'. Refute it at one input. -/
def offsetBandsWrong : ChangeSpec := { name := "offsetBands", fn := fun _ => fun
  | [d1, d2] => { results := [.lit (.bool false)], args := [d1, d2] }
  | _ => none }
def OffsetBandsWrongFalsely : Prop := offsetBandsRow.holds Tryz.pinned (OpenSpec.ofChange offsetBandsWrong)

/- THE SECOND FORM. 'bulk': how many values and letters a reading holds, each counted each time it is reached (what is shared counts as often as it is met; a slice's spare places count too). A statement '..UptoSaid' is the law's where the arguments, and the package variables that the reading takes, are together of bulk at most 1048576: NARROWER than '..Said'. Prove '..Said' where nothing that the law and all that it calls make is longer than what came in: it says more and counts as full. Else prove '..UptoSaid'. A law counts once. -/
mutual
def uptoBulk {H : Type} : DataW H → Nat
  | .lit (.string bytes) => bytes.length + 1
  | .lit _ => 1
  | .nil => 1
  | .ptr d => uptoBulk d + 1
  | .slice elems spare => uptoBulkAll elems + uptoBulkAll spare + 1
  | .agg parts => uptoBulkAll parts + 1
  | .iface _ d => uptoBulk d + 1
  | .map entries => uptoBulkEntries entries + 1
  | .held _ => 1
def uptoBulkAll {H : Type} : List (DataW H) → Nat
  | [] => 0
  | d :: r => uptoBulk d + uptoBulkAll r
def uptoBulkEntries {H : Type} : List (Lit × DataW H) → Nat
  | [] => 0
  | x :: r => uptoBulkEntry x + uptoBulkEntries r
def uptoBulkEntry {H : Type} : Lit × DataW H → Nat
  | (.string bytes, d) => bytes.length + uptoBulk d + 1
  | (_, d) => uptoBulk d + 1
 end
def uptoSmall : (H : Type) → List (DataW H) → Bool := fun _ ds => decide (uptoBulkAll ds ≤ 1048576)
def OpenSpec.upto (s : _root_.Go.ChangeSpec) : _root_.Go.OpenSpec := { _root_.Go.OpenSpec.ofChange s with cond := some uptoSmall }

/-- 'gambrellaw14.OffsetWorks', WHERE WHAT IT READS IS OF BULK AT MOST 1048576: true; the input reads as it did. -/
def offsetWorksUptoRow : OpenClaim := { program := "ytpgjfpeepbjflaagreat", sum := "edad46826fe339d5c1971259887a59323dd7852868c4b098df0df7e0094c91ff", func := "gambrel/gambrellaw14.OffsetWorks", spec := "offsetWorks", unfollowed := true, recurses := true, apart := false, narrowed := true }
def OffsetWorksUptoSaid : Prop := offsetWorksUptoRow.holds Tryz.pinned (OpenSpec.upto offsetWorksSpec)

/-- 'gambrellaw14.OffsetSums', WHERE WHAT IT READS IS OF BULK AT MOST 1048576: true; the input reads as it did. -/
def offsetSumsUptoRow : OpenClaim := { program := "ytpgjfpeepbjflaagreat", sum := "edad46826fe339d5c1971259887a59323dd7852868c4b098df0df7e0094c91ff", func := "gambrel/gambrellaw14.OffsetSums", spec := "offsetSums", unfollowed := true, recurses := true, apart := false, narrowed := true }
def OffsetSumsUptoSaid : Prop := offsetSumsUptoRow.holds Tryz.pinned (OpenSpec.upto offsetSumsSpec)

/-- 'gambrellaw14.OffsetDepths', WHERE WHAT IT READS IS OF BULK AT MOST 1048576: true; the input reads as it did. -/
def offsetDepthsUptoRow : OpenClaim := { program := "ytpgjfpeepbjflaagreat", sum := "edad46826fe339d5c1971259887a59323dd7852868c4b098df0df7e0094c91ff", func := "gambrel/gambrellaw14.OffsetDepths", spec := "offsetDepths", unfollowed := true, recurses := true, apart := false, narrowed := true }
def OffsetDepthsUptoSaid : Prop := offsetDepthsUptoRow.holds Tryz.pinned (OpenSpec.upto offsetDepthsSpec)

/-- 'gambrellaw14.OffsetTwice', WHERE WHAT IT READS IS OF BULK AT MOST 1048576: true; the input reads as it did. -/
def offsetTwiceUptoRow : OpenClaim := { program := "ytpgjfpeepbjflaagreat", sum := "edad46826fe339d5c1971259887a59323dd7852868c4b098df0df7e0094c91ff", func := "gambrel/gambrellaw14.OffsetTwice", spec := "offsetTwice", unfollowed := true, recurses := true, apart := false, narrowed := true }
def OffsetTwiceUptoSaid : Prop := offsetTwiceUptoRow.holds Tryz.pinned (OpenSpec.upto offsetTwiceSpec)

/-- 'gambrellaw14.OffsetPair', WHERE WHAT IT READS IS OF BULK AT MOST 1048576: true; the input reads as it did. -/
def offsetPairUptoRow : OpenClaim := { program := "ytpgjfpeepbjflaagreat", sum := "edad46826fe339d5c1971259887a59323dd7852868c4b098df0df7e0094c91ff", func := "gambrel/gambrellaw14.OffsetPair", spec := "offsetPair", unfollowed := true, recurses := true, apart := false, narrowed := true }
def OffsetPairUptoSaid : Prop := offsetPairUptoRow.holds Tryz.pinned (OpenSpec.upto offsetPairSpec)

/-- 'gambrellaw14.OffsetOpens', WHERE WHAT IT READS IS OF BULK AT MOST 1048576: true; the input reads as it did. -/
def offsetOpensUptoRow : OpenClaim := { program := "ytpgjfpeepbjflaagreat", sum := "edad46826fe339d5c1971259887a59323dd7852868c4b098df0df7e0094c91ff", func := "gambrel/gambrellaw14.OffsetOpens", spec := "offsetOpens", unfollowed := true, recurses := true, apart := false, narrowed := true }
def OffsetOpensUptoSaid : Prop := offsetOpensUptoRow.holds Tryz.pinned (OpenSpec.upto offsetOpensSpec)

/-- 'gambrellaw14.OffsetNames', WHERE WHAT IT READS IS OF BULK AT MOST 1048576: true; the input reads as it did. -/
def offsetNamesUptoRow : OpenClaim := { program := "ytpgjfpeepbjflaagreat", sum := "edad46826fe339d5c1971259887a59323dd7852868c4b098df0df7e0094c91ff", func := "gambrel/gambrellaw14.OffsetNames", spec := "offsetNames", unfollowed := true, recurses := true, apart := false, narrowed := true }
def OffsetNamesUptoSaid : Prop := offsetNamesUptoRow.holds Tryz.pinned (OpenSpec.upto offsetNamesSpec)

/-- 'gambrellaw14.OffsetBands', WHERE WHAT IT READS IS OF BULK AT MOST 1048576: true; the input reads as it did. -/
def offsetBandsUptoRow : OpenClaim := { program := "ytpgjfpeepbjflaagreat", sum := "edad46826fe339d5c1971259887a59323dd7852868c4b098df0df7e0094c91ff", func := "gambrel/gambrellaw14.OffsetBands", spec := "offsetBands", unfollowed := true, recurses := true, apart := false, narrowed := true }
def OffsetBandsUptoSaid : Prop := offsetBandsUptoRow.holds Tryz.pinned (OpenSpec.upto offsetBandsSpec)

end Rows
end Go.Proofs.YtpgjfpeepbjflaaGreat
