/- Outlines: the reference's trace: its zero has 78,401 cells, all but the first of them false. -/
import Derived.Test.YtdfpbhlnlkjjlaaGreatXtoK
namespace Go.Proofs.YtdfpbhlnlkjjlaaGreat
open Go.RowKit
set_option linter.unusedVariables false
set_option linter.unusedSimpArgs false
def isFv : Value → Bool
 | .bool false => true
 | _ => false
noncomputable def allF (l : List Value) : Bool := List.rec (motive := fun _ => Bool) true (fun a _ ih => (isFv a).and ih) l
theorem zf_trace : allF (Tryz.zeroCells128.toList.drop 1) = true := by kernel_rfl
theorem allF_iff : ∀ l : List Value, allF l = true ↔ ∀ v ∈ l, v = .bool false
 | [] => by simp [allF]
 | a :: l => by
  have ih := allF_iff l
  show ((isFv a).and (allF l)) = true ↔ _
  rw [Bool.and_eq_true, ih]
  have : isFv a = true ↔ a = .bool false := by
   constructor
   ·intro h
    unfold isFv at h
    split at h
    ·rfl
    ·cases h
   ·rintro rfl; rfl
  rw [this]
  simp
theorem zc_trace (k : Nat) (h1 : 1 ≤ k) (h2 : k < 78401) : Tryz.zeroCells128[k]? = some (.bool false) := by
 have hs : Tryz.zeroCells128.toList.length = 78401 := by rw [Array.length_toList]; exact Tryz.zeroCells128_size
 have hk : k < Tryz.zeroCells128.toList.length := by omega
 have e : Tryz.zeroCells128.toList[k]? = some Tryz.zeroCells128.toList[k] := List.getElem?_eq_getElem hk
 have hm : Tryz.zeroCells128.toList[k] ∈ Tryz.zeroCells128.toList.drop 1 := by
  refine List.mem_of_getElem? (i := k - 1) ?_
  rw [List.getElem?_drop, show 1 + (k - 1) = k by omega]
  exact e
 rw [← Array.getElem?_toList, e, (allF_iff _).1 zf_trace _ hm]
end Go.Proofs.YtdfpbhlnlkjjlaaGreat
