/- BlockAlongs, the given statement: for any two regions of at most 16 rectangles, or too many for all layers, Along returns the reference's number and error. No condition. -/
import Derived.Test.YteojjihgmmecpaaLawAlongsK
import Derived.Test.YteojjihgmmecpaaPk6
import Derived.Test.YteojjihgmmecpaaPk7
namespace Go.Proofs.Yteojjihgmmecpaa
open Go.ChangeShapes Go.WideShapes Go.ChangeAt Go.RowKit Go.Joins Go.Deep
set_option linter.unusedVariables false
set_option linter.unusedSimpArgs false

set_option maxRecDepth 100000 in
theorem balongs_lifted (os : Os) (started : os.Started) (H : Type) (enc : TypeId × Value → H) :
    ReturnsInHanded {} Try.checked os 3 .any (Rows.blockAlongsSpec.pre6 enc Try.prog Try.f3 Rows.blockAlongsRow.domain false) (Rows.blockAlongsSpec.post enc Try.prog Try.f3 false true false false) := by
  refine returnsInHanded_of_change (C := Try.checked) own started (by kernel_rfl) Try.func3
    (ChangeSpec.witness6 (enc := enc) (C := Try.checked) false ⟨#[], #[.slice none 0 0, .slice none 0 0], []⟩ 8 (by kernel_rfl) (by kernel_rfl) (by kernel_rfl) (by kernel_rfl)) ?_
  intro W base args ds gs before hval0 hW _ _
  have hval : ∀ (j : Nat) t v, Try.f3.params[j]? = some t → args[j]? = some v → Value.okWide Try.prog W .any base t v := hval0
  have hW' := hW
  obtain ⟨p, q, hA0, hV, rfl, _, _⟩ := hW
  have hA : DataW.TrodAll enc Try.prog W 0 (fun _ => true) true Try.f3.params.toList args.toList ds p := hA0
  rw [Try.params3] at hA hval
  obtain ⟨v0, v1, d0, d1, p0, p1, rfl, rfl, rfl, h0, h1⟩ := trodAll_two hA
  obtain ⟨rfl, rfl⟩ := trodVars_none hV
  obtain ⟨l0, r0, n0⟩ := trod_rects Try.underlying23 Try.underlying33 (by kernel_rfl) (rect_fields) (by kernel_rfl) rfl (hval 0 23 v0 rfl rfl) h0
  obtain ⟨l1, r1, n1⟩ := trod_rects Try.underlying23 Try.underlying33 (by kernel_rfl) (rect_fields) (by kernel_rfl) rfl (hval 1 23 v1 rfl rfl) h1
  refine (alongs_walk r0 r1  n0 n1    ).mono fun e W' ⟨he, hb⟩ => ?_
  subst he
  exact ⟨_, rfl, law_post laidOut (by kernel_rfl) (by kernel_rfl) Try.underlying4 rfl hW' rfl rfl rfl hb⟩

theorem balongs_holds : Rows.BlockAlongsSaid :=
  OpenClaim.holds_of_wide 3 Try.f3 rfl rfl rfl rfl rfl rfl rfl ⟨rfl, rfl, rfl, rfl, rfl⟩ rfl rfl rfl rfl rfl (by kernel_rfl) Try.func3 (by kernel_rfl)
    (of_decide_eq_true (by kernel_rfl)) (by unfold Func.isWrapper; rw [if_neg (of_decide_eq_false (by kernel_rfl))]; exact ⟨rfl, rfl⟩)
    (fun os started H enc _ => balongs_lifted os started H enc)
#print axioms balongs_holds
end Go.Proofs.Yteojjihgmmecpaa
