/- BlockBeside, the given statement: for any two regions of at most 16 rectangles, being along each other is the same both ways, and two regions without a common point have boundaries that are together longer than that of their union by twice this number. No condition. -/
import Derived.Test.YtmnhlcbmoibahaaGreatLawBBesideK
import Derived.Test.YtmnhlcbmoibahaaGreatPk13

namespace Go.Proofs.YtmnhlcbmoibahaaGreat
open Go.ChangeShapes Go.WideShapes Go.ChangeAt Go.RowKit Go.Joins Go.Deep
set_option linter.unusedVariables false
set_option linter.unusedSimpArgs false

set_option maxRecDepth 100000 in
theorem bbeside_lifted (os : Os) (started : os.Started) (H : Type) (enc : TypeId × Value → H) :
    ReturnsInHanded {} Tryz.checked os 4 .any (Rows.blockBesideSpec.pre6 enc Tryz.prog Tryz.f4 Rows.blockBesideRow.domain false) (Rows.blockBesideSpec.post enc Tryz.prog Tryz.f4 false true false false) := by
  refine returnsInHanded_of_change (C := Tryz.checked) own started (by kernel_rfl) Tryz.func4
    (ChangeSpec.witness6 (enc := enc) (C := Tryz.checked) false ⟨#[], #[.slice none 0 0, .slice none 0 0], []⟩ 8 (by kernel_rfl) (by kernel_rfl) (by kernel_rfl) (by kernel_rfl)) ?_
  intro W base args ds gs before hval0 hW _ _
  have hval : ∀ (j : Nat) t v, Tryz.f4.params[j]? = some t → args[j]? = some v → Value.okWide Tryz.prog W .any base t v := hval0
  have hW' := hW
  obtain ⟨p, q, hA0, hV, rfl, _, _⟩ := hW
  have hA : DataW.TrodAll enc Tryz.prog W 0 (fun _ => true) true Tryz.f4.params.toList args.toList ds p := hA0
  rw [Tryz.params4] at hA hval
  obtain ⟨v0, v1, d0, d1, p0, p1, rfl, rfl, rfl, h0, h1⟩ := trodAll_two hA
  obtain ⟨rfl, rfl⟩ := trodVars_none hV
  obtain ⟨l0, r0, n0⟩ := trod_rects Tryz.underlying27 Tryz.underlying65 (by kernel_rfl) (rect_fields) (by kernel_rfl) rfl (hval 0 27 v0 rfl rfl) h0
  obtain ⟨l1, r1, n1⟩ := trod_rects Tryz.underlying27 Tryz.underlying65 (by kernel_rfl) (rect_fields) (by kernel_rfl) rfl (hval 1 27 v1 rfl rfl) h1
  refine (beside_walk r0 r1  n0 n1    ).mono fun e W' ⟨he, hb⟩ => ?_
  subst he
  exact ⟨_, rfl, law_post laidOut (by kernel_rfl) (by kernel_rfl) Tryz.underlying4 rfl hW' rfl rfl rfl hb⟩

theorem bbeside_holds : Rows.BlockBesideSaid :=
  OpenClaim.holds_of_wide 4 Tryz.f4 rfl rfl rfl rfl rfl rfl rfl ⟨rfl, rfl, rfl, rfl, rfl⟩ rfl rfl rfl rfl rfl (by kernel_rfl) Tryz.func4 (by kernel_rfl)
    (of_decide_eq_true (by kernel_rfl)) (by unfold Func.isWrapper; rw [if_neg (of_decide_eq_false (by kernel_rfl))]; exact ⟨rfl, rfl⟩)
    (fun os started H enc _ => bbeside_lifted os started H enc)
#print axioms bbeside_holds
end Go.Proofs.YtmnhlcbmoibahaaGreat
