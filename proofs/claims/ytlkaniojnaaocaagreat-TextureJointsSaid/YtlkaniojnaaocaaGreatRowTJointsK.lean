/- TextureJoints, the given statement: the pieces of a part of a region are parts of the pieces of the region on the same bricks. No condition. -/
import Derived.Test.YtlkaniojnaaocaaGreatLawTJointsK
import Derived.Test.YtlkaniojnaaocaaGreatPk10

namespace Go.Proofs.YtlkaniojnaaocaaGreat
open Go.ChangeShapes Go.WideShapes Go.ChangeAt Go.RowKit Go.Joins Go.Deep
set_option linter.unusedVariables false
set_option linter.unusedSimpArgs false

set_option maxRecDepth 100000 in
theorem tjoints_lifted (os : Os) (started : os.Started) (H : Type) (enc : TypeId × Value → H) :
    ReturnsInHanded {} Tryz.checked os 5 .any (Rows.textureJointsSpec.pre6 enc Tryz.prog Tryz.f5 Rows.textureJointsRow.domain false) (Rows.textureJointsSpec.post enc Tryz.prog Tryz.f5 false true false false) := by
  refine returnsInHanded_of_change (C := Tryz.checked) own started (by kernel_rfl) Tryz.func5
    (ChangeSpec.witness6 (enc := enc) (C := Tryz.checked) false ⟨#[], #[.slice none 0 0, .slice none 0 0, .agg #[.int .i64 0, .int .i64 0, .int .i64 0]], []⟩ 8 (by kernel_rfl) (by kernel_rfl) (by kernel_rfl) (by kernel_rfl)) ?_
  intro W base args ds gs before hval0 hW _ _
  have hval : ∀ (j : Nat) t v, Tryz.f5.params[j]? = some t → args[j]? = some v → Value.okWide Tryz.prog W .any base t v := hval0
  have hW' := hW
  obtain ⟨p, q, hA0, hV, rfl, _, _⟩ := hW
  have hA : DataW.TrodAll enc Tryz.prog W 0 (fun _ => true) true Tryz.f5.params.toList args.toList ds p := hA0
  rw [Tryz.params5] at hA hval
  obtain ⟨v0, v1, v2, d0, d1, d2, p0, p1, p2, rfl, rfl, rfl, h0, h1, h2⟩ := trodAll_three hA
  obtain ⟨rfl, rfl⟩ := trodVars_none hV
  obtain ⟨l0, r0, n0⟩ := trod_rects Tryz.underlying46 Tryz.underlying42 (by kernel_rfl) (rect_fields) (by kernel_rfl) rfl (hval 0 46 v0 rfl rfl) h0
  obtain ⟨l1, r1, n1⟩ := trod_rects Tryz.underlying46 Tryz.underlying42 (by kernel_rfl) (rect_fields) (by kernel_rfl) rfl (hval 1 46 v1 rfl rfl) h1
  obtain ⟨ta2, tb2, tc2, rfl⟩ := open_pat (hval 2 27 v2 rfl rfl) h2
  refine (joints_walk r0 r1  n0 n1  ta2 tb2 tc2  ).mono fun e W' ⟨he, hb⟩ => ?_
  subst he
  exact ⟨_, rfl, law_post laidOut (by kernel_rfl) (by kernel_rfl) Tryz.underlying4 rfl hW' rfl rfl rfl hb⟩

theorem tjoints_holds : Rows.TextureJointsSaid :=
  OpenClaim.holds_of_wide 5 Tryz.f5 rfl rfl rfl rfl rfl rfl rfl ⟨rfl, rfl, rfl, rfl, rfl⟩ rfl rfl rfl rfl rfl (by kernel_rfl) Tryz.func5 (by kernel_rfl)
    (of_decide_eq_true (by kernel_rfl)) (by unfold Func.isWrapper; rw [if_neg (of_decide_eq_false (by kernel_rfl))]; exact ⟨rfl, rfl⟩)
    (fun os started H enc _ => tjoints_lifted os started H enc)
#print axioms tjoints_holds
end Go.Proofs.YtlkaniojnaaocaaGreat
