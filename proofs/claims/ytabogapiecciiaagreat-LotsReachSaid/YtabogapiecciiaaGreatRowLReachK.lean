/- LotsReach, the given statement: each side in the front of a parcel is at a street. No condition. -/
import Derived.Test.YtabogapiecciiaaGreatLawLReachK
import Derived.Test.YtabogapiecciiaaGreatPk8
namespace Go.Proofs.YtabogapiecciiaaGreat
open Go.ChangeShapes Go.WideShapes Go.ChangeAt Go.RowKit Go.Joins Go.Deep
set_option linter.unusedVariables false
set_option linter.unusedSimpArgs false

set_option maxRecDepth 100000 in
theorem lreach_lifted (os : Os) (started : os.Started) (H : Type) (enc : TypeId × Value → H) :
    ReturnsInHanded {} Tryz.checked os 6 .any (Rows.lotsReachSpec.pre6 enc Tryz.prog Tryz.f6 Rows.lotsReachRow.domain false) (Rows.lotsReachSpec.post enc Tryz.prog Tryz.f6 false true false false) := by
  refine returnsInHanded_of_change (C := Tryz.checked) own started (by kernel_rfl) Tryz.func6
    (ChangeSpec.witness6 (enc := enc) (C := Tryz.checked) false ⟨#[], #[.slice none 0 0, .slice none 0 0, .agg #[.int .i64 0, .int .i64 0, .int .i64 0]], []⟩ 8 (by kernel_rfl) (by kernel_rfl) (by kernel_rfl) (by kernel_rfl)) ?_
  intro W base args ds gs before hval0 hW _ _
  have hval : ∀ (j : Nat) t v, Tryz.f6.params[j]? = some t → args[j]? = some v → Value.okWide Tryz.prog W .any base t v := hval0
  have hW' := hW
  obtain ⟨p, q, hA0, hV, rfl, _, _⟩ := hW
  have hA : DataW.TrodAll enc Tryz.prog W 0 (fun _ => true) true Tryz.f6.params.toList args.toList ds p := hA0
  rw [Tryz.params6] at hA hval
  obtain ⟨v0, v1, v2, d0, d1, d2, p0, p1, p2, rfl, rfl, rfl, h0, h1, h2⟩ := trodAll_three hA
  obtain ⟨rfl, rfl⟩ := trodVars_none hV
  obtain ⟨l0, r0, n0, m0⟩ := trod_regs Tryz.underlying43 Tryz.underlying40 (by kernel_rfl) Tryz.underlying54 (by kernel_rfl) (rect_fields) (by kernel_rfl) rfl (hval 0 43 v0 rfl rfl) h0
  obtain ⟨l1, r1, n1⟩ := trod_rects Tryz.underlying40 Tryz.underlying54 (by kernel_rfl) (rect_fields) (by kernel_rfl) rfl (hval 1 40 v1 rfl rfl) h1
  obtain ⟨l2, rfl⟩ := open_plat (hval 2 24 v2 rfl rfl) h2
  refine (reach36_walk r0 r1 l2 n0 n1 m0  ).mono fun e W' ⟨he, hb⟩ => ?_
  subst he
  exact ⟨_, rfl, law_post laidOut (by kernel_rfl) (by kernel_rfl) Tryz.underlying4 rfl hW' rfl rfl rfl hb⟩

theorem lreach_holds : Rows.LotsReachSaid :=
  OpenClaim.holds_of_wide 6 Tryz.f6 rfl rfl rfl rfl rfl rfl rfl ⟨rfl, rfl, rfl, rfl, rfl⟩ rfl rfl rfl rfl rfl (by kernel_rfl) Tryz.func6 (by kernel_rfl)
    (of_decide_eq_true (by kernel_rfl)) (by unfold Func.isWrapper; rw [if_neg (of_decide_eq_false (by kernel_rfl))]; exact ⟨rfl, rfl⟩)
    (fun os started H enc _ => lreach_lifted os started H enc)
#print axioms lreach_holds
end Go.Proofs.YtabogapiecciiaaGreat
