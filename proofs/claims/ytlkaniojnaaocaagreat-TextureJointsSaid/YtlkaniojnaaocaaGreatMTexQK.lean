/- Plain law: the pieces of a part of a region are parts of the region's pieces. -/
import Derived.Test.YtlkaniojnaaocaaGreatPk10
namespace Go.Proofs.YtlkaniojnaaocaaGreat
set_option linter.unusedVariables false
set_option linter.unusedSimpArgs false

theorem tile_full {W H S : Int} (hp : okPat W H S) {l : List R4} (hc : checkF l = 0) (hE : (tileF W H S l).2 = 0) {k : Ky} (hk : k ∈ keysT W H S l) : ∃ J, (k, J) ∈ (tileF W H S l).1 := by
  unfold tileF at hE ⊢
  rw [if_pos hc, if_pos hp] at hE ⊢
  split
  · rename_i hm
    rw [if_pos hm] at hE
    cases hE
  · exact ⟨_, List.mem_map.2 ⟨k, hk, rfl⟩⟩
theorem tile_nil {W H S : Int} (hp : okPat W H S) : tileF W H S [] = ([], 0) := by
  have hc : checkF [] = 0 := by kernel_rfl
  unfold tileF
  rw [if_pos hc, if_pos hp, keysT_nil, if_neg (by simp)]
  rfl
theorem meet_two {l m : List R4} (hl : checkF l = 0) (hm : checkF m = 0) : joinF hAnd l m = ([], 4) ∨ (joinF hAnd l m = (rjoin hAnd l m, 0) ∧ checkF (rjoin hAnd l m) = 0 ∧ (∀ x y, pmem (rjoin hAnd l m) x y → pmem l x y) ∧ (rjoin hAnd l m).length ≤ 400) := by
  rw [joinF_ok hl hm]
  split
  · exact .inl rfl
  · rename_i h
    refine .inr ⟨rfl, join_check rfl hl hm (by omega), fun x y hx => ?_, by omega⟩
    rw [join_pts rfl hl hm] at hx
    simp only [hAnd, Bool.and_eq_true, decide_eq_true_eq] at hx
    exact hx.1
theorem joint_keys {W H S : Int} (hp : okPat W H S) {l p : List R4} (hl : checkF l = 0) (hw : checkF p = 0) (hs : ∀ x y, pmem p x y → pmem l x y) (hE : (tileF W H S l).2 = 0) : ∀ q ∈ (tileF W H S p).1, ∃ J, (q.1, J) ∈ (tileF W H S l).1 := fun q hq =>
  tile_full hp hl hE (part_keys hp (check_wfs hl) (check_wfs hw) hs (tileF_mem hq).2.2.1)
theorem joint_piece {W H S : Int} (hp : okPat W H S) {l p : List R4} (hl : checkF l = 0) (hw : checkF p = 0) (hs : ∀ x y, pmem p x y → pmem l x y) : ∀ q ∈ (tileF W H S p).1, ∀ s ∈ (tileF W H S l).1, s.1 = q.1 → joinF hAnd s.2 p = (q.2, 0) := fun q hq s hsm e => by
  rw [(tileF_mem hq).2.2.2, (tileF_mem hsm).2.2.2, e]
  exact part_piece hp hl hw hs q.1
end Go.Proofs.YtlkaniojnaaocaaGreat
