/- Texts laid together: TexE, TexF, Gcd, TexG, TexH, TexI, Alive41, RowSet, MLabel, TouchC, PartsB, PartsM, PartsA, LawParts, SlabB, JoinR, JoinU, Alive12, Fit, MAreas, MTexO, Row, Open, OpenT. Lemmas for the statements of this seat; no condition. -/
import Derived.Test.YtjlfdgoijalfaaaGreatPk11
import Derived.Test.YtjlfdgoijalfaaaGreatPk1
import Derived.Laws.StructEq
import Derived.Test.YtjlfdgoijalfaaaGreatPk6
import Derived.Test.YtjlfdgoijalfaaaGreatPk9
import Derived.Test.YtjlfdgoijalfaaaGreatPk7
import Derived.Test.YtjlfdgoijalfaaaGreatPk4
import Derived.Test.YtjlfdgoijalfaaaGreatPk5
import Derived.Maps.RangeWalk
import Derived.Maps.Ext
import Derived.Test.YtjlfdgoijalfaaaGreatPk3
import Derived.Test.YtjlfdgoijalfaaaGreatPk10
import Derived.ProofKit
import Derived.Lib.SmallJoins
import Derived.Deep.Slices
import Derived.Deep.Fields
import Derived.ChangeSame

/- Brick of texture, whole. -/
namespace Go.Proofs.YtjlfdgoijalfaaaGreat
open Go.RowKit
set_option linter.unusedVariables false
set_option linter.unusedSimpArgs false

set_option maxHeartbeats 1000000 in
theorem brk_A (W H S x y : Int) (w : World) (h : ¬ okPat W H S) :
    Calls Tryz.prog 21 #[.agg #[.int .i64 W, .int .i64 H, .int .i64 S], .int .i64 x, .int .i64 y] w fun e w' => e = .returned (.tuple #[.agg #[.int .i64 0, .int .i64 0, .int .i64 0, .int .i64 0], .int .i64 8]) ∧ Below w.heap.size w w' := by
  have hk := fun w => (pat_any W H S w).mono (R' := fun e w' => e = .returned (.int .i64 8) ∧ Below w.heap.size w w') fun e w' g => by rw [chk_bad h] at g; exact g
  clear h
  go_enter Tryz.func21, Tryz.ntmps21
  go_wp2_with fail
  refine (hk _).mono ?_
  rintro e w1 ⟨rfl, hb1⟩
  obtain ⟨hc1, hf1⟩ := bcell hb1
  have hz1 : w.heap.size + 1 < w1.heap.size := by have := hb1.size; simp at this; omega
  have b2 := (((Below.refl _ _).alloc (Nat.le_refl _) _).alloc (by simp) _).trans (hb1.mono (by simp; omega))
  go_wp2
  refine bodyPost_ret (v := .tuple #[.agg #[.int .i64 0, .int .i64 0, .int .i64 0, .int .i64 0], .int .i64 8]) (by simp [results, Tryz.results21, go_sem, hc1, hz1, Nat.lt_of_succ_lt hz1]) rfl ⟨rfl, ?_⟩
  exact (((b2.setCell (by simp) _).setCell (by simp) _).setCell (by simp) _).setCell (by simp) _

set_option maxHeartbeats 1000000 in
theorem brk_B (W H S x y : Int) (w : World) (h : okPat W H S ∧ fineB x = false) :
    Calls Tryz.prog 21 #[.agg #[.int .i64 W, .int .i64 H, .int .i64 S], .int .i64 x, .int .i64 y] w fun e w' => e = .returned (.tuple #[.agg #[.int .i64 0, .int .i64 0, .int .i64 0, .int .i64 0], .int .i64 2]) ∧ Below w.heap.size w w' := by
  have hk := fun w => (pat_any W H S w).mono (R' := fun e w' => e = .returned (.int .i64 0) ∧ Below w.heap.size w w') fun e w' g => by rw [chk_ok h.1] at g; exact g
  have hcx := fun w => (tfine_any x w).mono (R' := fun e w' => e = .returned (.bool false) ∧ w = w') fun e w' g => by rw [h.2] at g; exact g
  clear h
  go_enter Tryz.func21, Tryz.ntmps21
  go_wp2_with fail
  refine (hk _).mono ?_
  rintro e w1 ⟨rfl, hb1⟩
  obtain ⟨hc1, hf1⟩ := bcell hb1
  have hz1 : w.heap.size + 1 < w1.heap.size := by have := hb1.size; simp at this; omega
  have b2 := (((Below.refl _ _).alloc (Nat.le_refl _) _).alloc (by simp) _).trans (hb1.mono (by simp; omega))
  go_wp2_with (go_at_call 43; refine (hcx _).mono ?_; rintro e w' ⟨rfl, rfl⟩)
  refine bodyPost_ret (v := .tuple #[.agg #[.int .i64 0, .int .i64 0, .int .i64 0, .int .i64 0], .int .i64 2]) (by simp [results, Tryz.results21, go_sem, hc1, hz1, Nat.lt_of_succ_lt hz1]) rfl ⟨rfl, ?_⟩
  exact (((b2.setCell (by simp) _).setCell (by simp) _).setCell (by simp) _).setCell (by simp) _

set_option maxHeartbeats 1000000 in
theorem brk_C (W H S x y : Int) (w : World) (h : okPat W H S ∧ fineB x = true ∧ fineB y = false) :
    Calls Tryz.prog 21 #[.agg #[.int .i64 W, .int .i64 H, .int .i64 S], .int .i64 x, .int .i64 y] w fun e w' => e = .returned (.tuple #[.agg #[.int .i64 0, .int .i64 0, .int .i64 0, .int .i64 0], .int .i64 2]) ∧ Below w.heap.size w w' := by
  have hk := fun w => (pat_any W H S w).mono (R' := fun e w' => e = .returned (.int .i64 0) ∧ Below w.heap.size w w') fun e w' g => by rw [chk_ok h.1] at g; exact g
  have hcx := fun w => (tfine_any x w).mono (R' := fun e w' => e = .returned (.bool true) ∧ w = w') fun e w' g => by rw [h.2.1] at g; exact g
  have hcy := fun w => (tfine_any y w).mono (R' := fun e w' => e = .returned (.bool false) ∧ w = w') fun e w' g => by rw [h.2.2] at g; exact g
  clear h
  go_enter Tryz.func21, Tryz.ntmps21
  go_wp2_with fail
  refine (hk _).mono ?_
  rintro e w1 ⟨rfl, hb1⟩
  obtain ⟨hc1, hf1⟩ := bcell hb1
  have hz1 : w.heap.size + 1 < w1.heap.size := by have := hb1.size; simp at this; omega
  have b2 := (((Below.refl _ _).alloc (Nat.le_refl _) _).alloc (by simp) _).trans (hb1.mono (by simp; omega))
  go_wp2_with (first | (go_at_call_of 43 (Value.int .i64 x); refine (hcx _).mono ?_; rintro e w' ⟨rfl, rfl⟩) | (go_at_call_of 43 (Value.int .i64 y); refine (hcy _).mono ?_; rintro e w' ⟨rfl, rfl⟩))
  refine bodyPost_ret (v := .tuple #[.agg #[.int .i64 0, .int .i64 0, .int .i64 0, .int .i64 0], .int .i64 2]) (by simp [results, Tryz.results21, go_sem, hc1, hz1, Nat.lt_of_succ_lt hz1]) rfl ⟨rfl, ?_⟩
  exact (((b2.setCell (by simp) _).setCell (by simp) _).setCell (by simp) _).setCell (by simp) _

set_option maxHeartbeats 1000000 in
theorem brk_D0 (W H S x y X V Y Z : Int) (b1 b2 b3 : Bool) (w : World)
    (hk : ∀ w, Calls Tryz.prog 29 #[.agg #[.int .i64 W, .int .i64 H, .int .i64 S]] w fun e w' => e = .returned (.int .i64 0) ∧ Below w.heap.size w w')
    (hcx : ∀ w, Calls Tryz.prog 43 #[.int .i64 x] w fun e w' => e = .returned (.bool true) ∧ w = w') (hcy : ∀ w, Calls Tryz.prog 43 #[.int .i64 y] w fun e w' => e = .returned (.bool true) ∧ w = w')
    (hbr : ∀ w, Calls Tryz.prog 31 #[.agg #[.int .i64 W, .int .i64 H, .int .i64 S], .int .i64 x, .int .i64 y] w fun e w' => e = .returned (.agg #[.int .i64 X, .int .i64 Y, .int .i64 V, .int .i64 Z]) ∧ Below w.heap.size w w')
    (c0 : ∀ w, Calls Tryz.prog 43 #[.int .i64 X] w fun e w' => e = .returned (.bool false) ∧ w = w')
    (c1 : ∀ w, Calls Tryz.prog 43 #[.int .i64 V] w fun e w' => e = .returned (.bool b1) ∧ w = w')
    (c2 : ∀ w, Calls Tryz.prog 43 #[.int .i64 Y] w fun e w' => e = .returned (.bool b2) ∧ w = w')
    (c3 : ∀ w, Calls Tryz.prog 43 #[.int .i64 Z] w fun e w' => e = .returned (.bool b3) ∧ w = w')
    : Calls Tryz.prog 21 #[.agg #[.int .i64 W, .int .i64 H, .int .i64 S], .int .i64 x, .int .i64 y] w fun e w' => e = .returned (.tuple #[.agg #[.int .i64 0, .int .i64 0, .int .i64 0, .int .i64 0], .int .i64 16]) ∧ Below w.heap.size w w' := by
  go_enter Tryz.func21, Tryz.ntmps21
  go_wp2_with (first
    | (go_at_call 29; refine (hk _).mono ?_; rintro e w1 ⟨rfl, hb1⟩; obtain ⟨hc1, hf1⟩ := bcell hb1; have hz1 : w.heap.size + 1 < w1.heap.size := by have := hb1.size; simp at this; omega)
    | (go_at_call_of 43 (Value.int .i64 x); refine (hcx _).mono ?_; rintro e w' ⟨rfl, rfl⟩)
    | (go_at_call_of 43 (Value.int .i64 y); refine (hcy _).mono ?_; rintro e w' ⟨rfl, rfl⟩)
    | (go_at_call 31; refine (hbr _).mono ?_; rintro e w2 ⟨rfl, hb2⟩; obtain ⟨hc2, hf2⟩ := bcell hb2; have hz2 : w.heap.size + 1 < w2.heap.size := by have := hb2.size; omega)
    | (go_at_call_of 43 (Value.int .i64 X); refine (c0 _).mono ?_; rintro e w' ⟨rfl, rfl⟩)
    | (go_at_call_of 43 (Value.int .i64 V); refine (c1 _).mono ?_; rintro e w' ⟨rfl, rfl⟩)
    | (go_at_call_of 43 (Value.int .i64 Y); refine (c2 _).mono ?_; rintro e w' ⟨rfl, rfl⟩)
    | (go_at_call_of 43 (Value.int .i64 Z); refine (c3 _).mono ?_; rintro e w' ⟨rfl, rfl⟩))
  have b2 := ((((Below.refl _ _).alloc (Nat.le_refl _) _).alloc (by simp) _).trans (hb1.mono (by simp; omega))).trans (hb2.mono (by omega))
  refine bodyPost_ret (v := .tuple #[.agg #[.int .i64 0, .int .i64 0, .int .i64 0, .int .i64 0], .int .i64 16]) (by simp [results, Tryz.results21, go_sem, hc1, hz1, Nat.lt_of_succ_lt hz1, hc2, hz2, Nat.lt_succ_of_lt hz2, Nat.lt_of_succ_lt hz2, Nat.lt_of_succ_lt (Nat.lt_succ_of_lt hz2)]) rfl ⟨rfl, ?_⟩
  exact ((((b2.setCell (by simp) _).setCell (by simp) _).setCell (by simp) _).setCell (by simp) _).alloc (by simp; omega) _

set_option maxHeartbeats 1000000 in
theorem brk_D1 (W H S x y X V Y Z : Int) (b1 b2 b3 : Bool) (w : World)
    (hk : ∀ w, Calls Tryz.prog 29 #[.agg #[.int .i64 W, .int .i64 H, .int .i64 S]] w fun e w' => e = .returned (.int .i64 0) ∧ Below w.heap.size w w')
    (hcx : ∀ w, Calls Tryz.prog 43 #[.int .i64 x] w fun e w' => e = .returned (.bool true) ∧ w = w') (hcy : ∀ w, Calls Tryz.prog 43 #[.int .i64 y] w fun e w' => e = .returned (.bool true) ∧ w = w')
    (hbr : ∀ w, Calls Tryz.prog 31 #[.agg #[.int .i64 W, .int .i64 H, .int .i64 S], .int .i64 x, .int .i64 y] w fun e w' => e = .returned (.agg #[.int .i64 X, .int .i64 Y, .int .i64 V, .int .i64 Z]) ∧ Below w.heap.size w w')
    (c0 : ∀ w, Calls Tryz.prog 43 #[.int .i64 X] w fun e w' => e = .returned (.bool true) ∧ w = w')
    (c1 : ∀ w, Calls Tryz.prog 43 #[.int .i64 V] w fun e w' => e = .returned (.bool false) ∧ w = w')
    (c2 : ∀ w, Calls Tryz.prog 43 #[.int .i64 Y] w fun e w' => e = .returned (.bool b2) ∧ w = w')
    (c3 : ∀ w, Calls Tryz.prog 43 #[.int .i64 Z] w fun e w' => e = .returned (.bool b3) ∧ w = w')
    : Calls Tryz.prog 21 #[.agg #[.int .i64 W, .int .i64 H, .int .i64 S], .int .i64 x, .int .i64 y] w fun e w' => e = .returned (.tuple #[.agg #[.int .i64 0, .int .i64 0, .int .i64 0, .int .i64 0], .int .i64 16]) ∧ Below w.heap.size w w' := by
  go_enter Tryz.func21, Tryz.ntmps21
  go_wp2_with (first
    | (go_at_call 29; refine (hk _).mono ?_; rintro e w1 ⟨rfl, hb1⟩; obtain ⟨hc1, hf1⟩ := bcell hb1; have hz1 : w.heap.size + 1 < w1.heap.size := by have := hb1.size; simp at this; omega)
    | (go_at_call_of 43 (Value.int .i64 x); refine (hcx _).mono ?_; rintro e w' ⟨rfl, rfl⟩)
    | (go_at_call_of 43 (Value.int .i64 y); refine (hcy _).mono ?_; rintro e w' ⟨rfl, rfl⟩)
    | (go_at_call 31; refine (hbr _).mono ?_; rintro e w2 ⟨rfl, hb2⟩; obtain ⟨hc2, hf2⟩ := bcell hb2; have hz2 : w.heap.size + 1 < w2.heap.size := by have := hb2.size; omega)
    | (go_at_call_of 43 (Value.int .i64 X); refine (c0 _).mono ?_; rintro e w' ⟨rfl, rfl⟩)
    | (go_at_call_of 43 (Value.int .i64 V); refine (c1 _).mono ?_; rintro e w' ⟨rfl, rfl⟩)
    | (go_at_call_of 43 (Value.int .i64 Y); refine (c2 _).mono ?_; rintro e w' ⟨rfl, rfl⟩)
    | (go_at_call_of 43 (Value.int .i64 Z); refine (c3 _).mono ?_; rintro e w' ⟨rfl, rfl⟩))
  have b2 := ((((Below.refl _ _).alloc (Nat.le_refl _) _).alloc (by simp) _).trans (hb1.mono (by simp; omega))).trans (hb2.mono (by omega))
  refine bodyPost_ret (v := .tuple #[.agg #[.int .i64 0, .int .i64 0, .int .i64 0, .int .i64 0], .int .i64 16]) (by simp [results, Tryz.results21, go_sem, hc1, hz1, Nat.lt_of_succ_lt hz1, hc2, hz2, Nat.lt_succ_of_lt hz2, Nat.lt_of_succ_lt hz2, Nat.lt_of_succ_lt (Nat.lt_succ_of_lt hz2)]) rfl ⟨rfl, ?_⟩
  exact ((((b2.setCell (by simp) _).setCell (by simp) _).setCell (by simp) _).setCell (by simp) _).alloc (by simp; omega) _

set_option maxHeartbeats 1000000 in
theorem brk_D2 (W H S x y X V Y Z : Int) (b1 b2 b3 : Bool) (w : World)
    (hk : ∀ w, Calls Tryz.prog 29 #[.agg #[.int .i64 W, .int .i64 H, .int .i64 S]] w fun e w' => e = .returned (.int .i64 0) ∧ Below w.heap.size w w')
    (hcx : ∀ w, Calls Tryz.prog 43 #[.int .i64 x] w fun e w' => e = .returned (.bool true) ∧ w = w') (hcy : ∀ w, Calls Tryz.prog 43 #[.int .i64 y] w fun e w' => e = .returned (.bool true) ∧ w = w')
    (hbr : ∀ w, Calls Tryz.prog 31 #[.agg #[.int .i64 W, .int .i64 H, .int .i64 S], .int .i64 x, .int .i64 y] w fun e w' => e = .returned (.agg #[.int .i64 X, .int .i64 Y, .int .i64 V, .int .i64 Z]) ∧ Below w.heap.size w w')
    (c0 : ∀ w, Calls Tryz.prog 43 #[.int .i64 X] w fun e w' => e = .returned (.bool true) ∧ w = w')
    (c1 : ∀ w, Calls Tryz.prog 43 #[.int .i64 V] w fun e w' => e = .returned (.bool true) ∧ w = w')
    (c2 : ∀ w, Calls Tryz.prog 43 #[.int .i64 Y] w fun e w' => e = .returned (.bool false) ∧ w = w')
    (c3 : ∀ w, Calls Tryz.prog 43 #[.int .i64 Z] w fun e w' => e = .returned (.bool b3) ∧ w = w')
    : Calls Tryz.prog 21 #[.agg #[.int .i64 W, .int .i64 H, .int .i64 S], .int .i64 x, .int .i64 y] w fun e w' => e = .returned (.tuple #[.agg #[.int .i64 0, .int .i64 0, .int .i64 0, .int .i64 0], .int .i64 16]) ∧ Below w.heap.size w w' := by
  go_enter Tryz.func21, Tryz.ntmps21
  go_wp2_with (first
    | (go_at_call 29; refine (hk _).mono ?_; rintro e w1 ⟨rfl, hb1⟩; obtain ⟨hc1, hf1⟩ := bcell hb1; have hz1 : w.heap.size + 1 < w1.heap.size := by have := hb1.size; simp at this; omega)
    | (go_at_call_of 43 (Value.int .i64 x); refine (hcx _).mono ?_; rintro e w' ⟨rfl, rfl⟩)
    | (go_at_call_of 43 (Value.int .i64 y); refine (hcy _).mono ?_; rintro e w' ⟨rfl, rfl⟩)
    | (go_at_call 31; refine (hbr _).mono ?_; rintro e w2 ⟨rfl, hb2⟩; obtain ⟨hc2, hf2⟩ := bcell hb2; have hz2 : w.heap.size + 1 < w2.heap.size := by have := hb2.size; omega)
    | (go_at_call_of 43 (Value.int .i64 X); refine (c0 _).mono ?_; rintro e w' ⟨rfl, rfl⟩)
    | (go_at_call_of 43 (Value.int .i64 V); refine (c1 _).mono ?_; rintro e w' ⟨rfl, rfl⟩)
    | (go_at_call_of 43 (Value.int .i64 Y); refine (c2 _).mono ?_; rintro e w' ⟨rfl, rfl⟩)
    | (go_at_call_of 43 (Value.int .i64 Z); refine (c3 _).mono ?_; rintro e w' ⟨rfl, rfl⟩))
  have b2 := ((((Below.refl _ _).alloc (Nat.le_refl _) _).alloc (by simp) _).trans (hb1.mono (by simp; omega))).trans (hb2.mono (by omega))
  refine bodyPost_ret (v := .tuple #[.agg #[.int .i64 0, .int .i64 0, .int .i64 0, .int .i64 0], .int .i64 16]) (by simp [results, Tryz.results21, go_sem, hc1, hz1, Nat.lt_of_succ_lt hz1, hc2, hz2, Nat.lt_succ_of_lt hz2, Nat.lt_of_succ_lt hz2, Nat.lt_of_succ_lt (Nat.lt_succ_of_lt hz2)]) rfl ⟨rfl, ?_⟩
  exact ((((b2.setCell (by simp) _).setCell (by simp) _).setCell (by simp) _).setCell (by simp) _).alloc (by simp; omega) _

set_option maxHeartbeats 1000000 in
theorem brk_D3 (W H S x y X V Y Z : Int) (b1 b2 b3 : Bool) (w : World)
    (hk : ∀ w, Calls Tryz.prog 29 #[.agg #[.int .i64 W, .int .i64 H, .int .i64 S]] w fun e w' => e = .returned (.int .i64 0) ∧ Below w.heap.size w w')
    (hcx : ∀ w, Calls Tryz.prog 43 #[.int .i64 x] w fun e w' => e = .returned (.bool true) ∧ w = w') (hcy : ∀ w, Calls Tryz.prog 43 #[.int .i64 y] w fun e w' => e = .returned (.bool true) ∧ w = w')
    (hbr : ∀ w, Calls Tryz.prog 31 #[.agg #[.int .i64 W, .int .i64 H, .int .i64 S], .int .i64 x, .int .i64 y] w fun e w' => e = .returned (.agg #[.int .i64 X, .int .i64 Y, .int .i64 V, .int .i64 Z]) ∧ Below w.heap.size w w')
    (c0 : ∀ w, Calls Tryz.prog 43 #[.int .i64 X] w fun e w' => e = .returned (.bool true) ∧ w = w')
    (c1 : ∀ w, Calls Tryz.prog 43 #[.int .i64 V] w fun e w' => e = .returned (.bool true) ∧ w = w')
    (c2 : ∀ w, Calls Tryz.prog 43 #[.int .i64 Y] w fun e w' => e = .returned (.bool true) ∧ w = w')
    (c3 : ∀ w, Calls Tryz.prog 43 #[.int .i64 Z] w fun e w' => e = .returned (.bool false) ∧ w = w')
    : Calls Tryz.prog 21 #[.agg #[.int .i64 W, .int .i64 H, .int .i64 S], .int .i64 x, .int .i64 y] w fun e w' => e = .returned (.tuple #[.agg #[.int .i64 0, .int .i64 0, .int .i64 0, .int .i64 0], .int .i64 16]) ∧ Below w.heap.size w w' := by
  go_enter Tryz.func21, Tryz.ntmps21
  go_wp2_with (first
    | (go_at_call 29; refine (hk _).mono ?_; rintro e w1 ⟨rfl, hb1⟩; obtain ⟨hc1, hf1⟩ := bcell hb1; have hz1 : w.heap.size + 1 < w1.heap.size := by have := hb1.size; simp at this; omega)
    | (go_at_call_of 43 (Value.int .i64 x); refine (hcx _).mono ?_; rintro e w' ⟨rfl, rfl⟩)
    | (go_at_call_of 43 (Value.int .i64 y); refine (hcy _).mono ?_; rintro e w' ⟨rfl, rfl⟩)
    | (go_at_call 31; refine (hbr _).mono ?_; rintro e w2 ⟨rfl, hb2⟩; obtain ⟨hc2, hf2⟩ := bcell hb2; have hz2 : w.heap.size + 1 < w2.heap.size := by have := hb2.size; omega)
    | (go_at_call_of 43 (Value.int .i64 X); refine (c0 _).mono ?_; rintro e w' ⟨rfl, rfl⟩)
    | (go_at_call_of 43 (Value.int .i64 V); refine (c1 _).mono ?_; rintro e w' ⟨rfl, rfl⟩)
    | (go_at_call_of 43 (Value.int .i64 Y); refine (c2 _).mono ?_; rintro e w' ⟨rfl, rfl⟩)
    | (go_at_call_of 43 (Value.int .i64 Z); refine (c3 _).mono ?_; rintro e w' ⟨rfl, rfl⟩))
  have b2 := ((((Below.refl _ _).alloc (Nat.le_refl _) _).alloc (by simp) _).trans (hb1.mono (by simp; omega))).trans (hb2.mono (by omega))
  refine bodyPost_ret (v := .tuple #[.agg #[.int .i64 0, .int .i64 0, .int .i64 0, .int .i64 0], .int .i64 16]) (by simp [results, Tryz.results21, go_sem, hc1, hz1, Nat.lt_of_succ_lt hz1, hc2, hz2, Nat.lt_succ_of_lt hz2, Nat.lt_of_succ_lt hz2, Nat.lt_of_succ_lt (Nat.lt_succ_of_lt hz2)]) rfl ⟨rfl, ?_⟩
  exact ((((b2.setCell (by simp) _).setCell (by simp) _).setCell (by simp) _).setCell (by simp) _).alloc (by simp; omega) _

set_option maxHeartbeats 1000000 in
theorem brk_D4 (W H S x y X V Y Z : Int) (b1 b2 b3 : Bool) (w : World)
    (hk : ∀ w, Calls Tryz.prog 29 #[.agg #[.int .i64 W, .int .i64 H, .int .i64 S]] w fun e w' => e = .returned (.int .i64 0) ∧ Below w.heap.size w w')
    (hcx : ∀ w, Calls Tryz.prog 43 #[.int .i64 x] w fun e w' => e = .returned (.bool true) ∧ w = w') (hcy : ∀ w, Calls Tryz.prog 43 #[.int .i64 y] w fun e w' => e = .returned (.bool true) ∧ w = w')
    (hbr : ∀ w, Calls Tryz.prog 31 #[.agg #[.int .i64 W, .int .i64 H, .int .i64 S], .int .i64 x, .int .i64 y] w fun e w' => e = .returned (.agg #[.int .i64 X, .int .i64 Y, .int .i64 V, .int .i64 Z]) ∧ Below w.heap.size w w')
    (c0 : ∀ w, Calls Tryz.prog 43 #[.int .i64 X] w fun e w' => e = .returned (.bool true) ∧ w = w')
    (c1 : ∀ w, Calls Tryz.prog 43 #[.int .i64 V] w fun e w' => e = .returned (.bool true) ∧ w = w')
    (c2 : ∀ w, Calls Tryz.prog 43 #[.int .i64 Y] w fun e w' => e = .returned (.bool true) ∧ w = w')
    (c3 : ∀ w, Calls Tryz.prog 43 #[.int .i64 Z] w fun e w' => e = .returned (.bool true) ∧ w = w')
    : Calls Tryz.prog 21 #[.agg #[.int .i64 W, .int .i64 H, .int .i64 S], .int .i64 x, .int .i64 y] w fun e w' => e = .returned (.tuple #[.agg #[.int .i64 X, .int .i64 Y, .int .i64 V, .int .i64 Z], .int .i64 0]) ∧ Below w.heap.size w w' := by
  go_enter Tryz.func21, Tryz.ntmps21
  go_wp2_with (first
    | (go_at_call 29; refine (hk _).mono ?_; rintro e w1 ⟨rfl, hb1⟩; obtain ⟨hc1, hf1⟩ := bcell hb1; have hz1 : w.heap.size + 1 < w1.heap.size := by have := hb1.size; simp at this; omega)
    | (go_at_call_of 43 (Value.int .i64 x); refine (hcx _).mono ?_; rintro e w' ⟨rfl, rfl⟩)
    | (go_at_call_of 43 (Value.int .i64 y); refine (hcy _).mono ?_; rintro e w' ⟨rfl, rfl⟩)
    | (go_at_call 31; refine (hbr _).mono ?_; rintro e w2 ⟨rfl, hb2⟩; obtain ⟨hc2, hf2⟩ := bcell hb2; have hz2 : w.heap.size + 1 < w2.heap.size := by have := hb2.size; omega)
    | (go_at_call_of 43 (Value.int .i64 X); refine (c0 _).mono ?_; rintro e w' ⟨rfl, rfl⟩)
    | (go_at_call_of 43 (Value.int .i64 V); refine (c1 _).mono ?_; rintro e w' ⟨rfl, rfl⟩)
    | (go_at_call_of 43 (Value.int .i64 Y); refine (c2 _).mono ?_; rintro e w' ⟨rfl, rfl⟩)
    | (go_at_call_of 43 (Value.int .i64 Z); refine (c3 _).mono ?_; rintro e w' ⟨rfl, rfl⟩))
  have b2 := ((((Below.refl _ _).alloc (Nat.le_refl _) _).alloc (by simp) _).trans (hb1.mono (by simp; omega))).trans (hb2.mono (by omega))
  refine bodyPost_ret (v := .tuple #[.agg #[.int .i64 X, .int .i64 Y, .int .i64 V, .int .i64 Z], .int .i64 0]) (by simp [results, Tryz.results21, go_sem, hc1, hz1, Nat.lt_of_succ_lt hz1, hc2, hz2, Nat.lt_succ_of_lt hz2, Nat.lt_of_succ_lt hz2, Nat.lt_of_succ_lt (Nat.lt_succ_of_lt hz2)]) rfl ⟨rfl, ?_⟩
  exact ((((b2.setCell (by simp) _).setCell (by simp) _).setCell (by simp) _).setCell (by simp) _).alloc (by simp; omega) _

theorem brk_D (W H S x y : Int) (w : World) (h : okPat W H S ∧ fineB x = true ∧ fineB y = true) :
    Calls Tryz.prog 21 #[.agg #[.int .i64 W, .int .i64 H, .int .i64 S], .int .i64 x, .int .i64 y] w fun e w' => e = .returned (.tuple #[.agg #[.int .i64 (br0 W H S x y), .int .i64 (br1 W H S x y), .int .i64 (br2 W H S x y), .int .i64 (br3 W H S x y)], .int .i64 (if brOK W H S x y then 0 else 16)]) ∧ Below w.heap.size w w' := by
  obtain ⟨hp, hx, hy⟩ := h
  have hat : atOK W H S x y := ⟨hp, by rw [hx, hy]; rfl⟩
  have hk := fun w => (pat_any W H S w).mono (R' := fun e w' => e = .returned (.int .i64 0) ∧ Below w.heap.size w w') fun e w' g => by rw [chk_ok hp] at g; exact g
  have hcx := fun w => (tfine_any x w).mono (R' := fun e w' => e = .returned (.bool true) ∧ w = w') fun e w' g => by rw [hx] at g; exact g
  have hcy := fun w => (tfine_any y w).mono (R' := fun e w' => e = .returned (.bool true) ∧ w = w') fun e w' g => by rw [hy] at g; exact g
  have hx' := fineB_of hx
  have hy' := fineB_of hy
  have hbr := fun w => brick_any W H S x y w hp (by omega) (by omega) hy'.1 hy'.2
  obtain ⟨X, hX⟩ : ∃ X, brX W H S x y = X := ⟨_, rfl⟩
  obtain ⟨Y, hY⟩ : ∃ Y, y * H = Y := ⟨_, rfl⟩
  obtain ⟨Z, hZ⟩ : ∃ Z, (y + 1) * H = Z := ⟨_, rfl⟩
  obtain ⟨V, hV⟩ : ∃ V, X + W = V := ⟨_, rfl⟩
  rw [hX, hY, hZ, hV] at hbr
  have c0 := fun w => tfine_any X w
  have c1 := fun w => tfine_any V w
  have c2 := fun w => tfine_any Y w
  have c3 := fun w => tfine_any Z w
  have hiff : brOK W H S x y ↔ (fineB X && fineB V && fineB Y && fineB Z) = true := by
    unfold brOK
    rw [hX, hV, hY, hZ]
    exact ⟨fun g => g.2, fun g => ⟨hat, g⟩⟩
  simp only [br0, br1, br2, br3, hX, hY, hZ, hV, hiff]
  generalize fineB X = b0 at *
  generalize fineB V = b1 at *
  generalize fineB Y = b2 at *
  generalize fineB Z = b3 at *
  cases b0
  · exact brk_D0 W H S x y X V Y Z b1 b2 b3 w hk hcx hcy hbr c0 c1 c2 c3
  cases b1
  · exact brk_D1 W H S x y X V Y Z false b2 b3 w hk hcx hcy hbr c0 c1 c2 c3
  cases b2
  · exact brk_D2 W H S x y X V Y Z false false b3 w hk hcx hcy hbr c0 c1 c2 c3
  cases b3
  · exact brk_D3 W H S x y X V Y Z false false false w hk hcx hcy hbr c0 c1 c2 c3
  · exact brk_D4 W H S x y X V Y Z false false false w hk hcx hcy hbr c0 c1 c2 c3

theorem brk_any (W H S x y : Int) (w : World) :
    Calls Tryz.prog 21 #[.agg #[.int .i64 W, .int .i64 H, .int .i64 S], .int .i64 x, .int .i64 y] w fun e w' => e = .returned (.tuple #[.agg #[.int .i64 (br0 W H S x y), .int .i64 (br1 W H S x y), .int .i64 (br2 W H S x y), .int .i64 (br3 W H S x y)], .int .i64 (brE W H S x y)]) ∧ Below w.heap.size w w' := by
  by_cases hp : okPat W H S
  · cases hx : fineB x
    · have h1 : ¬ atOK W H S x y := fun h => by have := h.2; simp [hx] at this
      have h2 : ¬ brOK W H S x y := fun h => h1 h.1
      simp only [br0, br1, br2, br3, brE, if_neg h1, if_neg h2, atE, if_pos hp, hx, Bool.false_and, Bool.false_eq_true, if_false]
      exact brk_B W H S x y w ⟨hp, hx⟩
    · cases hy : fineB y
      · have h1 : ¬ atOK W H S x y := fun h => by have := h.2; simp [hy] at this
        have h2 : ¬ brOK W H S x y := fun h => h1 h.1
        simp only [br0, br1, br2, br3, brE, if_neg h1, if_neg h2, atE, if_pos hp, hy, Bool.and_false, Bool.false_eq_true, if_false]
        exact brk_C W H S x y w ⟨hp, hx, hy⟩
      · have h1 : atOK W H S x y := ⟨hp, by rw [hx, hy]; rfl⟩
        simp only [brE, if_pos h1]
        exact brk_D W H S x y w ⟨hp, hx, hy⟩
  · have h1 : ¬ atOK W H S x y := fun h => hp h.1
    have h2 : ¬ brOK W H S x y := fun h => h1 h.1
    simp only [br0, br1, br2, br3, brE, if_neg h1, if_neg h2, atE, if_neg hp]
    exact brk_A W H S x y w hp

end Go.Proofs.YtjlfdgoijalfaaaGreat

/- Brick of the reference of texture, whole. -/
namespace Go.Proofs.YtjlfdgoijalfaaaGreat
open Go.RowKit
set_option linter.unusedVariables false
set_option linter.unusedSimpArgs false

end Go.Proofs.YtjlfdgoijalfaaaGreat

/- The walks of the two functions that reckon a greatest common divisor, and of the two that make a ratio, at 0 ≤ num < den ≤ 1000. -/
namespace Go.Proofs.YtjlfdgoijalfaaaGreat
open Go.RowKit
set_option linter.unusedVariables false
set_option linter.unusedSimpArgs false

set_option maxHeartbeats 400000 in
theorem gcd_any (a b : Nat) (w : World) (ha : a ≤ 1000000) (hb : b ≤ 1000000) :
    Calls Tryz.prog 72 #[.int .u64 a, .int .u64 b] w fun e w' => e = .returned (.int .u64 (Nat.gcd a b : Nat)) ∧ Below w.heap.size w w' := by
  obtain ⟨g, hg⟩ : ∃ g, Nat.gcd a b = g := ⟨_, rfl⟩
  rw [hg]
  have HG := hide hg
  clear hg
  go_enter Tryz.func72, Tryz.ntmps72
  go_wp2
  go_loopw [0, 1] (fun s0 s1 wr => ∃ x y : Nat, s0 = .int .u64 (x : Int) ∧ s1 = .int .u64 (y : Int) ∧ x ≤ 1000000 ∧ y ≤ 1000000 ∧ Hid (Nat.gcd x y = g) ∧ Below w.heap.size w wr) (fun _ s1 _ => (intOf s1).toNat)
  case atStart => exact ⟨a, b, rfl, rfl, ha, hb, HG, Below.refl _ _⟩
  case round =>
    obtain ⟨x, y, rfl, rfl, hx, hy, HX, hB⟩ := hrel
    by_cases h0 : y = 0
    · subst h0
      go_wp2
      go_ret
      have := HX.out
      rw [Nat.gcd_zero_right] at this
      exact ⟨ret_eq (int_eq (by rw [this])), hB⟩
    · have h0' : ((y : Int) != 0) = true := by simpa using h0
      have h1 : 1 ≤ (y : Int) := by omega
      have hm : x % y < y := Nat.mod_lt _ (by omega)
      clear h0
      go_wp2
      go_quiet (fail)
      go_wp2
      go_roundw
      case rel =>
        refine ⟨y, x % y, rfl, by rw [Int.natCast_emod], hy, by omega, ?_, below_drewN hB _⟩
        have := HX.out
        rw [Nat.gcd_comm, Nat.gcd_rec, Nat.gcd_comm] at this
        exact hide (by rw [Nat.gcd_comm]; rw [← this]; rw [Nat.gcd_comm])
      case measure => simp [intOf]; omega

theorem size_any (a : Int) (w : World) (h1 : 0 ≤ a) (h2 : a ≤ 1000000) : Calls Tryz.prog 71 #[.int .i64 a] w fun e w' => e = .returned (.int .u64 a) ∧ w = w' := by
  go_enter Tryz.func71, Tryz.ntmps71
  go_wp2
  go_ret
  exact ⟨rfl, rfl⟩

theorem div_bd (a g : Nat) (hg : 1 ≤ g) (ha : a ≤ 1000000) : 0 ≤ (a : Int) / (g : Int) ∧ (a : Int) / (g : Int) ≤ 1000000 := by
  have h := Nat.div_le_self a g
  have e : (a : Int) / (g : Int) = ((a / g : Nat) : Int) := by rw [Int.natCast_ediv]
  rw [e]
  exact ⟨Int.natCast_nonneg _, Int.ofNat_le.2 (Nat.le_trans h ha)⟩

set_option maxHeartbeats 1000000 in
theorem ratMk_any (a n g : Nat) (w : World) (ha : a ≤ 1000000) (hn : n ≤ 1000000) (h1 : 1 ≤ n) (hg : Hid (Nat.gcd a n = g)) :
    Calls Tryz.prog 46 #[.int .i64 a, .int .i64 n] w fun e w' => e = .returned (.tuple #[.agg #[.int .i64 ((a : Int) / (g : Int)), .int .i64 ((n : Int) / (g : Int))], .int .i64 0]) ∧ Below w.heap.size w w' := by
  have hg1 : 1 ≤ g := by have := hg.out; have := Nat.gcd_pos_of_pos_right a (n := n) (by omega); omega
  have hgi : 1 ≤ (g : Int) := by omega
  obtain ⟨d1, d1'⟩ := div_bd a g hg1 ha
  obtain ⟨d2, d2'⟩ := div_bd n g hg1 hn
  have hgl : g ≤ n := by have := hg.out; have := Nat.gcd_le_right (m := a) (n := n) (by omega); omega
  have hs1 := fun w => size_any a w (by omega) (by omega)
  have hs2 := fun w => size_any n w (by omega) (by omega)
  have hgc := fun w => (gcd_any a n w ha hn).mono (R' := fun e w' => e = .returned (.int .u64 g) ∧ Below w.heap.size w w') fun e w' h => by rw [hg.out] at h; exact h
  have hni : ((n : Int) == 0) = false := by simp; omega
  have hna : decide ((a : Int) < 0) = false := by simp
  have hnn : decide ((n : Int) < 0) = false := by simp
  clear hg
  go_enter Tryz.func46, Tryz.ntmps46
  go_wp2_with (first
    | (go_at_call_of 71 (Value.int .i64 (a : Int)); refine (hs1 _).mono ?_; rintro e w' ⟨rfl, rfl⟩)
    | (go_at_call_of 71 (Value.int .i64 (n : Int)); refine (hs2 _).mono ?_; rintro e w' ⟨rfl, rfl⟩)
    | (go_at_call 72; refine (hgc _).mono ?_; rintro e w1 ⟨rfl, hb1⟩; obtain ⟨hc1, hf1⟩ := bcell hb1; have hz1 : w.heap.size < w1.heap.size := by have := hb1.size; simp at this; omega))
  refine wp_hab fun hab => ?_
  refine wp_region_above (by kernel_rfl) (by kernel_rfl) ?_
  repeat (go_big_quiet_step (fail))
  refine wpQuiet_nil ?_
  refine above_ends fun w2 hb2 => ?_
  clear hab
  obtain ⟨hc2, hf2⟩ := bcell hb2
  have hz2 : w.heap.size < w2.heap.size := by have := hb2.size; omega
  go_wp2
  refine bodyPost_ret (v := .tuple #[.agg #[.int .i64 ((a : Int) / (g : Int)), .int .i64 ((n : Int) / (g : Int))], .int .i64 0]) (by simp [results, Tryz.results46, go_sem, hc1, hc2, hz1, hz2]) rfl ⟨rfl, ?_⟩
  have b2 := (((Below.refl _ _).alloc (Nat.le_refl _) _).trans (hb1.mono (by simp))).trans (hb2.mono (by omega))
  exact ((b2.setCell (by simp) _).setCell (by simp) _).alloc (by simp; omega) _

theorem coprime_div (a n g : Nat) (h1 : 1 ≤ n) (hg : Nat.gcd a n = g) : Nat.gcd (a / g) (n / g) = 1 := by
  subst hg
  rw [Nat.gcd_div (Nat.gcd_dvd_left a n) (Nat.gcd_dvd_right a n), Nat.div_self (Nat.gcd_pos_of_pos_right a (by omega))]

end Go.Proofs.YtjlfdgoijalfaaaGreat

/- Coords of texture and of its reference. -/
namespace Go.Proofs.YtjlfdgoijalfaaaGreat
open Go.RowKit
set_option linter.unusedVariables false
set_option linter.unusedSimpArgs false

/-- What Coords returns. -/
def coA (W H S x y : Int) : Nat := ((x - shiftI W S (rowI H y)) % W).toNat
def coB (H y : Int) : Nat := (y % H).toNat
def co0 (W H S x y : Int) : Int := if atOK W H S x y then (coA W H S x y : Int) / ((Nat.gcd (coA W H S x y) W.toNat : Nat) : Int) else 0
def co1 (W H S x y : Int) : Int := if atOK W H S x y then (W.toNat : Int) / ((Nat.gcd (coA W H S x y) W.toNat : Nat) : Int) else 0
def co2 (W H S x y : Int) : Int := if atOK W H S x y then (coB H y : Int) / ((Nat.gcd (coB H y) H.toNat : Nat) : Int) else 0
def co3 (W H S x y : Int) : Int := if atOK W H S x y then (H.toNat : Int) / ((Nat.gcd (coB H y) H.toNat : Nat) : Int) else 0

set_option maxHeartbeats 1000000 in
theorem coords_no (W H S x y c : Int) (w : World) (hc : (c != 0) = true)
    (hat : ∀ w, Calls Tryz.prog 19 #[.agg #[.int .i64 W, .int .i64 H, .int .i64 S], .int .i64 x, .int .i64 y] w fun e w' => e = .returned (.tuple #[.int .i64 0, .int .i64 0, .int .i64 c]) ∧ Below w.heap.size w w') :
    Calls Tryz.prog 22 #[.agg #[.int .i64 W, .int .i64 H, .int .i64 S], .int .i64 x, .int .i64 y] w fun e w' => e = .returned (.tuple #[.agg #[.int .i64 0, .int .i64 0], .agg #[.int .i64 0, .int .i64 0], .int .i64 c]) ∧ Below w.heap.size w w' := by
  go_enter Tryz.func22, Tryz.ntmps22
  go_wp2_with (go_at_call 19; refine (hat _).mono ?_; rintro e w1 ⟨rfl, hb1⟩; obtain ⟨hc1, hf1⟩ := bcell hb1; have hz1 : w.heap.size + 2 < w1.heap.size := by have := hb1.size; simp at this; omega)
  refine bodyPost_ret (v := .tuple #[.agg #[.int .i64 0, .int .i64 0], .agg #[.int .i64 0, .int .i64 0], .int .i64 c]) (by simp [results, Tryz.results22, go_sem, hc1, hz1, Nat.lt_of_succ_lt hz1]) rfl ⟨rfl, ?_⟩
  have b2 := ((((Below.refl _ _).alloc (Nat.le_refl _) _).alloc (by simp) _).alloc (by simp; omega) _).trans (hb1.mono (by simp; omega))
  exact (((b2.setCell (by first | (simp; done) | (simp; omega) | omega) _).setCell (by first | (simp; done) | (simp; omega) | omega) _).setCell (by first | (simp; done) | (simp; omega) | omega) _).setCell (by first | (simp; done) | (simp; omega) | omega) _
set_option maxHeartbeats 2000000 in
theorem coords_yes (W H S x y : Int) (c a g b k : Nat) (w : World) (h : atOK W H S x y) (hcA : coA W H S x y = a) (hcB : coB H y = b) (hg : Hid (Nat.gcd a W.toNat = g)) (hk : Hid (Nat.gcd b H.toNat = k)) :
    Calls Tryz.prog 22 #[.agg #[.int .i64 W, .int .i64 H, .int .i64 S], .int .i64 x, .int .i64 y] w fun e w' => e = .returned (.tuple #[.agg #[.int .i64 ((a : Int) / (g : Int)), .int .i64 ((W.toNat : Int) / (g : Int))], .agg #[.int .i64 ((b : Int) / (k : Int)), .int .i64 ((H.toNat : Int) / (k : Int))], .int .i64 0]) ∧ Below w.heap.size w w' := by
  obtain ⟨hp, hf⟩ := h
  simp only [Bool.and_eq_true] at hf
  have hx := fineB_of hf.1
  have hy := fineB_of hf.2
  have hat := fun w => at_ok W H S x y w hp hf.1 hf.2
  have hp' := hp
  unfold okPat at hp'
  have q1 : -1000000 ≤ rowI H y ∧ rowI H y ≤ 1000000 := ediv_bd y H 1000000 (by omega) hy.1 hy.2 (by omega)
  have hsb := shiftI_bd hp (rowI H y)
  have hsh := fun w => shift_any W H S (rowI H y) w hp q1.1 q1.2
  have r1 := emod_bd y H (by omega)
  have r2 := emod_bd (x - shiftI W S (rowI H y)) W (by omega)
  have eA : (x - shiftI W S (rowI H y)) % W = (a : Int) := by rw [← hcA]; unfold coA; omega
  have eB : y % H = (b : Int) := by rw [← hcB]; unfold coB; omega
  have hs1 := fun w => split_any (x - shiftI W S (rowI H y)) W w (by omega) (by omega) (by omega) (by omega)
  have hs2 := fun w => split_any y H w (by omega) (by omega) (by omega) (by omega)
  rw [eA] at hs1 r2
  rw [eB] at hs2 r1
  have eW : W = (W.toNat : Int) := by omega
  have eH : H = (H.toNat : Int) := by omega
  have hm1 := fun w => ratMk_any a W.toNat g w (by omega) (by omega) (by omega) hg
  have hm2 := fun w => ratMk_any b H.toNat k w (by omega) (by omega) (by omega) hk
  rw [← eW] at hm1
  rw [← eH] at hm2
  rw [← eW, ← eH]
  clear eW eH eA eB hcA hcB hf hp
  go_enter Tryz.func22, Tryz.ntmps22
  go_wp2_with (go_at_call 19; refine (hat _).mono ?_; rintro e w1 ⟨rfl, hb1⟩; obtain ⟨hc1, hf1⟩ := bcell hb1; have hz1 : w.heap.size + 2 < w1.heap.size := by have := hb1.size; simp at this; omega)
  have hl1 : w.heap.size < w1.heap.size ∧ w.heap.size + 1 < w1.heap.size := by omega
  refine wp_hab fun hab => ?_
  refine wp_region_above (by kernel_rfl) (by kernel_rfl) ?_
  repeat (go_big_quiet_step ((first | (go_at_call 45; exact above_of (hsh _)) | (go_at_call 44; exact above_of (hs1 _)))))
  refine wpQuiet_nil ?_
  refine above_ends fun w2 hb2 => ?_
  clear hab
  obtain ⟨hc2, hf2⟩ := bcell hb2
  have hz2 : w.heap.size + 2 < w2.heap.size ∧ w.heap.size < w2.heap.size ∧ w.heap.size + 1 < w2.heap.size := by have := hb2.size; omega
  have b2 := (((((Below.refl _ _).alloc (Nat.le_refl _) _).alloc (by simp) _).alloc (by simp; omega) _).trans (hb1.mono (by simp; omega))).trans (hb2.mono (by omega))
  go_wp2_with (first
    | (go_at_call 44; refine (hs2 _).mono ?_; rintro e w3 ⟨rfl, hb3⟩; obtain ⟨hc3, hf3⟩ := bcell hb3; have hz3 : w.heap.size + 2 < w3.heap.size ∧ w.heap.size < w3.heap.size ∧ w.heap.size + 1 < w3.heap.size := by have := hb3.size; omega)
    | (go_at_call_of 46 (Value.int .i64 W); refine (hm1 _).mono ?_; rintro e w4 ⟨rfl, hb4⟩; obtain ⟨hc4, hf4⟩ := bcell hb4; have hz4 : w.heap.size + 2 < w4.heap.size ∧ w.heap.size < w4.heap.size ∧ w.heap.size + 1 < w4.heap.size := by have := hb4.size; omega)
    | (go_at_call_of 46 (Value.int .i64 H); refine (hm2 _).mono ?_; rintro e w5 ⟨rfl, hb5⟩; obtain ⟨hc5, hf5⟩ := bcell hb5; have hz5 : w.heap.size + 2 < w5.heap.size ∧ w.heap.size < w5.heap.size ∧ w.heap.size + 1 < w5.heap.size := by have := hb5.size; simp at this; omega))
  refine wp_name fun w6 hw6 => ?_
  have b6 : Below w.heap.size w w6 := by
    rw [hw6]
    have b4 := (b2.trans (hb3.mono (by omega))).trans (hb4.mono (by omega))
    have b5 := ((b4.setCell (p := ⟨w.heap.size + 1, 0, none⟩) (by simp) (.int .i64 ((a : Int) / (g : Int)))).setCell (p := ⟨w.heap.size + 1, 1, none⟩) (by simp) (.int .i64 (W / (g : Int)))).trans (hb5.mono (by simp; omega))
    exact (b5.setCell (by simp; omega) _).setCell (by simp; omega) _
  have k0 : w6.cell? ⟨w.heap.size + 1, 0, none⟩ = some (.int .i64 ((a : Int) / (g : Int))) := by rw [hw6]; simp [go_sem, hc5, hz5, hz4, hc4, hc3, hz3, hc2, hz2, hc1, hz1, hl1]
  have k1 : w6.cell? ⟨w.heap.size + 1, 1, none⟩ = some (.int .i64 (W / (g : Int))) := by rw [hw6]; simp [go_sem, hc5, hz5, hz4, hc4, hc3, hz3, hc2, hz2, hc1, hz1, hl1]
  have k2 : w6.cell? ⟨w.heap.size + 2, 0, none⟩ = some (.int .i64 ((b : Int) / (k : Int))) := by rw [hw6]; simp [go_sem, hc5, hz5, hz4, hc4, hc3, hz3, hc2, hz2, hc1, hz1, hl1]
  have k3 : w6.cell? ⟨w.heap.size + 2, 1, none⟩ = some (.int .i64 (H / (k : Int))) := by rw [hw6]; simp [go_sem, hc5, hz5, hz4, hc4, hc3, hz3, hc2, hz2, hc1, hz1, hl1]
  have f0 : ∀ o, w6.frozen? ⟨w.heap.size + 1, o, none⟩ = false := by intro o; rw [hw6]; simp [go_sem, hf5, hz5, hz4, hf4, hf3, hz3, hf2, hz2, hf1, hz1, hl1]
  have f1 : ∀ o, w6.frozen? ⟨w.heap.size + 2, o, none⟩ = false := by intro o; rw [hw6]; simp [go_sem, hf5, hz5, hz4, hf4, hf3, hz3, hf2, hz2, hf1, hz1, hl1]
  clear hc1 hc2 hc3 hc4 hc5 hf1 hf2 hf3 hf4 hf5 hw6 b2 hb1 hb2 hb3 hb4 hb5
  go_region
  all_goals
    go_wp2
    refine bodyPost_ret (v := .tuple #[.agg #[.int .i64 ((a : Int) / (g : Int)), .int .i64 (W / (g : Int))], .agg #[.int .i64 ((b : Int) / (k : Int)), .int .i64 (H / (k : Int))], .int .i64 0]) (by simp [results, Tryz.results22, go_sem, k0, k1, k2, k3]) rfl ⟨rfl, ?_⟩
    first
      | exact (((b6.drew.setCell (by simp) _).setCell (by simp) _).setCell (by simp; omega) _).setCell (by simp; omega) _
      | exact (((b6.drew.setCell (by simp; omega) _).setCell (by simp; omega) _).setCell (by simp) _).setCell (by simp) _
      | exact ((((b6.setCell (by simp) _).setCell (by simp) _).setCell (by simp; omega) _).setCell (by simp; omega) _).drew
      | exact ((((b6.setCell (by simp; omega) _).setCell (by simp; omega) _).setCell (by simp) _).setCell (by simp) _).drew
end Go.Proofs.YtjlfdgoijalfaaaGreat

/- Coords of the reference of texture; both Coords whole. -/
namespace Go.Proofs.YtjlfdgoijalfaaaGreat
open Go.RowKit
set_option linter.unusedVariables false
set_option linter.unusedSimpArgs false

/-- Coords of texture, whole. -/
theorem coords_any (W H S x y : Int) (w : World) :
    Calls Tryz.prog 22 #[.agg #[.int .i64 W, .int .i64 H, .int .i64 S], .int .i64 x, .int .i64 y] w fun e w' => e = .returned (.tuple #[.agg #[.int .i64 (co0 W H S x y), .int .i64 (co1 W H S x y)], .agg #[.int .i64 (co2 W H S x y), .int .i64 (co3 W H S x y)], .int .i64 (atE W H S x y)]) ∧ Below w.heap.size w w' := by
  by_cases h : atOK W H S x y
  · have hE : atE W H S x y = 0 := by unfold atE; rw [if_pos h.1, if_pos h.2]
    simp only [co0, co1, co2, co3, if_pos h, hE]
    exact coords_yes W H S x y 0 _ _ _ _ w h rfl rfl (hide rfl) (hide rfl)
  · have hat := fun w => at_any W H S x y w
    simp only [atC, atR, if_neg h] at hat
    simp only [co0, co1, co2, co3, if_neg h]
    refine coords_no W H S x y _ w ?_ hat
    unfold atE
    split
    · rename_i hp
      rw [if_neg (fun hf => h ⟨hp, hf⟩)]
      rfl
    · rfl
end Go.Proofs.YtjlfdgoijalfaaaGreat

/- TextureBricks: for any pattern and numbers, Check, At, Brick and Coords return what the reference returns. No condition. -/
namespace Go.Proofs.YtjlfdgoijalfaaaGreat
open Go.RowKit
set_option linter.unusedVariables false
set_option linter.unusedSimpArgs false

end Go.Proofs.YtjlfdgoijalfaaaGreat

/- The chapter's examples hold: law.go's bond, rect, fit and alive. -/
namespace Go.Proofs.YtjlfdgoijalfaaaGreat
open Go.RowKit
set_option linter.unusedVariables false
set_option linter.unusedSimpArgs false

theorem calls_name {P : Program} {F : Nat} {A : Array Value} {W : World} {Q : Ending → World → Prop} (h : ∀ w, w = W → Calls P F A w Q) : Calls P F A W Q := h W rfl
theorem rd_at {α : Type} {enc : α → List Value} {k : Nat} {w W : World} {v : Value} {l : List α} (h : RdK enc k w w.heap.size v l) (hb : Below w.heap.size w W) : RdK enc k W W.heap.size v l := (h.below hb).mono hb.size
/-- Cells of a box. -/
def Cels (b : Nat) (vs : List Value) (W : World) : Prop := b < W.heap.size ∧ ∀ i u, vs[i]? = some u → W.cell? ⟨b, i, none⟩ = some u
theorem Cels.keep {b : Nat} {vs : List Value} {W W' : World} (h : Cels b vs W) (hb : Below W.heap.size W W') : Cels b vs W' := ⟨Nat.lt_of_lt_of_le h.1 hb.size, fun i u hu => (hb.cell (p := ⟨b, i, none⟩) h.1).trans (h.2 i u hu)⟩
theorem bond_any (w : World) : Calls Tryz.prog 20 #[] w fun e w' => e = .returned (.agg #[.int .i64 4, .int .i64 2, .int .i64 2]) ∧ Below w.heap.size w w' := by
  go_enter Tryz.func20, Tryz.ntmps20
  go_wp2
  refine bodyPost_ret (v := .agg #[.int .i64 4, .int .i64 2, .int .i64 2]) (by simp [results, Tryz.results20, go_sem]) rfl ⟨rfl, ?_⟩
  repeat (first | with_reducible exact Below.refl _ _ | with_reducible refine Below.setCell ?_ (by first | (simp; done) | (simp; omega)) _ | with_reducible refine Below.alloc ?_ (by first | omega | (simp; omega) | simp) _)
theorem rect41_any (a b c d : Int) (w : World) : Calls Tryz.prog 23 #[.int .i64 a, .int .i64 b, .int .i64 c, .int .i64 d] w fun e w' => e = .returned (.slice (some ⟨w.heap.size, 0, none⟩) 1 1) ∧ w'.ownsRow w.heap.size 41 4 (.slice (some ⟨w.heap.size, 0, none⟩) 1 1) 1 (([⟨a, b, c, d⟩] : List R4).flatMap encR) ∧ Below w.heap.size w w' := by
  go_enter Tryz.func23, Tryz.ntmps23
  go_wp2
  go_ret
  exact ⟨rfl, ⟨by simp [encR], .inr ⟨w.heap.size, 1, _, rfl, Nat.le_refl _, World.alloc_heap_new _ _, Nat.le_refl _, by simp [maxLen], by simp [encR], by simp [encR]⟩⟩, (Below.refl _ _).alloc (Nat.le_refl _) _⟩
theorem ex41_at (w : World) : Calls Tryz.prog 19 #[.agg #[.int .i64 4, .int .i64 2, .int .i64 2], .int .i64 5, .int .i64 3] w fun e w' => e = .returned (.tuple #[.int .i64 0, .int .i64 1, .int .i64 0]) ∧ Below w.heap.size w w' := by
  have h := at_any 4 2 2 5 3 w
  rwa [show atC 4 2 2 5 3 = 0 by kernel_rfl, show atR 4 2 2 5 3 = 1 by kernel_rfl, show atE 4 2 2 5 3 = 0 by kernel_rfl] at h
theorem ex41_br (w : World) : Calls Tryz.prog 21 #[.agg #[.int .i64 4, .int .i64 2, .int .i64 2], .int .i64 0, .int .i64 1] w fun e w' => e = .returned (.tuple #[.agg #[.int .i64 2, .int .i64 2, .int .i64 6, .int .i64 4], .int .i64 0]) ∧ Below w.heap.size w w' := by
  have h := brk_any 4 2 2 0 1 w
  rwa [show br0 4 2 2 0 1 = 2 by kernel_rfl, show br1 4 2 2 0 1 = 2 by kernel_rfl, show br2 4 2 2 0 1 = 6 by kernel_rfl, show br3 4 2 2 0 1 = 4 by kernel_rfl, show brE 4 2 2 0 1 = 0 by kernel_rfl] at h
theorem ex41_co (w : World) : Calls Tryz.prog 22 #[.agg #[.int .i64 4, .int .i64 2, .int .i64 2], .int .i64 5, .int .i64 3] w fun e w' => e = .returned (.tuple #[.agg #[.int .i64 3, .int .i64 4], .agg #[.int .i64 1, .int .i64 2], .int .i64 0]) ∧ Below w.heap.size w w' := by
  have h := coords_any 4 2 2 5 3 w
  rwa [show co0 4 2 2 5 3 = 3 by kernel_rfl, show co1 4 2 2 5 3 = 4 by kernel_rfl, show co2 4 2 2 5 3 = 1 by kernel_rfl, show co3 4 2 2 5 3 = 2 by kernel_rfl, show atE 4 2 2 5 3 = 0 by kernel_rfl] at h
theorem ex41_t : tileF 4 2 2 [⟨0, 0, 4, 4⟩] = ([((0, 0), [⟨0, 0, 4, 2⟩]), ((1, -1), [⟨0, 2, 2, 4⟩]), ((1, 0), [⟨2, 2, 4, 4⟩])], 0) := by kernel_rfl
theorem ex41_c : countF 4 2 2 [⟨0, 0, 4, 4⟩] = (1, 2, 0) := by kernel_rfl
def fit41 (W H S : Int) (l : List R4) : Prop := l.length ≤ 20 ∧ checkF l = 0 ∧ okPat W H S
set_option maxRecDepth 100000 in
set_option maxHeartbeats 8000000 in
theorem alive41_any (w : World) : Calls Tryz.prog 9 #[] w fun e w' => e = .returned (.bool true) ∧ Below w.heap.size w w' := by
  have G1 := hide (fun (w : World) (v : Value) (h : RdK encR 4 w w.heap.size v ([⟨0, 0, 4, 4⟩] : List R4)) => by have := tile_any h (by simp) 4 2 2; rwa [ex41_t] at this)
  have G2 := hide (fun (w : World) (v : Value) (h : RdK encR 4 w w.heap.size v ([⟨0, 0, 4, 4⟩] : List R4)) => by have := tcount_any h (by simp) 4 2 2; rwa [ex41_c] at this)
  have g30 : Tryz.prog.eqGuardType Tryz.prog.depth 41 = false := by kernel_rfl
  have g36 : Tryz.prog.eqGuardType Tryz.prog.depth 61 = false := by kernel_rfl
  have K := hide (Below.refl w.heap.size w)
  go_enter Tryz.func9, Tryz.ntmps9
  go_wp2_with (fail)
  refine (bond_any _).mono ?_
  rintro e v1 ⟨rfl, hb⟩
  replace K := hide (K.out.trans (hb.mono K.out.size))
  clear hb
  go_wp2_with (fail)
  refine (ex41_at _).mono ?_
  rintro e v2 ⟨rfl, hb⟩
  replace K := hide (K.out.trans (hb.mono K.out.size))
  clear hb
  go_wp2_with (fail)
  refine (bond_any _).mono ?_
  rintro e v3 ⟨rfl, hb⟩
  replace K := hide (K.out.trans (hb.mono K.out.size))
  clear hb
  go_wp2_with (fail)
  refine (ex41_br _).mono ?_
  rintro e v4 ⟨rfl, hb⟩
  replace K := hide (K.out.trans (hb.mono K.out.size))
  clear hb
  go_wp2_with (fail)
  refine calls_name fun v5 hZ => ?_
  have hbz : Below v4.heap.size v4 v5 := by
    rw [hZ]
    repeat (first | with_reducible exact Below.refl _ _ | with_reducible refine Below.setCell ?_ (by first | (simp; done) | (simp; omega)) _ | with_reducible refine Below.alloc ?_ (by first | omega | (simp; omega) | simp) _)
  have BX : Hid (Cels (v4.heap.size) [.int .i64 2, .int .i64 2, .int .i64 6, .int .i64 4] v5) := hide (by
    rw [hZ]
    refine ⟨by simp; try omega, fun i u hu => ?_⟩
    match i, hu with
    | 0, hu => injection hu with hu; subst hu; simp [go_sem]
    | 1, hu => injection hu with hu; subst hu; simp [go_sem]
    | 2, hu => injection hu with hu; subst hu; simp [go_sem]
    | 3, hu => injection hu with hu; subst hu; simp [go_sem])
  replace K := hide (K.out.trans (hbz.mono K.out.size))
  clear hZ hbz
  refine (bond_any _).mono ?_
  rintro e v6 ⟨rfl, hb⟩
  replace K := hide (K.out.trans (hb.mono K.out.size))
  replace BX := hide (BX.out.keep hb)
  clear hb
  go_wp2_with (fail)
  refine (ex41_co _).mono ?_
  rintro e v7 ⟨rfl, hb⟩
  replace K := hide (K.out.trans (hb.mono K.out.size))
  replace BX := hide (BX.out.keep hb)
  clear hb
  go_wp2_with (fail)
  refine calls_name fun v8 hZ => ?_
  have hbz : Below v7.heap.size v7 v8 := by
    rw [hZ]
    repeat (first | with_reducible exact Below.refl _ _ | with_reducible refine Below.setCell ?_ (by first | (simp; done) | (simp; omega)) _ | with_reducible refine Below.alloc ?_ (by first | omega | (simp; omega) | simp) _)
  have BU : Hid (Cels (v7.heap.size) [.int .i64 3, .int .i64 4] v8) := hide (by
    rw [hZ]
    refine ⟨by simp; try omega, fun i u hu => ?_⟩
    match i, hu with
    | 0, hu => injection hu with hu; subst hu; simp [go_sem]
    | 1, hu => injection hu with hu; subst hu; simp [go_sem])
  have BV : Hid (Cels (v7.heap.size + 1) [.int .i64 1, .int .i64 2] v8) := hide (by
    rw [hZ]
    refine ⟨by simp; try omega, fun i u hu => ?_⟩
    match i, hu with
    | 0, hu => injection hu with hu; subst hu; simp [go_sem]
    | 1, hu => injection hu with hu; subst hu; simp [go_sem])
  replace K := hide (K.out.trans (hbz.mono K.out.size))
  replace BX := hide (BX.out.keep hbz)
  clear hZ hbz
  refine (rect41_any 0 0 4 4 _).mono ?_
  rintro e v9 ⟨rfl, ho, hb⟩
  replace K := hide (K.out.trans (hb.mono K.out.size))
  replace BX := hide (BX.out.keep hb)
  replace BU := hide (BU.out.keep hb)
  replace BV := hide (BV.out.keep hb)
  have HR1 := hide (own_rd (l := ([⟨0, 0, 4, 4⟩] : List R4)) ho (fun _ => rfl))
  clear ho
  clear hb
  go_wp2_with (fail)
  refine (bond_any _).mono ?_
  rintro e v10 ⟨rfl, hb⟩
  replace K := hide (K.out.trans (hb.mono K.out.size))
  replace HR1 := hide ((HR1.out.below hb).mono hb.size)
  replace BX := hide (BX.out.keep hb)
  replace BU := hide (BU.out.keep hb)
  replace BV := hide (BV.out.keep hb)
  clear hb
  go_wp2_with (fail)
  refine (G1.out _ _ HR1.out).mono ?_
  rintro e v11 ⟨hpc, hb⟩
  replace K := hide (K.out.trans (hb.mono K.out.size))
  replace HR1 := hide ((HR1.out.below hb).mono hb.size)
  replace BX := hide (BX.out.keep hb)
  replace BU := hide (BU.out.keep hb)
  replace BV := hide (BV.out.keep hb)
  obtain ⟨xA, rfl, hA⟩ := pcs_rd hpc
  obtain ⟨Aa, ca, rfl, -⟩ := id hA
  have HA := hide hA
  clear hpc hA
  clear hb
  clear HR1
  go_wp2_with (fail)
  refine (rect41_any 0 0 4 4 _).mono ?_
  rintro e v12 ⟨rfl, ho, hb⟩
  replace K := hide (K.out.trans (hb.mono K.out.size))
  replace HA := hide ((HA.out.below hb).mono hb.size)
  replace BX := hide (BX.out.keep hb)
  replace BU := hide (BU.out.keep hb)
  replace BV := hide (BV.out.keep hb)
  have HR2 := hide (own_rd (l := ([⟨0, 0, 4, 4⟩] : List R4)) ho (fun _ => rfl))
  clear ho
  clear hb
  go_wp2_with (fail)
  refine (bond_any _).mono ?_
  rintro e v13 ⟨rfl, hb⟩
  replace K := hide (K.out.trans (hb.mono K.out.size))
  replace HA := hide ((HA.out.below hb).mono hb.size)
  replace HR2 := hide ((HR2.out.below hb).mono hb.size)
  replace BX := hide (BX.out.keep hb)
  replace BU := hide (BU.out.keep hb)
  replace BV := hide (BV.out.keep hb)
  clear hb
  go_wp2_with (fail)
  refine (G2.out _ _ HR2.out).mono ?_
  rintro e v14 ⟨rfl, hb⟩
  replace K := hide (K.out.trans (hb.mono K.out.size))
  replace HA := hide ((HA.out.below hb).mono hb.size)
  replace HR2 := hide ((HR2.out.below hb).mono hb.size)
  replace BX := hide (BX.out.keep hb)
  replace BU := hide (BU.out.keep hb)
  replace BV := hide (BV.out.keep hb)
  clear hb
  clear HR2
  have bx0 := BX.out.2 0 _ rfl
  have bx1 := BX.out.2 1 _ rfl
  have bx2 := BX.out.2 2 _ rfl
  have bx3 := BX.out.2 3 _ rfl
  have bu0 := BU.out.2 0 _ rfl
  have bu1 := BU.out.2 1 _ rfl
  have bv0 := BV.out.2 0 _ rfl
  have bv1 := BV.out.2 1 _ rfl
  go_upto_region 7 with fail
  clear bx0 bx1 bx2 bx3 bu0 bu1 bv0 bv1
  clear BX BU BV
  obtain ⟨A9, c9, e9, hx⟩ := HA.out
  injection e9 with e1 _ e3
  subst e1; subst e3
  obtain ⟨g9, rfl, hg9, kx⟩ := hx (by simp)
  obtain ⟨_, _, u9, x2, hu⟩ := kx 0 _ _ rfl
  have x2' : v14.cell? ⟨g9, 2, none⟩ = some u9 := x2
  have HU := hide hu
  clear hx kx hu x2 G1 G2 HA
  go_region_held3 (fun w' => w'.cell? ⟨g9, 2, none⟩ = some u9) ((first | exact ((show Below v14.heap.size v14 _ from by have hbK := HB10.out; repeat (first | with_reducible exact Below.refl _ _ | with_reducible assumption | with_reducible refine Below.setCell ?_ (by first | omega | (simp; done) | (simp; omega)) _ | with_reducible refine Below.alloc ?_ (by first | omega | (simp; omega) | simp) _ | with_reducible refine Below.drew ?_)).cell (p := ⟨g9, 2, none⟩) hg9).trans x2' | exact ((show Below v14.heap.size v14 _ from by have hbK := HBQ.out; repeat (first | with_reducible exact Below.refl _ _ | with_reducible assumption | with_reducible refine Below.setCell ?_ (by first | omega | (simp; done) | (simp; omega)) _ | with_reducible refine Below.alloc ?_ (by first | omega | (simp; omega) | simp) _ | with_reducible refine Below.drew ?_)).cell (p := ⟨g9, 2, none⟩) hg9).trans x2' | exact ((show Below v14.heap.size v14 _ from by repeat (first | with_reducible exact Below.refl _ _ | with_reducible assumption | with_reducible refine Below.setCell ?_ (by first | omega | (simp; done) | (simp; omega)) _ | with_reducible refine Below.alloc ?_ (by first | omega | (simp; omega) | simp) _ | with_reducible refine Below.drew ?_)).cell (p := ⟨g9, 2, none⟩) hg9).trans x2'))
    (first
      | (go_at_call 23; refine (rect41_any 0 0 4 2 _).mono ?_; rintro e wq ⟨rfl, ho, hbq⟩; have HRQ := hide (own_rd (l := ([⟨0, 0, 4, 2⟩] : List R4)) ho (fun _ => rfl)); have HBQ : Hid (Below v14.heap.size v14 wq) := hide (Below.trans (by repeat (first | with_reducible exact Below.refl _ _ | with_reducible assumption | with_reducible refine Below.setCell ?_ (by first | omega | (simp; done) | (simp; omega)) _ | with_reducible refine Below.alloc ?_ (by first | omega | (simp; omega) | simp) _ | with_reducible refine Below.drew ?_)) (hbq.mono (by simp <;> omega))); clear ho; obtain ⟨hcq, hfq⟩ := bcell hbq; clear hbq)
      | (go_at_call 18; refine (rSameSelf (l := ([⟨0, 0, 4, 2⟩] : List R4)) (rd_at HU.out (by have hbK := HBQ.out; repeat (first | with_reducible exact Below.refl _ _ | with_reducible assumption | with_reducible refine Below.setCell ?_ (by first | omega | (simp; done) | (simp; omega)) _ | with_reducible refine Below.alloc ?_ (by first | omega | (simp; omega) | simp) _ | with_reducible refine Below.drew ?_))) (rd_at HRQ.out (by repeat (first | with_reducible exact Below.refl _ _ | with_reducible assumption | with_reducible refine Below.setCell ?_ (by first | omega | (simp; done) | (simp; omega)) _ | with_reducible refine Below.alloc ?_ (by first | omega | (simp; omega) | simp) _ | with_reducible refine Below.drew ?_))) (by decide)).mono ?_; rintro e w10 ⟨rfl, hb10⟩; have HB10 : Hid (Below v14.heap.size v14 w10) := hide (Below.trans (by have hbK := HBQ.out; repeat (first | with_reducible exact Below.refl _ _ | with_reducible assumption | with_reducible refine Below.setCell ?_ (by first | omega | (simp; done) | (simp; omega)) _ | with_reducible refine Below.alloc ?_ (by first | omega | (simp; omega) | simp) _ | with_reducible refine Below.drew ?_)) (hb10.mono (by have := HBQ.out.size; simp <;> omega))); clear hb10))
  all_goals (go_wp2_with (fail); go_ret)
  all_goals exact ⟨rfl, K.out.trans ((show Below v14.heap.size v14 _ from by have hbK := HB10.out; repeat (first | with_reducible exact Below.refl _ _ | with_reducible assumption | with_reducible refine Below.setCell ?_ (by first | omega | (simp; done) | (simp; omega)) _ | with_reducible refine Below.alloc ?_ (by first | omega | (simp; omega) | simp) _ | with_reducible refine Below.drew ?_)).mono K.out.size)⟩
end Go.Proofs.YtjlfdgoijalfaaaGreat

/- A store into a row of the call's own; the sum of a row of numbers, read off the world. -/
namespace Go.Proofs.YtjlfdgoijalfaaaGreat
open Go.RowKit
set_option linter.unusedVariables false
set_option linter.unusedSimpArgs false

theorem heap_set_same {w : World} {g j : Nat} {cur : Array Value} {e : TypeId} (h : w.heap[g]? = some (.cells cur e (0, 0))) (u : Value) : (w.setCell ⟨g, j, none⟩ u).heap[g]? = some (.cells (cur.setIfInBounds j u) e (0, 0)) := by
  simp only [World.setCell, Array.getElem?_modify, h]
  simp
theorem own_set {w : World} {base g n cap j : Nat} {e : TypeId} {xs : List Value} (h : w.ownsRow base e 1 (.slice (some ⟨g, 0, none⟩) n cap) n xs) (u : Value) : (w.setCell ⟨g, j, none⟩ u).ownsRow base e 1 (.slice (some ⟨g, 0, none⟩) n cap) n (xs.set j u) := by
  refine ⟨by rw [List.length_set]; exact h.1, ?_⟩
  rcases h.2 with ⟨hv, _⟩ | ⟨g', cap', cur, hv, hb, hg, hnc, hcm, hcs, ht⟩
  · cases hv
  · injection hv with e1 _ e3
    injection e1 with e1
    injection e1 with e1
    subst e1; subst e3
    refine .inr ⟨g, cap, cur.setIfInBounds j u, rfl, hb, heap_set_same hg u, hnc, hcm, by simpa using hcs, ?_⟩
    rw [Array.toList_setIfInBounds, List.take_set, ht]
/-- The sum of n numbers of a row. -/
def cellSum (w : World) (v : Value) (n : Nat) : Nat :=
  match v with
  | .slice (some p) _ _ => ((List.range n).map fun j => match w.cell? ⟨p.block, p.off + j, none⟩ with | some (.int _ x) => x.toNat | _ => 0).sum
  | _ => 0
theorem cellSum_own {w : World} {base : Nat} {e : TypeId} {v : Value} {l : List Int} (h : w.ownsRow base e 1 v l.length (l.map iv)) : cellSum w v l.length = (l.map Int.toNat).sum := by
  rcases h.2 with ⟨rfl, h0⟩ | ⟨g, cap, cur, rfl, hb, hg, _⟩
  · have := List.eq_nil_of_length_eq_zero h0
    subst this
    rfl
  · unfold cellSum
    show (List.map _ (List.range l.length)).sum = _
    refine congrArg List.sum ?_
    apply List.ext_getElem?
    intro k
    rw [List.getElem?_map, List.getElem?_map]
    by_cases hk : k < l.length
    · rw [List.getElem?_range hk, List.getElem?_eq_getElem hk]
      have := (h.cells (g := g) rfl) k (iv l[k]) (by simp [hk])
      rw [addr_add] at this
      simp only [Option.map_some, Nat.zero_add] at this ⊢
      rw [this]
    · rw [List.getElem?_eq_none (by simpa using hk), List.getElem?_eq_none (by omega)]
      rfl
end Go.Proofs.YtjlfdgoijalfaaaGreat

/- Plain law: labels that go down along neighbours, step by step. -/
namespace Go.Proofs.YtjlfdgoijalfaaaGreat
set_option linter.unusedVariables false
set_option linter.unusedSimpArgs false

/-- Each label names a rectangle of the component, not behind its own. -/
def Lb (l : List R4) (L : List Int) : Prop := L.length = l.length ∧ ∀ (i : Nat) x, L[i]? = some x → ∃ j : Nat, x = (j : Int) ∧ Conn l i j ∧ j ≤ i
def sumN (L : List Int) : Nat := (L.map Int.toNat).sum
/-- No label is below a neighbour's, as far as the pairs have been seen: rows before m, and row m before j. -/
def Seen (l : List R4) (L : List Int) (m j : Nat) : Prop := ∀ i k x y, adj l i k → L[i]? = some x → L[k]? = some y → (i < m ∨ (i = m ∧ k < j)) → x ≤ y
/-- Inside one pass over all pairs: something went down, or nothing yet. -/
def Pass (l : List R4) (L0 L : List Int) (mb : Bool) (m j : Nat) : Prop := Lb l L ∧ ((mb = true ∧ sumN L < sumN L0) ∨ (mb = false ∧ L = L0 ∧ Seen l L m j))
theorem sumN_set : ∀ {L : List Int} {i : Nat} {x y : Int}, L[i]? = some x → sumN (L.set i y) + x.toNat = sumN L + y.toNat
  | [], i, x, y, h => by simp at h
  | a :: L, 0, x, y, h => by
    simp at h
    subst h
    simp [sumN]; omega
  | a :: L, i + 1, x, y, h => by
    have := sumN_set (L := L) (i := i) (y := y) (by simpa using h)
    simp [sumN] at this ⊢
    omega
theorem Lb.start (l : List R4) : Lb l ((List.range l.length).map fun i : Nat => (i : Int)) := by
  refine ⟨by simp, fun i x h => ?_⟩
  rw [List.getElem?_map] at h
  obtain ⟨j, hj, rfl⟩ := Option.map_eq_some_iff.1 h
  obtain ⟨h1, h2⟩ := List.getElem?_eq_some_iff.1 hj
  simp at h2
  subst h2
  exact ⟨i, rfl, .refl, Nat.le_refl _⟩
/-- The step of a pair whose second label is smaller. -/
theorem Pass.down {l : List R4} {L0 L : List Int} {mb : Bool} {m j : Nat} {x y : Int} (h : Pass l L0 L mb m j) (ha : adj l m j) (hx : L[m]? = some x) (hy : L[j]? = some y) (hlt : y < x) : Pass l L0 (L.set m y) true m (j + 1) := by
  obtain ⟨⟨h1, h2⟩, h3⟩ := h
  obtain ⟨jy, ey, cy, _⟩ := h2 j y hy
  obtain ⟨jx, ex, cx, lx⟩ := h2 m x hx
  refine ⟨⟨by simpa using h1, fun i z hz => ?_⟩, .inl ⟨rfl, ?_⟩⟩
  · by_cases hi : m = i
    · subst hi
      have hm : m < L.length := (List.getElem?_eq_some_iff.1 hx).1
      rw [List.getElem?_set_self hm] at hz
      injection hz with hz
      subst hz
      exact ⟨jy, ey, (Conn.refl.step ha).trans cy, by omega⟩
    · rw [List.getElem?_set_ne hi] at hz
      exact h2 i z hz
  · have := sumN_set (y := y) hx
    rcases h3 with ⟨_, h3⟩ | ⟨_, rfl, _⟩ <;> omega
theorem Pass.stay {l : List R4} {L0 L : List Int} {mb : Bool} {m j : Nat} (h : Pass l L0 L mb m j) (hn : ∀ x y, adj l m j → L[m]? = some x → L[j]? = some y → x ≤ y) : Pass l L0 L mb m (j + 1) := by
  refine ⟨h.1, h.2.imp id fun ⟨a, b, c⟩ => ⟨a, b, fun i k x y ha hx hy hs => ?_⟩⟩
  by_cases e : i = m ∧ k = j
  · obtain ⟨rfl, rfl⟩ := e
    exact hn x y ha hx hy
  · exact c i k x y ha hx hy (by omega)
theorem Pass.row {l : List R4} {L0 L : List Int} {mb : Bool} {m j : Nat} (h : Pass l L0 L mb m j) (hj : l.length ≤ j) : Pass l L0 L mb (m + 1) 0 := by
  refine ⟨h.1, h.2.imp id fun ⟨a, b, c⟩ => ⟨a, b, fun i k x y ha hx hy hs => ?_⟩⟩
  have hk : k < L.length := (List.getElem?_eq_some_iff.1 hy).1
  have := h.1.1
  exact c i k x y ha hx hy (by omega)
/-- Labels of a pass that changed nothing are the least indices. -/
theorem Pass.done {l : List R4} {L0 L : List Int} {m j : Nat} (h : Pass l L0 L false m j) (hm : l.length ≤ m) : L = (List.range l.length).map fun i => ((mn l i : Nat) : Int) := by
  obtain ⟨⟨h1, h2⟩, h3⟩ := h
  obtain ⟨_, _, hs⟩ := h3.resolve_left (fun q => by cases q.1)
  have key := labels_mn (l := l) (f := fun i => ((L[i]?).getD 0).toNat) (fun i hi => by
    obtain ⟨x, hx⟩ : ∃ x, L[i]? = some x := ⟨_, List.getElem?_eq_getElem (by omega)⟩
    obtain ⟨j, rfl, c, le⟩ := h2 i x hx
    simp only [hx, Option.getD_some, Int.toNat_natCast]
    exact ⟨c, le⟩) (fun i k ha => by
    obtain ⟨x0, y0, g1, g2, _⟩ := id ha
    have hi := (List.getElem?_eq_some_iff.1 g1).1
    have hk := (List.getElem?_eq_some_iff.1 g2).1
    obtain ⟨x, hx⟩ : ∃ x, L[i]? = some x := ⟨_, List.getElem?_eq_getElem (by omega)⟩
    obtain ⟨y, hy⟩ : ∃ y, L[k]? = some y := ⟨_, List.getElem?_eq_getElem (by omega)⟩
    have := hs i k x y ha hx hy (.inl (by omega))
    simp only [hx, hy, Option.getD_some]
    omega)
  apply List.ext_getElem?
  intro i
  by_cases hi : i < l.length
  · obtain ⟨x, hx⟩ : ∃ x, L[i]? = some x := ⟨_, List.getElem?_eq_getElem (by omega)⟩
    obtain ⟨j, rfl, c, le⟩ := h2 i x hx
    have := key i hi
    simp only [hx, Option.getD_some, Int.toNat_natCast] at this
    rw [hx, List.getElem?_map, List.getElem?_range hi]
    simp [this]
  · rw [List.getElem?_eq_none (by omega), List.getElem?_eq_none (by simpa using hi)]
end Go.Proofs.YtjlfdgoijalfaaaGreat

/- The reference's Touch. -/
namespace Go.Proofs.YtjlfdgoijalfaaaGreat
open Go.RowKit
set_option linter.unusedVariables false
set_option linter.unusedSimpArgs false

end Go.Proofs.YtjlfdgoijalfaaaGreat

/- The reference's Parts. -/
namespace Go.Proofs.YtjlfdgoijalfaaaGreat
open Go.RowKit
set_option linter.unusedVariables false
set_option linter.unusedSimpArgs false

/-- A list of regions of the call's own. -/
structure Regs (w : World) (vo : Value) (R : List (List R4)) (wr : World) : Prop where
  low : Below w.heap.size w wr
  o : ∃ vs, wr.ownsRow w.heap.size 44 1 vo R.length vs ∧ ∀ (i : Nat) (r : List R4), R[i]? = some r → ∃ v, vs[i]? = some v ∧ wr.ownsRow w.heap.size 41 4 v r.length (r.flatMap encR)
theorem Regs.below {w wr w2 : World} {vo : Value} {R : List (List R4)} (h : Regs w vo R wr) (hb : Below wr.heap.size wr w2) : Regs w vo R w2 := by
  obtain ⟨vs, h1, h2⟩ := h.o
  refine ⟨h.low.trans (hb.mono h.low.size), vs, own_below h1 hb, fun i r hr => ?_⟩
  obtain ⟨v, h3, h4⟩ := h2 i r hr
  exact ⟨v, h3, own_below h4 hb⟩
theorem Regs.push {w wr w2 : World} {vo v2 v : Value} {R : List (List R4)} {r : List R4} {vs : List Value} (low : Below w.heap.size w wr) (h1 : wr.ownsRow w.heap.size 44 1 vo R.length vs)
    (h2 : ∀ (i : Nat) (r : List R4), R[i]? = some r → ∃ v, vs[i]? = some v ∧ wr.ownsRow w.heap.size 41 4 v r.length (r.flatMap encR)) (hv : wr.ownsRow w.heap.size 41 4 v r.length (r.flatMap encR))
    (hg : wr.grownBy w2 vo.ownBlock) (h3 : w2.ownsRow w.heap.size 44 1 v2 (R.length + 1) (vs ++ [v])) : Regs w v2 (R ++ [r]) w2 := by
  have hl : vs.length = R.length := by have := h1.1; omega
  refine ⟨low.grown hg low.size (fun q hq => (h1.lt q hq).1), vs ++ [v], by simpa using h3, fun i x hx => ?_⟩
  by_cases hi : i < R.length
  · rw [List.getElem?_append_left hi] at hx
    obtain ⟨u, h4, h5⟩ := h2 i x hx
    exact ⟨u, by rw [List.getElem?_append_left (by omega)]; exact h4, h5.kept hg (own_apart h5 h1 (by decide))⟩
  · rw [List.getElem?_append_right (by omega)] at hx
    have hi0 : i - R.length = 0 := by
      have := (List.getElem?_eq_some_iff.1 hx).1
      simp at this
      omega
    rw [hi0] at hx
    simp at hx
    subst hx
    refine ⟨v, by rw [List.getElem?_append_right (by omega), hl, hi0]; rfl, hv.kept hg (own_apart hv h1 (by decide))⟩
def RegsRet (B : Nat) (x : List (List R4) × Int) (e : Ending) (w' : World) : Prop :=
  ∃ A c vs, e = .returned (.tuple #[.slice A x.1.length c, .int .i64 x.2]) ∧ w'.ownsRow B 44 1 (.slice A x.1.length c) x.1.length vs ∧ ∀ (i : Nat) (r : List R4), x.1[i]? = some r → ∃ v, vs[i]? = some v ∧ w'.ownsRow B 41 4 v r.length (r.flatMap encR)
noncomputable def partsE (l : List R4) : List (List R4) × Int := if checkF l = 0 then (partsF l, 0) else ([], checkF l)
theorem infoRg : (Tryz.prog.info? 44).map (fun i => (i.zero, i.size, i.bytes)) = some (some (.slice none 0 0), 1, 24) := by kernel_rfl
theorem cmn_apart {l : List R4} (h : l.Pairwise apart4) {i k : Nat} {x y : R4} (hx : l[i]? = some x) (hy : l[k]? = some y) (hne : i ≠ k) (wx : wf4 x) (wy : wf4 y) : cmn x y = false := by
  obtain ⟨hi, ex⟩ := List.getElem?_eq_some_iff.1 hx
  obtain ⟨hk, ey⟩ := List.getElem?_eq_some_iff.1 hy
  have key : ∀ a b : R4, apart4 a b → wf4 a → wf4 b → cmn a b = false := fun a b hab w1 w2 => by
    have := hab (max a.x0 b.x0) (max a.y0 b.y0)
    unfold wf4 at w1 w2
    simp only [rin] at this
    unfold cmn
    by_cases c1 : a.x0 < b.x1 <;> by_cases c2 : b.x0 < a.x1 <;> by_cases c3 : a.y0 < b.y1 <;> by_cases c4 : b.y0 < a.y1 <;> simp only [c1, c2, c3, c4, decide_true, decide_false, Bool.and_true, Bool.and_false, Bool.false_and]
    exact absurd ⟨⟨by omega, by omega, by omega, by omega⟩, by omega, by omega, by omega, by omega⟩ this
  have P := List.pairwise_iff_getElem.1 h
  rcases Nat.lt_or_gt_of_ne hne with hlt | hlt
  · exact key x y (by have := P i k hi hk hlt; rwa [ex, ey] at this) wx wy
  · exact key x y (fun u v ⟨h1, h2⟩ => by have := P k i hk hi hlt; rw [ex, ey] at this; exact this u v ⟨h2, h1⟩) wx wy
/-- The component's rectangles among the first j. -/
noncomputable def compP (l : List R4) (i j : Nat) : List R4 := ((List.range j).filter fun k => decide (mn l k = i)).filterMap fun k => l[k]?
theorem compP_in {l : List R4} {i j : Nat} {r : R4} (hr : l[j]? = some r) (h : mn l j = i) : compP l i (j + 1) = compP l i j ++ [r] := by
  unfold compP
  rw [List.range_succ, List.filter_append, List.filterMap_append]
  simp [h, hr]
theorem compP_out {l : List R4} {i j : Nat} (h : mn l j ≠ i) : compP l i (j + 1) = compP l i j := by
  unfold compP
  rw [List.range_succ, List.filter_append, List.filterMap_append]
  simp [h]
theorem compP_all (l : List R4) (i : Nat) : compP l i l.length = compL l i := rfl
theorem compP_len (l : List R4) (i j : Nat) : (compP l i j).length ≤ j := by
  unfold compP
  exact Nat.le_trans (List.length_filterMap_le _ _) (Nat.le_trans (List.length_filter_le _ _) (by simp))
noncomputable def partsP (l : List R4) (m : Nat) : List (List R4) := ((List.range m).filter fun i => decide (mn l i = i)).map fun i => rjoin hFst (compL l i) []
theorem partsP_in {l : List R4} {m : Nat} (h : mn l m = m) : partsP l (m + 1) = partsP l m ++ [rjoin hFst (compL l m) []] := by
  unfold partsP
  rw [List.range_succ, List.filter_append, List.map_append]
  simp [h]
theorem partsP_out {l : List R4} {m : Nat} (h : mn l m ≠ m) : partsP l (m + 1) = partsP l m := by
  unfold partsP
  rw [List.range_succ, List.filter_append, List.map_append]
  simp [h]
theorem partsP_all (l : List R4) : partsP l l.length = partsF l := rfl
theorem partsP_len (l : List R4) (m : Nat) : (partsP l m).length ≤ m := by
  unfold partsP
  rw [List.length_map]
  exact Nat.le_trans (List.length_filter_le _ _) (by simp)
/-- The labels' row, at one place. -/
theorem lab_cell {w wr : World} {g n c i : Nat} {L : List Int} {x : Int} (h : wr.ownsRow w.heap.size 3 1 (.slice (some ⟨g, 0, none⟩) n c) n (L.map iv)) (hx : L[i]? = some x) : wr.cell? ⟨g, i, none⟩ = some (.int .i64 x) := by
  have := (h.cells (g := g) rfl) i (iv x) (by simp [hx])
  rwa [addr_add] at this
theorem rects_at {W wr : World} {l : List R4} {b o m : Nat} (hk : ∀ (j : Nat) (x : R4), l[j]? = some x → ∀ (i : Nat) (u : Value), (encR x)[i]? = some u → W.cell? ⟨b, o + j * 4 + i, none⟩ = some u) (hb : ∀ q, wr.cell? ⟨b, q, none⟩ = W.cell? ⟨b, q, none⟩) {p0 p1 p2 p3 : Int} (hp : l[m]? = some ⟨p0, p1, p2, p3⟩) :
    wr.cell? ⟨b, o + m * 4, none⟩ = some (.int .i64 p0) ∧ wr.cell? ⟨b, o + m * 4 + 1, none⟩ = some (.int .i64 p1) ∧ wr.cell? ⟨b, o + m * 4 + 2, none⟩ = some (.int .i64 p2) ∧ wr.cell? ⟨b, o + m * 4 + 3, none⟩ = some (.int .i64 p3) :=
  ⟨(hb _).trans (hk m _ hp 0 _ rfl), (hb _).trans (hk m _ hp 1 _ rfl), (hb _).trans (hk m _ hp 2 _ rfl), (hb _).trans (hk m _ hp 3 _ rfl)⟩
def lab0 (m : Nat) : List Int := (List.range m).map fun i : Nat => (i : Int)
theorem lab0_len (m : Nat) : (lab0 m).length = m := by simp [lab0]
theorem lab0_snoc (m : Nat) : (lab0 m).map iv ++ [.int .i64 (m : Int)] = (lab0 (m + 1)).map iv := by
  unfold lab0
  rw [List.range_succ, List.map_append, List.map_append]
  rfl
theorem cellSum_lab {w : World} {base n : Nat} {e : TypeId} {v : Value} {L : List Int} (h : w.ownsRow base e 1 v n (L.map iv)) : cellSum w v n = sumN L := by
  have hn : n = L.length := by have := h.1; simp at this; omega
  subst hn
  exact cellSum_own h
def labR (l : List R4) (w : World) (vf : Value) (L : List Int) (wr : World) : Prop := wr.ownsRow w.heap.size 3 1 vf l.length (L.map iv) ∧ Below w.heap.size w wr

end Go.Proofs.YtjlfdgoijalfaaaGreat

/- A map from indexes to rectangles: its words, and the laws at its operations; a component that grows. -/
namespace Go.Proofs.YtjlfdgoijalfaaaGreat
open Go.RowKit Go.Maps
set_option linter.unusedVariables false
set_option linter.unusedSimpArgs false

theorem lawI : Keyed Tryz.prog 3 := int_keyed Tryz.underlying3
def rectD (r : R4) : DataW Unit := .agg [.lit (.int .i64 r.x0), .lit (.int .i64 r.y0), .lit (.int .i64 r.x1), .lit (.int .i64 r.y1)]
def rectE (v : Value) : Option (DataW Unit × List MemPlace) :=
  match v with
  | .agg xs => match xs.toList with
    | [.int .i64 a, .int .i64 b, .int .i64 c, .int .i64 d] => some (rectD ⟨a, b, c, d⟩, [])
    | _ => none
  | _ => none
theorem rectE_mk (r : R4) : rectE (.agg (encR r).toArray) = some (rectD r, []) := rfl
theorem rectE_mk4 (a b c d : Int) : rectE (.agg #[.int .i64 a, .int .i64 b, .int .i64 c, .int .i64 d]) = some (rectD ⟨a, b, c, d⟩, []) := rfl
theorem rectE_inv {v : Value} {y : DataW Unit × List MemPlace} (h : rectE v = some y) : ∃ r : R4, v = .agg #[.int .i64 r.x0, .int .i64 r.y0, .int .i64 r.x1, .int .i64 r.y1] ∧ y = (rectD r, []) := by
  unfold rectE at h
  split at h
  · rename_i xs
    split at h
    · rename_i a b c d e
      injection h with h
      refine ⟨⟨a, b, c, d⟩, ?_, h.symm⟩
      congr 1
      apply Array.toList_inj.1
      exact e
    · cases h
  · cases h
theorem rectD_inj {r s : R4} (h : rectD r = rectD s) : r = s := by
  unfold rectD at h
  simp only [DataW.agg.injEq, List.cons.injEq, DataW.lit.injEq, Lit.int.injEq, true_and, and_true] at h
  obtain ⟨h1, h2, h3, h4⟩ := h
  cases r; cases s
  simp_all
theorem zeroR (w : World) : (zeroValue 41).run Tryz.prog w = .ok (.agg #[.int .i64 0, .int .i64 0, .int .i64 0, .int .i64 0]) w := by kernel_rfl
abbrev ownsM (b n : Nat) (D : DataW Unit) (w : World) : Prop := w.ownsMap Tryz.prog 3 rectE b n D
/-- The map holds the rectangles of l at the indexes S. -/
def Mp (l : List R4) (S : Nat → Prop) (D : DataW Unit) : Prop :=
  (∀ kl, Maps.has D kl = true ↔ ∃ k, k < l.length ∧ S k ∧ kl = .int .i64 (k : Int)) ∧ ∀ (k : Nat) r, l[k]? = some r → S k → ∀ zd, D.atKey (.int .i64 (k : Int)) zd = rectD r
theorem key_ne {k j : Nat} (h : k ≠ j) : (Lit.int .i64 (k : Int)) ≠ .int .i64 (j : Int) := fun e => h (by injection e with _ e; omega)
theorem Mp.start (l : List R4) : Mp l (fun k => k < 0) (.map []) := by
  refine ⟨fun kl => ?_, fun k r _ h => absurd h (Nat.not_lt_zero _)⟩
  rw [has_eq]
  simp
theorem Mp.put {l : List R4} {D : DataW Unit} {m : Nat} {r : R4} (h : Mp l (fun k => k < m) D) (hD : IsMap D) (hr : l[m]? = some r) : Mp l (fun k => k < m + 1) (D.put (.int .i64 (m : Int)) (rectD r)) := by
  have hm := (List.getElem?_eq_some_iff.1 hr).1
  refine ⟨fun kl => ?_, fun k s hs hk zd => ?_⟩
  · by_cases e : kl = .int .i64 (m : Int)
    · subst e
      rw [has_put_same hD (show WideAt.IsKeyLit (.int .i64 (m : Int)) from trivial)]
      exact ⟨fun _ => ⟨m, hm, by omega, rfl⟩, fun _ => rfl⟩
    · rw [has_put_other e, h.1]
      constructor
      · rintro ⟨k, h1, h2, h3⟩
        exact ⟨k, h1, by omega, h3⟩
      · rintro ⟨k, h1, h2, rfl⟩
        exact ⟨k, h1, by have : k ≠ m := fun e2 => e (by rw [e2]); omega, rfl⟩
  · by_cases e : k = m
    · subst e
      rw [hr] at hs
      injection hs with hs
      subst hs
      exact atKey_put_same hD (show WideAt.IsKeyLit (.int .i64 (k : Int)) from trivial) _ _
    · rw [atKey_put_other (key_ne e)]
      exact h.2 k s hs (by omega) zd
theorem Mp.del {l : List R4} {S : Nat → Prop} {D : DataW Unit} {m : Nat} (h : Mp l S D) : Mp l (fun k => S k ∧ k ≠ m) (D.del (.int .i64 (m : Int))) := by
  refine ⟨fun kl => ?_, fun k s hs hk zd => ?_⟩
  · by_cases e : kl = .int .i64 (m : Int)
    · subst e
      rw [has_del_same]
      constructor
      · intro h; cases h
      · rintro ⟨k, h1, h2, h3⟩
        injection h3 with _ h3
        exact absurd (by omega) h2.2
    · rw [has_del_other e, h.1]
      constructor
      · rintro ⟨k, h1, h2, h3⟩
        exact ⟨k, h1, ⟨h2, fun e2 => e (by rw [h3, e2])⟩, h3⟩
      · rintro ⟨k, h1, h2, h3⟩
        exact ⟨k, h1, h2.1, h3⟩
  · rw [atKey_del_other (key_ne hk.2)]
    exact h.2 k s hs hk.1 zd
theorem Mp.iff {l : List R4} {S T : Nat → Prop} {D : DataW Unit} (h : Mp l S D) (e : ∀ k, k < l.length → (S k ↔ T k)) : Mp l T D := by
  refine ⟨fun kl => ?_, fun k r hr hk => h.2 k r hr ((e k (List.getElem?_eq_some_iff.1 hr).1).2 hk)⟩
  rw [h.1]
  constructor
  · rintro ⟨k, h1, h2, h3⟩; exact ⟨k, h1, (e k h1).1 h2, h3⟩
  · rintro ⟨k, h1, h2, h3⟩; exact ⟨k, h1, (e k h1).2 h2, h3⟩
theorem Mp.is {l : List R4} {S : Nat → Prop} {D : DataW Unit} (h : Mp l S D) {k : Nat} (hk : k < l.length) : Maps.has D (.int .i64 (k : Int)) = true ↔ S k := by
  rw [h.1]
  constructor
  · rintro ⟨j, _, h2, h3⟩
    injection h3 with _ h3
    obtain rfl : k = j := by omega
    exact h2
  · exact fun h => ⟨k, hk, h, rfl⟩
/-- The laws at the operations, the element's shape written out. -/
theorem own_map_apart {w : World} {B n bM k : Nat} {size : Nat} {e : TypeId} {v : Value} {xs : List Value} {D : DataW Unit} (h : w.ownsRow B e size v n xs) (hm : ownsM bM k D w) : v.ownBlock = none ∨ v.ownBlock ≠ some bM := by
  rcases h.2 with ⟨rfl, _⟩ | ⟨g, cap, cur, rfl, _, hg, _⟩
  · exact .inl rfl
  · right
    intro he
    obtain ⟨es, c, hb, _⟩ := hm
    have : g = bM := by simpa [Value.ownBlock] using he
    subst this
    rw [hg] at hb
    cases hb
section
variable {w : World} {ops : Array Oper} {rest : List Oper} {o : Oper} {a : Act} {Q : Exit → Act → World → Prop}
theorem wpList_next_rect (hg : o.guard = none) (it : Operand) (hop : o.op = Op.next it false) (b r n : Nat) (D : DataW Unit) (left : Lit → Bool) (cnt : Nat) (hit : a.eval it = .pointer (some ⟨r, 0, none⟩)) (h : w.ranges Tryz.prog 3 rectE b r n D left cnt) {l : List R4} {S : Nat → Prop} (hM : Mp l S D)
    (hDone : (∀ kl, left kl = false) → wpList Tryz.prog ops Q rest (a.put o.dst (.tuple #[.bool false])) w)
    (hMore : ∀ (k : Nat) (q0 q1 q2 q3 : Int) (w' : World) (cnt' : Nat), l[k]? = some ⟨q0, q1, q2, q3⟩ → S k → left (.int .i64 (k : Int)) = true → w'.ranges Tryz.prog 3 rectE b r n D (fun z => left z && !z.sameKey (.int .i64 (k : Int))) cnt' → cnt' < cnt →
      w.grownBy w' (some r) → w'.heap.size = w.heap.size → (Instr.entry (.pointer (some ⟨r, 0, none⟩))).run Tryz.prog w' = .ok (.tuple #[.int .i64 (k : Int), .agg #[.int .i64 q0, .int .i64 q1, .int .i64 q2, .int .i64 q3]]) w' → wpList Tryz.prog ops Q rest (a.put o.dst (.tuple #[.bool true, .int .i64 (k : Int), .agg #[.int .i64 q0, .int .i64 q1, .int .i64 q2, .int .i64 q3]])) w') :
    wpList Tryz.prog ops Q (o :: rest) a w :=
  wpList_next_ranges w hg it hop 3 lawI rectE (fun x : Int => .int .i64 x) (fun r : R4 => .agg #[.int .i64 r.x0, .int .i64 r.y0, .int .i64 r.x1, .int .i64 r.y1])
    (fun key kl hk => by obtain ⟨x, rfl, _⟩ := Maps.keyOf_int_inv Tryz.underlying3 hk; exact ⟨x, rfl⟩) (fun v y hv => by obtain ⟨r, rfl, _⟩ := rectE_inv hv; exact ⟨r, rfl⟩) b r n D left cnt hit h (fun _ hl => hDone hl)
    (fun x c kl y w' cnt' hkey hlk hv hat hrg hlt hgr hsz hen => by
      obtain ⟨x', e1, rfl, _⟩ := Maps.keyOf_int_inv Tryz.underlying3 hkey
      injection e1 with _ e1
      subst e1
      have hh := has_true_of_atKey (D := D) (k := .int .i64 x) hat
      obtain ⟨k, hk, hS, e2⟩ := (hM.1 _).1 hh
      injection e2 with _ e2
      subst e2
      obtain ⟨s, hs⟩ : ∃ s, l[k]? = some s := ⟨_, List.getElem?_eq_getElem hk⟩
      obtain ⟨r, e3, e4⟩ := rectE_inv hv
      have e5 := (hM.2 k s hs hS (rectD s)).symm.trans (hat (rectD s))
      rw [e4] at e5
      have e6 := rectD_inj e5
      subst e6
      obtain ⟨s0, s1, s2, s3⟩ := s
      obtain ⟨c0, c1, c2, c3⟩ := c
      simp only [Value.agg.injEq, Array.mk.injEq, List.cons.injEq, Value.int.injEq, true_and, and_true] at e3
      obtain ⟨rfl, rfl, rfl, rfl⟩ := e3
      exact hMore k _ _ _ _ w' cnt' hs hS hlk hrg hlt hgr hsz hen)
end
/-! ### a component that grows -/
/-- P: indexes of the component of m; of the first kk of them all neighbours are in P. -/
def Grow (l : List R4) (m : Nat) (P : List Nat) (kk : Nat) : Prop := (∀ p ∈ P, Conn l m p) ∧ m ∈ P ∧ ∀ i, i < kk → ∀ p, P[i]? = some p → ∀ n, adj l p n → n ∈ P
theorem Grow.start (l : List R4) (m : Nat) : Grow l m [m] 0 := ⟨fun p hp => by rw [List.mem_singleton] at hp; subst hp; exact .refl, List.mem_singleton.2 rfl, fun i h => absurd h (Nat.not_lt_zero _)⟩
theorem Grow.push {l : List R4} {m : Nat} {P : List Nat} {kk p n : Nat} (h : Grow l m P kk) (hkk : kk ≤ P.length) (hp : p ∈ P) (ha : adj l p n) : Grow l m (P ++ [n]) kk := by
  refine ⟨fun q hq => ?_, List.mem_append_left _ h.2.1, fun i hi q hq k hk => ?_⟩
  · rcases List.mem_append.1 hq with hq | hq
    · exact h.1 q hq
    · rw [List.mem_singleton] at hq
      subst hq
      exact (h.1 p hp).step ha
  · rw [List.getElem?_append_left (by omega)] at hq
    exact List.mem_append_left _ (h.2.2 i hi q hq k hk)
theorem Grow.next {l : List R4} {m : Nat} {P : List Nat} {kk p : Nat} (h : Grow l m P kk) (hp : P[kk]? = some p) (ha : ∀ n, adj l p n → n ∈ P) : Grow l m P (kk + 1) := by
  refine ⟨h.1, h.2.1, fun i hi q hq => ?_⟩
  by_cases e : i = kk
  · subst e
    rw [hp] at hq
    injection hq with hq
    subst hq
    exact ha
  · exact h.2.2 i (by omega) q hq
theorem Grow.all {l : List R4} {m : Nat} {P : List Nat} {kk : Nat} (h : Grow l m P kk) (hkk : P.length ≤ kk) {k : Nat} : k ∈ P ↔ Conn l m k := by
  refine ⟨h.1 k, fun c => ?_⟩
  induction c with
  | refl => exact h.2.1
  | step _ a ih =>
    obtain ⟨i, hi, e⟩ := List.getElem_of_mem ih
    exact h.2.2 i (by omega) _ (by rw [← e]; exact List.getElem?_eq_getElem hi) _ a
def left4 (l : List R4) (P : List Nat) : List R4 := P.filterMap fun k => l[k]?
theorem left4_snoc {l : List R4} {P : List Nat} {n : Nat} {r : R4} (h : l[n]? = some r) : left4 l (P ++ [n]) = left4 l P ++ [r] := by simp [left4, h]
theorem left4_at {l : List R4} {P : List Nat} (hP : ∀ p ∈ P, p < l.length) {i p : Nat} {r : R4} (hi : P[i]? = some p) (hr : l[p]? = some r) : (left4 l P)[i]? = some r := by
  unfold left4
  induction P generalizing i with
  | nil => simp at hi
  | cons q P ih =>
    have h1 := hP q (by simp)
    rw [List.filterMap_cons_some (List.getElem?_eq_getElem h1)]
    cases i with
    | zero =>
      have e : q = p := by simpa using hi
      subst e
      rw [List.getElem?_eq_getElem h1] at hr
      simpa using hr
    | succ i => exact ih (fun q hq => hP q (by simp [hq])) (by simpa using hi)
theorem left4_len {l : List R4} {P : List Nat} (hP : ∀ p ∈ P, p < l.length) : (left4 l P).length = P.length := by
  unfold left4
  induction P with
  | nil => rfl
  | cons p P ih =>
    have h1 := hP p (by simp)
    rw [List.filterMap_cons_some (List.getElem?_eq_getElem h1), List.length_cons, List.length_cons, ih (fun q hq => hP q (by simp [hq]))]
/-- The component, in whatever order it was found, makes the part. -/
theorem grow_made {l : List R4} {m : Nat} {P : List Nat} {kk : Nat} (hc : RCan l) (hv : ∀ r ∈ l, wf4 r) (hl : l.length ≤ 400) (h : Grow l m P kk) (hkk : P.length ≤ kk) (hm : mn l m = m) : madeF (left4 l P) = (rjoin hFst (compL l m) [], 0) := by
  have hset : ∀ r, r ∈ left4 l P ↔ r ∈ compL l m := fun r => by
    rw [mem_compL]
    unfold left4
    rw [List.mem_filterMap]
    constructor
    · rintro ⟨k, hk, hr⟩
      exact ⟨k, by rw [← mn_eq ((h.all hkk).1 hk), hm], hr⟩
    · rintro ⟨k, hk, hr⟩
      exact ⟨k, (h.all hkk).2 (conn_of_mn (by rw [hm, hk])), hr⟩
  have hsub := compL_sub l m
  have e := rjoin_set (a := left4 l P) (b := compL l m) (fun r hr => hv r (hsub.subset ((hset r).1 hr))) (fun r hr => hv r (hsub.subset hr)) hset
  have hcnt := sub_count hc hv hsub
  have := hsub.length_le
  unfold madeF
  rw [e, if_neg (by omega)]
/-- What the outer loop's round has struck. -/
theorem grow_rest {l : List R4} {m : Nat} {P : List Nat} {kk : Nat} (h : Grow l m P kk) (hkk : P.length ≤ kk) (hm : mn l m = m) (k : Nat) : (m ≤ mn l k ∧ k ∉ P) ↔ m + 1 ≤ mn l k := by
  rw [h.all hkk]
  constructor
  · rintro ⟨h1, h2⟩
    have : mn l k ≠ m := fun e => h2 (conn_of_mn (by rw [hm, e]))
    omega
  · intro h1
    refine ⟨by omega, fun c => ?_⟩
    have := mn_eq c
    omega
theorem rest_skip {l : List R4} {m : Nat} (hm : mn l m ≠ m) (k : Nat) : m ≤ mn l k ↔ m + 1 ≤ mn l k := by
  constructor
  · intro h
    have : mn l k ≠ m := fun e => hm (by rw [← e, mn_mn])
    omega
  · intro h; omega
theorem below_grown {w w' : World} (h : Below w.heap.size w w') : w.grownBy w' none := ⟨h.os, h.tape, h.output, h.size, fun k hk _ => h.block k hk⟩
end Go.Proofs.YtjlfdgoijalfaaaGreat

/- region.Parts. -/
namespace Go.Proofs.YtjlfdgoijalfaaaGreat
open Go.RowKit Go.Maps
set_option linter.unusedVariables false
set_option linter.unusedSimpArgs false

theorem Regs.but {w a c : World} {vo : Value} {R : List (List R4)} {bM k : Nat} {D : DataW Unit} (h : Regs w vo R a) (hm : ownsM bM k D a) (hg : a.grownBy c (some bM)) (hb : w.heap.size ≤ bM) : Regs w vo R c := by
  obtain ⟨vs, h1, h2⟩ := h.o
  exact ⟨h.low.grown hg h.low.size (fun q hq => by cases hq; exact hb), vs, h1.kept hg (own_map_apart h1 hm), fun i r hr => by
    obtain ⟨v, h3, h4⟩ := h2 i r hr
    exact ⟨v, h3, h4.kept hg (own_map_apart h4 hm)⟩⟩
theorem own_ranges_apart {w : World} {B n bM rI k cnt : Nat} {size : Nat} {e : TypeId} {v : Value} {xs : List Value} {D : DataW Unit} {left : Lit → Bool} (h : w.ownsRow B e size v n xs) (hm : w.ranges Tryz.prog 3 rectE bM rI k D left cnt) : v.ownBlock = none ∨ v.ownBlock ≠ some rI := by
  rcases h.2 with ⟨rfl, _⟩ | ⟨g, cap, cur, rfl, _, hg, _⟩
  · exact .inl rfl
  · right
    intro he
    obtain ⟨es, c, s1, s2, s3, _, _, _, _, hb, _⟩ := hm
    have : g = rI := by simpa [Value.ownBlock] using he
    subst this
    rw [hg] at hb
    cases hb
theorem apart_ne {v : Value} {q : Nat} (h : v.ownBlock = none ∨ v.ownBlock ≠ some q) : some q ≠ v.ownBlock := by
  rcases h with h | h
  · rw [h]; simp
  · exact fun e => h e.symm
theorem box_cells {w : World} {B : Nat} (hB : w.heap.size = B) (a b c d : Value) (t : TypeId) : (w.alloc (.cells #[a, b, c, d] t)).cell? ⟨B, 0, none⟩ = some a ∧ (w.alloc (.cells #[a, b, c, d] t)).cell? ⟨B, 1, none⟩ = some b ∧ (w.alloc (.cells #[a, b, c, d] t)).cell? ⟨B, 2, none⟩ = some c ∧ (w.alloc (.cells #[a, b, c, d] t)).cell? ⟨B, 3, none⟩ = some d := by
  have h := news_new w [a, b, c, d] t B hB
  have h0 := h 0 a rfl
  have h1 := h 1 b rfl
  have h2 := h 2 c rfl
  have h3 := h 3 d rfl
  simp only [addr_add] at h0 h1 h2 h3
  exact ⟨h0, h1, h2, h3⟩
/-- The part that is being found, the map, and all else as it was at W. -/
structure PS (l : List R4) (W : World) (bM m : Nat) (P : List Nat) (kk : Nat) (v : Value) (D : DataW Unit) (wi : World) : Prop where
  grow : Grow l m P kk
  mp : Mp l (fun k => m ≤ mn l k ∧ k ∉ P) D
  size : P.length + Maps.size D ≤ l.length
  row : wi.ownsRow W.heap.size 41 4 v P.length ((left4 l P).flatMap encR)
  same : W.grownBy wi (some bM)
theorem PS.lt {l : List R4} {W wi : World} {bM m kk : Nat} {P : List Nat} {v : Value} {D : DataW Unit} (h : PS l W bM m P kk v D wi) (hm : m < l.length) : ∀ p ∈ P, p < l.length := fun p hp => (h.grow.1 p hp).lt hm
/-- What the range has left over so far is not beside p. -/
def Off (l : List R4) (p : Nat) (D : DataW Unit) (left : Lit → Bool) : Prop := ∀ n, n < l.length → Maps.has D (.int .i64 (n : Int)) = true → left (.int .i64 (n : Int)) = false → ¬ adj l p n
theorem Off.start (l : List R4) (p : Nat) (D : DataW Unit) : Off l p D (Maps.has D) := fun n _ h1 h2 => by rw [h1] at h2; cases h2
theorem same_false {k n : Nat} (h : k ≠ n) : (Lit.int .i64 (n : Int)).sameKey (.int .i64 (k : Int)) = false := sameKey_ne (key_ne (Ne.symm h))
theorem Off.stay {l : List R4} {p k : Nat} {D : DataW Unit} {left : Lit → Bool} (h : Off l p D left) (hn : ¬ adj l p k) : Off l p D (fun z => left z && !z.sameKey (.int .i64 (k : Int))) := fun n hn1 h1 h2 => by
  by_cases e : k = n
  · subst e; exact hn
  · refine h n hn1 h1 ?_
    simpa [same_false e] using h2
theorem Off.strike {l : List R4} {p k : Nat} {D : DataW Unit} {left : Lit → Bool} (h : Off l p D left) : Off l p (D.del (.int .i64 (k : Int))) (fun z => left z && !z.sameKey (.int .i64 (k : Int))) := fun n hn1 h1 h2 => by
  by_cases e : k = n
  · subst e; rw [has_del_same] at h1; cases h1
  · rw [has_del_other (key_ne (Ne.symm e))] at h1
    refine h n hn1 h1 ?_
    simpa [same_false e] using h2
theorem Off.done {l : List R4} {W wi : World} {bM m kk : Nat} {P : List Nat} {v : Value} {D : DataW Unit} {p : Nat} {left : Lit → Bool} (h : PS l W bM m P kk v D wi) (hm : mn l m = m) (hp : P[kk]? = some p) (ho : Off l p D left) (hl : ∀ kl, left kl = false) : PS l W bM m P (kk + 1) v D wi := by
  refine ⟨h.grow.next hp fun n ha => ?_, h.mp, h.size, h.row, h.same⟩
  by_cases hn : n ∈ P
  · exact hn
  · obtain ⟨_, y, _, hy, _⟩ := id ha
    have hlt := (List.getElem?_eq_some_iff.1 hy).1
    have hc := (h.grow.1 p (List.mem_of_getElem? hp)).step ha
    have hmn := mn_eq hc
    exact absurd ha (ho n hlt ((h.mp.is hlt).2 ⟨by omega, hn⟩) (hl _))

end Go.Proofs.YtjlfdgoijalfaaaGreat

/- RegionParts' walk: Touch and Parts against the reference. -/
namespace Go.Proofs.YtjlfdgoijalfaaaGreat
open Go.RowKit
set_option linter.unusedVariables false
set_option linter.unusedSimpArgs false

theorem partsE_len (l : List R4) : (partsE l).1.length ≤ 400 ∧ ∀ r ∈ (partsE l).1, r.length ≤ 400 := by
  unfold partsE
  by_cases h : checkF l = 0
  · rw [if_pos h]
    obtain ⟨k1, k2, _⟩ := checkF_ok h
    refine ⟨Nat.le_trans (partsP_len l l.length) k1, fun r hr => ?_⟩
    obtain ⟨i, _, rfl⟩ := List.mem_map.1 hr
    exact Nat.le_trans (sub_count (check_rcan h) (fun r hr => by have := k2 r hr; exact ⟨this.1, this.2.1⟩) (compL_sub l i)) (Nat.le_trans (compL_sub l i).length_le k1)
  · rw [if_neg h]
    simp
/-- A list of regions lies at v. -/
def RgsAt (R : List (List R4)) (v : Value) (W : World) : Prop := ∃ B vs, W.ownsRow B 44 1 v R.length vs ∧ ∀ (i : Nat) (r : List R4), R[i]? = some r → ∃ v, vs[i]? = some v ∧ W.ownsRow B 41 4 v r.length (r.flatMap encR)
theorem RgsAt.below {R : List (List R4)} {v : Value} {W W' : World} (h : RgsAt R v W) (hb : Below W.heap.size W W') : RgsAt R v W' := by
  obtain ⟨B, vs, h1, h2⟩ := h
  exact ⟨B, vs, own_below h1 hb, fun i r hr => by obtain ⟨v, h3, h4⟩ := h2 i r hr; exact ⟨v, h3, own_below h4 hb⟩⟩
theorem RgsAt.get {R : List (List R4)} {A : Option Addr} {n c : Nat} {W : World} (h : RgsAt R (.slice A n c) W) {i : Nat} {r : List R4} (hr : R[i]? = some r) : ∃ g, A = some ⟨g, 0, none⟩ ∧ g < W.heap.size ∧ ∃ A2 c2, W.cell? ⟨g, i, none⟩ = some (.slice A2 r.length c2) ∧ RdK encR 4 W W.heap.size (.slice A2 r.length c2) r := by
  obtain ⟨B, vs, h1, h2⟩ := h
  have hi := (List.getElem?_eq_some_iff.1 hr).1
  obtain ⟨g, cap, hv, hB, hg⟩ := h1.form (by omega)
  injection hv with e1 _ e3
  subst e1; subst e3
  obtain ⟨v, h3, h4⟩ := h2 i r hr
  obtain ⟨A2, c2, rfl⟩ := own_form h4
  refine ⟨g, rfl, (h1.lt g rfl).2, A2, c2, ?_, own_rd h4 (fun _ => rfl)⟩
  have := (h1.cells (g := g) rfl) i _ h3
  rwa [addr_add] at this
end Go.Proofs.YtjlfdgoijalfaaaGreat

/- region.slabs at Region, and its iterator. -/
namespace Go.Proofs.YtjlfdgoijalfaaaGreat
open Go.RowKit
set_option linter.unusedVariables false
set_option linter.unusedSimpArgs false
attribute [local go_sem] Oper.semAt_some

end Go.Proofs.YtjlfdgoijalfaaaGreat

/- region.joined: two regions joined, slab by slab. -/
namespace Go.Proofs.YtjlfdgoijalfaaaGreat
open Go.RowKit
set_option linter.unusedVariables false
set_option linter.unusedSimpArgs false
attribute [local go_sem] Oper.semAt_some

/-- A slab with too many spans is a region with too many rectangles. -/
theorem slab_many {h : Bool → Bool → Bool} (h0 : h false false = false) {a b : List R4} (ha : ∀ r ∈ a, wf4 r) (hb : ∀ r ∈ b, wf4 r) (c : Int) : (sjoin h (crossL a c) (crossL b c)).length ≤ (rjoin h a b).length := by
  obtain ⟨r1, r2⟩ := rjoin_ok h0 ha hb
  obtain ⟨s1, s2⟩ := sjoin_ok h0 (crossL_wf ha c) (crossL_wf hb c)
  have e : crossL (rjoin h a b) c = sjoin h (crossL a c) (crossL b c) := (crossL_can r1 c).ext s1 fun y => by
    rw [smem_crossL, r2, s2, decide_eq_decide.2 (smem_crossL (l := a)), decide_eq_decide.2 (smem_crossL (l := b))]
  rw [← e]
  exact crossL_len _ _
theorem crossL_valid {l : List R4} (h : ∀ r ∈ l, valid4 r) (c : Int) : ∀ p ∈ crossL l c, validS p := by
  intro p hp
  obtain ⟨r, hr, rfl⟩ := List.mem_map.1 hp
  have hvr := h r (List.mem_filter.1 hr).1
  exact ⟨hvr.2.1, hvr.2.2.2.2.1.1, hvr.2.2.2.2.2.2⟩

theorem keepsFrom_set {n : Nat} {A B : World} (h : KeepsFrom n A B) {p : Addr} (hp : p.block < n) (v : Value) : KeepsFrom n A (B.setCell p v) := by
  refine ⟨Nat.le_trans h.1 (by simp), fun k o hk h1 h2 => ?_⟩
  have := h.2 k o hk h1 h2
  exact (Below.heap_setCell _ _ _ _ (by omega)).trans this
end Go.Proofs.YtjlfdgoijalfaaaGreat

/- region.Union, Meet and Minus. -/
namespace Go.Proofs.YtjlfdgoijalfaaaGreat
open Go.RowKit
set_option linter.unusedVariables false
set_option linter.unusedSimpArgs false

theorem hk_or : hk 2 = hOr := by funext p q; cases p <;> cases q <;> rfl
theorem hk_and : hk 1 = hAnd := by funext p q; cases p <;> cases q <;> rfl
theorem hk_sub : hk 3 = hSub := by funext p q; cases p <;> cases q <;> rfl
theorem joinF_len (h : Bool → Bool → Bool) (a b : List R4) : (joinF h a b).1.length ≤ 400 := by
  unfold joinF
  split
  · split
    · simp
    · simp only; omega
  · simp
end Go.Proofs.YtjlfdgoijalfaaaGreat

/- The chapter's examples hold: law.go's steps and alive. -/
namespace Go.Proofs.YtjlfdgoijalfaaaGreat
open Go.RowKit
set_option linter.unusedVariables false
set_option linter.unusedSimpArgs false

/-- Rectangles of which no two lie side by side are the parts. -/
theorem mn_self {l : List R4} (h : ∀ i j, ¬ adj l i j) (i : Nat) : mn l i = i := by
  have key : ∀ k, Conn l i k → k = i := fun k hk => by
    cases hk with
    | refl => rfl
    | step _ a => exact absurd a (h _ _)
  exact key _ (mn_conn l i)
def stepsL : List R4 := ([⟨0, 0, 1, 2⟩, ⟨1, 0, 2, 3⟩, ⟨2, 1, 3, 3⟩] : List R4)
def restL : List R4 := ([⟨0, 0, 1, 2⟩, ⟨2, 1, 3, 3⟩] : List R4)
theorem ex_make : makeF [⟨0, 0, 2, 2⟩, ⟨1, 1, 3, 3⟩] = (stepsL, 0) := by kernel_rfl
theorem ex_area : areaF stepsL = (7, 0) := by kernel_rfl
theorem ex_minus : joinF hSub stepsL [⟨1, 0, 2, 3⟩] = (restL, 0) := by kernel_rfl
theorem ex_touch : touchF [⟨0, 0, 1, 2⟩] [⟨2, 1, 3, 3⟩] = (false, 0) := by kernel_rfl
theorem ex_parts : partsE restL = ([[⟨0, 0, 1, 2⟩], [⟨2, 1, 3, 3⟩]], 0) := by
  have h0 : checkF restL = 0 := by kernel_rfl
  have ha : ∀ i j, ¬ adj restL i j := by
    rintro i j ⟨x, y, h1, h2, h3⟩
    have hi := (List.getElem?_eq_some_iff.1 h1).1
    have hj := (List.getElem?_eq_some_iff.1 h2).1
    have e1 : i = 0 ∨ i = 1 := by simp [restL] at hi; omega
    have e2 : j = 0 ∨ j = 1 := by simp [restL] at hj; omega
    rcases e1 with rfl | rfl <;> rcases e2 with rfl | rfl <;> (simp [restL] at h1 h2; subst h1; subst h2; revert h3; decide)
  unfold partsE
  rw [if_pos h0]
  have hm : mn restL = fun i => i := funext fun i => mn_self ha i
  unfold partsF compL
  rw [hm]
  have e1 : rjoin hFst [⟨0, 0, 1, 2⟩] [] = [⟨0, 0, 1, 2⟩] := by kernel_rfl
  have e2 : rjoin hFst [⟨2, 1, 3, 3⟩] [] = [⟨2, 1, 3, 3⟩] := by kernel_rfl
  simp [restL, List.range_succ, e1, e2]
end Go.Proofs.YtjlfdgoijalfaaaGreat

/- law.go's fit; what a join of two regions is. -/
namespace Go.Proofs.YtjlfdgoijalfaaaGreat
open Go.RowKit
set_option linter.unusedVariables false
set_option linter.unusedSimpArgs false

def fitB (a b : List R4) : Bool := decide (a.length ≤ 60) && (decide (b.length ≤ 60) && decide (bothF a b = 0))
theorem fitB_ok {a b : List R4} (h : fitB a b = true) : a.length ≤ 60 ∧ b.length ≤ 60 ∧ checkF a = 0 ∧ checkF b = 0 := by
  unfold fitB at h
  simp only [Bool.and_eq_true, decide_eq_true_eq] at h
  exact ⟨h.1, h.2.1, bothF_ok h.2.2⟩
/-- What a join of two regions is. -/
theorem join_two {h : Bool → Bool → Bool} (h0 : h false false = false) {a b : List R4} (ha : checkF a = 0) (hb : checkF b = 0) :
    joinF h a b = ([], 4) ∨ ∃ R, joinF h a b = (R, 0) ∧ checkF R = 0 ∧ R.length ≤ 400 ∧ ∀ x y, pmem R x y ↔ h (decide (pmem a x y)) (decide (pmem b x y)) = true := by
  rw [joinF_ok ha hb]
  by_cases hl : 400 < (rjoin h a b).length
  · rw [if_pos hl]; exact .inl rfl
  · rw [if_neg hl]
    exact .inr ⟨_, rfl, join_check h0 ha hb (by omega), by omega, join_pts h0 ha hb⟩
theorem dec_join {h : Bool → Bool → Bool} {a b R : List R4} {x y : Int} (hp : ∀ x y, pmem R x y ↔ h (decide (pmem a x y)) (decide (pmem b x y)) = true) : decide (pmem R x y) = h (decide (pmem a x y)) (decide (pmem b x y)) := by
  have e := hp x y
  cases hh : h (decide (pmem a x y)) (decide (pmem b x y)) with
  | true => exact decide_eq_true (e.2 hh)
  | false => exact decide_eq_false (fun q => by rw [e.1 q] at hh; cases hh)
end Go.Proofs.YtjlfdgoijalfaaaGreat

/- Plain law: areas of union and common part; the two parts of a region. -/
namespace Go.Proofs.YtjlfdgoijalfaaaGreat
open Go.RowKit
set_option linter.unusedVariables false
set_option linter.unusedSimpArgs false

theorem join_is {h : Bool → Bool → Bool} (h0 : h false false = false) {a b c : List R4} (ha : checkF a = 0) (hb : checkF b = 0) (hc : checkF c = 0) (hp : ∀ x y, pmem c x y ↔ h (decide (pmem a x y)) (decide (pmem b x y)) = true) : joinF h a b = (c, 0) := by
  have e : rjoin h a b = c := (rjoin_eq h0 (check_wf ha) (check_wf hb) (check_rcan hc) hp).symm
  rw [joinF_ok ha hb, e, if_neg (by have := (checkF_ok hc).1; omega)]
theorem check_nil : checkF [] = 0 := by kernel_rfl
theorem area_le {l : List R4} (h : checkF l = 0) : 0 ≤ areaS l ∧ areaS l ≤ 1600000000000000 := by
  have h1 := areaS_bd (l := l) fun r hr => (checkF_ok h).2.1 r hr
  have h2 := (checkF_ok h).1
  omega
/-- What the law of areas needs of three joins. -/
theorem areas_law {a b u c d : List R4} (ha : checkF a = 0) (hb : checkF b = 0) (hu : checkF u = 0) (hc : checkF c = 0) (hd : checkF d = 0)
    (pu : ∀ x y, pmem u x y ↔ hOr (decide (pmem a x y)) (decide (pmem b x y)) = true) (pc : ∀ x y, pmem c x y ↔ hAnd (decide (pmem a x y)) (decide (pmem b x y)) = true) (pd : ∀ x y, pmem d x y ↔ hSub (decide (pmem a x y)) (decide (pmem b x y)) = true) :
    areaS u + areaS c = areaS a + areaS b ∧ joinF hOr c d = (a, 0) ∧ joinF hAnd c d = ([], 0) := by
  refine ⟨area_sum ha hb hu hc (fun x y => by rw [pu]; simp [hOr]) (fun x y => by rw [pc]; simp [hAnd]), join_is rfl hc hd ha fun x y => ?_, join_is rfl hc hd check_nil fun x y => ?_⟩
  · rw [dec_join (x := x) (y := y) pc, dec_join (x := x) (y := y) pd]
    by_cases h1 : pmem a x y <;> by_cases h2 : pmem b x y <;> simp [hOr, hAnd, hSub, h1, h2]
  · rw [dec_join (x := x) (y := y) pc, dec_join (x := x) (y := y) pd]
    by_cases h1 : pmem a x y <;> by_cases h2 : pmem b x y <;> simp [hAnd, hSub, h1, h2, pmem_nil]
end Go.Proofs.YtjlfdgoijalfaaaGreat

/- Plain law: pieces of a tiling are in order, valid, not empty, parts of the region and of their bricks, and have the region's area together. -/
namespace Go.Proofs.YtjlfdgoijalfaaaGreat
set_option linter.unusedVariables false
set_option linter.unusedSimpArgs false

theorem tileF_err {W H S : Int} (hp : okPat W H S) {l : List R4} (h : checkF l = 0) : (tileF W H S l).2 = 0 ∨ (tileF W H S l).2 = 4 := by
  unfold tileF
  rw [if_pos h, if_pos hp]
  split
  · exact .inr rfl
  · exact .inl rfl
theorem tileF_srt (W H S : Int) (l : List R4) : (tileF W H S l).1.Pairwise fun a b => klt a.1 b.1 := by
  unfold tileF
  split
  · split
    · split
      · simp
      · rw [List.pairwise_map]
        exact keysT_srt W H S l
    · simp
  · simp
theorem tileF_chk {W H S : Int} {l : List R4} {q : Ky × List R4} (h : q ∈ (tileF W H S l).1) : checkF q.2 = 0 := by
  obtain ⟨h1, h2, h3, h4⟩ := tileF_mem h
  rw [h4]
  exact piece_check h2 h1 _
theorem tileF_ne {W H S : Int} {l : List R4} {q : Ky × List R4} (h : q ∈ (tileF W H S l).1) : q.2 ≠ [] := by
  obtain ⟨h1, h2, h3, h4⟩ := tileF_mem h
  rw [h4]
  exact piece_ne h2 (check_wfs h1) h3
theorem tileF_out {W H S : Int} {l : List R4} {q : Ky × List R4} (h : q ∈ (tileF W H S l).1) : joinF hSub q.2 l = ([], 0) := by
  obtain ⟨h1, h2, h3, h4⟩ := tileF_mem h
  rw [h4]
  exact piece_out h2 h1 h1 _ (fun _ _ => rfl) fun x y hx _ => hx
theorem tileF_off {W H S : Int} {l : List R4} {q : Ky × List R4} (h : q ∈ (tileF W H S l).1) : (joinF hSub q.2 [brR W H S q.1]).2 = 0 → (joinF hSub q.2 [brR W H S q.1]).1 = [] := by
  obtain ⟨h1, h2, h3, h4⟩ := tileF_mem h
  intro hz
  by_cases hc : checkF [brR W H S q.1] = 0
  · have : joinF hSub (pieceR W H S l q.1) [brR W H S q.1] = ([], 0) := piece_out h2 h1 hc _ (fun _ _ => rfl) fun x y hx hk => ⟨_, by simp, (rin_brR h2 _ x y).2 hk⟩
    rw [h4, this]
  · have hb : ¬ bothF q.2 [brR W H S q.1] = 0 := fun h0 => hc (bothF_ok h0).2
    unfold joinF
    rw [if_neg hb]
theorem tileF_sum {W H S : Int} (hp : okPat W H S) {l : List R4} (h : checkF l = 0) (hE : (tileF W H S l).2 = 0) : ((tileF W H S l).1.map fun q => areaS q.2).sum = areaS l := by
  rw [← sum_pieces hp h]
  unfold tileF at hE ⊢
  rw [if_pos h, if_pos hp] at hE ⊢
  split
  · rename_i hm
    rw [if_pos hm] at hE
    cases hE
  · rw [List.map_map]
    rfl
end Go.Proofs.YtjlfdgoijalfaaaGreat

/- The last step from a walk to a given statement, for every law of the seat: the call returns true, and what lay in memory lies as it lay. -/
namespace Go.Proofs.YtjlfdgoijalfaaaGreat
open Go.ChangeShapes Go.WideShapes Go.ChangeAt Go.RowKit Go.Joins Go.Deep
set_option linter.unusedVariables false
set_option linter.unusedSimpArgs false

theorem own : ownKnob Tryz.prog.godebug = none := by kernel_rfl
theorem laidOut : laidOutB Tryz.prog = true := by kernel_rfl

section
variable {H : Type} {enc : TypeId × Value → H}
theorem trodAll_carry {P : Program} (hl : laidOutB P = true) {W W' : World} (hb : Below W.heap.size W W') :
    ∀ (ts : List TypeId) (vs : List Value) (ds : List (DataW H)) (ps : List MemPlace), (ts.all fun t => P.readableRec t && decide (t < P.types.size)) = true →
      DataW.TrodAll enc P W 0 (fun _ => true) true ts vs ds ps → (∀ x ∈ ps, x.block < W.heap.size) → DataW.TrodAll enc P W' 0 (fun b => decide (b < W.heap.size)) true ts vs ds ps
  | [], [], [], ps, _, h, _ => h
  | [], [], _ :: _, _, _, h, _ => h.elim
  | [], _ :: _, _, _, _, h, _ => h.elim
  | _ :: _, [], _, _, _, h, _ => h.elim
  | _ :: _, _ :: _, [], _, _, h, _ => h.elim
  | t :: ts, v :: vs, d :: ds, ps, hr, h, hlt => by
    obtain ⟨p, q, h1, h2, rfl⟩ := h
    simp only [List.all_cons, Bool.and_eq_true, decide_eq_true_eq] at hr
    refine ⟨p, q, Below.trod hl hr.1.1 hr.1.2 h1 hb (fun x hx => hlt x (by simp [hx])), trodAll_carry hl hb ts vs ds q ?_ h2 (fun x hx => hlt x (by simp [hx])), rfl⟩
    simpa using hr.2

theorem law_post {P : Program} {f : Func} {s : ChangeSpec} {W W' : World} {args : Array Value} {ds gs : List (DataW H)} {before : List MemPlace} {tb : TypeId}
    (hl : laidOutB P = true) (hr : (f.params.toList.all fun t => P.readableRec t && decide (t < P.types.size)) = true) (hres : f.resultTypes = #[tb]) (hbool : P.underlying tb = some .bool)
    (hvars : s.vars = []) (hW : DataW.Whole enc P f.params.toList s.vars false W args.toList ds gs before)
    (hsr : (s.fn H (ds ++ gs)).results = [.lit (.bool true)]) (hsa : (s.fn H (ds ++ gs)).args = ds) (hsv : (s.fn H (ds ++ gs)).vars = [])
    (hb : Below W.heap.size W W') : s.post enc P f false true false false W args (.bool true) W' := by
  have hlt : ∀ p ∈ before, p.block < W.heap.size := fun p hp => hW.lt p hp
  have hW0 := hW
  obtain ⟨p, q, hA, hV, rfl, hz, hn⟩ := hW
  refine ⟨ds, gs, p ++ q, [], p, [], hW0, ?_, ?_, ?_, hb.frame _, fun h => by cases h⟩
  · rw [hsr, hres]
    exact trodAll_mk1 (shut_bool hbool true)
  · rw [hsa]
    exact trodAll_carry hl hb _ _ _ _ hr hA (fun x hx => hlt x (by simp [hx]))
  · rw [hsv, hvars]
    rfl
end
end Go.Proofs.YtjlfdgoijalfaaaGreat

/- An argument that is a list of structs of ints, read as a list. -/
namespace Go.Proofs.YtjlfdgoijalfaaaGreat
open Go.ChangeShapes Go.WideShapes Go.ChangeAt Go.RowKit Go.Joins Go.Deep
set_option linter.unusedVariables false
set_option linter.unusedSimpArgs false

section
variable {H : Type} {enc : TypeId × Value → H} {P : Program} {w : World} {base : Nat} {spare : Nat → Bool} {held : Bool}
/-- The fields of a struct of ints: each one cell, an int. -/
theorem trod_int_fields {t : TypeId} {fs : Array Field} {n : Nat} {cs : List Value} {y : DataW H × List MemPlace} (he : P.underlying t = some (.struct fs)) (hone : oneCellFields P fs = true) (hint : ∀ (j : Nat) (f : Field), fs[j]? = some f → P.underlying f.type = some (.int .i64))
    (hl : cs.length = fs.size) (h : DataW.trod enc P w base spare held n t cs = some y) : ∀ j, j < fs.size → ∃ z : Int, cs[j]? = some (.int .i64 z) := by
  obtain ⟨ys, n', _, _, _, hyl, hf⟩ := DataW.trod_struct he h
  intro j hj
  have hjf : fs[j]? = some fs[j] := Array.getElem?_eq_getElem hj
  obtain ⟨ho, hk⟩ := hone_of hone j _ hjf
  have h1 := hf j _ hjf
  rw [ho, hk] at h1
  have hd : (cs.drop j).take 1 = [cs[j]'(by omega)] := by rw [List.drop_eq_getElem_cons (by omega)]; rfl
  rw [hd] at h1
  have hy : ys[j]? = some (ys[j]'(by omega)) := List.getElem?_eq_getElem (by omega)
  rw [hy] at h1
  obtain ⟨z, hz, _⟩ := DataW.trod_int (hint j _ hjf) h1
  have hz' : cs[j]'(by omega) = .int .i64 z := by simpa using hz
  exact ⟨z, by rw [List.getElem?_eq_getElem (by omega), hz']⟩
/-- A slice of structs of k ints: its cells. -/
theorem trod_rows {t e : TypeId} {fs : Array Field} {v : Value} {d : DataW H} {p : List MemPlace} {r : Reach} {b0 : Nat} (ht : P.underlying t = some (.slice e)) (he : P.underlying e = some (.struct fs)) (hone : oneCellFields P fs = true)
    (hint : ∀ (j : Nat) (f : Field), fs[j]? = some f → P.underlying f.type = some (.int .i64)) (hC : P.cellsOf e = fs.size) (hk : 0 < fs.size) (hv : Value.okWide P w r b0 t v) (h : DataW.Trod enc P w base spare held t v d p) :
    ∃ (A : Option Addr) (n c : Nat) (F : Nat → Nat → Int), v = .slice A n c ∧ n ≤ maxLen ∧ (0 < n → ∃ b off, A = some ⟨b, off, none⟩ ∧ b < w.heap.size ∧ ∀ i j, i < n → j < fs.size → w.cell? ⟨b, off + i * fs.size + j, none⟩ = some (.int .i64 (F i j))) := by
  obtain ⟨A, n, c, rfl⟩ := okWide_slice ht hv
  obtain ⟨fuel, hf⟩ := h
  rcases open_slice ht hf with ⟨hcs, _⟩ | ⟨a, len, cap, m, nn, D, Pl, hcs, hb, hl, hm, hmm, hx, hi⟩
  · simp [Value.cells] at hcs
    obtain ⟨rfl, rfl, rfl⟩ := hcs
    exact ⟨none, 0, 0, fun _ _ => 0, rfl, Nat.zero_le _, fun h => absurd h (Nat.lt_irrefl 0)⟩
  · simp [Value.cells] at hcs
    obtain ⟨rfl, rfl, rfl⟩ := hcs
    have hlm : n ≤ m := by rw [hmm]; split <;> omega
    have key : ∀ i, i < n → ∀ j, j < fs.size → ∃ z : Int, w.cell? (a.add (i * fs.size + j)) = some (.int .i64 z) := by
      intro i hin j hj
      obtain ⟨cs', hc, ht'⟩ := hi i (by omega)
      rw [hC] at hc
      obtain ⟨_, hcl, hat⟩ := World.cells?_some hc
      obtain ⟨z, hz⟩ := trod_int_fields he hone hint hcl ht' j hj
      have := hat j hj
      rw [← Go.Deep.add_add, this, hz]
      exact ⟨z, rfl⟩
    refine ⟨some a, n, c, fun i j => if h : i < n ∧ j < fs.size then Classical.choose (key i h.1 j h.2) else 0, rfl, by omega, fun hn => ?_⟩
    obtain ⟨z0, h0⟩ := key 0 hn 0 hk
    have hadd0 : a.add (0 * fs.size + 0) = a := by simp [Addr.add]
    rw [hadd0] at h0
    obtain ⟨b, off, sp⟩ := a
    have hsp : sp = none := by
      unfold World.cell? at h0
      cases sp with
      | none => rfl
      | some x => split at h0 <;> simp at h0
    subst hsp
    refine ⟨b, off, rfl, ?_, fun i j hin hj => ?_⟩
    · unfold World.cell? at h0
      split at h0
      · rename_i hh
        exact (Array.getElem?_eq_some_iff.1 hh).1
      · cases h0
    · have hz := Classical.choose_spec (key i hin j hj)
      have e1 : (⟨b, off, none⟩ : Addr).add (i * fs.size + j) = ⟨b, off + i * fs.size + j, none⟩ := by unfold Addr.add; split <;> simp_all [Nat.add_assoc]
      rw [← e1]
      simp only [dif_pos (And.intro hin hj)]
      exact hz
/-- .. rectangles. -/
theorem trod_rects {t e : TypeId} {fs : Array Field} {v : Value} {d : DataW H} {p : List MemPlace} {r : Reach} {b0 : Nat} (ht : P.underlying t = some (.slice e)) (he : P.underlying e = some (.struct fs)) (hone : oneCellFields P fs = true)
    (hint : ∀ (j : Nat) (f : Field), fs[j]? = some f → P.underlying f.type = some (.int .i64)) (hC : P.cellsOf e = 4) (hk : fs.size = 4) (hv : Value.okWide P w r b0 t v) (h : DataW.Trod enc P w base spare held t v d p) :
    ∃ l : List R4, RdK encR 4 w w.heap.size v l ∧ l.length ≤ maxLen := by
  obtain ⟨A, n, c, F, rfl, hn, hF⟩ := trod_rows ht he hone hint (hC.trans hk.symm) (by omega) hv h
  rw [hk] at hF
  refine ⟨(List.range n).map fun i => ⟨F i 0, F i 1, F i 2, F i 3⟩, ⟨A, c, by simp, fun hl => ?_⟩, by simpa using hn⟩
  have hn0 : 0 < n := by
    rcases Nat.eq_zero_or_pos n with h | h
    · subst h; exact absurd rfl hl
    · exact h
  obtain ⟨b, off, hA, hb, hc⟩ := hF hn0
  refine ⟨b, off, hA, hb, fun j x hj i u hu => ?_⟩
  have hjn : j < n := by have := (List.getElem?_eq_some_iff.1 hj).1; simpa using this
  rw [List.getElem?_map, List.getElem?_range hjn] at hj
  simp only [Option.map_some, Option.some.injEq] at hj
  subst hj
  have hi : i < 4 := (List.getElem?_eq_some_iff.1 hu).1
  rw [hc j i hjn hi]
  match i, hi with
  | 0, _ => exact hu
  | 1, _ => exact hu
  | 2, _ => exact hu
  | 3, _ => exact hu
end
theorem int_bd {n : Int} (h : (Lit.int .i64 n).wf = true) : -9223372036854775808 ≤ n ∧ n ≤ 9223372036854775807 := by
  simp [Lit.wf, IntKind.min, IntKind.max, IntKind.signed, IntKind.bits] at h
  omega
theorem rect_fields : ∀ (j : Nat) (f : Field), (match Tryz.prog.underlying 41 with | some (.struct fs) => fs | _ => #[])[j]? = some f → Tryz.prog.underlying f.type = some (.int .i64) := by
  rw [Tryz.underlying41]
  intro j f hf
  match j, hf with
  | 0, hf => simp at hf; subst hf; exact Tryz.underlying3
  | 1, hf => simp at hf; subst hf; exact Tryz.underlying3
  | 2, hf => simp at hf; subst hf; exact Tryz.underlying3
  | 3, hf => simp at hf; subst hf; exact Tryz.underlying3
  | j + 4, hf => simp at hf
end Go.Proofs.YtjlfdgoijalfaaaGreat

/- An argument that is a pattern, read as such. -/
namespace Go.Proofs.YtjlfdgoijalfaaaGreat
open Go.ChangeShapes Go.WideShapes Go.ChangeAt Go.RowKit Go.Joins Go.Deep
set_option linter.unusedVariables false
set_option linter.unusedSimpArgs false

section
variable {H : Type} {enc : TypeId × Value → H} {w : World} {base : Nat} {spare : Nat → Bool} {held : Bool}
set_option maxRecDepth 100000 in
theorem open_pat {v : Value} {d : DataW H} {p : List MemPlace} {r : Reach} {b0 : Nat} (hv : Value.okWide Tryz.prog w r b0 27 v) (h : DataW.Trod enc Tryz.prog w base spare held 27 v d p) : ∃ a b c : Int, v = .agg #[.int .i64 a, .int .i64 b, .int .i64 c] := by
  have h3 : Tryz.prog.cellsOf 27 = 3 := by kernel_rfl
  obtain ⟨c0, c1, c2, y0, y1, y2, m, rfl, _, _, hy0, hy1, hy2⟩ := open_agg3 Tryz.underlying27 (by kernel_rfl) h3 hv h
  obtain ⟨a, e0, _, _⟩ := DataW.trod_int Tryz.underlying3 hy0
  obtain ⟨b, e1, _, _⟩ := DataW.trod_int Tryz.underlying3 hy1
  obtain ⟨c, e2, _, _⟩ := DataW.trod_int Tryz.underlying3 hy2
  simp at e0 e1 e2
  subst e0 e1 e2
  exact ⟨a, b, c, rfl⟩
end
end Go.Proofs.YtjlfdgoijalfaaaGreat
