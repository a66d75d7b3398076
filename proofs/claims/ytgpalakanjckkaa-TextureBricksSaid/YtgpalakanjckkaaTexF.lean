/- Brick of the reference of texture, whole. -/
import Derived.Test.YtgpalakanjckkaaTexD
namespace Go.Proofs.Ytgpalakanjckkaa
open Go.RowKit
set_option linter.unusedVariables false
set_option linter.unusedSimpArgs false

set_option maxHeartbeats 1000000 in
theorem rbrk_A (W H S x y : Int) (w : World) (h : ¬ okPat W H S) :
    Calls Try.prog 7 #[.agg #[.int .i64 W, .int .i64 H, .int .i64 S], .int .i64 x, .int .i64 y] w fun e w' => e = .returned (.tuple #[.agg #[.int .i64 0, .int .i64 0, .int .i64 0, .int .i64 0], .int .i64 8]) ∧ Below w.heap.size w w' := by
  have hk := fun w => (rcheck_any W H S w).mono (R' := fun e w' => e = .returned (.int .i64 8) ∧ Below w.heap.size w w') fun e w' g => by rw [chk_bad h] at g; exact g
  clear h
  go_enter Try.func7, Try.ntmps7
  go_wp2_with fail
  refine (hk _).mono ?_
  rintro e w1 ⟨rfl, hb1⟩
  obtain ⟨hc1, hf1⟩ := bcell hb1
  have hz1 : w.heap.size + 1 < w1.heap.size := by have := hb1.size; simp at this; omega
  have b2 := (((Below.refl _ _).alloc (Nat.le_refl _) _).alloc (by simp) _).trans (hb1.mono (by simp; omega))
  go_wp2_with fail
  refine (hk _).mono ?_
  rintro e w2 ⟨rfl, hb2⟩
  obtain ⟨hc2, hf2⟩ := bcell hb2
  have hz2 : w.heap.size + 1 < w2.heap.size := by have := hb2.size; omega
  have b2 := b2.trans (hb2.mono (by omega))
  go_wp2
  refine bodyPost_ret (v := .tuple #[.agg #[.int .i64 0, .int .i64 0, .int .i64 0, .int .i64 0], .int .i64 8]) (by simp [results, Try.results7, go_sem, hc1, hz1, Nat.lt_of_succ_lt hz1, hc2, hz2]) rfl ⟨rfl, ?_⟩
  exact (((b2.setCell (by simp) _).setCell (by simp) _).setCell (by simp) _).setCell (by simp) _

set_option maxHeartbeats 1000000 in
theorem rbrk_B (W H S x y : Int) (w : World) (h : okPat W H S ∧ fineB x = false) :
    Calls Try.prog 7 #[.agg #[.int .i64 W, .int .i64 H, .int .i64 S], .int .i64 x, .int .i64 y] w fun e w' => e = .returned (.tuple #[.agg #[.int .i64 0, .int .i64 0, .int .i64 0, .int .i64 0], .int .i64 2]) ∧ Below w.heap.size w w' := by
  have hk := fun w => (rcheck_any W H S w).mono (R' := fun e w' => e = .returned (.int .i64 0) ∧ Below w.heap.size w w') fun e w' g => by rw [chk_ok h.1] at g; exact g
  have hcx := fun w => (in_any x w).mono (R' := fun e w' => e = .returned (.bool false) ∧ w = w') fun e w' g => by rw [h.2] at g; exact g
  clear h
  go_enter Try.func7, Try.ntmps7
  go_wp2_with fail
  refine (hk _).mono ?_
  rintro e w1 ⟨rfl, hb1⟩
  obtain ⟨hc1, hf1⟩ := bcell hb1
  have hz1 : w.heap.size + 1 < w1.heap.size := by have := hb1.size; simp at this; omega
  have b2 := (((Below.refl _ _).alloc (Nat.le_refl _) _).alloc (by simp) _).trans (hb1.mono (by simp; omega))
  go_wp2_with (go_at_call 15; refine (hcx _).mono ?_; rintro e w' ⟨rfl, rfl⟩)
  refine bodyPost_ret (v := .tuple #[.agg #[.int .i64 0, .int .i64 0, .int .i64 0, .int .i64 0], .int .i64 2]) (by simp [results, Try.results7, go_sem, hc1, hz1, Nat.lt_of_succ_lt hz1]) rfl ⟨rfl, ?_⟩
  exact (((b2.setCell (by simp) _).setCell (by simp) _).setCell (by simp) _).setCell (by simp) _

set_option maxHeartbeats 1000000 in
theorem rbrk_C (W H S x y : Int) (w : World) (h : okPat W H S ∧ fineB x = true ∧ fineB y = false) :
    Calls Try.prog 7 #[.agg #[.int .i64 W, .int .i64 H, .int .i64 S], .int .i64 x, .int .i64 y] w fun e w' => e = .returned (.tuple #[.agg #[.int .i64 0, .int .i64 0, .int .i64 0, .int .i64 0], .int .i64 2]) ∧ Below w.heap.size w w' := by
  have hk := fun w => (rcheck_any W H S w).mono (R' := fun e w' => e = .returned (.int .i64 0) ∧ Below w.heap.size w w') fun e w' g => by rw [chk_ok h.1] at g; exact g
  have hcx := fun w => (in_any x w).mono (R' := fun e w' => e = .returned (.bool true) ∧ w = w') fun e w' g => by rw [h.2.1] at g; exact g
  have hcy := fun w => (in_any y w).mono (R' := fun e w' => e = .returned (.bool false) ∧ w = w') fun e w' g => by rw [h.2.2] at g; exact g
  clear h
  go_enter Try.func7, Try.ntmps7
  go_wp2_with fail
  refine (hk _).mono ?_
  rintro e w1 ⟨rfl, hb1⟩
  obtain ⟨hc1, hf1⟩ := bcell hb1
  have hz1 : w.heap.size + 1 < w1.heap.size := by have := hb1.size; simp at this; omega
  have b2 := (((Below.refl _ _).alloc (Nat.le_refl _) _).alloc (by simp) _).trans (hb1.mono (by simp; omega))
  go_wp2_with (first | (go_at_call_of 15 (Value.int .i64 x); refine (hcx _).mono ?_; rintro e w' ⟨rfl, rfl⟩) | (go_at_call_of 15 (Value.int .i64 y); refine (hcy _).mono ?_; rintro e w' ⟨rfl, rfl⟩))
  refine bodyPost_ret (v := .tuple #[.agg #[.int .i64 0, .int .i64 0, .int .i64 0, .int .i64 0], .int .i64 2]) (by simp [results, Try.results7, go_sem, hc1, hz1, Nat.lt_of_succ_lt hz1]) rfl ⟨rfl, ?_⟩
  exact (((b2.setCell (by simp) _).setCell (by simp) _).setCell (by simp) _).setCell (by simp) _

set_option maxHeartbeats 1000000 in
theorem rbrk_D0 (W H S x y X V Y Z : Int) (b1 b2 b3 : Bool) (w : World)
    (hk : ∀ w, Calls Try.prog 11 #[.agg #[.int .i64 W, .int .i64 H, .int .i64 S]] w fun e w' => e = .returned (.int .i64 0) ∧ Below w.heap.size w w')
    (hcx : ∀ w, Calls Try.prog 15 #[.int .i64 x] w fun e w' => e = .returned (.bool true) ∧ w = w') (hcy : ∀ w, Calls Try.prog 15 #[.int .i64 y] w fun e w' => e = .returned (.bool true) ∧ w = w')
    (hbr : ∀ w, Calls Try.prog 18 #[.agg #[.int .i64 W, .int .i64 H, .int .i64 S], .int .i64 x, .int .i64 y] w fun e w' => e = .returned (.agg #[.int .i64 X, .int .i64 Y, .int .i64 V, .int .i64 Z]) ∧ Below w.heap.size w w')
    (c0 : ∀ w, Calls Try.prog 15 #[.int .i64 X] w fun e w' => e = .returned (.bool false) ∧ w = w')
    (c1 : ∀ w, Calls Try.prog 15 #[.int .i64 V] w fun e w' => e = .returned (.bool b1) ∧ w = w')
    (c2 : ∀ w, Calls Try.prog 15 #[.int .i64 Y] w fun e w' => e = .returned (.bool b2) ∧ w = w')
    (c3 : ∀ w, Calls Try.prog 15 #[.int .i64 Z] w fun e w' => e = .returned (.bool b3) ∧ w = w')
    : Calls Try.prog 7 #[.agg #[.int .i64 W, .int .i64 H, .int .i64 S], .int .i64 x, .int .i64 y] w fun e w' => e = .returned (.tuple #[.agg #[.int .i64 0, .int .i64 0, .int .i64 0, .int .i64 0], .int .i64 16]) ∧ Below w.heap.size w w' := by
  go_enter Try.func7, Try.ntmps7
  go_wp2_with (first
    | (go_at_call 11; refine (hk _).mono ?_; rintro e w1 ⟨rfl, hb1⟩; obtain ⟨hc1, hf1⟩ := bcell hb1; have hz1 : w.heap.size + 1 < w1.heap.size := by have := hb1.size; simp at this; omega)
    | (go_at_call_of 15 (Value.int .i64 x); refine (hcx _).mono ?_; rintro e w' ⟨rfl, rfl⟩)
    | (go_at_call_of 15 (Value.int .i64 y); refine (hcy _).mono ?_; rintro e w' ⟨rfl, rfl⟩)
    | (go_at_call 18; refine (hbr _).mono ?_; rintro e w2 ⟨rfl, hb2⟩; obtain ⟨hc2, hf2⟩ := bcell hb2; have hz2 : w.heap.size + 1 < w2.heap.size := by have := hb2.size; omega)
    | (go_at_call_of 15 (Value.int .i64 X); refine (c0 _).mono ?_; rintro e w' ⟨rfl, rfl⟩)
    | (go_at_call_of 15 (Value.int .i64 V); refine (c1 _).mono ?_; rintro e w' ⟨rfl, rfl⟩)
    | (go_at_call_of 15 (Value.int .i64 Y); refine (c2 _).mono ?_; rintro e w' ⟨rfl, rfl⟩)
    | (go_at_call_of 15 (Value.int .i64 Z); refine (c3 _).mono ?_; rintro e w' ⟨rfl, rfl⟩))
  have b2 := ((((Below.refl _ _).alloc (Nat.le_refl _) _).alloc (by simp) _).trans (hb1.mono (by simp; omega))).trans (hb2.mono (by omega))
  refine bodyPost_ret (v := .tuple #[.agg #[.int .i64 0, .int .i64 0, .int .i64 0, .int .i64 0], .int .i64 16]) (by simp [results, Try.results7, go_sem, hc1, hz1, Nat.lt_of_succ_lt hz1, hc2, hz2, Nat.lt_succ_of_lt hz2, Nat.lt_of_succ_lt hz2, Nat.lt_of_succ_lt (Nat.lt_succ_of_lt hz2)]) rfl ⟨rfl, ?_⟩
  exact ((((b2.setCell (by simp) _).setCell (by simp) _).setCell (by simp) _).setCell (by simp) _).alloc (by simp; omega) _

set_option maxHeartbeats 1000000 in
theorem rbrk_D1 (W H S x y X V Y Z : Int) (b1 b2 b3 : Bool) (w : World)
    (hk : ∀ w, Calls Try.prog 11 #[.agg #[.int .i64 W, .int .i64 H, .int .i64 S]] w fun e w' => e = .returned (.int .i64 0) ∧ Below w.heap.size w w')
    (hcx : ∀ w, Calls Try.prog 15 #[.int .i64 x] w fun e w' => e = .returned (.bool true) ∧ w = w') (hcy : ∀ w, Calls Try.prog 15 #[.int .i64 y] w fun e w' => e = .returned (.bool true) ∧ w = w')
    (hbr : ∀ w, Calls Try.prog 18 #[.agg #[.int .i64 W, .int .i64 H, .int .i64 S], .int .i64 x, .int .i64 y] w fun e w' => e = .returned (.agg #[.int .i64 X, .int .i64 Y, .int .i64 V, .int .i64 Z]) ∧ Below w.heap.size w w')
    (c0 : ∀ w, Calls Try.prog 15 #[.int .i64 X] w fun e w' => e = .returned (.bool true) ∧ w = w')
    (c1 : ∀ w, Calls Try.prog 15 #[.int .i64 V] w fun e w' => e = .returned (.bool false) ∧ w = w')
    (c2 : ∀ w, Calls Try.prog 15 #[.int .i64 Y] w fun e w' => e = .returned (.bool b2) ∧ w = w')
    (c3 : ∀ w, Calls Try.prog 15 #[.int .i64 Z] w fun e w' => e = .returned (.bool b3) ∧ w = w')
    : Calls Try.prog 7 #[.agg #[.int .i64 W, .int .i64 H, .int .i64 S], .int .i64 x, .int .i64 y] w fun e w' => e = .returned (.tuple #[.agg #[.int .i64 0, .int .i64 0, .int .i64 0, .int .i64 0], .int .i64 16]) ∧ Below w.heap.size w w' := by
  go_enter Try.func7, Try.ntmps7
  go_wp2_with (first
    | (go_at_call 11; refine (hk _).mono ?_; rintro e w1 ⟨rfl, hb1⟩; obtain ⟨hc1, hf1⟩ := bcell hb1; have hz1 : w.heap.size + 1 < w1.heap.size := by have := hb1.size; simp at this; omega)
    | (go_at_call_of 15 (Value.int .i64 x); refine (hcx _).mono ?_; rintro e w' ⟨rfl, rfl⟩)
    | (go_at_call_of 15 (Value.int .i64 y); refine (hcy _).mono ?_; rintro e w' ⟨rfl, rfl⟩)
    | (go_at_call 18; refine (hbr _).mono ?_; rintro e w2 ⟨rfl, hb2⟩; obtain ⟨hc2, hf2⟩ := bcell hb2; have hz2 : w.heap.size + 1 < w2.heap.size := by have := hb2.size; omega)
    | (go_at_call_of 15 (Value.int .i64 X); refine (c0 _).mono ?_; rintro e w' ⟨rfl, rfl⟩)
    | (go_at_call_of 15 (Value.int .i64 V); refine (c1 _).mono ?_; rintro e w' ⟨rfl, rfl⟩)
    | (go_at_call_of 15 (Value.int .i64 Y); refine (c2 _).mono ?_; rintro e w' ⟨rfl, rfl⟩)
    | (go_at_call_of 15 (Value.int .i64 Z); refine (c3 _).mono ?_; rintro e w' ⟨rfl, rfl⟩))
  have b2 := ((((Below.refl _ _).alloc (Nat.le_refl _) _).alloc (by simp) _).trans (hb1.mono (by simp; omega))).trans (hb2.mono (by omega))
  refine bodyPost_ret (v := .tuple #[.agg #[.int .i64 0, .int .i64 0, .int .i64 0, .int .i64 0], .int .i64 16]) (by simp [results, Try.results7, go_sem, hc1, hz1, Nat.lt_of_succ_lt hz1, hc2, hz2, Nat.lt_succ_of_lt hz2, Nat.lt_of_succ_lt hz2, Nat.lt_of_succ_lt (Nat.lt_succ_of_lt hz2)]) rfl ⟨rfl, ?_⟩
  exact ((((b2.setCell (by simp) _).setCell (by simp) _).setCell (by simp) _).setCell (by simp) _).alloc (by simp; omega) _

set_option maxHeartbeats 1000000 in
theorem rbrk_D2 (W H S x y X V Y Z : Int) (b1 b2 b3 : Bool) (w : World)
    (hk : ∀ w, Calls Try.prog 11 #[.agg #[.int .i64 W, .int .i64 H, .int .i64 S]] w fun e w' => e = .returned (.int .i64 0) ∧ Below w.heap.size w w')
    (hcx : ∀ w, Calls Try.prog 15 #[.int .i64 x] w fun e w' => e = .returned (.bool true) ∧ w = w') (hcy : ∀ w, Calls Try.prog 15 #[.int .i64 y] w fun e w' => e = .returned (.bool true) ∧ w = w')
    (hbr : ∀ w, Calls Try.prog 18 #[.agg #[.int .i64 W, .int .i64 H, .int .i64 S], .int .i64 x, .int .i64 y] w fun e w' => e = .returned (.agg #[.int .i64 X, .int .i64 Y, .int .i64 V, .int .i64 Z]) ∧ Below w.heap.size w w')
    (c0 : ∀ w, Calls Try.prog 15 #[.int .i64 X] w fun e w' => e = .returned (.bool true) ∧ w = w')
    (c1 : ∀ w, Calls Try.prog 15 #[.int .i64 V] w fun e w' => e = .returned (.bool true) ∧ w = w')
    (c2 : ∀ w, Calls Try.prog 15 #[.int .i64 Y] w fun e w' => e = .returned (.bool false) ∧ w = w')
    (c3 : ∀ w, Calls Try.prog 15 #[.int .i64 Z] w fun e w' => e = .returned (.bool b3) ∧ w = w')
    : Calls Try.prog 7 #[.agg #[.int .i64 W, .int .i64 H, .int .i64 S], .int .i64 x, .int .i64 y] w fun e w' => e = .returned (.tuple #[.agg #[.int .i64 0, .int .i64 0, .int .i64 0, .int .i64 0], .int .i64 16]) ∧ Below w.heap.size w w' := by
  go_enter Try.func7, Try.ntmps7
  go_wp2_with (first
    | (go_at_call 11; refine (hk _).mono ?_; rintro e w1 ⟨rfl, hb1⟩; obtain ⟨hc1, hf1⟩ := bcell hb1; have hz1 : w.heap.size + 1 < w1.heap.size := by have := hb1.size; simp at this; omega)
    | (go_at_call_of 15 (Value.int .i64 x); refine (hcx _).mono ?_; rintro e w' ⟨rfl, rfl⟩)
    | (go_at_call_of 15 (Value.int .i64 y); refine (hcy _).mono ?_; rintro e w' ⟨rfl, rfl⟩)
    | (go_at_call 18; refine (hbr _).mono ?_; rintro e w2 ⟨rfl, hb2⟩; obtain ⟨hc2, hf2⟩ := bcell hb2; have hz2 : w.heap.size + 1 < w2.heap.size := by have := hb2.size; omega)
    | (go_at_call_of 15 (Value.int .i64 X); refine (c0 _).mono ?_; rintro e w' ⟨rfl, rfl⟩)
    | (go_at_call_of 15 (Value.int .i64 V); refine (c1 _).mono ?_; rintro e w' ⟨rfl, rfl⟩)
    | (go_at_call_of 15 (Value.int .i64 Y); refine (c2 _).mono ?_; rintro e w' ⟨rfl, rfl⟩)
    | (go_at_call_of 15 (Value.int .i64 Z); refine (c3 _).mono ?_; rintro e w' ⟨rfl, rfl⟩))
  have b2 := ((((Below.refl _ _).alloc (Nat.le_refl _) _).alloc (by simp) _).trans (hb1.mono (by simp; omega))).trans (hb2.mono (by omega))
  refine bodyPost_ret (v := .tuple #[.agg #[.int .i64 0, .int .i64 0, .int .i64 0, .int .i64 0], .int .i64 16]) (by simp [results, Try.results7, go_sem, hc1, hz1, Nat.lt_of_succ_lt hz1, hc2, hz2, Nat.lt_succ_of_lt hz2, Nat.lt_of_succ_lt hz2, Nat.lt_of_succ_lt (Nat.lt_succ_of_lt hz2)]) rfl ⟨rfl, ?_⟩
  exact ((((b2.setCell (by simp) _).setCell (by simp) _).setCell (by simp) _).setCell (by simp) _).alloc (by simp; omega) _

set_option maxHeartbeats 1000000 in
theorem rbrk_D3 (W H S x y X V Y Z : Int) (b1 b2 b3 : Bool) (w : World)
    (hk : ∀ w, Calls Try.prog 11 #[.agg #[.int .i64 W, .int .i64 H, .int .i64 S]] w fun e w' => e = .returned (.int .i64 0) ∧ Below w.heap.size w w')
    (hcx : ∀ w, Calls Try.prog 15 #[.int .i64 x] w fun e w' => e = .returned (.bool true) ∧ w = w') (hcy : ∀ w, Calls Try.prog 15 #[.int .i64 y] w fun e w' => e = .returned (.bool true) ∧ w = w')
    (hbr : ∀ w, Calls Try.prog 18 #[.agg #[.int .i64 W, .int .i64 H, .int .i64 S], .int .i64 x, .int .i64 y] w fun e w' => e = .returned (.agg #[.int .i64 X, .int .i64 Y, .int .i64 V, .int .i64 Z]) ∧ Below w.heap.size w w')
    (c0 : ∀ w, Calls Try.prog 15 #[.int .i64 X] w fun e w' => e = .returned (.bool true) ∧ w = w')
    (c1 : ∀ w, Calls Try.prog 15 #[.int .i64 V] w fun e w' => e = .returned (.bool true) ∧ w = w')
    (c2 : ∀ w, Calls Try.prog 15 #[.int .i64 Y] w fun e w' => e = .returned (.bool true) ∧ w = w')
    (c3 : ∀ w, Calls Try.prog 15 #[.int .i64 Z] w fun e w' => e = .returned (.bool false) ∧ w = w')
    : Calls Try.prog 7 #[.agg #[.int .i64 W, .int .i64 H, .int .i64 S], .int .i64 x, .int .i64 y] w fun e w' => e = .returned (.tuple #[.agg #[.int .i64 0, .int .i64 0, .int .i64 0, .int .i64 0], .int .i64 16]) ∧ Below w.heap.size w w' := by
  go_enter Try.func7, Try.ntmps7
  go_wp2_with (first
    | (go_at_call 11; refine (hk _).mono ?_; rintro e w1 ⟨rfl, hb1⟩; obtain ⟨hc1, hf1⟩ := bcell hb1; have hz1 : w.heap.size + 1 < w1.heap.size := by have := hb1.size; simp at this; omega)
    | (go_at_call_of 15 (Value.int .i64 x); refine (hcx _).mono ?_; rintro e w' ⟨rfl, rfl⟩)
    | (go_at_call_of 15 (Value.int .i64 y); refine (hcy _).mono ?_; rintro e w' ⟨rfl, rfl⟩)
    | (go_at_call 18; refine (hbr _).mono ?_; rintro e w2 ⟨rfl, hb2⟩; obtain ⟨hc2, hf2⟩ := bcell hb2; have hz2 : w.heap.size + 1 < w2.heap.size := by have := hb2.size; omega)
    | (go_at_call_of 15 (Value.int .i64 X); refine (c0 _).mono ?_; rintro e w' ⟨rfl, rfl⟩)
    | (go_at_call_of 15 (Value.int .i64 V); refine (c1 _).mono ?_; rintro e w' ⟨rfl, rfl⟩)
    | (go_at_call_of 15 (Value.int .i64 Y); refine (c2 _).mono ?_; rintro e w' ⟨rfl, rfl⟩)
    | (go_at_call_of 15 (Value.int .i64 Z); refine (c3 _).mono ?_; rintro e w' ⟨rfl, rfl⟩))
  have b2 := ((((Below.refl _ _).alloc (Nat.le_refl _) _).alloc (by simp) _).trans (hb1.mono (by simp; omega))).trans (hb2.mono (by omega))
  refine bodyPost_ret (v := .tuple #[.agg #[.int .i64 0, .int .i64 0, .int .i64 0, .int .i64 0], .int .i64 16]) (by simp [results, Try.results7, go_sem, hc1, hz1, Nat.lt_of_succ_lt hz1, hc2, hz2, Nat.lt_succ_of_lt hz2, Nat.lt_of_succ_lt hz2, Nat.lt_of_succ_lt (Nat.lt_succ_of_lt hz2)]) rfl ⟨rfl, ?_⟩
  exact ((((b2.setCell (by simp) _).setCell (by simp) _).setCell (by simp) _).setCell (by simp) _).alloc (by simp; omega) _

set_option maxHeartbeats 1000000 in
theorem rbrk_D4 (W H S x y X V Y Z : Int) (b1 b2 b3 : Bool) (w : World)
    (hk : ∀ w, Calls Try.prog 11 #[.agg #[.int .i64 W, .int .i64 H, .int .i64 S]] w fun e w' => e = .returned (.int .i64 0) ∧ Below w.heap.size w w')
    (hcx : ∀ w, Calls Try.prog 15 #[.int .i64 x] w fun e w' => e = .returned (.bool true) ∧ w = w') (hcy : ∀ w, Calls Try.prog 15 #[.int .i64 y] w fun e w' => e = .returned (.bool true) ∧ w = w')
    (hbr : ∀ w, Calls Try.prog 18 #[.agg #[.int .i64 W, .int .i64 H, .int .i64 S], .int .i64 x, .int .i64 y] w fun e w' => e = .returned (.agg #[.int .i64 X, .int .i64 Y, .int .i64 V, .int .i64 Z]) ∧ Below w.heap.size w w')
    (c0 : ∀ w, Calls Try.prog 15 #[.int .i64 X] w fun e w' => e = .returned (.bool true) ∧ w = w')
    (c1 : ∀ w, Calls Try.prog 15 #[.int .i64 V] w fun e w' => e = .returned (.bool true) ∧ w = w')
    (c2 : ∀ w, Calls Try.prog 15 #[.int .i64 Y] w fun e w' => e = .returned (.bool true) ∧ w = w')
    (c3 : ∀ w, Calls Try.prog 15 #[.int .i64 Z] w fun e w' => e = .returned (.bool true) ∧ w = w')
    : Calls Try.prog 7 #[.agg #[.int .i64 W, .int .i64 H, .int .i64 S], .int .i64 x, .int .i64 y] w fun e w' => e = .returned (.tuple #[.agg #[.int .i64 X, .int .i64 Y, .int .i64 V, .int .i64 Z], .int .i64 0]) ∧ Below w.heap.size w w' := by
  go_enter Try.func7, Try.ntmps7
  go_wp2_with (first
    | (go_at_call 11; refine (hk _).mono ?_; rintro e w1 ⟨rfl, hb1⟩; obtain ⟨hc1, hf1⟩ := bcell hb1; have hz1 : w.heap.size + 1 < w1.heap.size := by have := hb1.size; simp at this; omega)
    | (go_at_call_of 15 (Value.int .i64 x); refine (hcx _).mono ?_; rintro e w' ⟨rfl, rfl⟩)
    | (go_at_call_of 15 (Value.int .i64 y); refine (hcy _).mono ?_; rintro e w' ⟨rfl, rfl⟩)
    | (go_at_call 18; refine (hbr _).mono ?_; rintro e w2 ⟨rfl, hb2⟩; obtain ⟨hc2, hf2⟩ := bcell hb2; have hz2 : w.heap.size + 1 < w2.heap.size := by have := hb2.size; omega)
    | (go_at_call_of 15 (Value.int .i64 X); refine (c0 _).mono ?_; rintro e w' ⟨rfl, rfl⟩)
    | (go_at_call_of 15 (Value.int .i64 V); refine (c1 _).mono ?_; rintro e w' ⟨rfl, rfl⟩)
    | (go_at_call_of 15 (Value.int .i64 Y); refine (c2 _).mono ?_; rintro e w' ⟨rfl, rfl⟩)
    | (go_at_call_of 15 (Value.int .i64 Z); refine (c3 _).mono ?_; rintro e w' ⟨rfl, rfl⟩))
  have b2 := ((((Below.refl _ _).alloc (Nat.le_refl _) _).alloc (by simp) _).trans (hb1.mono (by simp; omega))).trans (hb2.mono (by omega))
  refine bodyPost_ret (v := .tuple #[.agg #[.int .i64 X, .int .i64 Y, .int .i64 V, .int .i64 Z], .int .i64 0]) (by simp [results, Try.results7, go_sem, hc1, hz1, Nat.lt_of_succ_lt hz1, hc2, hz2, Nat.lt_succ_of_lt hz2, Nat.lt_of_succ_lt hz2, Nat.lt_of_succ_lt (Nat.lt_succ_of_lt hz2)]) rfl ⟨rfl, ?_⟩
  exact ((((b2.setCell (by simp) _).setCell (by simp) _).setCell (by simp) _).setCell (by simp) _).alloc (by simp; omega) _

theorem rbrk_D (W H S x y : Int) (w : World) (h : okPat W H S ∧ fineB x = true ∧ fineB y = true) :
    Calls Try.prog 7 #[.agg #[.int .i64 W, .int .i64 H, .int .i64 S], .int .i64 x, .int .i64 y] w fun e w' => e = .returned (.tuple #[.agg #[.int .i64 (br0 W H S x y), .int .i64 (br1 W H S x y), .int .i64 (br2 W H S x y), .int .i64 (br3 W H S x y)], .int .i64 (if brOK W H S x y then 0 else 16)]) ∧ Below w.heap.size w w' := by
  obtain ⟨hp, hx, hy⟩ := h
  have hat : atOK W H S x y := ⟨hp, by rw [hx, hy]; rfl⟩
  have hk := fun w => (rcheck_any W H S w).mono (R' := fun e w' => e = .returned (.int .i64 0) ∧ Below w.heap.size w w') fun e w' g => by rw [chk_ok hp] at g; exact g
  have hcx := fun w => (in_any x w).mono (R' := fun e w' => e = .returned (.bool true) ∧ w = w') fun e w' g => by rw [hx] at g; exact g
  have hcy := fun w => (in_any y w).mono (R' := fun e w' => e = .returned (.bool true) ∧ w = w') fun e w' g => by rw [hy] at g; exact g
  have hx' := fineB_of hx
  have hy' := fineB_of hy
  have hbr := fun w => rect_any W H S x y w hp (by omega) (by omega) hy'.1 hy'.2
  obtain ⟨X, hX⟩ : ∃ X, brX W H S x y = X := ⟨_, rfl⟩
  obtain ⟨Y, hY⟩ : ∃ Y, y * H = Y := ⟨_, rfl⟩
  obtain ⟨Z, hZ⟩ : ∃ Z, (y + 1) * H = Z := ⟨_, rfl⟩
  obtain ⟨V, hV⟩ : ∃ V, X + W = V := ⟨_, rfl⟩
  rw [hX, hY, hZ, hV] at hbr
  have c0 := fun w => in_any X w
  have c1 := fun w => in_any V w
  have c2 := fun w => in_any Y w
  have c3 := fun w => in_any Z w
  have hiff : brOK W H S x y ↔ (fineB X && fineB V && fineB Y && fineB Z) = true := by
    unfold brOK
    rw [hX, hV, hY, hZ]
    exact ⟨fun g => g.2, fun g => ⟨hat, g⟩⟩
  simp only [br0, br1, br2, br3, hX, hY, hZ, hV, hiff]
  generalize fineB X = b0 at *
  generalize fineB V = b1 at *
  generalize fineB Y = b2 at *
  generalize fineB Z = b3 at *
  cases b0
  · exact rbrk_D0 W H S x y X V Y Z b1 b2 b3 w hk hcx hcy hbr c0 c1 c2 c3
  cases b1
  · exact rbrk_D1 W H S x y X V Y Z false b2 b3 w hk hcx hcy hbr c0 c1 c2 c3
  cases b2
  · exact rbrk_D2 W H S x y X V Y Z false false b3 w hk hcx hcy hbr c0 c1 c2 c3
  cases b3
  · exact rbrk_D3 W H S x y X V Y Z false false false w hk hcx hcy hbr c0 c1 c2 c3
  · exact rbrk_D4 W H S x y X V Y Z false false false w hk hcx hcy hbr c0 c1 c2 c3

theorem rbrk_any (W H S x y : Int) (w : World) :
    Calls Try.prog 7 #[.agg #[.int .i64 W, .int .i64 H, .int .i64 S], .int .i64 x, .int .i64 y] w fun e w' => e = .returned (.tuple #[.agg #[.int .i64 (br0 W H S x y), .int .i64 (br1 W H S x y), .int .i64 (br2 W H S x y), .int .i64 (br3 W H S x y)], .int .i64 (brE W H S x y)]) ∧ Below w.heap.size w w' := by
  by_cases hp : okPat W H S
  · cases hx : fineB x
    · have h1 : ¬ atOK W H S x y := fun h => by have := h.2; simp [hx] at this
      have h2 : ¬ brOK W H S x y := fun h => h1 h.1
      simp only [br0, br1, br2, br3, brE, if_neg h1, if_neg h2, atE, if_pos hp, hx, Bool.false_and, Bool.false_eq_true, if_false]
      exact rbrk_B W H S x y w ⟨hp, hx⟩
    · cases hy : fineB y
      · have h1 : ¬ atOK W H S x y := fun h => by have := h.2; simp [hy] at this
        have h2 : ¬ brOK W H S x y := fun h => h1 h.1
        simp only [br0, br1, br2, br3, brE, if_neg h1, if_neg h2, atE, if_pos hp, hy, Bool.and_false, Bool.false_eq_true, if_false]
        exact rbrk_C W H S x y w ⟨hp, hx, hy⟩
      · have h1 : atOK W H S x y := ⟨hp, by rw [hx, hy]; rfl⟩
        simp only [brE, if_pos h1]
        exact rbrk_D W H S x y w ⟨hp, hx, hy⟩
  · have h1 : ¬ atOK W H S x y := fun h => hp h.1
    have h2 : ¬ brOK W H S x y := fun h => h1 h.1
    simp only [br0, br1, br2, br3, brE, if_neg h1, if_neg h2, atE, if_neg hp]
    exact rbrk_A W H S x y w hp

end Go.Proofs.Ytgpalakanjckkaa
