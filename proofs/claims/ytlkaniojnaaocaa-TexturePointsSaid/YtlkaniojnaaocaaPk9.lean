/- Texts laid together: TexF, Gcd, TexG, TexH, TexI, RdLit, Alive41, LookH. Lemmas for the statements of this seat; no condition. -/
import Derived.Test.YtlkaniojnaaocaaPk8
import Derived.Test.YtlkaniojnaaocaaPk1
import Derived.Laws.StructEq
import Derived.Test.YtlkaniojnaaocaaPk7
import Derived.Test.YtlkaniojnaaocaaPk6
import Derived.Test.YtlkaniojnaaocaaPk5

/- Brick of the reference of texture, whole. -/
namespace Go.Proofs.Ytlkaniojnaaocaa
open Go.RowKit
set_option linter.unusedVariables false
set_option linter.unusedSimpArgs false

set_option maxHeartbeats 1000000 in
theorem rbrk_A (W H S x y : Int) (w : World) (h : ¬ okPat W H S) :
    Calls Try.prog 10 #[.agg #[.int .i64 W, .int .i64 H, .int .i64 S], .int .i64 x, .int .i64 y] w fun e w' => e = .returned (.tuple #[.agg #[.int .i64 0, .int .i64 0, .int .i64 0, .int .i64 0], .int .i64 8]) ∧ Below w.heap.size w w' := by
  have hk := fun w => (rcheck_any W H S w).mono (R' := fun e w' => e = .returned (.int .i64 8) ∧ Below w.heap.size w w') fun e w' g => by rw [chk_bad h] at g; exact g
  clear h
  go_enter Try.func10, Try.ntmps10
  go_wp2_with fail
  refine (hk _).mono ?_
  rintro e w1 ⟨rfl, hb1⟩
  obtain ⟨hc1, hf1⟩ := bcell hb1
  have hz1 : w.heap.size + 1 < w1.heap.size := by have := hb1.size; simp at this; omega
  have b2 := (((Below.refl _ _).alloc (Nat.le_refl _) _).alloc (by simp) _).trans (hb1.mono (by simp; omega))
  go_wp2_with fail
  refine (hk _).mono ?_
  rintro e w2 ⟨rfl, hb2⟩
  obtain ⟨hc2, hf2⟩ := bcell hb2
  have hz2 : w.heap.size + 1 < w2.heap.size := by have := hb2.size; omega
  have b2 := b2.trans (hb2.mono (by omega))
  go_wp2
  refine bodyPost_ret (v := .tuple #[.agg #[.int .i64 0, .int .i64 0, .int .i64 0, .int .i64 0], .int .i64 8]) (by simp [results, Try.results10, go_sem, hc1, hz1, Nat.lt_of_succ_lt hz1, hc2, hz2]) rfl ⟨rfl, ?_⟩
  exact (((b2.setCell (by simp) _).setCell (by simp) _).setCell (by simp) _).setCell (by simp) _

set_option maxHeartbeats 1000000 in
theorem rbrk_B (W H S x y : Int) (w : World) (h : okPat W H S ∧ fineB x = false) :
    Calls Try.prog 10 #[.agg #[.int .i64 W, .int .i64 H, .int .i64 S], .int .i64 x, .int .i64 y] w fun e w' => e = .returned (.tuple #[.agg #[.int .i64 0, .int .i64 0, .int .i64 0, .int .i64 0], .int .i64 2]) ∧ Below w.heap.size w w' := by
  have hk := fun w => (rcheck_any W H S w).mono (R' := fun e w' => e = .returned (.int .i64 0) ∧ Below w.heap.size w w') fun e w' g => by rw [chk_ok h.1] at g; exact g
  have hcx := fun w => (in_any x w).mono (R' := fun e w' => e = .returned (.bool false) ∧ w = w') fun e w' g => by rw [h.2] at g; exact g
  clear h
  go_enter Try.func10, Try.ntmps10
  go_wp2_with fail
  refine (hk _).mono ?_
  rintro e w1 ⟨rfl, hb1⟩
  obtain ⟨hc1, hf1⟩ := bcell hb1
  have hz1 : w.heap.size + 1 < w1.heap.size := by have := hb1.size; simp at this; omega
  have b2 := (((Below.refl _ _).alloc (Nat.le_refl _) _).alloc (by simp) _).trans (hb1.mono (by simp; omega))
  go_wp2_with (go_at_call 29; refine (hcx _).mono ?_; rintro e w' ⟨rfl, rfl⟩)
  refine bodyPost_ret (v := .tuple #[.agg #[.int .i64 0, .int .i64 0, .int .i64 0, .int .i64 0], .int .i64 2]) (by simp [results, Try.results10, go_sem, hc1, hz1, Nat.lt_of_succ_lt hz1]) rfl ⟨rfl, ?_⟩
  exact (((b2.setCell (by simp) _).setCell (by simp) _).setCell (by simp) _).setCell (by simp) _

set_option maxHeartbeats 1000000 in
theorem rbrk_C (W H S x y : Int) (w : World) (h : okPat W H S ∧ fineB x = true ∧ fineB y = false) :
    Calls Try.prog 10 #[.agg #[.int .i64 W, .int .i64 H, .int .i64 S], .int .i64 x, .int .i64 y] w fun e w' => e = .returned (.tuple #[.agg #[.int .i64 0, .int .i64 0, .int .i64 0, .int .i64 0], .int .i64 2]) ∧ Below w.heap.size w w' := by
  have hk := fun w => (rcheck_any W H S w).mono (R' := fun e w' => e = .returned (.int .i64 0) ∧ Below w.heap.size w w') fun e w' g => by rw [chk_ok h.1] at g; exact g
  have hcx := fun w => (in_any x w).mono (R' := fun e w' => e = .returned (.bool true) ∧ w = w') fun e w' g => by rw [h.2.1] at g; exact g
  have hcy := fun w => (in_any y w).mono (R' := fun e w' => e = .returned (.bool false) ∧ w = w') fun e w' g => by rw [h.2.2] at g; exact g
  clear h
  go_enter Try.func10, Try.ntmps10
  go_wp2_with fail
  refine (hk _).mono ?_
  rintro e w1 ⟨rfl, hb1⟩
  obtain ⟨hc1, hf1⟩ := bcell hb1
  have hz1 : w.heap.size + 1 < w1.heap.size := by have := hb1.size; simp at this; omega
  have b2 := (((Below.refl _ _).alloc (Nat.le_refl _) _).alloc (by simp) _).trans (hb1.mono (by simp; omega))
  go_wp2_with (first | (go_at_call_of 29 (Value.int .i64 x); refine (hcx _).mono ?_; rintro e w' ⟨rfl, rfl⟩) | (go_at_call_of 29 (Value.int .i64 y); refine (hcy _).mono ?_; rintro e w' ⟨rfl, rfl⟩))
  refine bodyPost_ret (v := .tuple #[.agg #[.int .i64 0, .int .i64 0, .int .i64 0, .int .i64 0], .int .i64 2]) (by simp [results, Try.results10, go_sem, hc1, hz1, Nat.lt_of_succ_lt hz1]) rfl ⟨rfl, ?_⟩
  exact (((b2.setCell (by simp) _).setCell (by simp) _).setCell (by simp) _).setCell (by simp) _

set_option maxHeartbeats 1000000 in
theorem rbrk_D0 (W H S x y X V Y Z : Int) (b1 b2 b3 : Bool) (w : World)
    (hk : ∀ w, Calls Try.prog 14 #[.agg #[.int .i64 W, .int .i64 H, .int .i64 S]] w fun e w' => e = .returned (.int .i64 0) ∧ Below w.heap.size w w')
    (hcx : ∀ w, Calls Try.prog 29 #[.int .i64 x] w fun e w' => e = .returned (.bool true) ∧ w = w') (hcy : ∀ w, Calls Try.prog 29 #[.int .i64 y] w fun e w' => e = .returned (.bool true) ∧ w = w')
    (hbr : ∀ w, Calls Try.prog 32 #[.agg #[.int .i64 W, .int .i64 H, .int .i64 S], .int .i64 x, .int .i64 y] w fun e w' => e = .returned (.agg #[.int .i64 X, .int .i64 Y, .int .i64 V, .int .i64 Z]) ∧ Below w.heap.size w w')
    (c0 : ∀ w, Calls Try.prog 29 #[.int .i64 X] w fun e w' => e = .returned (.bool false) ∧ w = w')
    (c1 : ∀ w, Calls Try.prog 29 #[.int .i64 V] w fun e w' => e = .returned (.bool b1) ∧ w = w')
    (c2 : ∀ w, Calls Try.prog 29 #[.int .i64 Y] w fun e w' => e = .returned (.bool b2) ∧ w = w')
    (c3 : ∀ w, Calls Try.prog 29 #[.int .i64 Z] w fun e w' => e = .returned (.bool b3) ∧ w = w')
    : Calls Try.prog 10 #[.agg #[.int .i64 W, .int .i64 H, .int .i64 S], .int .i64 x, .int .i64 y] w fun e w' => e = .returned (.tuple #[.agg #[.int .i64 0, .int .i64 0, .int .i64 0, .int .i64 0], .int .i64 16]) ∧ Below w.heap.size w w' := by
  go_enter Try.func10, Try.ntmps10
  go_wp2_with (first
    | (go_at_call 14; refine (hk _).mono ?_; rintro e w1 ⟨rfl, hb1⟩; obtain ⟨hc1, hf1⟩ := bcell hb1; have hz1 : w.heap.size + 1 < w1.heap.size := by have := hb1.size; simp at this; omega)
    | (go_at_call_of 29 (Value.int .i64 x); refine (hcx _).mono ?_; rintro e w' ⟨rfl, rfl⟩)
    | (go_at_call_of 29 (Value.int .i64 y); refine (hcy _).mono ?_; rintro e w' ⟨rfl, rfl⟩)
    | (go_at_call 32; refine (hbr _).mono ?_; rintro e w2 ⟨rfl, hb2⟩; obtain ⟨hc2, hf2⟩ := bcell hb2; have hz2 : w.heap.size + 1 < w2.heap.size := by have := hb2.size; omega)
    | (go_at_call_of 29 (Value.int .i64 X); refine (c0 _).mono ?_; rintro e w' ⟨rfl, rfl⟩)
    | (go_at_call_of 29 (Value.int .i64 V); refine (c1 _).mono ?_; rintro e w' ⟨rfl, rfl⟩)
    | (go_at_call_of 29 (Value.int .i64 Y); refine (c2 _).mono ?_; rintro e w' ⟨rfl, rfl⟩)
    | (go_at_call_of 29 (Value.int .i64 Z); refine (c3 _).mono ?_; rintro e w' ⟨rfl, rfl⟩))
  have b2 := ((((Below.refl _ _).alloc (Nat.le_refl _) _).alloc (by simp) _).trans (hb1.mono (by simp; omega))).trans (hb2.mono (by omega))
  refine bodyPost_ret (v := .tuple #[.agg #[.int .i64 0, .int .i64 0, .int .i64 0, .int .i64 0], .int .i64 16]) (by simp [results, Try.results10, go_sem, hc1, hz1, Nat.lt_of_succ_lt hz1, hc2, hz2, Nat.lt_succ_of_lt hz2, Nat.lt_of_succ_lt hz2, Nat.lt_of_succ_lt (Nat.lt_succ_of_lt hz2)]) rfl ⟨rfl, ?_⟩
  exact ((((b2.setCell (by simp) _).setCell (by simp) _).setCell (by simp) _).setCell (by simp) _).alloc (by simp; omega) _

set_option maxHeartbeats 1000000 in
theorem rbrk_D1 (W H S x y X V Y Z : Int) (b1 b2 b3 : Bool) (w : World)
    (hk : ∀ w, Calls Try.prog 14 #[.agg #[.int .i64 W, .int .i64 H, .int .i64 S]] w fun e w' => e = .returned (.int .i64 0) ∧ Below w.heap.size w w')
    (hcx : ∀ w, Calls Try.prog 29 #[.int .i64 x] w fun e w' => e = .returned (.bool true) ∧ w = w') (hcy : ∀ w, Calls Try.prog 29 #[.int .i64 y] w fun e w' => e = .returned (.bool true) ∧ w = w')
    (hbr : ∀ w, Calls Try.prog 32 #[.agg #[.int .i64 W, .int .i64 H, .int .i64 S], .int .i64 x, .int .i64 y] w fun e w' => e = .returned (.agg #[.int .i64 X, .int .i64 Y, .int .i64 V, .int .i64 Z]) ∧ Below w.heap.size w w')
    (c0 : ∀ w, Calls Try.prog 29 #[.int .i64 X] w fun e w' => e = .returned (.bool true) ∧ w = w')
    (c1 : ∀ w, Calls Try.prog 29 #[.int .i64 V] w fun e w' => e = .returned (.bool false) ∧ w = w')
    (c2 : ∀ w, Calls Try.prog 29 #[.int .i64 Y] w fun e w' => e = .returned (.bool b2) ∧ w = w')
    (c3 : ∀ w, Calls Try.prog 29 #[.int .i64 Z] w fun e w' => e = .returned (.bool b3) ∧ w = w')
    : Calls Try.prog 10 #[.agg #[.int .i64 W, .int .i64 H, .int .i64 S], .int .i64 x, .int .i64 y] w fun e w' => e = .returned (.tuple #[.agg #[.int .i64 0, .int .i64 0, .int .i64 0, .int .i64 0], .int .i64 16]) ∧ Below w.heap.size w w' := by
  go_enter Try.func10, Try.ntmps10
  go_wp2_with (first
    | (go_at_call 14; refine (hk _).mono ?_; rintro e w1 ⟨rfl, hb1⟩; obtain ⟨hc1, hf1⟩ := bcell hb1; have hz1 : w.heap.size + 1 < w1.heap.size := by have := hb1.size; simp at this; omega)
    | (go_at_call_of 29 (Value.int .i64 x); refine (hcx _).mono ?_; rintro e w' ⟨rfl, rfl⟩)
    | (go_at_call_of 29 (Value.int .i64 y); refine (hcy _).mono ?_; rintro e w' ⟨rfl, rfl⟩)
    | (go_at_call 32; refine (hbr _).mono ?_; rintro e w2 ⟨rfl, hb2⟩; obtain ⟨hc2, hf2⟩ := bcell hb2; have hz2 : w.heap.size + 1 < w2.heap.size := by have := hb2.size; omega)
    | (go_at_call_of 29 (Value.int .i64 X); refine (c0 _).mono ?_; rintro e w' ⟨rfl, rfl⟩)
    | (go_at_call_of 29 (Value.int .i64 V); refine (c1 _).mono ?_; rintro e w' ⟨rfl, rfl⟩)
    | (go_at_call_of 29 (Value.int .i64 Y); refine (c2 _).mono ?_; rintro e w' ⟨rfl, rfl⟩)
    | (go_at_call_of 29 (Value.int .i64 Z); refine (c3 _).mono ?_; rintro e w' ⟨rfl, rfl⟩))
  have b2 := ((((Below.refl _ _).alloc (Nat.le_refl _) _).alloc (by simp) _).trans (hb1.mono (by simp; omega))).trans (hb2.mono (by omega))
  refine bodyPost_ret (v := .tuple #[.agg #[.int .i64 0, .int .i64 0, .int .i64 0, .int .i64 0], .int .i64 16]) (by simp [results, Try.results10, go_sem, hc1, hz1, Nat.lt_of_succ_lt hz1, hc2, hz2, Nat.lt_succ_of_lt hz2, Nat.lt_of_succ_lt hz2, Nat.lt_of_succ_lt (Nat.lt_succ_of_lt hz2)]) rfl ⟨rfl, ?_⟩
  exact ((((b2.setCell (by simp) _).setCell (by simp) _).setCell (by simp) _).setCell (by simp) _).alloc (by simp; omega) _

set_option maxHeartbeats 1000000 in
theorem rbrk_D2 (W H S x y X V Y Z : Int) (b1 b2 b3 : Bool) (w : World)
    (hk : ∀ w, Calls Try.prog 14 #[.agg #[.int .i64 W, .int .i64 H, .int .i64 S]] w fun e w' => e = .returned (.int .i64 0) ∧ Below w.heap.size w w')
    (hcx : ∀ w, Calls Try.prog 29 #[.int .i64 x] w fun e w' => e = .returned (.bool true) ∧ w = w') (hcy : ∀ w, Calls Try.prog 29 #[.int .i64 y] w fun e w' => e = .returned (.bool true) ∧ w = w')
    (hbr : ∀ w, Calls Try.prog 32 #[.agg #[.int .i64 W, .int .i64 H, .int .i64 S], .int .i64 x, .int .i64 y] w fun e w' => e = .returned (.agg #[.int .i64 X, .int .i64 Y, .int .i64 V, .int .i64 Z]) ∧ Below w.heap.size w w')
    (c0 : ∀ w, Calls Try.prog 29 #[.int .i64 X] w fun e w' => e = .returned (.bool true) ∧ w = w')
    (c1 : ∀ w, Calls Try.prog 29 #[.int .i64 V] w fun e w' => e = .returned (.bool true) ∧ w = w')
    (c2 : ∀ w, Calls Try.prog 29 #[.int .i64 Y] w fun e w' => e = .returned (.bool false) ∧ w = w')
    (c3 : ∀ w, Calls Try.prog 29 #[.int .i64 Z] w fun e w' => e = .returned (.bool b3) ∧ w = w')
    : Calls Try.prog 10 #[.agg #[.int .i64 W, .int .i64 H, .int .i64 S], .int .i64 x, .int .i64 y] w fun e w' => e = .returned (.tuple #[.agg #[.int .i64 0, .int .i64 0, .int .i64 0, .int .i64 0], .int .i64 16]) ∧ Below w.heap.size w w' := by
  go_enter Try.func10, Try.ntmps10
  go_wp2_with (first
    | (go_at_call 14; refine (hk _).mono ?_; rintro e w1 ⟨rfl, hb1⟩; obtain ⟨hc1, hf1⟩ := bcell hb1; have hz1 : w.heap.size + 1 < w1.heap.size := by have := hb1.size; simp at this; omega)
    | (go_at_call_of 29 (Value.int .i64 x); refine (hcx _).mono ?_; rintro e w' ⟨rfl, rfl⟩)
    | (go_at_call_of 29 (Value.int .i64 y); refine (hcy _).mono ?_; rintro e w' ⟨rfl, rfl⟩)
    | (go_at_call 32; refine (hbr _).mono ?_; rintro e w2 ⟨rfl, hb2⟩; obtain ⟨hc2, hf2⟩ := bcell hb2; have hz2 : w.heap.size + 1 < w2.heap.size := by have := hb2.size; omega)
    | (go_at_call_of 29 (Value.int .i64 X); refine (c0 _).mono ?_; rintro e w' ⟨rfl, rfl⟩)
    | (go_at_call_of 29 (Value.int .i64 V); refine (c1 _).mono ?_; rintro e w' ⟨rfl, rfl⟩)
    | (go_at_call_of 29 (Value.int .i64 Y); refine (c2 _).mono ?_; rintro e w' ⟨rfl, rfl⟩)
    | (go_at_call_of 29 (Value.int .i64 Z); refine (c3 _).mono ?_; rintro e w' ⟨rfl, rfl⟩))
  have b2 := ((((Below.refl _ _).alloc (Nat.le_refl _) _).alloc (by simp) _).trans (hb1.mono (by simp; omega))).trans (hb2.mono (by omega))
  refine bodyPost_ret (v := .tuple #[.agg #[.int .i64 0, .int .i64 0, .int .i64 0, .int .i64 0], .int .i64 16]) (by simp [results, Try.results10, go_sem, hc1, hz1, Nat.lt_of_succ_lt hz1, hc2, hz2, Nat.lt_succ_of_lt hz2, Nat.lt_of_succ_lt hz2, Nat.lt_of_succ_lt (Nat.lt_succ_of_lt hz2)]) rfl ⟨rfl, ?_⟩
  exact ((((b2.setCell (by simp) _).setCell (by simp) _).setCell (by simp) _).setCell (by simp) _).alloc (by simp; omega) _

set_option maxHeartbeats 1000000 in
theorem rbrk_D3 (W H S x y X V Y Z : Int) (b1 b2 b3 : Bool) (w : World)
    (hk : ∀ w, Calls Try.prog 14 #[.agg #[.int .i64 W, .int .i64 H, .int .i64 S]] w fun e w' => e = .returned (.int .i64 0) ∧ Below w.heap.size w w')
    (hcx : ∀ w, Calls Try.prog 29 #[.int .i64 x] w fun e w' => e = .returned (.bool true) ∧ w = w') (hcy : ∀ w, Calls Try.prog 29 #[.int .i64 y] w fun e w' => e = .returned (.bool true) ∧ w = w')
    (hbr : ∀ w, Calls Try.prog 32 #[.agg #[.int .i64 W, .int .i64 H, .int .i64 S], .int .i64 x, .int .i64 y] w fun e w' => e = .returned (.agg #[.int .i64 X, .int .i64 Y, .int .i64 V, .int .i64 Z]) ∧ Below w.heap.size w w')
    (c0 : ∀ w, Calls Try.prog 29 #[.int .i64 X] w fun e w' => e = .returned (.bool true) ∧ w = w')
    (c1 : ∀ w, Calls Try.prog 29 #[.int .i64 V] w fun e w' => e = .returned (.bool true) ∧ w = w')
    (c2 : ∀ w, Calls Try.prog 29 #[.int .i64 Y] w fun e w' => e = .returned (.bool true) ∧ w = w')
    (c3 : ∀ w, Calls Try.prog 29 #[.int .i64 Z] w fun e w' => e = .returned (.bool false) ∧ w = w')
    : Calls Try.prog 10 #[.agg #[.int .i64 W, .int .i64 H, .int .i64 S], .int .i64 x, .int .i64 y] w fun e w' => e = .returned (.tuple #[.agg #[.int .i64 0, .int .i64 0, .int .i64 0, .int .i64 0], .int .i64 16]) ∧ Below w.heap.size w w' := by
  go_enter Try.func10, Try.ntmps10
  go_wp2_with (first
    | (go_at_call 14; refine (hk _).mono ?_; rintro e w1 ⟨rfl, hb1⟩; obtain ⟨hc1, hf1⟩ := bcell hb1; have hz1 : w.heap.size + 1 < w1.heap.size := by have := hb1.size; simp at this; omega)
    | (go_at_call_of 29 (Value.int .i64 x); refine (hcx _).mono ?_; rintro e w' ⟨rfl, rfl⟩)
    | (go_at_call_of 29 (Value.int .i64 y); refine (hcy _).mono ?_; rintro e w' ⟨rfl, rfl⟩)
    | (go_at_call 32; refine (hbr _).mono ?_; rintro e w2 ⟨rfl, hb2⟩; obtain ⟨hc2, hf2⟩ := bcell hb2; have hz2 : w.heap.size + 1 < w2.heap.size := by have := hb2.size; omega)
    | (go_at_call_of 29 (Value.int .i64 X); refine (c0 _).mono ?_; rintro e w' ⟨rfl, rfl⟩)
    | (go_at_call_of 29 (Value.int .i64 V); refine (c1 _).mono ?_; rintro e w' ⟨rfl, rfl⟩)
    | (go_at_call_of 29 (Value.int .i64 Y); refine (c2 _).mono ?_; rintro e w' ⟨rfl, rfl⟩)
    | (go_at_call_of 29 (Value.int .i64 Z); refine (c3 _).mono ?_; rintro e w' ⟨rfl, rfl⟩))
  have b2 := ((((Below.refl _ _).alloc (Nat.le_refl _) _).alloc (by simp) _).trans (hb1.mono (by simp; omega))).trans (hb2.mono (by omega))
  refine bodyPost_ret (v := .tuple #[.agg #[.int .i64 0, .int .i64 0, .int .i64 0, .int .i64 0], .int .i64 16]) (by simp [results, Try.results10, go_sem, hc1, hz1, Nat.lt_of_succ_lt hz1, hc2, hz2, Nat.lt_succ_of_lt hz2, Nat.lt_of_succ_lt hz2, Nat.lt_of_succ_lt (Nat.lt_succ_of_lt hz2)]) rfl ⟨rfl, ?_⟩
  exact ((((b2.setCell (by simp) _).setCell (by simp) _).setCell (by simp) _).setCell (by simp) _).alloc (by simp; omega) _

set_option maxHeartbeats 1000000 in
theorem rbrk_D4 (W H S x y X V Y Z : Int) (b1 b2 b3 : Bool) (w : World)
    (hk : ∀ w, Calls Try.prog 14 #[.agg #[.int .i64 W, .int .i64 H, .int .i64 S]] w fun e w' => e = .returned (.int .i64 0) ∧ Below w.heap.size w w')
    (hcx : ∀ w, Calls Try.prog 29 #[.int .i64 x] w fun e w' => e = .returned (.bool true) ∧ w = w') (hcy : ∀ w, Calls Try.prog 29 #[.int .i64 y] w fun e w' => e = .returned (.bool true) ∧ w = w')
    (hbr : ∀ w, Calls Try.prog 32 #[.agg #[.int .i64 W, .int .i64 H, .int .i64 S], .int .i64 x, .int .i64 y] w fun e w' => e = .returned (.agg #[.int .i64 X, .int .i64 Y, .int .i64 V, .int .i64 Z]) ∧ Below w.heap.size w w')
    (c0 : ∀ w, Calls Try.prog 29 #[.int .i64 X] w fun e w' => e = .returned (.bool true) ∧ w = w')
    (c1 : ∀ w, Calls Try.prog 29 #[.int .i64 V] w fun e w' => e = .returned (.bool true) ∧ w = w')
    (c2 : ∀ w, Calls Try.prog 29 #[.int .i64 Y] w fun e w' => e = .returned (.bool true) ∧ w = w')
    (c3 : ∀ w, Calls Try.prog 29 #[.int .i64 Z] w fun e w' => e = .returned (.bool true) ∧ w = w')
    : Calls Try.prog 10 #[.agg #[.int .i64 W, .int .i64 H, .int .i64 S], .int .i64 x, .int .i64 y] w fun e w' => e = .returned (.tuple #[.agg #[.int .i64 X, .int .i64 Y, .int .i64 V, .int .i64 Z], .int .i64 0]) ∧ Below w.heap.size w w' := by
  go_enter Try.func10, Try.ntmps10
  go_wp2_with (first
    | (go_at_call 14; refine (hk _).mono ?_; rintro e w1 ⟨rfl, hb1⟩; obtain ⟨hc1, hf1⟩ := bcell hb1; have hz1 : w.heap.size + 1 < w1.heap.size := by have := hb1.size; simp at this; omega)
    | (go_at_call_of 29 (Value.int .i64 x); refine (hcx _).mono ?_; rintro e w' ⟨rfl, rfl⟩)
    | (go_at_call_of 29 (Value.int .i64 y); refine (hcy _).mono ?_; rintro e w' ⟨rfl, rfl⟩)
    | (go_at_call 32; refine (hbr _).mono ?_; rintro e w2 ⟨rfl, hb2⟩; obtain ⟨hc2, hf2⟩ := bcell hb2; have hz2 : w.heap.size + 1 < w2.heap.size := by have := hb2.size; omega)
    | (go_at_call_of 29 (Value.int .i64 X); refine (c0 _).mono ?_; rintro e w' ⟨rfl, rfl⟩)
    | (go_at_call_of 29 (Value.int .i64 V); refine (c1 _).mono ?_; rintro e w' ⟨rfl, rfl⟩)
    | (go_at_call_of 29 (Value.int .i64 Y); refine (c2 _).mono ?_; rintro e w' ⟨rfl, rfl⟩)
    | (go_at_call_of 29 (Value.int .i64 Z); refine (c3 _).mono ?_; rintro e w' ⟨rfl, rfl⟩))
  have b2 := ((((Below.refl _ _).alloc (Nat.le_refl _) _).alloc (by simp) _).trans (hb1.mono (by simp; omega))).trans (hb2.mono (by omega))
  refine bodyPost_ret (v := .tuple #[.agg #[.int .i64 X, .int .i64 Y, .int .i64 V, .int .i64 Z], .int .i64 0]) (by simp [results, Try.results10, go_sem, hc1, hz1, Nat.lt_of_succ_lt hz1, hc2, hz2, Nat.lt_succ_of_lt hz2, Nat.lt_of_succ_lt hz2, Nat.lt_of_succ_lt (Nat.lt_succ_of_lt hz2)]) rfl ⟨rfl, ?_⟩
  exact ((((b2.setCell (by simp) _).setCell (by simp) _).setCell (by simp) _).setCell (by simp) _).alloc (by simp; omega) _

theorem rbrk_D (W H S x y : Int) (w : World) (h : okPat W H S ∧ fineB x = true ∧ fineB y = true) :
    Calls Try.prog 10 #[.agg #[.int .i64 W, .int .i64 H, .int .i64 S], .int .i64 x, .int .i64 y] w fun e w' => e = .returned (.tuple #[.agg #[.int .i64 (br0 W H S x y), .int .i64 (br1 W H S x y), .int .i64 (br2 W H S x y), .int .i64 (br3 W H S x y)], .int .i64 (if brOK W H S x y then 0 else 16)]) ∧ Below w.heap.size w w' := by
  obtain ⟨hp, hx, hy⟩ := h
  have hat : atOK W H S x y := ⟨hp, by rw [hx, hy]; rfl⟩
  have hk := fun w => (rcheck_any W H S w).mono (R' := fun e w' => e = .returned (.int .i64 0) ∧ Below w.heap.size w w') fun e w' g => by rw [chk_ok hp] at g; exact g
  have hcx := fun w => (in_any x w).mono (R' := fun e w' => e = .returned (.bool true) ∧ w = w') fun e w' g => by rw [hx] at g; exact g
  have hcy := fun w => (in_any y w).mono (R' := fun e w' => e = .returned (.bool true) ∧ w = w') fun e w' g => by rw [hy] at g; exact g
  have hx' := fineB_of hx
  have hy' := fineB_of hy
  have hbr := fun w => brect_any W H S x y w hp (by omega) (by omega) hy'.1 hy'.2
  obtain ⟨X, hX⟩ : ∃ X, brX W H S x y = X := ⟨_, rfl⟩
  obtain ⟨Y, hY⟩ : ∃ Y, y * H = Y := ⟨_, rfl⟩
  obtain ⟨Z, hZ⟩ : ∃ Z, (y + 1) * H = Z := ⟨_, rfl⟩
  obtain ⟨V, hV⟩ : ∃ V, X + W = V := ⟨_, rfl⟩
  rw [hX, hY, hZ, hV] at hbr
  have c0 := fun w => in_any X w
  have c1 := fun w => in_any V w
  have c2 := fun w => in_any Y w
  have c3 := fun w => in_any Z w
  have hiff : brOK W H S x y ↔ (fineB X && fineB V && fineB Y && fineB Z) = true := by
    unfold brOK
    rw [hX, hV, hY, hZ]
    exact ⟨fun g => g.2, fun g => ⟨hat, g⟩⟩
  simp only [br0, br1, br2, br3, hX, hY, hZ, hV, hiff]
  generalize fineB X = b0 at *
  generalize fineB V = b1 at *
  generalize fineB Y = b2 at *
  generalize fineB Z = b3 at *
  cases b0
  · exact rbrk_D0 W H S x y X V Y Z b1 b2 b3 w hk hcx hcy hbr c0 c1 c2 c3
  cases b1
  · exact rbrk_D1 W H S x y X V Y Z false b2 b3 w hk hcx hcy hbr c0 c1 c2 c3
  cases b2
  · exact rbrk_D2 W H S x y X V Y Z false false b3 w hk hcx hcy hbr c0 c1 c2 c3
  cases b3
  · exact rbrk_D3 W H S x y X V Y Z false false false w hk hcx hcy hbr c0 c1 c2 c3
  · exact rbrk_D4 W H S x y X V Y Z false false false w hk hcx hcy hbr c0 c1 c2 c3

theorem rbrk_any (W H S x y : Int) (w : World) :
    Calls Try.prog 10 #[.agg #[.int .i64 W, .int .i64 H, .int .i64 S], .int .i64 x, .int .i64 y] w fun e w' => e = .returned (.tuple #[.agg #[.int .i64 (br0 W H S x y), .int .i64 (br1 W H S x y), .int .i64 (br2 W H S x y), .int .i64 (br3 W H S x y)], .int .i64 (brE W H S x y)]) ∧ Below w.heap.size w w' := by
  by_cases hp : okPat W H S
  · cases hx : fineB x
    · have h1 : ¬ atOK W H S x y := fun h => by have := h.2; simp [hx] at this
      have h2 : ¬ brOK W H S x y := fun h => h1 h.1
      simp only [br0, br1, br2, br3, brE, if_neg h1, if_neg h2, atE, if_pos hp, hx, Bool.false_and, Bool.false_eq_true, if_false]
      exact rbrk_B W H S x y w ⟨hp, hx⟩
    · cases hy : fineB y
      · have h1 : ¬ atOK W H S x y := fun h => by have := h.2; simp [hy] at this
        have h2 : ¬ brOK W H S x y := fun h => h1 h.1
        simp only [br0, br1, br2, br3, brE, if_neg h1, if_neg h2, atE, if_pos hp, hy, Bool.and_false, Bool.false_eq_true, if_false]
        exact rbrk_C W H S x y w ⟨hp, hx, hy⟩
      · have h1 : atOK W H S x y := ⟨hp, by rw [hx, hy]; rfl⟩
        simp only [brE, if_pos h1]
        exact rbrk_D W H S x y w ⟨hp, hx, hy⟩
  · have h1 : ¬ atOK W H S x y := fun h => hp h.1
    have h2 : ¬ brOK W H S x y := fun h => h1 h.1
    simp only [br0, br1, br2, br3, brE, if_neg h1, if_neg h2, atE, if_neg hp]
    exact rbrk_A W H S x y w hp

end Go.Proofs.Ytlkaniojnaaocaa

/- The walks of the two functions that reckon a greatest common divisor, and of the two that make a ratio, at 0 ≤ num < den ≤ 1000. -/
namespace Go.Proofs.Ytlkaniojnaaocaa
open Go.RowKit
set_option linter.unusedVariables false
set_option linter.unusedSimpArgs false

set_option maxHeartbeats 400000 in
theorem gcd_any (a b : Nat) (w : World) (ha : a ≤ 1000000) (hb : b ≤ 1000000) :
    Calls Try.prog 49 #[.int .u64 a, .int .u64 b] w fun e w' => e = .returned (.int .u64 (Nat.gcd a b : Nat)) ∧ Below w.heap.size w w' := by
  obtain ⟨g, hg⟩ : ∃ g, Nat.gcd a b = g := ⟨_, rfl⟩
  rw [hg]
  have HG := hide hg
  clear hg
  go_enter Try.func49, Try.ntmps49
  go_wp2
  go_loopw [0, 1] (fun s0 s1 wr => ∃ x y : Nat, s0 = .int .u64 (x : Int) ∧ s1 = .int .u64 (y : Int) ∧ x ≤ 1000000 ∧ y ≤ 1000000 ∧ Hid (Nat.gcd x y = g) ∧ Below w.heap.size w wr) (fun _ s1 _ => (intOf s1).toNat)
  case atStart => exact ⟨a, b, rfl, rfl, ha, hb, HG, Below.refl _ _⟩
  case round =>
    obtain ⟨x, y, rfl, rfl, hx, hy, HX, hB⟩ := hrel
    by_cases h0 : y = 0
    · subst h0
      go_wp2
      go_ret
      have := HX.out
      rw [Nat.gcd_zero_right] at this
      exact ⟨ret_eq (int_eq (by rw [this])), hB⟩
    · have h0' : ((y : Int) != 0) = true := by simpa using h0
      have h1 : 1 ≤ (y : Int) := by omega
      have hm : x % y < y := Nat.mod_lt _ (by omega)
      clear h0
      go_wp2
      go_quiet (fail)
      go_wp2
      go_roundw
      case rel =>
        refine ⟨y, x % y, rfl, by rw [Int.natCast_emod], hy, by omega, ?_, below_drewN hB _⟩
        have := HX.out
        rw [Nat.gcd_comm, Nat.gcd_rec, Nat.gcd_comm] at this
        exact hide (by rw [Nat.gcd_comm]; rw [← this]; rw [Nat.gcd_comm])
      case measure => simp [intOf]; omega

set_option maxHeartbeats 400000 in
theorem gcdCommon_any (a b : Nat) (w : World) (ha : a ≤ 1000000) (hb : b ≤ 1000000) :
    Calls Try.prog 50 #[.int .i64 a, .int .i64 b] w fun e w' => e = .returned (.int .i64 (Nat.gcd a b : Nat)) ∧ Below w.heap.size w w' := by
  obtain ⟨g, hg⟩ : ∃ g, Nat.gcd a b = g := ⟨_, rfl⟩
  rw [hg]
  have HG := hide hg
  clear hg
  go_enter Try.func50, Try.ntmps50
  go_wp2
  go_loopw [0, 1] (fun s0 s1 wr => ∃ x y : Nat, s0 = .int .i64 (x : Int) ∧ s1 = .int .i64 (y : Int) ∧ x ≤ 1000000 ∧ y ≤ 1000000 ∧ Hid (Nat.gcd x y = g) ∧ Below w.heap.size w wr) (fun _ s1 _ => (intOf s1).toNat)
  case atStart => exact ⟨a, b, rfl, rfl, ha, hb, HG, Below.refl _ _⟩
  case round =>
    obtain ⟨x, y, rfl, rfl, hx, hy, HX, hB⟩ := hrel
    by_cases h0 : y = 0
    · subst h0
      go_wp2
      go_ret
      have := HX.out
      rw [Nat.gcd_zero_right] at this
      exact ⟨ret_eq (int_eq (by rw [this])), hB⟩
    · have h0' : ((y : Int) != 0) = true := by simpa using h0
      have h1 : 1 ≤ (y : Int) := by omega
      have hm : x % y < y := Nat.mod_lt _ (by omega)
      clear h0
      go_wp2
      go_quiet (fail)
      go_wp2
      go_roundw
      case rel =>
        refine ⟨y, x % y, rfl, by rw [Int.natCast_emod], hy, by omega, ?_, below_drewN hB _⟩
        have := HX.out
        rw [Nat.gcd_comm, Nat.gcd_rec, Nat.gcd_comm] at this
        exact hide (by rw [Nat.gcd_comm]; rw [← this]; rw [Nat.gcd_comm])
      case measure => simp [intOf]; omega

theorem size_any (a : Int) (w : World) (h1 : 0 ≤ a) (h2 : a ≤ 1000000) : Calls Try.prog 48 #[.int .i64 a] w fun e w' => e = .returned (.int .u64 a) ∧ w = w' := by
  go_enter Try.func48, Try.ntmps48
  go_wp2
  go_ret
  exact ⟨rfl, rfl⟩

theorem div_bd (a g : Nat) (hg : 1 ≤ g) (ha : a ≤ 1000000) : 0 ≤ (a : Int) / (g : Int) ∧ (a : Int) / (g : Int) ≤ 1000000 := by
  have h := Nat.div_le_self a g
  have e : (a : Int) / (g : Int) = ((a / g : Nat) : Int) := by rw [Int.natCast_ediv]
  rw [e]
  exact ⟨Int.natCast_nonneg _, Int.ofNat_le.2 (Nat.le_trans h ha)⟩

set_option maxHeartbeats 1000000 in
theorem ratMk_any (a n g : Nat) (w : World) (ha : a ≤ 1000000) (hn : n ≤ 1000000) (h1 : 1 ≤ n) (hg : Hid (Nat.gcd a n = g)) :
    Calls Try.prog 33 #[.int .i64 a, .int .i64 n] w fun e w' => e = .returned (.tuple #[.agg #[.int .i64 ((a : Int) / (g : Int)), .int .i64 ((n : Int) / (g : Int))], .int .i64 0]) ∧ Below w.heap.size w w' := by
  have hg1 : 1 ≤ g := by have := hg.out; have := Nat.gcd_pos_of_pos_right a (n := n) (by omega); omega
  have hgi : 1 ≤ (g : Int) := by omega
  obtain ⟨d1, d1'⟩ := div_bd a g hg1 ha
  obtain ⟨d2, d2'⟩ := div_bd n g hg1 hn
  have hgl : g ≤ n := by have := hg.out; have := Nat.gcd_le_right (m := a) (n := n) (by omega); omega
  have hs1 := fun w => size_any a w (by omega) (by omega)
  have hs2 := fun w => size_any n w (by omega) (by omega)
  have hgc := fun w => (gcd_any a n w ha hn).mono (R' := fun e w' => e = .returned (.int .u64 g) ∧ Below w.heap.size w w') fun e w' h => by rw [hg.out] at h; exact h
  have hni : ((n : Int) == 0) = false := by simp; omega
  have hna : decide ((a : Int) < 0) = false := by simp
  have hnn : decide ((n : Int) < 0) = false := by simp
  clear hg
  go_enter Try.func33, Try.ntmps33
  go_wp2_with (first
    | (go_at_call_of 48 (Value.int .i64 (a : Int)); refine (hs1 _).mono ?_; rintro e w' ⟨rfl, rfl⟩)
    | (go_at_call_of 48 (Value.int .i64 (n : Int)); refine (hs2 _).mono ?_; rintro e w' ⟨rfl, rfl⟩)
    | (go_at_call 49; refine (hgc _).mono ?_; rintro e w1 ⟨rfl, hb1⟩; obtain ⟨hc1, hf1⟩ := bcell hb1; have hz1 : w.heap.size < w1.heap.size := by have := hb1.size; simp at this; omega))
  refine wp_hab fun hab => ?_
  refine wp_region_above (by kernel_rfl) (by kernel_rfl) ?_
  repeat (go_big_quiet_step (fail))
  refine wpQuiet_nil ?_
  refine above_ends fun w2 hb2 => ?_
  clear hab
  obtain ⟨hc2, hf2⟩ := bcell hb2
  have hz2 : w.heap.size < w2.heap.size := by have := hb2.size; omega
  go_wp2
  refine bodyPost_ret (v := .tuple #[.agg #[.int .i64 ((a : Int) / (g : Int)), .int .i64 ((n : Int) / (g : Int))], .int .i64 0]) (by simp [results, Try.results33, go_sem, hc1, hc2, hz1, hz2]) rfl ⟨rfl, ?_⟩
  have b2 := (((Below.refl _ _).alloc (Nat.le_refl _) _).trans (hb1.mono (by simp))).trans (hb2.mono (by omega))
  exact ((b2.setCell (by simp) _).setCell (by simp) _).alloc (by simp; omega) _

theorem coprime_div (a n g : Nat) (h1 : 1 ≤ n) (hg : Nat.gcd a n = g) : Nat.gcd (a / g) (n / g) = 1 := by
  subst hg
  rw [Nat.gcd_div (Nat.gcd_dvd_left a n) (Nat.gcd_dvd_right a n), Nat.div_self (Nat.gcd_pos_of_pos_right a (by omega))]

set_option maxHeartbeats 1000000 in
theorem rcheck01_any (x y : Nat) (w : World) (hx : x ≤ 1000000) (hy : y ≤ 1000000) (h1 : 1 ≤ y) (hc : Nat.gcd x y = 1) :
    Calls Try.prog 51 #[.agg #[.int .i64 x, .int .i64 y]] w fun e w' => e = .returned (.int .i64 0) ∧ Below w.heap.size w w' := by
  have hgc := fun w => (gcdCommon_any x y w hx hy).mono (R' := fun e w' => e = .returned (.int .i64 1) ∧ Below w.heap.size w w') fun e w' h => by rw [hc] at h; exact h
  clear hc
  go_enter Try.func51, Try.ntmps51
  go_wp2_with (go_at_call 50; refine (hgc _).mono ?_; rintro e w1 ⟨rfl, hb1⟩)
  go_ret
  exact ⟨rfl, ((Below.refl _ _).alloc (Nat.le_refl _) _).trans (hb1.mono (by simp))⟩

set_option maxHeartbeats 1000000 in
theorem rmake_any (a n g : Nat) (w : World) (ha : a ≤ 1000000) (hn : n ≤ 1000000) (h1 : 1 ≤ n) (hg : Hid (Nat.gcd a n = g)) :
    Calls Try.prog 34 #[.int .i64 a, .int .i64 n] w fun e w' => e = .returned (.tuple #[.agg #[.int .i64 ((a : Int) / (g : Int)), .int .i64 ((n : Int) / (g : Int))], .int .i64 0]) ∧ Below w.heap.size w w' := by
  have hg1 : 1 ≤ g := by have := hg.out; have := Nat.gcd_pos_of_pos_right a (n := n) (by omega); omega
  have hgi : 1 ≤ (g : Int) := by omega
  obtain ⟨d1, d1'⟩ := div_bd a g hg1 ha
  obtain ⟨d2, d2'⟩ := div_bd n g hg1 hn
  have hgl : g ≤ n := by have := hg.out; have := Nat.gcd_le_right (m := a) (n := n) (by omega); omega
  have hgc := fun w => (gcdCommon_any a n w ha hn).mono (R' := fun e w' => e = .returned (.int .i64 g) ∧ Below w.heap.size w w') fun e w' h => by rw [hg.out] at h; exact h
  have hch := fun w => (rcheck01_any (a / g) (n / g) w (Nat.le_trans (Nat.div_le_self _ _) ha) (Nat.le_trans (Nat.div_le_self _ _) hn) (Nat.div_pos hgl hg1) (coprime_div a n g h1 hg.out))
  simp only [Int.natCast_ediv] at hch
  have hni : ((n : Int) == 0) = false := by simp; omega
  have hnn : decide ((n : Int) < 0) = false := by simp
  have hm1 : ((a : Int) == -9223372036854775808) = false := by simp
  have hm2 : ((n : Int) == -9223372036854775808) = false := by simp
  clear hg
  go_enter Try.func34, Try.ntmps34
  go_wp2_with (first
    | (go_at_call 50; refine (hgc _).mono ?_; rintro e w1 ⟨rfl, hb1⟩; obtain ⟨hc1, hf1⟩ := bcell hb1; have hz1 : w.heap.size < w1.heap.size := by have := hb1.size; simp at this; omega)
    | (go_at_call 51; refine (hch _).mono ?_; rintro e w2 ⟨rfl, hb2⟩; obtain ⟨hc2, hf2⟩ := bcell hb2; have hz2 : w1.heap.size < w2.heap.size := by have := hb2.size; simp at this; omega))
  go_region
  go_wp2_with (go_at_call 51; refine (hch _).mono ?_; rintro e w2 ⟨rfl, hb2⟩; obtain ⟨hc2, hf2⟩ := bcell hb2; have hz2 : w1.heap.size < w2.heap.size := by have := hb2.size; simp at this; omega)
  refine bodyPost_ret (v := .tuple #[.agg #[.int .i64 ((a : Int) / (g : Int)), .int .i64 ((n : Int) / (g : Int))], .int .i64 0]) (by simp [results, Try.results34, go_sem, hc1, hc2, hz1, hz2, Nat.lt_succ_of_lt hz1]) rfl ⟨rfl, ?_⟩
  have b2 := ((((Below.refl _ _).alloc (Nat.le_refl _) _).trans (hb1.mono (by simp))).alloc (by omega) _).drew.trans (hb2.mono (by simp; omega))
  exact (b2.setCell (by simp) _).setCell (by simp) _
end Go.Proofs.Ytlkaniojnaaocaa

/- Coords of texture and of its reference. -/
namespace Go.Proofs.Ytlkaniojnaaocaa
open Go.RowKit
set_option linter.unusedVariables false
set_option linter.unusedSimpArgs false

/-- What Coords returns. -/
def coA (W H S x y : Int) : Nat := ((x - shiftI W S (rowI H y)) % W).toNat
def coB (H y : Int) : Nat := (y % H).toNat
def co0 (W H S x y : Int) : Int := if atOK W H S x y then (coA W H S x y : Int) / ((Nat.gcd (coA W H S x y) W.toNat : Nat) : Int) else 0
def co1 (W H S x y : Int) : Int := if atOK W H S x y then (W.toNat : Int) / ((Nat.gcd (coA W H S x y) W.toNat : Nat) : Int) else 0
def co2 (W H S x y : Int) : Int := if atOK W H S x y then (coB H y : Int) / ((Nat.gcd (coB H y) H.toNat : Nat) : Int) else 0
def co3 (W H S x y : Int) : Int := if atOK W H S x y then (H.toNat : Int) / ((Nat.gcd (coB H y) H.toNat : Nat) : Int) else 0

set_option maxHeartbeats 1000000 in
theorem coords_no (W H S x y c : Int) (w : World) (hc : (c != 0) = true)
    (hat : ∀ w, Calls Try.prog 7 #[.agg #[.int .i64 W, .int .i64 H, .int .i64 S], .int .i64 x, .int .i64 y] w fun e w' => e = .returned (.tuple #[.int .i64 0, .int .i64 0, .int .i64 c]) ∧ Below w.heap.size w w') :
    Calls Try.prog 11 #[.agg #[.int .i64 W, .int .i64 H, .int .i64 S], .int .i64 x, .int .i64 y] w fun e w' => e = .returned (.tuple #[.agg #[.int .i64 0, .int .i64 0], .agg #[.int .i64 0, .int .i64 0], .int .i64 c]) ∧ Below w.heap.size w w' := by
  go_enter Try.func11, Try.ntmps11
  go_wp2_with (go_at_call 7; refine (hat _).mono ?_; rintro e w1 ⟨rfl, hb1⟩; obtain ⟨hc1, hf1⟩ := bcell hb1; have hz1 : w.heap.size + 2 < w1.heap.size := by have := hb1.size; simp at this; omega)
  refine bodyPost_ret (v := .tuple #[.agg #[.int .i64 0, .int .i64 0], .agg #[.int .i64 0, .int .i64 0], .int .i64 c]) (by simp [results, Try.results11, go_sem, hc1, hz1, Nat.lt_of_succ_lt hz1]) rfl ⟨rfl, ?_⟩
  have b2 := ((((Below.refl _ _).alloc (Nat.le_refl _) _).alloc (by simp) _).alloc (by simp; omega) _).trans (hb1.mono (by simp; omega))
  exact (((b2.setCell (by first | (simp; done) | (simp; omega) | omega) _).setCell (by first | (simp; done) | (simp; omega) | omega) _).setCell (by first | (simp; done) | (simp; omega) | omega) _).setCell (by first | (simp; done) | (simp; omega) | omega) _
set_option maxHeartbeats 1000000 in
theorem rcoords_no (W H S x y c : Int) (w : World) (hc : (c != 0) = true)
    (hat : ∀ w, Calls Try.prog 8 #[.agg #[.int .i64 W, .int .i64 H, .int .i64 S], .int .i64 x, .int .i64 y] w fun e w' => e = .returned (.tuple #[.int .i64 0, .int .i64 0, .int .i64 c]) ∧ Below w.heap.size w w') :
    Calls Try.prog 12 #[.agg #[.int .i64 W, .int .i64 H, .int .i64 S], .int .i64 x, .int .i64 y] w fun e w' => e = .returned (.tuple #[.agg #[.int .i64 0, .int .i64 0], .agg #[.int .i64 0, .int .i64 0], .int .i64 c]) ∧ Below w.heap.size w w' := by
  go_enter Try.func12, Try.ntmps12
  go_wp2_with (go_at_call 8; refine (hat _).mono ?_; rintro e w1 ⟨rfl, hb1⟩; obtain ⟨hc1, hf1⟩ := bcell hb1; have hz1 : w.heap.size + 2 < w1.heap.size := by have := hb1.size; simp at this; omega)
  refine bodyPost_ret (v := .tuple #[.agg #[.int .i64 0, .int .i64 0], .agg #[.int .i64 0, .int .i64 0], .int .i64 c]) (by simp [results, Try.results12, go_sem, hc1, hz1, Nat.lt_of_succ_lt hz1]) rfl ⟨rfl, ?_⟩
  have b2 := ((((Below.refl _ _).alloc (Nat.le_refl _) _).alloc (by simp) _).alloc (by simp; omega) _).trans (hb1.mono (by simp; omega))
  exact (((b2.setCell (by first | (simp; done) | (simp; omega) | omega) _).setCell (by first | (simp; done) | (simp; omega) | omega) _).setCell (by first | (simp; done) | (simp; omega) | omega) _).setCell (by first | (simp; done) | (simp; omega) | omega) _

set_option maxHeartbeats 2000000 in
theorem coords_yes (W H S x y : Int) (c a g b k : Nat) (w : World) (h : atOK W H S x y) (hcA : coA W H S x y = a) (hcB : coB H y = b) (hg : Hid (Nat.gcd a W.toNat = g)) (hk : Hid (Nat.gcd b H.toNat = k)) :
    Calls Try.prog 11 #[.agg #[.int .i64 W, .int .i64 H, .int .i64 S], .int .i64 x, .int .i64 y] w fun e w' => e = .returned (.tuple #[.agg #[.int .i64 ((a : Int) / (g : Int)), .int .i64 ((W.toNat : Int) / (g : Int))], .agg #[.int .i64 ((b : Int) / (k : Int)), .int .i64 ((H.toNat : Int) / (k : Int))], .int .i64 0]) ∧ Below w.heap.size w w' := by
  obtain ⟨hp, hf⟩ := h
  simp only [Bool.and_eq_true] at hf
  have hx := fineB_of hf.1
  have hy := fineB_of hf.2
  have hat := fun w => at_ok W H S x y w hp hf.1 hf.2
  have hp' := hp
  unfold okPat at hp'
  have q1 : -1000000 ≤ rowI H y ∧ rowI H y ≤ 1000000 := ediv_bd y H 1000000 (by omega) hy.1 hy.2 (by omega)
  have hsb := shiftI_bd hp (rowI H y)
  have hsh := fun w => shift_any W H S (rowI H y) w hp q1.1 q1.2
  have r1 := emod_bd y H (by omega)
  have r2 := emod_bd (x - shiftI W S (rowI H y)) W (by omega)
  have eA : (x - shiftI W S (rowI H y)) % W = (a : Int) := by rw [← hcA]; unfold coA; omega
  have eB : y % H = (b : Int) := by rw [← hcB]; unfold coB; omega
  have hs1 := fun w => split_any (x - shiftI W S (rowI H y)) W w (by omega) (by omega) (by omega) (by omega)
  have hs2 := fun w => split_any y H w (by omega) (by omega) (by omega) (by omega)
  rw [eA] at hs1 r2
  rw [eB] at hs2 r1
  have eW : W = (W.toNat : Int) := by omega
  have eH : H = (H.toNat : Int) := by omega
  have hm1 := fun w => ratMk_any a W.toNat g w (by omega) (by omega) (by omega) hg
  have hm2 := fun w => ratMk_any b H.toNat k w (by omega) (by omega) (by omega) hk
  rw [← eW] at hm1
  rw [← eH] at hm2
  rw [← eW, ← eH]
  clear eW eH eA eB hcA hcB hf hp
  go_enter Try.func11, Try.ntmps11
  go_wp2_with (go_at_call 7; refine (hat _).mono ?_; rintro e w1 ⟨rfl, hb1⟩; obtain ⟨hc1, hf1⟩ := bcell hb1; have hz1 : w.heap.size + 2 < w1.heap.size := by have := hb1.size; simp at this; omega)
  have hl1 : w.heap.size < w1.heap.size ∧ w.heap.size + 1 < w1.heap.size := by omega
  refine wp_hab fun hab => ?_
  refine wp_region_above (by kernel_rfl) (by kernel_rfl) ?_
  repeat (go_big_quiet_step ((first | (go_at_call 28; exact above_of (hsh _)) | (go_at_call 27; exact above_of (hs1 _)))))
  refine wpQuiet_nil ?_
  refine above_ends fun w2 hb2 => ?_
  clear hab
  obtain ⟨hc2, hf2⟩ := bcell hb2
  have hz2 : w.heap.size + 2 < w2.heap.size ∧ w.heap.size < w2.heap.size ∧ w.heap.size + 1 < w2.heap.size := by have := hb2.size; omega
  have b2 := (((((Below.refl _ _).alloc (Nat.le_refl _) _).alloc (by simp) _).alloc (by simp; omega) _).trans (hb1.mono (by simp; omega))).trans (hb2.mono (by omega))
  go_wp2_with (first
    | (go_at_call 27; refine (hs2 _).mono ?_; rintro e w3 ⟨rfl, hb3⟩; obtain ⟨hc3, hf3⟩ := bcell hb3; have hz3 : w.heap.size + 2 < w3.heap.size ∧ w.heap.size < w3.heap.size ∧ w.heap.size + 1 < w3.heap.size := by have := hb3.size; omega)
    | (go_at_call_of 33 (Value.int .i64 W); refine (hm1 _).mono ?_; rintro e w4 ⟨rfl, hb4⟩; obtain ⟨hc4, hf4⟩ := bcell hb4; have hz4 : w.heap.size + 2 < w4.heap.size ∧ w.heap.size < w4.heap.size ∧ w.heap.size + 1 < w4.heap.size := by have := hb4.size; omega)
    | (go_at_call_of 33 (Value.int .i64 H); refine (hm2 _).mono ?_; rintro e w5 ⟨rfl, hb5⟩; obtain ⟨hc5, hf5⟩ := bcell hb5; have hz5 : w.heap.size + 2 < w5.heap.size ∧ w.heap.size < w5.heap.size ∧ w.heap.size + 1 < w5.heap.size := by have := hb5.size; simp at this; omega))
  refine wp_name fun w6 hw6 => ?_
  have b6 : Below w.heap.size w w6 := by
    rw [hw6]
    have b4 := (b2.trans (hb3.mono (by omega))).trans (hb4.mono (by omega))
    have b5 := ((b4.setCell (p := ⟨w.heap.size + 1, 0, none⟩) (by simp) (.int .i64 ((a : Int) / (g : Int)))).setCell (p := ⟨w.heap.size + 1, 1, none⟩) (by simp) (.int .i64 (W / (g : Int)))).trans (hb5.mono (by simp; omega))
    exact (b5.setCell (by simp; omega) _).setCell (by simp; omega) _
  have k0 : w6.cell? ⟨w.heap.size + 1, 0, none⟩ = some (.int .i64 ((a : Int) / (g : Int))) := by rw [hw6]; simp [go_sem, hc5, hz5, hz4, hc4, hc3, hz3, hc2, hz2, hc1, hz1, hl1]
  have k1 : w6.cell? ⟨w.heap.size + 1, 1, none⟩ = some (.int .i64 (W / (g : Int))) := by rw [hw6]; simp [go_sem, hc5, hz5, hz4, hc4, hc3, hz3, hc2, hz2, hc1, hz1, hl1]
  have k2 : w6.cell? ⟨w.heap.size + 2, 0, none⟩ = some (.int .i64 ((b : Int) / (k : Int))) := by rw [hw6]; simp [go_sem, hc5, hz5, hz4, hc4, hc3, hz3, hc2, hz2, hc1, hz1, hl1]
  have k3 : w6.cell? ⟨w.heap.size + 2, 1, none⟩ = some (.int .i64 (H / (k : Int))) := by rw [hw6]; simp [go_sem, hc5, hz5, hz4, hc4, hc3, hz3, hc2, hz2, hc1, hz1, hl1]
  have f0 : ∀ o, w6.frozen? ⟨w.heap.size + 1, o, none⟩ = false := by intro o; rw [hw6]; simp [go_sem, hf5, hz5, hz4, hf4, hf3, hz3, hf2, hz2, hf1, hz1, hl1]
  have f1 : ∀ o, w6.frozen? ⟨w.heap.size + 2, o, none⟩ = false := by intro o; rw [hw6]; simp [go_sem, hf5, hz5, hz4, hf4, hf3, hz3, hf2, hz2, hf1, hz1, hl1]
  clear hc1 hc2 hc3 hc4 hc5 hf1 hf2 hf3 hf4 hf5 hw6 b2 hb1 hb2 hb3 hb4 hb5
  go_region
  all_goals
    go_wp2
    refine bodyPost_ret (v := .tuple #[.agg #[.int .i64 ((a : Int) / (g : Int)), .int .i64 (W / (g : Int))], .agg #[.int .i64 ((b : Int) / (k : Int)), .int .i64 (H / (k : Int))], .int .i64 0]) (by simp [results, Try.results11, go_sem, k0, k1, k2, k3]) rfl ⟨rfl, ?_⟩
    first
      | exact (((b6.drew.setCell (by simp) _).setCell (by simp) _).setCell (by simp; omega) _).setCell (by simp; omega) _
      | exact (((b6.drew.setCell (by simp; omega) _).setCell (by simp; omega) _).setCell (by simp) _).setCell (by simp) _
      | exact ((((b6.setCell (by simp) _).setCell (by simp) _).setCell (by simp; omega) _).setCell (by simp; omega) _).drew
      | exact ((((b6.setCell (by simp; omega) _).setCell (by simp; omega) _).setCell (by simp) _).setCell (by simp) _).drew
end Go.Proofs.Ytlkaniojnaaocaa

/- Coords of the reference of texture; both Coords whole. -/
namespace Go.Proofs.Ytlkaniojnaaocaa
open Go.RowKit
set_option linter.unusedVariables false
set_option linter.unusedSimpArgs false

set_option maxHeartbeats 2000000 in
theorem rcoords_yes (W H S x y : Int) (a g b k : Nat) (w : World) (h : atOK W H S x y) (hcA : coA W H S x y = a) (hcB : coB H y = b) (hg : Hid (Nat.gcd a W.toNat = g)) (hk : Hid (Nat.gcd b H.toNat = k)) :
    Calls Try.prog 12 #[.agg #[.int .i64 W, .int .i64 H, .int .i64 S], .int .i64 x, .int .i64 y] w fun e w' => e = .returned (.tuple #[.agg #[.int .i64 ((a : Int) / (g : Int)), .int .i64 ((W.toNat : Int) / (g : Int))], .agg #[.int .i64 ((b : Int) / (k : Int)), .int .i64 ((H.toNat : Int) / (k : Int))], .int .i64 0]) ∧ Below w.heap.size w w' := by
  have hat := fun w => rat_any W H S x y w
  have hE : atE W H S x y = 0 := by unfold atE; rw [if_pos h.1, if_pos h.2]
  simp only [atC, atR, if_pos h, hE] at hat
  obtain ⟨hp, hf⟩ := h
  simp only [Bool.and_eq_true] at hf
  have hx := fineB_of hf.1
  have hy := fineB_of hf.2
  have hp' := hp
  unfold okPat at hp'
  have q1 : -1000000 ≤ rowI H y ∧ rowI H y ≤ 1000000 := ediv_bd y H 1000000 (by omega) hy.1 hy.2 (by omega)
  have hsb := shiftI_bd hp (rowI H y)
  have q2 : -2000000 ≤ colI W H S x y ∧ colI W H S x y ≤ 2000000 := ediv_bd (x - shiftI W S (rowI H y)) W 2000000 (by omega) (by omega) (by omega) (by omega)
  have hre := fun w => brect_any W H S (colI W H S x y) (rowI H y) w hp q2.1 q2.2 q1.1 q1.2
  have r1 := emod_bd y H (by omega)
  have r2 := emod_bd (x - shiftI W S (rowI H y)) W (by omega)
  have eA : (x - shiftI W S (rowI H y)) % W = (a : Int) := by rw [← hcA]; unfold coA; omega
  have eB : y % H = (b : Int) := by rw [← hcB]; unfold coB; omega
  have eX : x - brX W H S (colI W H S x y) (rowI H y) = (a : Int) := by
    rw [← eA]
    have := Int.mul_ediv_add_emod (x - shiftI W S (rowI H y)) W
    unfold brX colI
    rw [Int.mul_comm]
    omega
  have eY : y - rowI H y * H = (b : Int) := by
    rw [← eB]
    have := Int.mul_ediv_add_emod y H
    unfold rowI
    rw [Int.mul_comm]
    omega
  rw [eA] at r2
  rw [eB] at r1
  have eW : W = (W.toNat : Int) := by omega
  have eH : H = (H.toNat : Int) := by omega
  have hm1 := fun w => rmake_any a W.toNat g w (by omega) (by omega) (by omega) hg
  have hm2 := fun w => rmake_any b H.toNat k w (by omega) (by omega) (by omega) hk
  rw [← eW] at hm1
  rw [← eH] at hm2
  rw [← eW, ← eH]
  obtain ⟨X, hX⟩ : ∃ X, brX W H S (colI W H S x y) (rowI H y) = X := ⟨_, rfl⟩
  obtain ⟨Y, hY⟩ : ∃ Y, rowI H y * H = Y := ⟨_, rfl⟩
  rw [hX] at eX hre
  rw [hY] at eY hre
  obtain ⟨V, hV⟩ : ∃ V, X + W = V := ⟨_, rfl⟩
  obtain ⟨Z, hZ⟩ : ∃ Z, (rowI H y + 1) * H = Z := ⟨_, rfl⟩
  rw [hV, hZ] at hre
  clear eW eH eA eB hcA hcB hf hp hX hY hE hV hZ
  go_enter Try.func12, Try.ntmps12
  go_wp2_with (first
    | (go_at_call 8; refine (hat _).mono ?_; rintro e w1 ⟨rfl, hb1⟩; obtain ⟨hc1, hf1⟩ := bcell hb1; have hz1 : w.heap.size + 1 + 1 < w1.heap.size ∧ w.heap.size < w1.heap.size ∧ w.heap.size + 1 < w1.heap.size := by have := hb1.size; simp at this; omega)
    | (go_at_call 32; refine (hre _).mono ?_; rintro e w2 ⟨rfl, hb2⟩; obtain ⟨hc2, hf2⟩ := bcell hb2; have hz2 : w.heap.size + 1 + 1 < w2.heap.size ∧ w.heap.size < w2.heap.size ∧ w.heap.size + 1 < w2.heap.size := by have := hb2.size; omega)
    | (go_at_call_of 34 (Value.int .i64 W); refine (hm1 _).mono ?_; rintro e w4 ⟨rfl, hb4⟩; obtain ⟨hc4, hf4⟩ := bcell hb4; have hz4 : w2.heap.size < w4.heap.size ∧ w.heap.size + 1 + 1 < w4.heap.size ∧ w.heap.size < w4.heap.size ∧ w.heap.size + 1 < w4.heap.size := by have := hb4.size; simp at this; omega)
    | (go_at_call_of 34 (Value.int .i64 H); refine (hm2 _).mono ?_; rintro e w5 ⟨rfl, hb5⟩; obtain ⟨hc5, hf5⟩ := bcell hb5; have hz5 : w4.heap.size < w5.heap.size ∧ w.heap.size + 1 + 1 < w5.heap.size ∧ w.heap.size < w5.heap.size ∧ w.heap.size + 1 < w5.heap.size := by have := hb5.size; simp at this; omega))
  refine wp_name fun w6 hw6 => ?_
  have b6 : Below w.heap.size w w6 := by
    rw [hw6]
    have b1 := (((((Below.refl _ _).alloc (Nat.le_refl _) _).alloc (by simp) _).alloc (by simp; omega) _).trans (hb1.mono (by simp; omega)))
    have b4 := ((b1.trans (hb2.mono (by omega))).alloc (by omega) _).trans (hb4.mono (by simp; omega))
    exact ((b4.alloc (by omega) _).trans (hb5.mono (by simp; omega))).alloc (by omega) _
  have k0 : w6.cell? ⟨w4.heap.size, 0, none⟩ = some (.int .i64 ((a : Int) / (g : Int))) := by rw [hw6]; simp [go_sem, hc5, hz5, hz4, hc4, hz2, hc2, hc1, hz1, Nat.lt_succ_of_lt hz4.1, Nat.lt_succ_of_lt hz4.2.1, Nat.lt_succ_of_lt hz4.2.2.1, Nat.lt_succ_of_lt hz4.2.2.2, Nat.lt_succ_of_lt hz2.1, Nat.lt_succ_of_lt hz2.2.1, Nat.lt_succ_of_lt hz2.2.2]
  have k1 : w6.cell? ⟨w4.heap.size, 1, none⟩ = some (.int .i64 (W / (g : Int))) := by rw [hw6]; simp [go_sem, hc5, hz5, hz4, hc4, hz2, hc2, hc1, hz1, Nat.lt_succ_of_lt hz4.1, Nat.lt_succ_of_lt hz4.2.1, Nat.lt_succ_of_lt hz4.2.2.1, Nat.lt_succ_of_lt hz4.2.2.2, Nat.lt_succ_of_lt hz2.1, Nat.lt_succ_of_lt hz2.2.1, Nat.lt_succ_of_lt hz2.2.2]
  have k2 : w6.cell? ⟨w5.heap.size, 0, none⟩ = some (.int .i64 ((b : Int) / (k : Int))) := by rw [hw6]; simp [go_sem, hc5, hz5, hz4, hc4, hz2, hc2, hc1, hz1, Nat.lt_succ_of_lt hz4.1, Nat.lt_succ_of_lt hz4.2.1, Nat.lt_succ_of_lt hz4.2.2.1, Nat.lt_succ_of_lt hz4.2.2.2, Nat.lt_succ_of_lt hz2.1, Nat.lt_succ_of_lt hz2.2.1, Nat.lt_succ_of_lt hz2.2.2]
  have k3 : w6.cell? ⟨w5.heap.size, 1, none⟩ = some (.int .i64 (H / (k : Int))) := by rw [hw6]; simp [go_sem, hc5, hz5, hz4, hc4, hz2, hc2, hc1, hz1, Nat.lt_succ_of_lt hz4.1, Nat.lt_succ_of_lt hz4.2.1, Nat.lt_succ_of_lt hz4.2.2.1, Nat.lt_succ_of_lt hz4.2.2.2, Nat.lt_succ_of_lt hz2.1, Nat.lt_succ_of_lt hz2.2.1, Nat.lt_succ_of_lt hz2.2.2]
  have j0 : w6.cell? ⟨w.heap.size + 1, 0, none⟩ = some (.int .i64 0) := by rw [hw6]; simp [go_sem, hc5, hz5, hz4, hc4, hz2, hc2, hc1, hz1, Nat.lt_succ_of_lt hz4.1, Nat.lt_succ_of_lt hz4.2.1, Nat.lt_succ_of_lt hz4.2.2.1, Nat.lt_succ_of_lt hz4.2.2.2, Nat.lt_succ_of_lt hz2.1, Nat.lt_succ_of_lt hz2.2.1, Nat.lt_succ_of_lt hz2.2.2]
  have j1 : w6.cell? ⟨w.heap.size + 1, 1, none⟩ = some (.int .i64 0) := by rw [hw6]; simp [go_sem, hc5, hz5, hz4, hc4, hz2, hc2, hc1, hz1, Nat.lt_succ_of_lt hz4.1, Nat.lt_succ_of_lt hz4.2.1, Nat.lt_succ_of_lt hz4.2.2.1, Nat.lt_succ_of_lt hz4.2.2.2, Nat.lt_succ_of_lt hz2.1, Nat.lt_succ_of_lt hz2.2.1, Nat.lt_succ_of_lt hz2.2.2]
  have j2 : w6.cell? ⟨w.heap.size + 2, 0, none⟩ = some (.int .i64 0) := by rw [hw6]; simp [go_sem, hc5, hz5, hz4, hc4, hz2, hc2, hc1, hz1, Nat.lt_succ_of_lt hz4.1, Nat.lt_succ_of_lt hz4.2.1, Nat.lt_succ_of_lt hz4.2.2.1, Nat.lt_succ_of_lt hz4.2.2.2, Nat.lt_succ_of_lt hz2.1, Nat.lt_succ_of_lt hz2.2.1, Nat.lt_succ_of_lt hz2.2.2]
  have j3 : w6.cell? ⟨w.heap.size + 2, 1, none⟩ = some (.int .i64 0) := by rw [hw6]; simp [go_sem, hc5, hz5, hz4, hc4, hz2, hc2, hc1, hz1, Nat.lt_succ_of_lt hz4.1, Nat.lt_succ_of_lt hz4.2.1, Nat.lt_succ_of_lt hz4.2.2.1, Nat.lt_succ_of_lt hz4.2.2.2, Nat.lt_succ_of_lt hz2.1, Nat.lt_succ_of_lt hz2.2.1, Nat.lt_succ_of_lt hz2.2.2]
  have f0 : ∀ o, w6.frozen? ⟨w.heap.size + 1, o, none⟩ = false := by intro o; rw [hw6]; simp [go_sem, hf5, hz5, hz4, hf4, hz2, hf2, hf1, hz1, Nat.lt_succ_of_lt hz4.1, Nat.lt_succ_of_lt hz4.2.1, Nat.lt_succ_of_lt hz4.2.2.1, Nat.lt_succ_of_lt hz4.2.2.2, Nat.lt_succ_of_lt hz2.1, Nat.lt_succ_of_lt hz2.2.1, Nat.lt_succ_of_lt hz2.2.2]
  have f1 : ∀ o, w6.frozen? ⟨w.heap.size + 2, o, none⟩ = false := by intro o; rw [hw6]; simp [go_sem, hf5, hz5, hz4, hf4, hz2, hf2, hf1, hz1, Nat.lt_succ_of_lt hz4.1, Nat.lt_succ_of_lt hz4.2.1, Nat.lt_succ_of_lt hz4.2.2.1, Nat.lt_succ_of_lt hz4.2.2.2, Nat.lt_succ_of_lt hz2.1, Nat.lt_succ_of_lt hz2.2.1, Nat.lt_succ_of_lt hz2.2.2]
  clear hc1 hc2 hc4 hc5 hf1 hf2 hf4 hf5 hw6 hb1 hb2 hb4 hb5
  go_region
  all_goals
    go_wp2
    refine bodyPost_ret (v := .tuple #[.agg #[.int .i64 ((a : Int) / (g : Int)), .int .i64 (W / (g : Int))], .agg #[.int .i64 ((b : Int) / (k : Int)), .int .i64 (H / (k : Int))], .int .i64 0]) (by simp [results, Try.results12, go_sem, j0, j1, j2, j3]) rfl ⟨rfl, ?_⟩
    first
      | exact ((((b6.setCell (by simp) _).setCell (by simp) _).setCell (by simp; omega) _).setCell (by simp; omega) _).drew
      | exact ((((b6.setCell (by simp; omega) _).setCell (by simp; omega) _).setCell (by simp) _).setCell (by simp) _).drew

/-- Coords of texture, whole. -/
theorem coords_any (W H S x y : Int) (w : World) :
    Calls Try.prog 11 #[.agg #[.int .i64 W, .int .i64 H, .int .i64 S], .int .i64 x, .int .i64 y] w fun e w' => e = .returned (.tuple #[.agg #[.int .i64 (co0 W H S x y), .int .i64 (co1 W H S x y)], .agg #[.int .i64 (co2 W H S x y), .int .i64 (co3 W H S x y)], .int .i64 (atE W H S x y)]) ∧ Below w.heap.size w w' := by
  by_cases h : atOK W H S x y
  · have hE : atE W H S x y = 0 := by unfold atE; rw [if_pos h.1, if_pos h.2]
    simp only [co0, co1, co2, co3, if_pos h, hE]
    exact coords_yes W H S x y 0 _ _ _ _ w h rfl rfl (hide rfl) (hide rfl)
  · have hat := fun w => at_any W H S x y w
    simp only [atC, atR, if_neg h] at hat
    simp only [co0, co1, co2, co3, if_neg h]
    refine coords_no W H S x y _ w ?_ hat
    unfold atE
    split
    · rename_i hp
      rw [if_neg (fun hf => h ⟨hp, hf⟩)]
      rfl
    · rfl
theorem rcoords_any (W H S x y : Int) (w : World) :
    Calls Try.prog 12 #[.agg #[.int .i64 W, .int .i64 H, .int .i64 S], .int .i64 x, .int .i64 y] w fun e w' => e = .returned (.tuple #[.agg #[.int .i64 (co0 W H S x y), .int .i64 (co1 W H S x y)], .agg #[.int .i64 (co2 W H S x y), .int .i64 (co3 W H S x y)], .int .i64 (atE W H S x y)]) ∧ Below w.heap.size w w' := by
  by_cases h : atOK W H S x y
  · have hE : atE W H S x y = 0 := by unfold atE; rw [if_pos h.1, if_pos h.2]
    simp only [co0, co1, co2, co3, if_pos h, hE]
    exact rcoords_yes W H S x y _ _ _ _ w h rfl rfl (hide rfl) (hide rfl)
  · have hat := fun w => rat_any W H S x y w
    simp only [atC, atR, if_neg h] at hat
    simp only [co0, co1, co2, co3, if_neg h]
    refine rcoords_no W H S x y _ w ?_ hat
    unfold atE
    split
    · rename_i hp
      rw [if_neg (fun hf => h ⟨hp, hf⟩)]
      rfl
    · rfl
end Go.Proofs.Ytlkaniojnaaocaa

/- TextureBricks: for any pattern and numbers, Check, At, Brick and Coords return what the reference returns. No condition. -/
namespace Go.Proofs.Ytlkaniojnaaocaa
open Go.RowKit
set_option linter.unusedVariables false
set_option linter.unusedSimpArgs false

set_option maxHeartbeats 4000000 in
theorem bricks_walk (W H S x y : Int) (w : World) :
    Calls Try.prog 3 #[.agg #[.int .i64 W, .int .i64 H, .int .i64 S], .int .i64 x, .int .i64 y] w fun e w' => e = .returned (.bool true) ∧ Below w.heap.size w w' := by
  have g30 : Try.prog.eqGuardType Try.prog.depth 30 = false := by kernel_rfl
  have g36 : Try.prog.eqGuardType Try.prog.depth 36 = false := by kernel_rfl
  go_enter Try.func3, Try.ntmps3
  go_wp2_with (first
    | (go_at_call 7; refine (at_any W H S x y _).mono ?_; rintro e w1 ⟨rfl, hb1⟩; obtain ⟨hc1, hf1⟩ := bcell hb1; have hz1 : w.heap.size < w1.heap.size := by have := hb1.size; simp at this; omega)
    | (go_at_call 8; refine (rat_any W H S x y _).mono ?_; rintro e w2 ⟨rfl, hb2⟩; obtain ⟨hc2, hf2⟩ := bcell hb2; have hz2 : w.heap.size < w2.heap.size := by have := hb2.size; omega)
    | (go_at_call 9; refine (brk_any W H S x y _).mono ?_; rintro e w3 ⟨rfl, hb3⟩; obtain ⟨hc3, hf3⟩ := bcell hb3; have hz3 : w.heap.size < w3.heap.size := by have := hb3.size; omega)
    | (go_at_call 10; refine (rbrk_any W H S x y _).mono ?_; rintro e w4 ⟨rfl, hb4⟩; obtain ⟨hc4, hf4⟩ := bcell hb4; have hz4 : w.heap.size < w4.heap.size ∧ w3.heap.size < w4.heap.size := by have := hb4.size; simp at this; omega)
    | (go_at_call 11; refine (coords_any W H S x y _).mono ?_; rintro e w5 ⟨rfl, hb5⟩; obtain ⟨hc5, hf5⟩ := bcell hb5; have hz5 : w.heap.size < w5.heap.size ∧ w3.heap.size < w5.heap.size ∧ w4.heap.size < w5.heap.size := by have := hb5.size; simp at this; omega)
    | (go_at_call 12; refine (rcoords_any W H S x y _).mono ?_; rintro e w6 ⟨rfl, hb6⟩; obtain ⟨hc6, hf6⟩ := bcell hb6; have hz6 : w.heap.size < w6.heap.size ∧ w3.heap.size < w6.heap.size ∧ w4.heap.size < w6.heap.size ∧ w5.heap.size < w6.heap.size ∧ w5.heap.size + 1 < w6.heap.size := by have := hb6.size; simp at this; omega))
  refine wp_name fun w7 hw7 => ?_
  have b7 : Below w.heap.size w w7 ∧ w.heap.size < w7.heap.size ∧ w3.heap.size < w7.heap.size ∧ w4.heap.size < w7.heap.size ∧ w5.heap.size < w7.heap.size ∧ w5.heap.size + 1 < w7.heap.size ∧ w6.heap.size < w7.heap.size ∧ w6.heap.size + 1 < w7.heap.size := by
    rw [hw7]
    have b3 := ((((Below.refl _ _).alloc (Nat.le_refl _) _).trans (hb1.mono (by simp))).trans (hb2.mono (by omega))).trans (hb3.mono (by omega))
    have b4 := (b3.alloc (by omega) _).trans (hb4.mono (by simp; omega))
    have b5 := (b4.alloc (by omega) _).trans (hb5.mono (by simp; omega))
    have b6 := ((b5.alloc (by omega) _).alloc (by simp; omega) _).trans (hb6.mono (by simp; omega))
    exact ⟨(b6.alloc (by omega) _).alloc (by simp; omega) _, by simp; omega⟩
  have k0 : w7.cell? ⟨w.heap.size, 0, none⟩ = some (.int .i64 W) := by rw [hw7]; simp [go_sem, hc6, hz6, hc5, hz5, hc4, hz4, hc3, hz3, hc2, hz2, hc1, hz1, Nat.lt_succ_of_lt hz2, Nat.lt_succ_of_lt (Nat.lt_succ_of_lt hz2), Nat.lt_succ_of_lt hz3, Nat.lt_succ_of_lt (Nat.lt_succ_of_lt hz3), Nat.lt_succ_of_lt hz4.1, Nat.lt_succ_of_lt (Nat.lt_succ_of_lt hz4.1), Nat.lt_succ_of_lt hz4.2, Nat.lt_succ_of_lt (Nat.lt_succ_of_lt hz4.2), Nat.lt_succ_of_lt hz5.1, Nat.lt_succ_of_lt (Nat.lt_succ_of_lt hz5.1), Nat.lt_succ_of_lt hz5.2.1, Nat.lt_succ_of_lt (Nat.lt_succ_of_lt hz5.2.1), Nat.lt_succ_of_lt hz5.2.2, Nat.lt_succ_of_lt (Nat.lt_succ_of_lt hz5.2.2), Nat.lt_succ_of_lt hz6.1, Nat.lt_succ_of_lt (Nat.lt_succ_of_lt hz6.1), Nat.lt_succ_of_lt hz6.2.1, Nat.lt_succ_of_lt (Nat.lt_succ_of_lt hz6.2.1), Nat.lt_succ_of_lt hz6.2.2.1, Nat.lt_succ_of_lt (Nat.lt_succ_of_lt hz6.2.2.1), Nat.lt_succ_of_lt hz6.2.2.2.1, Nat.lt_succ_of_lt (Nat.lt_succ_of_lt hz6.2.2.2.1), Nat.lt_succ_of_lt hz6.2.2.2.2, Nat.lt_succ_of_lt (Nat.lt_succ_of_lt hz6.2.2.2.2)]
  have k1 : w7.cell? ⟨w.heap.size, 1, none⟩ = some (.int .i64 H) := by rw [hw7]; simp [go_sem, hc6, hz6, hc5, hz5, hc4, hz4, hc3, hz3, hc2, hz2, hc1, hz1, Nat.lt_succ_of_lt hz2, Nat.lt_succ_of_lt (Nat.lt_succ_of_lt hz2), Nat.lt_succ_of_lt hz3, Nat.lt_succ_of_lt (Nat.lt_succ_of_lt hz3), Nat.lt_succ_of_lt hz4.1, Nat.lt_succ_of_lt (Nat.lt_succ_of_lt hz4.1), Nat.lt_succ_of_lt hz4.2, Nat.lt_succ_of_lt (Nat.lt_succ_of_lt hz4.2), Nat.lt_succ_of_lt hz5.1, Nat.lt_succ_of_lt (Nat.lt_succ_of_lt hz5.1), Nat.lt_succ_of_lt hz5.2.1, Nat.lt_succ_of_lt (Nat.lt_succ_of_lt hz5.2.1), Nat.lt_succ_of_lt hz5.2.2, Nat.lt_succ_of_lt (Nat.lt_succ_of_lt hz5.2.2), Nat.lt_succ_of_lt hz6.1, Nat.lt_succ_of_lt (Nat.lt_succ_of_lt hz6.1), Nat.lt_succ_of_lt hz6.2.1, Nat.lt_succ_of_lt (Nat.lt_succ_of_lt hz6.2.1), Nat.lt_succ_of_lt hz6.2.2.1, Nat.lt_succ_of_lt (Nat.lt_succ_of_lt hz6.2.2.1), Nat.lt_succ_of_lt hz6.2.2.2.1, Nat.lt_succ_of_lt (Nat.lt_succ_of_lt hz6.2.2.2.1), Nat.lt_succ_of_lt hz6.2.2.2.2, Nat.lt_succ_of_lt (Nat.lt_succ_of_lt hz6.2.2.2.2)]
  have k2 : w7.cell? ⟨w.heap.size, 2, none⟩ = some (.int .i64 S) := by rw [hw7]; simp [go_sem, hc6, hz6, hc5, hz5, hc4, hz4, hc3, hz3, hc2, hz2, hc1, hz1, Nat.lt_succ_of_lt hz2, Nat.lt_succ_of_lt (Nat.lt_succ_of_lt hz2), Nat.lt_succ_of_lt hz3, Nat.lt_succ_of_lt (Nat.lt_succ_of_lt hz3), Nat.lt_succ_of_lt hz4.1, Nat.lt_succ_of_lt (Nat.lt_succ_of_lt hz4.1), Nat.lt_succ_of_lt hz4.2, Nat.lt_succ_of_lt (Nat.lt_succ_of_lt hz4.2), Nat.lt_succ_of_lt hz5.1, Nat.lt_succ_of_lt (Nat.lt_succ_of_lt hz5.1), Nat.lt_succ_of_lt hz5.2.1, Nat.lt_succ_of_lt (Nat.lt_succ_of_lt hz5.2.1), Nat.lt_succ_of_lt hz5.2.2, Nat.lt_succ_of_lt (Nat.lt_succ_of_lt hz5.2.2), Nat.lt_succ_of_lt hz6.1, Nat.lt_succ_of_lt (Nat.lt_succ_of_lt hz6.1), Nat.lt_succ_of_lt hz6.2.1, Nat.lt_succ_of_lt (Nat.lt_succ_of_lt hz6.2.1), Nat.lt_succ_of_lt hz6.2.2.1, Nat.lt_succ_of_lt (Nat.lt_succ_of_lt hz6.2.2.1), Nat.lt_succ_of_lt hz6.2.2.2.1, Nat.lt_succ_of_lt (Nat.lt_succ_of_lt hz6.2.2.2.1), Nat.lt_succ_of_lt hz6.2.2.2.2, Nat.lt_succ_of_lt (Nat.lt_succ_of_lt hz6.2.2.2.2)]
  have k3 : w7.cell? ⟨w3.heap.size, 0, none⟩ = some (.int .i64 (br0 W H S x y)) := by rw [hw7]; simp [go_sem, hc6, hz6, hc5, hz5, hc4, hz4, hc3, hz3, hc2, hz2, hc1, hz1, Nat.lt_succ_of_lt hz2, Nat.lt_succ_of_lt (Nat.lt_succ_of_lt hz2), Nat.lt_succ_of_lt hz3, Nat.lt_succ_of_lt (Nat.lt_succ_of_lt hz3), Nat.lt_succ_of_lt hz4.1, Nat.lt_succ_of_lt (Nat.lt_succ_of_lt hz4.1), Nat.lt_succ_of_lt hz4.2, Nat.lt_succ_of_lt (Nat.lt_succ_of_lt hz4.2), Nat.lt_succ_of_lt hz5.1, Nat.lt_succ_of_lt (Nat.lt_succ_of_lt hz5.1), Nat.lt_succ_of_lt hz5.2.1, Nat.lt_succ_of_lt (Nat.lt_succ_of_lt hz5.2.1), Nat.lt_succ_of_lt hz5.2.2, Nat.lt_succ_of_lt (Nat.lt_succ_of_lt hz5.2.2), Nat.lt_succ_of_lt hz6.1, Nat.lt_succ_of_lt (Nat.lt_succ_of_lt hz6.1), Nat.lt_succ_of_lt hz6.2.1, Nat.lt_succ_of_lt (Nat.lt_succ_of_lt hz6.2.1), Nat.lt_succ_of_lt hz6.2.2.1, Nat.lt_succ_of_lt (Nat.lt_succ_of_lt hz6.2.2.1), Nat.lt_succ_of_lt hz6.2.2.2.1, Nat.lt_succ_of_lt (Nat.lt_succ_of_lt hz6.2.2.2.1), Nat.lt_succ_of_lt hz6.2.2.2.2, Nat.lt_succ_of_lt (Nat.lt_succ_of_lt hz6.2.2.2.2)]
  have k4 : w7.cell? ⟨w3.heap.size, 1, none⟩ = some (.int .i64 (br1 W H S x y)) := by rw [hw7]; simp [go_sem, hc6, hz6, hc5, hz5, hc4, hz4, hc3, hz3, hc2, hz2, hc1, hz1, Nat.lt_succ_of_lt hz2, Nat.lt_succ_of_lt (Nat.lt_succ_of_lt hz2), Nat.lt_succ_of_lt hz3, Nat.lt_succ_of_lt (Nat.lt_succ_of_lt hz3), Nat.lt_succ_of_lt hz4.1, Nat.lt_succ_of_lt (Nat.lt_succ_of_lt hz4.1), Nat.lt_succ_of_lt hz4.2, Nat.lt_succ_of_lt (Nat.lt_succ_of_lt hz4.2), Nat.lt_succ_of_lt hz5.1, Nat.lt_succ_of_lt (Nat.lt_succ_of_lt hz5.1), Nat.lt_succ_of_lt hz5.2.1, Nat.lt_succ_of_lt (Nat.lt_succ_of_lt hz5.2.1), Nat.lt_succ_of_lt hz5.2.2, Nat.lt_succ_of_lt (Nat.lt_succ_of_lt hz5.2.2), Nat.lt_succ_of_lt hz6.1, Nat.lt_succ_of_lt (Nat.lt_succ_of_lt hz6.1), Nat.lt_succ_of_lt hz6.2.1, Nat.lt_succ_of_lt (Nat.lt_succ_of_lt hz6.2.1), Nat.lt_succ_of_lt hz6.2.2.1, Nat.lt_succ_of_lt (Nat.lt_succ_of_lt hz6.2.2.1), Nat.lt_succ_of_lt hz6.2.2.2.1, Nat.lt_succ_of_lt (Nat.lt_succ_of_lt hz6.2.2.2.1), Nat.lt_succ_of_lt hz6.2.2.2.2, Nat.lt_succ_of_lt (Nat.lt_succ_of_lt hz6.2.2.2.2)]
  have k5 : w7.cell? ⟨w3.heap.size, 2, none⟩ = some (.int .i64 (br2 W H S x y)) := by rw [hw7]; simp [go_sem, hc6, hz6, hc5, hz5, hc4, hz4, hc3, hz3, hc2, hz2, hc1, hz1, Nat.lt_succ_of_lt hz2, Nat.lt_succ_of_lt (Nat.lt_succ_of_lt hz2), Nat.lt_succ_of_lt hz3, Nat.lt_succ_of_lt (Nat.lt_succ_of_lt hz3), Nat.lt_succ_of_lt hz4.1, Nat.lt_succ_of_lt (Nat.lt_succ_of_lt hz4.1), Nat.lt_succ_of_lt hz4.2, Nat.lt_succ_of_lt (Nat.lt_succ_of_lt hz4.2), Nat.lt_succ_of_lt hz5.1, Nat.lt_succ_of_lt (Nat.lt_succ_of_lt hz5.1), Nat.lt_succ_of_lt hz5.2.1, Nat.lt_succ_of_lt (Nat.lt_succ_of_lt hz5.2.1), Nat.lt_succ_of_lt hz5.2.2, Nat.lt_succ_of_lt (Nat.lt_succ_of_lt hz5.2.2), Nat.lt_succ_of_lt hz6.1, Nat.lt_succ_of_lt (Nat.lt_succ_of_lt hz6.1), Nat.lt_succ_of_lt hz6.2.1, Nat.lt_succ_of_lt (Nat.lt_succ_of_lt hz6.2.1), Nat.lt_succ_of_lt hz6.2.2.1, Nat.lt_succ_of_lt (Nat.lt_succ_of_lt hz6.2.2.1), Nat.lt_succ_of_lt hz6.2.2.2.1, Nat.lt_succ_of_lt (Nat.lt_succ_of_lt hz6.2.2.2.1), Nat.lt_succ_of_lt hz6.2.2.2.2, Nat.lt_succ_of_lt (Nat.lt_succ_of_lt hz6.2.2.2.2)]
  have k6 : w7.cell? ⟨w3.heap.size, 3, none⟩ = some (.int .i64 (br3 W H S x y)) := by rw [hw7]; simp [go_sem, hc6, hz6, hc5, hz5, hc4, hz4, hc3, hz3, hc2, hz2, hc1, hz1, Nat.lt_succ_of_lt hz2, Nat.lt_succ_of_lt (Nat.lt_succ_of_lt hz2), Nat.lt_succ_of_lt hz3, Nat.lt_succ_of_lt (Nat.lt_succ_of_lt hz3), Nat.lt_succ_of_lt hz4.1, Nat.lt_succ_of_lt (Nat.lt_succ_of_lt hz4.1), Nat.lt_succ_of_lt hz4.2, Nat.lt_succ_of_lt (Nat.lt_succ_of_lt hz4.2), Nat.lt_succ_of_lt hz5.1, Nat.lt_succ_of_lt (Nat.lt_succ_of_lt hz5.1), Nat.lt_succ_of_lt hz5.2.1, Nat.lt_succ_of_lt (Nat.lt_succ_of_lt hz5.2.1), Nat.lt_succ_of_lt hz5.2.2, Nat.lt_succ_of_lt (Nat.lt_succ_of_lt hz5.2.2), Nat.lt_succ_of_lt hz6.1, Nat.lt_succ_of_lt (Nat.lt_succ_of_lt hz6.1), Nat.lt_succ_of_lt hz6.2.1, Nat.lt_succ_of_lt (Nat.lt_succ_of_lt hz6.2.1), Nat.lt_succ_of_lt hz6.2.2.1, Nat.lt_succ_of_lt (Nat.lt_succ_of_lt hz6.2.2.1), Nat.lt_succ_of_lt hz6.2.2.2.1, Nat.lt_succ_of_lt (Nat.lt_succ_of_lt hz6.2.2.2.1), Nat.lt_succ_of_lt hz6.2.2.2.2, Nat.lt_succ_of_lt (Nat.lt_succ_of_lt hz6.2.2.2.2)]
  have k7 : w7.cell? ⟨w4.heap.size, 0, none⟩ = some (.int .i64 (br0 W H S x y)) := by rw [hw7]; simp [go_sem, hc6, hz6, hc5, hz5, hc4, hz4, hc3, hz3, hc2, hz2, hc1, hz1, Nat.lt_succ_of_lt hz2, Nat.lt_succ_of_lt (Nat.lt_succ_of_lt hz2), Nat.lt_succ_of_lt hz3, Nat.lt_succ_of_lt (Nat.lt_succ_of_lt hz3), Nat.lt_succ_of_lt hz4.1, Nat.lt_succ_of_lt (Nat.lt_succ_of_lt hz4.1), Nat.lt_succ_of_lt hz4.2, Nat.lt_succ_of_lt (Nat.lt_succ_of_lt hz4.2), Nat.lt_succ_of_lt hz5.1, Nat.lt_succ_of_lt (Nat.lt_succ_of_lt hz5.1), Nat.lt_succ_of_lt hz5.2.1, Nat.lt_succ_of_lt (Nat.lt_succ_of_lt hz5.2.1), Nat.lt_succ_of_lt hz5.2.2, Nat.lt_succ_of_lt (Nat.lt_succ_of_lt hz5.2.2), Nat.lt_succ_of_lt hz6.1, Nat.lt_succ_of_lt (Nat.lt_succ_of_lt hz6.1), Nat.lt_succ_of_lt hz6.2.1, Nat.lt_succ_of_lt (Nat.lt_succ_of_lt hz6.2.1), Nat.lt_succ_of_lt hz6.2.2.1, Nat.lt_succ_of_lt (Nat.lt_succ_of_lt hz6.2.2.1), Nat.lt_succ_of_lt hz6.2.2.2.1, Nat.lt_succ_of_lt (Nat.lt_succ_of_lt hz6.2.2.2.1), Nat.lt_succ_of_lt hz6.2.2.2.2, Nat.lt_succ_of_lt (Nat.lt_succ_of_lt hz6.2.2.2.2)]
  have k8 : w7.cell? ⟨w4.heap.size, 1, none⟩ = some (.int .i64 (br1 W H S x y)) := by rw [hw7]; simp [go_sem, hc6, hz6, hc5, hz5, hc4, hz4, hc3, hz3, hc2, hz2, hc1, hz1, Nat.lt_succ_of_lt hz2, Nat.lt_succ_of_lt (Nat.lt_succ_of_lt hz2), Nat.lt_succ_of_lt hz3, Nat.lt_succ_of_lt (Nat.lt_succ_of_lt hz3), Nat.lt_succ_of_lt hz4.1, Nat.lt_succ_of_lt (Nat.lt_succ_of_lt hz4.1), Nat.lt_succ_of_lt hz4.2, Nat.lt_succ_of_lt (Nat.lt_succ_of_lt hz4.2), Nat.lt_succ_of_lt hz5.1, Nat.lt_succ_of_lt (Nat.lt_succ_of_lt hz5.1), Nat.lt_succ_of_lt hz5.2.1, Nat.lt_succ_of_lt (Nat.lt_succ_of_lt hz5.2.1), Nat.lt_succ_of_lt hz5.2.2, Nat.lt_succ_of_lt (Nat.lt_succ_of_lt hz5.2.2), Nat.lt_succ_of_lt hz6.1, Nat.lt_succ_of_lt (Nat.lt_succ_of_lt hz6.1), Nat.lt_succ_of_lt hz6.2.1, Nat.lt_succ_of_lt (Nat.lt_succ_of_lt hz6.2.1), Nat.lt_succ_of_lt hz6.2.2.1, Nat.lt_succ_of_lt (Nat.lt_succ_of_lt hz6.2.2.1), Nat.lt_succ_of_lt hz6.2.2.2.1, Nat.lt_succ_of_lt (Nat.lt_succ_of_lt hz6.2.2.2.1), Nat.lt_succ_of_lt hz6.2.2.2.2, Nat.lt_succ_of_lt (Nat.lt_succ_of_lt hz6.2.2.2.2)]
  have k9 : w7.cell? ⟨w4.heap.size, 2, none⟩ = some (.int .i64 (br2 W H S x y)) := by rw [hw7]; simp [go_sem, hc6, hz6, hc5, hz5, hc4, hz4, hc3, hz3, hc2, hz2, hc1, hz1, Nat.lt_succ_of_lt hz2, Nat.lt_succ_of_lt (Nat.lt_succ_of_lt hz2), Nat.lt_succ_of_lt hz3, Nat.lt_succ_of_lt (Nat.lt_succ_of_lt hz3), Nat.lt_succ_of_lt hz4.1, Nat.lt_succ_of_lt (Nat.lt_succ_of_lt hz4.1), Nat.lt_succ_of_lt hz4.2, Nat.lt_succ_of_lt (Nat.lt_succ_of_lt hz4.2), Nat.lt_succ_of_lt hz5.1, Nat.lt_succ_of_lt (Nat.lt_succ_of_lt hz5.1), Nat.lt_succ_of_lt hz5.2.1, Nat.lt_succ_of_lt (Nat.lt_succ_of_lt hz5.2.1), Nat.lt_succ_of_lt hz5.2.2, Nat.lt_succ_of_lt (Nat.lt_succ_of_lt hz5.2.2), Nat.lt_succ_of_lt hz6.1, Nat.lt_succ_of_lt (Nat.lt_succ_of_lt hz6.1), Nat.lt_succ_of_lt hz6.2.1, Nat.lt_succ_of_lt (Nat.lt_succ_of_lt hz6.2.1), Nat.lt_succ_of_lt hz6.2.2.1, Nat.lt_succ_of_lt (Nat.lt_succ_of_lt hz6.2.2.1), Nat.lt_succ_of_lt hz6.2.2.2.1, Nat.lt_succ_of_lt (Nat.lt_succ_of_lt hz6.2.2.2.1), Nat.lt_succ_of_lt hz6.2.2.2.2, Nat.lt_succ_of_lt (Nat.lt_succ_of_lt hz6.2.2.2.2)]
  have k10 : w7.cell? ⟨w4.heap.size, 3, none⟩ = some (.int .i64 (br3 W H S x y)) := by rw [hw7]; simp [go_sem, hc6, hz6, hc5, hz5, hc4, hz4, hc3, hz3, hc2, hz2, hc1, hz1, Nat.lt_succ_of_lt hz2, Nat.lt_succ_of_lt (Nat.lt_succ_of_lt hz2), Nat.lt_succ_of_lt hz3, Nat.lt_succ_of_lt (Nat.lt_succ_of_lt hz3), Nat.lt_succ_of_lt hz4.1, Nat.lt_succ_of_lt (Nat.lt_succ_of_lt hz4.1), Nat.lt_succ_of_lt hz4.2, Nat.lt_succ_of_lt (Nat.lt_succ_of_lt hz4.2), Nat.lt_succ_of_lt hz5.1, Nat.lt_succ_of_lt (Nat.lt_succ_of_lt hz5.1), Nat.lt_succ_of_lt hz5.2.1, Nat.lt_succ_of_lt (Nat.lt_succ_of_lt hz5.2.1), Nat.lt_succ_of_lt hz5.2.2, Nat.lt_succ_of_lt (Nat.lt_succ_of_lt hz5.2.2), Nat.lt_succ_of_lt hz6.1, Nat.lt_succ_of_lt (Nat.lt_succ_of_lt hz6.1), Nat.lt_succ_of_lt hz6.2.1, Nat.lt_succ_of_lt (Nat.lt_succ_of_lt hz6.2.1), Nat.lt_succ_of_lt hz6.2.2.1, Nat.lt_succ_of_lt (Nat.lt_succ_of_lt hz6.2.2.1), Nat.lt_succ_of_lt hz6.2.2.2.1, Nat.lt_succ_of_lt (Nat.lt_succ_of_lt hz6.2.2.2.1), Nat.lt_succ_of_lt hz6.2.2.2.2, Nat.lt_succ_of_lt (Nat.lt_succ_of_lt hz6.2.2.2.2)]
  have k11 : w7.cell? ⟨w5.heap.size, 0, none⟩ = some (.int .i64 (co0 W H S x y)) := by rw [hw7]; simp [go_sem, hc6, hz6, hc5, hz5, hc4, hz4, hc3, hz3, hc2, hz2, hc1, hz1, Nat.lt_succ_of_lt hz2, Nat.lt_succ_of_lt (Nat.lt_succ_of_lt hz2), Nat.lt_succ_of_lt hz3, Nat.lt_succ_of_lt (Nat.lt_succ_of_lt hz3), Nat.lt_succ_of_lt hz4.1, Nat.lt_succ_of_lt (Nat.lt_succ_of_lt hz4.1), Nat.lt_succ_of_lt hz4.2, Nat.lt_succ_of_lt (Nat.lt_succ_of_lt hz4.2), Nat.lt_succ_of_lt hz5.1, Nat.lt_succ_of_lt (Nat.lt_succ_of_lt hz5.1), Nat.lt_succ_of_lt hz5.2.1, Nat.lt_succ_of_lt (Nat.lt_succ_of_lt hz5.2.1), Nat.lt_succ_of_lt hz5.2.2, Nat.lt_succ_of_lt (Nat.lt_succ_of_lt hz5.2.2), Nat.lt_succ_of_lt hz6.1, Nat.lt_succ_of_lt (Nat.lt_succ_of_lt hz6.1), Nat.lt_succ_of_lt hz6.2.1, Nat.lt_succ_of_lt (Nat.lt_succ_of_lt hz6.2.1), Nat.lt_succ_of_lt hz6.2.2.1, Nat.lt_succ_of_lt (Nat.lt_succ_of_lt hz6.2.2.1), Nat.lt_succ_of_lt hz6.2.2.2.1, Nat.lt_succ_of_lt (Nat.lt_succ_of_lt hz6.2.2.2.1), Nat.lt_succ_of_lt hz6.2.2.2.2, Nat.lt_succ_of_lt (Nat.lt_succ_of_lt hz6.2.2.2.2)]
  have k12 : w7.cell? ⟨w5.heap.size, 1, none⟩ = some (.int .i64 (co1 W H S x y)) := by rw [hw7]; simp [go_sem, hc6, hz6, hc5, hz5, hc4, hz4, hc3, hz3, hc2, hz2, hc1, hz1, Nat.lt_succ_of_lt hz2, Nat.lt_succ_of_lt (Nat.lt_succ_of_lt hz2), Nat.lt_succ_of_lt hz3, Nat.lt_succ_of_lt (Nat.lt_succ_of_lt hz3), Nat.lt_succ_of_lt hz4.1, Nat.lt_succ_of_lt (Nat.lt_succ_of_lt hz4.1), Nat.lt_succ_of_lt hz4.2, Nat.lt_succ_of_lt (Nat.lt_succ_of_lt hz4.2), Nat.lt_succ_of_lt hz5.1, Nat.lt_succ_of_lt (Nat.lt_succ_of_lt hz5.1), Nat.lt_succ_of_lt hz5.2.1, Nat.lt_succ_of_lt (Nat.lt_succ_of_lt hz5.2.1), Nat.lt_succ_of_lt hz5.2.2, Nat.lt_succ_of_lt (Nat.lt_succ_of_lt hz5.2.2), Nat.lt_succ_of_lt hz6.1, Nat.lt_succ_of_lt (Nat.lt_succ_of_lt hz6.1), Nat.lt_succ_of_lt hz6.2.1, Nat.lt_succ_of_lt (Nat.lt_succ_of_lt hz6.2.1), Nat.lt_succ_of_lt hz6.2.2.1, Nat.lt_succ_of_lt (Nat.lt_succ_of_lt hz6.2.2.1), Nat.lt_succ_of_lt hz6.2.2.2.1, Nat.lt_succ_of_lt (Nat.lt_succ_of_lt hz6.2.2.2.1), Nat.lt_succ_of_lt hz6.2.2.2.2, Nat.lt_succ_of_lt (Nat.lt_succ_of_lt hz6.2.2.2.2)]
  have k13 : w7.cell? ⟨w5.heap.size + 1, 0, none⟩ = some (.int .i64 (co2 W H S x y)) := by rw [hw7]; simp [go_sem, hc6, hz6, hc5, hz5, hc4, hz4, hc3, hz3, hc2, hz2, hc1, hz1, Nat.lt_succ_of_lt hz2, Nat.lt_succ_of_lt (Nat.lt_succ_of_lt hz2), Nat.lt_succ_of_lt hz3, Nat.lt_succ_of_lt (Nat.lt_succ_of_lt hz3), Nat.lt_succ_of_lt hz4.1, Nat.lt_succ_of_lt (Nat.lt_succ_of_lt hz4.1), Nat.lt_succ_of_lt hz4.2, Nat.lt_succ_of_lt (Nat.lt_succ_of_lt hz4.2), Nat.lt_succ_of_lt hz5.1, Nat.lt_succ_of_lt (Nat.lt_succ_of_lt hz5.1), Nat.lt_succ_of_lt hz5.2.1, Nat.lt_succ_of_lt (Nat.lt_succ_of_lt hz5.2.1), Nat.lt_succ_of_lt hz5.2.2, Nat.lt_succ_of_lt (Nat.lt_succ_of_lt hz5.2.2), Nat.lt_succ_of_lt hz6.1, Nat.lt_succ_of_lt (Nat.lt_succ_of_lt hz6.1), Nat.lt_succ_of_lt hz6.2.1, Nat.lt_succ_of_lt (Nat.lt_succ_of_lt hz6.2.1), Nat.lt_succ_of_lt hz6.2.2.1, Nat.lt_succ_of_lt (Nat.lt_succ_of_lt hz6.2.2.1), Nat.lt_succ_of_lt hz6.2.2.2.1, Nat.lt_succ_of_lt (Nat.lt_succ_of_lt hz6.2.2.2.1), Nat.lt_succ_of_lt hz6.2.2.2.2, Nat.lt_succ_of_lt (Nat.lt_succ_of_lt hz6.2.2.2.2)]
  have k14 : w7.cell? ⟨w5.heap.size + 1, 1, none⟩ = some (.int .i64 (co3 W H S x y)) := by rw [hw7]; simp [go_sem, hc6, hz6, hc5, hz5, hc4, hz4, hc3, hz3, hc2, hz2, hc1, hz1, Nat.lt_succ_of_lt hz2, Nat.lt_succ_of_lt (Nat.lt_succ_of_lt hz2), Nat.lt_succ_of_lt hz3, Nat.lt_succ_of_lt (Nat.lt_succ_of_lt hz3), Nat.lt_succ_of_lt hz4.1, Nat.lt_succ_of_lt (Nat.lt_succ_of_lt hz4.1), Nat.lt_succ_of_lt hz4.2, Nat.lt_succ_of_lt (Nat.lt_succ_of_lt hz4.2), Nat.lt_succ_of_lt hz5.1, Nat.lt_succ_of_lt (Nat.lt_succ_of_lt hz5.1), Nat.lt_succ_of_lt hz5.2.1, Nat.lt_succ_of_lt (Nat.lt_succ_of_lt hz5.2.1), Nat.lt_succ_of_lt hz5.2.2, Nat.lt_succ_of_lt (Nat.lt_succ_of_lt hz5.2.2), Nat.lt_succ_of_lt hz6.1, Nat.lt_succ_of_lt (Nat.lt_succ_of_lt hz6.1), Nat.lt_succ_of_lt hz6.2.1, Nat.lt_succ_of_lt (Nat.lt_succ_of_lt hz6.2.1), Nat.lt_succ_of_lt hz6.2.2.1, Nat.lt_succ_of_lt (Nat.lt_succ_of_lt hz6.2.2.1), Nat.lt_succ_of_lt hz6.2.2.2.1, Nat.lt_succ_of_lt (Nat.lt_succ_of_lt hz6.2.2.2.1), Nat.lt_succ_of_lt hz6.2.2.2.2, Nat.lt_succ_of_lt (Nat.lt_succ_of_lt hz6.2.2.2.2)]
  have k15 : w7.cell? ⟨w6.heap.size, 0, none⟩ = some (.int .i64 (co0 W H S x y)) := by rw [hw7]; simp [go_sem, hc6, hz6, hc5, hz5, hc4, hz4, hc3, hz3, hc2, hz2, hc1, hz1, Nat.lt_succ_of_lt hz2, Nat.lt_succ_of_lt (Nat.lt_succ_of_lt hz2), Nat.lt_succ_of_lt hz3, Nat.lt_succ_of_lt (Nat.lt_succ_of_lt hz3), Nat.lt_succ_of_lt hz4.1, Nat.lt_succ_of_lt (Nat.lt_succ_of_lt hz4.1), Nat.lt_succ_of_lt hz4.2, Nat.lt_succ_of_lt (Nat.lt_succ_of_lt hz4.2), Nat.lt_succ_of_lt hz5.1, Nat.lt_succ_of_lt (Nat.lt_succ_of_lt hz5.1), Nat.lt_succ_of_lt hz5.2.1, Nat.lt_succ_of_lt (Nat.lt_succ_of_lt hz5.2.1), Nat.lt_succ_of_lt hz5.2.2, Nat.lt_succ_of_lt (Nat.lt_succ_of_lt hz5.2.2), Nat.lt_succ_of_lt hz6.1, Nat.lt_succ_of_lt (Nat.lt_succ_of_lt hz6.1), Nat.lt_succ_of_lt hz6.2.1, Nat.lt_succ_of_lt (Nat.lt_succ_of_lt hz6.2.1), Nat.lt_succ_of_lt hz6.2.2.1, Nat.lt_succ_of_lt (Nat.lt_succ_of_lt hz6.2.2.1), Nat.lt_succ_of_lt hz6.2.2.2.1, Nat.lt_succ_of_lt (Nat.lt_succ_of_lt hz6.2.2.2.1), Nat.lt_succ_of_lt hz6.2.2.2.2, Nat.lt_succ_of_lt (Nat.lt_succ_of_lt hz6.2.2.2.2)]
  have k16 : w7.cell? ⟨w6.heap.size, 1, none⟩ = some (.int .i64 (co1 W H S x y)) := by rw [hw7]; simp [go_sem, hc6, hz6, hc5, hz5, hc4, hz4, hc3, hz3, hc2, hz2, hc1, hz1, Nat.lt_succ_of_lt hz2, Nat.lt_succ_of_lt (Nat.lt_succ_of_lt hz2), Nat.lt_succ_of_lt hz3, Nat.lt_succ_of_lt (Nat.lt_succ_of_lt hz3), Nat.lt_succ_of_lt hz4.1, Nat.lt_succ_of_lt (Nat.lt_succ_of_lt hz4.1), Nat.lt_succ_of_lt hz4.2, Nat.lt_succ_of_lt (Nat.lt_succ_of_lt hz4.2), Nat.lt_succ_of_lt hz5.1, Nat.lt_succ_of_lt (Nat.lt_succ_of_lt hz5.1), Nat.lt_succ_of_lt hz5.2.1, Nat.lt_succ_of_lt (Nat.lt_succ_of_lt hz5.2.1), Nat.lt_succ_of_lt hz5.2.2, Nat.lt_succ_of_lt (Nat.lt_succ_of_lt hz5.2.2), Nat.lt_succ_of_lt hz6.1, Nat.lt_succ_of_lt (Nat.lt_succ_of_lt hz6.1), Nat.lt_succ_of_lt hz6.2.1, Nat.lt_succ_of_lt (Nat.lt_succ_of_lt hz6.2.1), Nat.lt_succ_of_lt hz6.2.2.1, Nat.lt_succ_of_lt (Nat.lt_succ_of_lt hz6.2.2.1), Nat.lt_succ_of_lt hz6.2.2.2.1, Nat.lt_succ_of_lt (Nat.lt_succ_of_lt hz6.2.2.2.1), Nat.lt_succ_of_lt hz6.2.2.2.2, Nat.lt_succ_of_lt (Nat.lt_succ_of_lt hz6.2.2.2.2)]
  have k17 : w7.cell? ⟨w6.heap.size + 1, 0, none⟩ = some (.int .i64 (co2 W H S x y)) := by rw [hw7]; simp [go_sem, hc6, hz6, hc5, hz5, hc4, hz4, hc3, hz3, hc2, hz2, hc1, hz1, Nat.lt_succ_of_lt hz2, Nat.lt_succ_of_lt (Nat.lt_succ_of_lt hz2), Nat.lt_succ_of_lt hz3, Nat.lt_succ_of_lt (Nat.lt_succ_of_lt hz3), Nat.lt_succ_of_lt hz4.1, Nat.lt_succ_of_lt (Nat.lt_succ_of_lt hz4.1), Nat.lt_succ_of_lt hz4.2, Nat.lt_succ_of_lt (Nat.lt_succ_of_lt hz4.2), Nat.lt_succ_of_lt hz5.1, Nat.lt_succ_of_lt (Nat.lt_succ_of_lt hz5.1), Nat.lt_succ_of_lt hz5.2.1, Nat.lt_succ_of_lt (Nat.lt_succ_of_lt hz5.2.1), Nat.lt_succ_of_lt hz5.2.2, Nat.lt_succ_of_lt (Nat.lt_succ_of_lt hz5.2.2), Nat.lt_succ_of_lt hz6.1, Nat.lt_succ_of_lt (Nat.lt_succ_of_lt hz6.1), Nat.lt_succ_of_lt hz6.2.1, Nat.lt_succ_of_lt (Nat.lt_succ_of_lt hz6.2.1), Nat.lt_succ_of_lt hz6.2.2.1, Nat.lt_succ_of_lt (Nat.lt_succ_of_lt hz6.2.2.1), Nat.lt_succ_of_lt hz6.2.2.2.1, Nat.lt_succ_of_lt (Nat.lt_succ_of_lt hz6.2.2.2.1), Nat.lt_succ_of_lt hz6.2.2.2.2, Nat.lt_succ_of_lt (Nat.lt_succ_of_lt hz6.2.2.2.2)]
  have k18 : w7.cell? ⟨w6.heap.size + 1, 1, none⟩ = some (.int .i64 (co3 W H S x y)) := by rw [hw7]; simp [go_sem, hc6, hz6, hc5, hz5, hc4, hz4, hc3, hz3, hc2, hz2, hc1, hz1, Nat.lt_succ_of_lt hz2, Nat.lt_succ_of_lt (Nat.lt_succ_of_lt hz2), Nat.lt_succ_of_lt hz3, Nat.lt_succ_of_lt (Nat.lt_succ_of_lt hz3), Nat.lt_succ_of_lt hz4.1, Nat.lt_succ_of_lt (Nat.lt_succ_of_lt hz4.1), Nat.lt_succ_of_lt hz4.2, Nat.lt_succ_of_lt (Nat.lt_succ_of_lt hz4.2), Nat.lt_succ_of_lt hz5.1, Nat.lt_succ_of_lt (Nat.lt_succ_of_lt hz5.1), Nat.lt_succ_of_lt hz5.2.1, Nat.lt_succ_of_lt (Nat.lt_succ_of_lt hz5.2.1), Nat.lt_succ_of_lt hz5.2.2, Nat.lt_succ_of_lt (Nat.lt_succ_of_lt hz5.2.2), Nat.lt_succ_of_lt hz6.1, Nat.lt_succ_of_lt (Nat.lt_succ_of_lt hz6.1), Nat.lt_succ_of_lt hz6.2.1, Nat.lt_succ_of_lt (Nat.lt_succ_of_lt hz6.2.1), Nat.lt_succ_of_lt hz6.2.2.1, Nat.lt_succ_of_lt (Nat.lt_succ_of_lt hz6.2.2.1), Nat.lt_succ_of_lt hz6.2.2.2.1, Nat.lt_succ_of_lt (Nat.lt_succ_of_lt hz6.2.2.2.1), Nat.lt_succ_of_lt hz6.2.2.2.2, Nat.lt_succ_of_lt (Nat.lt_succ_of_lt hz6.2.2.2.2)]
  have hab := @above_cell w7
  clear hc1 hc2 hc3 hc4 hc5 hc6 hf1 hf2 hf3 hf4 hf5 hf6 hw7 hb1 hb2 hb3 hb4 hb5 hb6 hz1 hz2 hz3 hz4 hz5 hz6
  refine wp_region_above (by kernel_rfl) (by kernel_rfl) ?_
  repeat (go_big_quiet_step ((first | (go_at_call 13; exact above_of (pat_any W H S _)) | (go_at_call 14; exact above_of (rcheck_any W H S _)))))
  refine wpQuiet_nil ?_
  refine above_ends fun w8 hb8 => ?_
  clear hab
  go_wp2
  go_ret
  exact ⟨rfl, b7.1.trans (hb8.mono (by omega))⟩
end Go.Proofs.Ytlkaniojnaaocaa

/- A list of rectangles that has just been written out is read as a list. -/
namespace Go.Proofs.Ytlkaniojnaaocaa
open Go.RowKit
set_option linter.unusedVariables false
set_option linter.unusedSimpArgs false

theorem rd_lit (w : World) (l : List R4) (t : TypeId) (c : Nat) : RdK encR 4 (w.alloc (.cells (l.flatMap encR).toArray t)) (w.alloc (.cells (l.flatMap encR).toArray t)).heap.size (.slice (some ⟨w.heap.size, 0, none⟩) l.length c) l := by
  refine ⟨_, c, rfl, fun _ => ⟨w.heap.size, 0, rfl, by simp, fun j x hx i u hu => ?_⟩⟩
  have := news_new w (l.flatMap encR) t w.heap.size rfl _ _ (flat_get (k := 4) (fun _ => rfl) l j x i u hx hu)
  rw [addr_add] at this
  rwa [Nat.zero_add]
theorem rd_lit_at {w : World} {B : Nat} (hB : w.heap.size = B) (l : List R4) (t : TypeId) (c : Nat) : RdK encR 4 (w.alloc (.cells (l.flatMap encR).toArray t)) (w.alloc (.cells (l.flatMap encR).toArray t)).heap.size (.slice (some ⟨B, 0, none⟩) l.length c) l := by
  subst hB
  exact rd_lit w l t c
end Go.Proofs.Ytlkaniojnaaocaa

/- The chapter's examples hold: law.go's bond, rect, fit and alive. -/
namespace Go.Proofs.Ytlkaniojnaaocaa
open Go.RowKit
set_option linter.unusedVariables false
set_option linter.unusedSimpArgs false

theorem calls_name {P : Program} {F : Nat} {A : Array Value} {W : World} {Q : Ending → World → Prop} (h : ∀ w, w = W → Calls P F A w Q) : Calls P F A W Q := h W rfl
theorem rd_at {α : Type} {enc : α → List Value} {k : Nat} {w W : World} {v : Value} {l : List α} (h : RdK enc k w w.heap.size v l) (hb : Below w.heap.size w W) : RdK enc k W W.heap.size v l := (h.below hb).mono hb.size
/-- Cells of a box. -/
def Cels (b : Nat) (vs : List Value) (W : World) : Prop := b < W.heap.size ∧ ∀ i u, vs[i]? = some u → W.cell? ⟨b, i, none⟩ = some u
theorem Cels.keep {b : Nat} {vs : List Value} {W W' : World} (h : Cels b vs W) (hb : Below W.heap.size W W') : Cels b vs W' := ⟨Nat.lt_of_lt_of_le h.1 hb.size, fun i u hu => (hb.cell (p := ⟨b, i, none⟩) h.1).trans (h.2 i u hu)⟩
theorem bond_any (w : World) : Calls Try.prog 44 #[] w fun e w' => e = .returned (.agg #[.int .i64 4, .int .i64 2, .int .i64 2]) ∧ Below w.heap.size w w' := by
  go_enter Try.func44, Try.ntmps44
  go_wp2
  refine bodyPost_ret (v := .agg #[.int .i64 4, .int .i64 2, .int .i64 2]) (by simp [results, Try.results44, go_sem]) rfl ⟨rfl, ?_⟩
  repeat (first | with_reducible exact Below.refl _ _ | with_reducible refine Below.setCell ?_ (by first | (simp; done) | (simp; omega)) _ | with_reducible refine Below.alloc ?_ (by first | omega | (simp; omega) | simp) _)
theorem rect41_any (a b c d : Int) (w : World) : Calls Try.prog 45 #[.int .i64 a, .int .i64 b, .int .i64 c, .int .i64 d] w fun e w' => e = .returned (.slice (some ⟨w.heap.size, 0, none⟩) 1 1) ∧ w'.ownsRow w.heap.size 30 4 (.slice (some ⟨w.heap.size, 0, none⟩) 1 1) 1 (([⟨a, b, c, d⟩] : List R4).flatMap encR) ∧ Below w.heap.size w w' := by
  go_enter Try.func45, Try.ntmps45
  go_wp2
  go_ret
  exact ⟨rfl, ⟨by simp [encR], .inr ⟨w.heap.size, 1, _, rfl, Nat.le_refl _, World.alloc_heap_new _ _, Nat.le_refl _, by simp [maxLen], by simp [encR], by simp [encR]⟩⟩, (Below.refl _ _).alloc (Nat.le_refl _) _⟩
theorem ex41_at (w : World) : Calls Try.prog 7 #[.agg #[.int .i64 4, .int .i64 2, .int .i64 2], .int .i64 5, .int .i64 3] w fun e w' => e = .returned (.tuple #[.int .i64 0, .int .i64 1, .int .i64 0]) ∧ Below w.heap.size w w' := by
  have h := at_any 4 2 2 5 3 w
  rwa [show atC 4 2 2 5 3 = 0 by kernel_rfl, show atR 4 2 2 5 3 = 1 by kernel_rfl, show atE 4 2 2 5 3 = 0 by kernel_rfl] at h
theorem ex41_br (w : World) : Calls Try.prog 9 #[.agg #[.int .i64 4, .int .i64 2, .int .i64 2], .int .i64 0, .int .i64 1] w fun e w' => e = .returned (.tuple #[.agg #[.int .i64 2, .int .i64 2, .int .i64 6, .int .i64 4], .int .i64 0]) ∧ Below w.heap.size w w' := by
  have h := brk_any 4 2 2 0 1 w
  rwa [show br0 4 2 2 0 1 = 2 by kernel_rfl, show br1 4 2 2 0 1 = 2 by kernel_rfl, show br2 4 2 2 0 1 = 6 by kernel_rfl, show br3 4 2 2 0 1 = 4 by kernel_rfl, show brE 4 2 2 0 1 = 0 by kernel_rfl] at h
theorem ex41_co (w : World) : Calls Try.prog 11 #[.agg #[.int .i64 4, .int .i64 2, .int .i64 2], .int .i64 5, .int .i64 3] w fun e w' => e = .returned (.tuple #[.agg #[.int .i64 3, .int .i64 4], .agg #[.int .i64 1, .int .i64 2], .int .i64 0]) ∧ Below w.heap.size w w' := by
  have h := coords_any 4 2 2 5 3 w
  rwa [show co0 4 2 2 5 3 = 3 by kernel_rfl, show co1 4 2 2 5 3 = 4 by kernel_rfl, show co2 4 2 2 5 3 = 1 by kernel_rfl, show co3 4 2 2 5 3 = 2 by kernel_rfl, show atE 4 2 2 5 3 = 0 by kernel_rfl] at h
theorem ex41_t : tileF 4 2 2 [⟨0, 0, 4, 4⟩] = ([((0, 0), [⟨0, 0, 4, 2⟩]), ((1, -1), [⟨0, 2, 2, 4⟩]), ((1, 0), [⟨2, 2, 4, 4⟩])], 0) := by kernel_rfl
theorem ex41_c : countF 4 2 2 [⟨0, 0, 4, 4⟩] = (1, 2, 0) := by kernel_rfl
def fit41 (W H S : Int) (l : List R4) : Prop := l.length ≤ 20 ∧ checkF l = 0 ∧ okPat W H S
set_option maxHeartbeats 4000000 in
theorem fit41_any {w : World} {v : Value} {l : List R4} (hr : RdK encR 4 w w.heap.size v l) (hl : l.length ≤ maxLen) (W H S : Int) :
    Calls Try.prog 24 #[v, .agg #[.int .i64 W, .int .i64 H, .int .i64 S]] w fun e w' => (e = .returned (.bool false) ∧ Below w.heap.size w w') ∨ (e = .returned (.bool true) ∧ fit41 W H S l ∧ Below w.heap.size w w') := by
  unfold maxLen at hl
  obtain ⟨A0, c0, rfl, _⟩ := id hr
  have hT0 := hide (T1.start w W H S)
  have HCK := hide (fun (wi : World) (hb : Below w.heap.size w wi) (h : l.length ≤ 20) => rCheck_any (w := wi) ((hr.below hb).mono hb.size) (by omega))
  clear hr
  by_cases h20 : l.length ≤ 20
  · have z20 : (l.length : Int) ≤ 20 := by omega
    by_cases hck : checkF l = 0
    · rw [hck] at HCK
      have hpc := fun wi => rcheck_any W H S wi
      have hcs : (okPat W H S ∧ chk W H S = 0) ∨ (chk W H S ≠ 0) := by
        by_cases hp : okPat W H S
        · exact .inl ⟨hp, chk_ok hp⟩
        · exact .inr (by rw [chk_bad hp]; decide)
      have HPC := hide hpc
      clear hpc
      generalize chk W H S = cc at *
      rcases hcs with ⟨hp, rfl⟩ | hne
      · have HP := hide hp
        clear hp
        go_enter Try.func24, Try.ntmps24
        go_wp2_with (fail)
        refine (HCK.out _ hT0.out.low h20).mono ?_
        rintro e w1 ⟨rfl, hb1⟩
        have HT1 := hide (hT0.out.below hb1)
        obtain ⟨-, -, p0, p1, p2⟩ := HT1.out
        clear hb1
        go_wp2_with (fail)
        refine (HPC.out _).mono ?_
        rintro e w2 ⟨rfl, hb2⟩
        have HT2 := hide (HT1.out.below hb2)
        clear hb2
        go_wp2_with (fail)
        go_ret
        exact .inr ⟨rfl, ⟨h20, hck, HP.out⟩, HT2.out.low⟩
      · have hnb : (cc == 0) = false := by simpa using hne
        clear hne
        go_enter Try.func24, Try.ntmps24
        go_wp2_with (fail)
        refine (HCK.out _ hT0.out.low h20).mono ?_
        rintro e w1 ⟨rfl, hb1⟩
        have HT1 := hide (hT0.out.below hb1)
        obtain ⟨-, -, p0, p1, p2⟩ := HT1.out
        clear hb1
        go_wp2_with (fail)
        refine (HPC.out _).mono ?_
        rintro e w2 ⟨rfl, hb2⟩
        have HT2 := hide (HT1.out.below hb2)
        clear hb2
        go_wp2_with (fail)
        go_ret
        exact .inl ⟨rfl, HT2.out.low⟩
    · have hnb : (checkF l == 0) = false := by simpa using hck
      clear hck
      generalize checkF l = ck at *
      go_enter Try.func24, Try.ntmps24
      go_wp2_with (fail)
      refine (HCK.out _ hT0.out.low h20).mono ?_
      rintro e w1 ⟨rfl, hb1⟩
      have HT1 := hide (hT0.out.below hb1)
      obtain ⟨-, -, p0, p1, p2⟩ := HT1.out
      clear hb1
      go_wp2_with (fail)
      go_ret
      exact .inl ⟨rfl, HT1.out.low⟩
  · have z20 : ¬ (l.length : Int) ≤ 20 := by omega
    clear h20
    obtain ⟨-, -, p0, p1, p2⟩ := id hT0.out
    go_enter Try.func24, Try.ntmps24
    go_wp2_with (fail)
    go_ret
    exact .inl ⟨rfl, hT0.out.low⟩
set_option maxRecDepth 100000 in
set_option maxHeartbeats 8000000 in
theorem alive41_any (w : World) : Calls Try.prog 23 #[] w fun e w' => e = .returned (.bool true) ∧ Below w.heap.size w w' := by
  have G1 := hide (fun (w : World) (v : Value) (h : RdK encR 4 w w.heap.size v ([⟨0, 0, 4, 4⟩] : List R4)) => by have := tile_any h (by simp) 4 2 2; rwa [ex41_t] at this)
  have G2 := hide (fun (w : World) (v : Value) (h : RdK encR 4 w w.heap.size v ([⟨0, 0, 4, 4⟩] : List R4)) => by have := tcount_any h (by simp) 4 2 2; rwa [ex41_c] at this)
  have g30 : Try.prog.eqGuardType Try.prog.depth 30 = false := by kernel_rfl
  have g36 : Try.prog.eqGuardType Try.prog.depth 36 = false := by kernel_rfl
  have K := hide (Below.refl w.heap.size w)
  go_enter Try.func23, Try.ntmps23
  go_wp2_with (fail)
  refine (bond_any _).mono ?_
  rintro e v1 ⟨rfl, hb⟩
  replace K := hide (K.out.trans (hb.mono K.out.size))
  clear hb
  go_wp2_with (fail)
  refine (ex41_at _).mono ?_
  rintro e v2 ⟨rfl, hb⟩
  replace K := hide (K.out.trans (hb.mono K.out.size))
  clear hb
  go_wp2_with (fail)
  refine (bond_any _).mono ?_
  rintro e v3 ⟨rfl, hb⟩
  replace K := hide (K.out.trans (hb.mono K.out.size))
  clear hb
  go_wp2_with (fail)
  refine (ex41_br _).mono ?_
  rintro e v4 ⟨rfl, hb⟩
  replace K := hide (K.out.trans (hb.mono K.out.size))
  clear hb
  go_wp2_with (fail)
  refine calls_name fun v5 hZ => ?_
  have hbz : Below v4.heap.size v4 v5 := by
    rw [hZ]
    repeat (first | with_reducible exact Below.refl _ _ | with_reducible refine Below.setCell ?_ (by first | (simp; done) | (simp; omega)) _ | with_reducible refine Below.alloc ?_ (by first | omega | (simp; omega) | simp) _)
  have BX : Hid (Cels (v4.heap.size) [.int .i64 2, .int .i64 2, .int .i64 6, .int .i64 4] v5) := hide (by
    rw [hZ]
    refine ⟨by simp; try omega, fun i u hu => ?_⟩
    match i, hu with
    | 0, hu => injection hu with hu; subst hu; simp [go_sem]
    | 1, hu => injection hu with hu; subst hu; simp [go_sem]
    | 2, hu => injection hu with hu; subst hu; simp [go_sem]
    | 3, hu => injection hu with hu; subst hu; simp [go_sem])
  replace K := hide (K.out.trans (hbz.mono K.out.size))
  clear hZ hbz
  refine (bond_any _).mono ?_
  rintro e v6 ⟨rfl, hb⟩
  replace K := hide (K.out.trans (hb.mono K.out.size))
  replace BX := hide (BX.out.keep hb)
  clear hb
  go_wp2_with (fail)
  refine (ex41_co _).mono ?_
  rintro e v7 ⟨rfl, hb⟩
  replace K := hide (K.out.trans (hb.mono K.out.size))
  replace BX := hide (BX.out.keep hb)
  clear hb
  go_wp2_with (fail)
  refine calls_name fun v8 hZ => ?_
  have hbz : Below v7.heap.size v7 v8 := by
    rw [hZ]
    repeat (first | with_reducible exact Below.refl _ _ | with_reducible refine Below.setCell ?_ (by first | (simp; done) | (simp; omega)) _ | with_reducible refine Below.alloc ?_ (by first | omega | (simp; omega) | simp) _)
  have BU : Hid (Cels (v7.heap.size) [.int .i64 3, .int .i64 4] v8) := hide (by
    rw [hZ]
    refine ⟨by simp; try omega, fun i u hu => ?_⟩
    match i, hu with
    | 0, hu => injection hu with hu; subst hu; simp [go_sem]
    | 1, hu => injection hu with hu; subst hu; simp [go_sem])
  have BV : Hid (Cels (v7.heap.size + 1) [.int .i64 1, .int .i64 2] v8) := hide (by
    rw [hZ]
    refine ⟨by simp; try omega, fun i u hu => ?_⟩
    match i, hu with
    | 0, hu => injection hu with hu; subst hu; simp [go_sem]
    | 1, hu => injection hu with hu; subst hu; simp [go_sem])
  replace K := hide (K.out.trans (hbz.mono K.out.size))
  replace BX := hide (BX.out.keep hbz)
  clear hZ hbz
  refine (rect41_any 0 0 4 4 _).mono ?_
  rintro e v9 ⟨rfl, ho, hb⟩
  replace K := hide (K.out.trans (hb.mono K.out.size))
  replace BX := hide (BX.out.keep hb)
  replace BU := hide (BU.out.keep hb)
  replace BV := hide (BV.out.keep hb)
  have HR1 := hide (own_rd (l := ([⟨0, 0, 4, 4⟩] : List R4)) ho (fun _ => rfl))
  clear ho
  clear hb
  go_wp2_with (fail)
  refine (bond_any _).mono ?_
  rintro e v10 ⟨rfl, hb⟩
  replace K := hide (K.out.trans (hb.mono K.out.size))
  replace HR1 := hide ((HR1.out.below hb).mono hb.size)
  replace BX := hide (BX.out.keep hb)
  replace BU := hide (BU.out.keep hb)
  replace BV := hide (BV.out.keep hb)
  clear hb
  go_wp2_with (fail)
  refine (G1.out _ _ HR1.out).mono ?_
  rintro e v11 ⟨hpc, hb⟩
  replace K := hide (K.out.trans (hb.mono K.out.size))
  replace HR1 := hide ((HR1.out.below hb).mono hb.size)
  replace BX := hide (BX.out.keep hb)
  replace BU := hide (BU.out.keep hb)
  replace BV := hide (BV.out.keep hb)
  obtain ⟨xA, rfl, hA⟩ := pcs_rd hpc
  obtain ⟨Aa, ca, rfl, -⟩ := id hA
  have HA := hide hA
  clear hpc hA
  clear hb
  clear HR1
  go_wp2_with (fail)
  refine (rect41_any 0 0 4 4 _).mono ?_
  rintro e v12 ⟨rfl, ho, hb⟩
  replace K := hide (K.out.trans (hb.mono K.out.size))
  replace HA := hide ((HA.out.below hb).mono hb.size)
  replace BX := hide (BX.out.keep hb)
  replace BU := hide (BU.out.keep hb)
  replace BV := hide (BV.out.keep hb)
  have HR2 := hide (own_rd (l := ([⟨0, 0, 4, 4⟩] : List R4)) ho (fun _ => rfl))
  clear ho
  clear hb
  go_wp2_with (fail)
  refine (bond_any _).mono ?_
  rintro e v13 ⟨rfl, hb⟩
  replace K := hide (K.out.trans (hb.mono K.out.size))
  replace HA := hide ((HA.out.below hb).mono hb.size)
  replace HR2 := hide ((HR2.out.below hb).mono hb.size)
  replace BX := hide (BX.out.keep hb)
  replace BU := hide (BU.out.keep hb)
  replace BV := hide (BV.out.keep hb)
  clear hb
  go_wp2_with (fail)
  refine (G2.out _ _ HR2.out).mono ?_
  rintro e v14 ⟨rfl, hb⟩
  replace K := hide (K.out.trans (hb.mono K.out.size))
  replace HA := hide ((HA.out.below hb).mono hb.size)
  replace HR2 := hide ((HR2.out.below hb).mono hb.size)
  replace BX := hide (BX.out.keep hb)
  replace BU := hide (BU.out.keep hb)
  replace BV := hide (BV.out.keep hb)
  clear hb
  clear HR2
  have bx0 := BX.out.2 0 _ rfl
  have bx1 := BX.out.2 1 _ rfl
  have bx2 := BX.out.2 2 _ rfl
  have bx3 := BX.out.2 3 _ rfl
  have bu0 := BU.out.2 0 _ rfl
  have bu1 := BU.out.2 1 _ rfl
  have bv0 := BV.out.2 0 _ rfl
  have bv1 := BV.out.2 1 _ rfl
  go_upto_region 7 with fail
  clear bx0 bx1 bx2 bx3 bu0 bu1 bv0 bv1
  clear BX BU BV
  obtain ⟨A9, c9, e9, hx⟩ := HA.out
  injection e9 with e1 _ e3
  subst e1; subst e3
  obtain ⟨g9, rfl, hg9, kx⟩ := hx (by simp)
  obtain ⟨_, _, u9, x2, hu⟩ := kx 0 _ _ rfl
  have x2' : v14.cell? ⟨g9, 2, none⟩ = some u9 := x2
  have HU := hide hu
  clear hx kx hu x2 G1 G2 HA
  go_region_held3 (fun w' => w'.cell? ⟨g9, 2, none⟩ = some u9) ((first | exact ((show Below v14.heap.size v14 _ from by have hbK := HB10.out; repeat (first | with_reducible exact Below.refl _ _ | with_reducible assumption | with_reducible refine Below.setCell ?_ (by first | omega | (simp; done) | (simp; omega)) _ | with_reducible refine Below.alloc ?_ (by first | omega | (simp; omega) | simp) _ | with_reducible refine Below.drew ?_)).cell (p := ⟨g9, 2, none⟩) hg9).trans x2' | exact ((show Below v14.heap.size v14 _ from by have hbK := HBQ.out; repeat (first | with_reducible exact Below.refl _ _ | with_reducible assumption | with_reducible refine Below.setCell ?_ (by first | omega | (simp; done) | (simp; omega)) _ | with_reducible refine Below.alloc ?_ (by first | omega | (simp; omega) | simp) _ | with_reducible refine Below.drew ?_)).cell (p := ⟨g9, 2, none⟩) hg9).trans x2' | exact ((show Below v14.heap.size v14 _ from by repeat (first | with_reducible exact Below.refl _ _ | with_reducible assumption | with_reducible refine Below.setCell ?_ (by first | omega | (simp; done) | (simp; omega)) _ | with_reducible refine Below.alloc ?_ (by first | omega | (simp; omega) | simp) _ | with_reducible refine Below.drew ?_)).cell (p := ⟨g9, 2, none⟩) hg9).trans x2'))
    (first
      | (go_at_call 45; refine (rect41_any 0 0 4 2 _).mono ?_; rintro e wq ⟨rfl, ho, hbq⟩; have HRQ := hide (own_rd (l := ([⟨0, 0, 4, 2⟩] : List R4)) ho (fun _ => rfl)); have HBQ : Hid (Below v14.heap.size v14 wq) := hide (Below.trans (by repeat (first | with_reducible exact Below.refl _ _ | with_reducible assumption | with_reducible refine Below.setCell ?_ (by first | omega | (simp; done) | (simp; omega)) _ | with_reducible refine Below.alloc ?_ (by first | omega | (simp; omega) | simp) _ | with_reducible refine Below.drew ?_)) (hbq.mono (by simp <;> omega))); clear ho; obtain ⟨hcq, hfq⟩ := bcell hbq; clear hbq)
      | (go_at_call 22; refine (rSameSelf (l := ([⟨0, 0, 4, 2⟩] : List R4)) (rd_at HU.out (by have hbK := HBQ.out; repeat (first | with_reducible exact Below.refl _ _ | with_reducible assumption | with_reducible refine Below.setCell ?_ (by first | omega | (simp; done) | (simp; omega)) _ | with_reducible refine Below.alloc ?_ (by first | omega | (simp; omega) | simp) _ | with_reducible refine Below.drew ?_))) (rd_at HRQ.out (by repeat (first | with_reducible exact Below.refl _ _ | with_reducible assumption | with_reducible refine Below.setCell ?_ (by first | omega | (simp; done) | (simp; omega)) _ | with_reducible refine Below.alloc ?_ (by first | omega | (simp; omega) | simp) _ | with_reducible refine Below.drew ?_))) (by decide)).mono ?_; rintro e w10 ⟨rfl, hb10⟩; have HB10 : Hid (Below v14.heap.size v14 w10) := hide (Below.trans (by have hbK := HBQ.out; repeat (first | with_reducible exact Below.refl _ _ | with_reducible assumption | with_reducible refine Below.setCell ?_ (by first | omega | (simp; done) | (simp; omega)) _ | with_reducible refine Below.alloc ?_ (by first | omega | (simp; omega) | simp) _ | with_reducible refine Below.drew ?_)) (hb10.mono (by have := HBQ.out.size; simp <;> omega))); clear hb10))
  all_goals (go_wp2_with (fail); go_ret)
  all_goals exact ⟨rfl, K.out.trans ((show Below v14.heap.size v14 _ from by have hbK := HB10.out; repeat (first | with_reducible exact Below.refl _ _ | with_reducible assumption | with_reducible refine Below.setCell ?_ (by first | omega | (simp; done) | (simp; omega)) _ | with_reducible refine Below.alloc ?_ (by first | omega | (simp; omega) | simp) _ | with_reducible refine Below.drew ?_)).mono K.out.size)⟩
end Go.Proofs.Ytlkaniojnaaocaa

/- region.Hull and the reference's Hull. -/
namespace Go.Proofs.Ytlkaniojnaaocaa
open Go.RowKit
set_option linter.unusedVariables false
set_option linter.unusedSimpArgs false

/-- The result's box R and the hull's box H, between two rectangles. -/
structure HullR (w : World) (H : Nat) (P : R4) (wr : World) : Prop where
  low : Below w.heap.size w wr
  gt : w.heap.size < H
  lt : H < wr.heap.size
  c : wr.cell? ⟨H, 0, none⟩ = some (.int .i64 P.x0) ∧ wr.cell? ⟨H, 1, none⟩ = some (.int .i64 P.y0) ∧ wr.cell? ⟨H, 2, none⟩ = some (.int .i64 P.x1) ∧ wr.cell? ⟨H, 3, none⟩ = some (.int .i64 P.y1)
  f : ∀ j, wr.frozen? ⟨H, j, none⟩ = false
  r : wr.cell? ⟨w.heap.size, 0, none⟩ = some (.int .i64 0) ∧ wr.cell? ⟨w.heap.size, 1, none⟩ = some (.int .i64 0) ∧ wr.cell? ⟨w.heap.size, 2, none⟩ = some (.int .i64 0) ∧ wr.cell? ⟨w.heap.size, 3, none⟩ = some (.int .i64 0)
  fr : ∀ j, wr.frozen? ⟨w.heap.size, j, none⟩ = false
theorem HullR.below {w wr w2 : World} {H : Nat} {P : R4} (h : HullR w H P wr) (hb : Below wr.heap.size wr w2) : HullR w H P w2 := by
  have hl := h.lt
  have hg := h.gt
  have k1 := fun j => hb.cell (p := ⟨H, j, none⟩) hl
  have k2 := fun j => hb.frozen (p := ⟨H, j, none⟩) hl
  have k3 := fun j => hb.cell (p := ⟨w.heap.size, j, none⟩) (by show w.heap.size < _; omega)
  have k4 := fun j => hb.frozen (p := ⟨w.heap.size, j, none⟩) (by show w.heap.size < _; omega)
  exact ⟨h.low.trans (hb.mono h.low.size), hg, Nat.lt_of_lt_of_le hl hb.size, ⟨(k1 0).trans h.c.1, (k1 1).trans h.c.2.1, (k1 2).trans h.c.2.2.1, (k1 3).trans h.c.2.2.2⟩, fun j => (k2 j).trans (h.f j), ⟨(k3 0).trans h.r.1, (k3 1).trans h.r.2.1, (k3 2).trans h.r.2.2.1, (k3 3).trans h.r.2.2.2⟩, fun j => (k4 j).trans (h.fr j)⟩
theorem HullR.set {w wr : World} {H : Nat} {P : R4} (h : HullR w H P wr) (a b c d : Int) : HullR w H ⟨a, b, c, d⟩ ((((wr.setCell ⟨H, 0, none⟩ (.int .i64 a)).setCell ⟨H, 1, none⟩ (.int .i64 b)).setCell ⟨H, 2, none⟩ (.int .i64 c)).setCell ⟨H, 3, none⟩ (.int .i64 d)) := by
  have hl := h.lt
  have hg := h.gt
  obtain ⟨c0, c1, c2, c3⟩ := h.c
  obtain ⟨r0, r1, r2, r3⟩ := h.r
  have ne : w.heap.size ≠ H := by omega
  have ge : w.heap.size ≤ H := by omega
  refine ⟨(((h.low.setCell ge _).setCell ge _).setCell ge _).setCell ge _, hg, by simpa [World.setCell] using hl, ⟨by simp [go_sem, c0], by simp [go_sem, c1], by simp [go_sem, c2], by simp [go_sem, c3]⟩, fun j => ?_, ⟨by simp [go_sem, r0, ne], by simp [go_sem, r1, ne], by simp [go_sem, r2, ne], by simp [go_sem, r3, ne]⟩, fun j => ?_⟩
  · rw [World.frozen?_setCell, World.frozen?_setCell, World.frozen?_setCell, World.frozen?_setCell]; exact h.f j
  · rw [World.frozen?_setCell, World.frozen?_setCell, World.frozen?_setCell, World.frozen?_setCell]; exact h.fr j

set_option maxRecDepth 100000 in
set_option maxHeartbeats 4000000 in
theorem rHull_any {w : World} {v : Value} {l : List R4} (hr : RdK encR 4 w w.heap.size v l) (hl : l.length ≤ 100000000) :
    Calls Try.prog 40 #[v] w fun e w' => e = .returned (.tuple #[.agg (encR (hullF l).1).toArray, .int .i64 (hullF l).2]) ∧ Below w.heap.size w w' := by
  have hck := fun (W : World) (hW : Below w.heap.size w W) => rCheck_any (w := W) ((hr.below hW).mono hW.size) hl
  obtain ⟨A, c, hv, hc⟩ := id hr
  subst hv
  have HCK := hide hck
  have HR := hide hr
  clear hck hr hc
  have hb0 : Below w.heap.size w (w.alloc (.cells #[.int .i64 0, .int .i64 0, .int .i64 0, .int .i64 0] 30)) := (Below.refl _ _).alloc (Nat.le_refl _) _
  have HB0 := hide hb0
  clear hb0
  have key : ∀ w1, Below (w.alloc (.cells #[.int .i64 0, .int .i64 0, .int .i64 0, .int .i64 0] 30)).heap.size (w.alloc (.cells #[.int .i64 0, .int .i64 0, .int .i64 0, .int .i64 0] 30)) w1 →
      (w1.cell? ⟨w.heap.size, 0, none⟩ = some (.int .i64 0) ∧ w1.cell? ⟨w.heap.size, 1, none⟩ = some (.int .i64 0) ∧ w1.cell? ⟨w.heap.size, 2, none⟩ = some (.int .i64 0) ∧ w1.cell? ⟨w.heap.size, 3, none⟩ = some (.int .i64 0)) ∧ ∀ j, w1.frozen? ⟨w.heap.size, j, none⟩ = false := by
    intro w1 hb
    have hc := fun j => hb.cell (p := ⟨w.heap.size, j, none⟩) (by simp)
    have hf := fun j => hb.frozen (p := ⟨w.heap.size, j, none⟩) (by simp)
    exact ⟨⟨(hc 0).trans (by simp [go_sem]), (hc 1).trans (by simp [go_sem]), (hc 2).trans (by simp [go_sem]), (hc 3).trans (by simp [go_sem])⟩, fun j => (hf j).trans (by simp [go_sem])⟩
  have KEY := hide key
  clear key
  by_cases h0 : checkF l = 0
  · obtain ⟨k1, k2, _⟩ := checkF_ok h0
    rw [h0] at HCK
    have H0 := hide h0
    clear h0
    by_cases hle : l = []
    · have HF : Hid (hullF l = (⟨0, 0, 0, 0⟩, 6)) := hide (by unfold hullF; rw [if_pos H0.out, if_pos hle])
      subst hle
      clear k2
      go_enter Try.func40, Try.ntmps40
      go_wp2_with (fail)
      refine (HCK.out _ HB0.out).mono ?_
      rintro e w1 ⟨rfl, hb1⟩
      obtain ⟨⟨r0, r1, r2, r3⟩, hf⟩ := KEY.out w1 hb1
      have f0 := hf 0
      have f1 := hf 1
      have f2 := hf 2
      have f3 := hf 3
      have HB1 := hide hb1
      clear hb1 hf
      go_wp2_with (fail)
      refine bodyPost_ret (v := .tuple #[.agg #[.int .i64 0, .int .i64 0, .int .i64 0, .int .i64 0], .int .i64 6]) (by simp [results, Try.results40, go_sem, r0, r1, r2, r3]) rfl ⟨by rw [HF.out]; rfl, ?_⟩
      exact ((((HB0.out.trans (HB1.out.mono (by simp))).setCell (Nat.le_refl _) _).setCell (Nat.le_refl _) _).setCell (Nat.le_refl _) _).setCell (Nat.le_refl _) _
    · have HF : Hid (hullF l = (hullL l, 0)) := hide (by unfold hullF; rw [if_pos H0.out, if_neg hle])
      have hlp : 0 < l.length := List.length_pos_iff.2 hle
      have hne0 : ((l.length : Int) == 0) = false := by simp; omega
      have hcuts := hull_cuts hle (fun r hr => ⟨(k2 r hr).1, (k2 r hr).2.1⟩)
      have hX := fun (W : World) (hW : Below w.heap.size w W) => rXs_any (w := W) ((HR.out.below hW).mono hW.size) (RdK.nil (α := R4) none 0) (Nat.le_refl _) (by omega) (by simp)
      have hY := fun (W : World) (hW : Below w.heap.size w W) => rYs_any (w := W) ((HR.out.below hW).mono hW.size) (RdK.nil (α := R4) none 0) (Nat.le_refl _) (by omega) (by simp)
      have hxl : (srt (cutsL l ++ cutsL [])).length ≤ 1000 := by have := srt_len (cutsL l ++ cutsL []); rw [List.length_append, cutsL_len, cutsL_len] at this; simp at this; omega
      have hyl : (srt (cutsY l ++ cutsY [])).length ≤ 1000 := by have := srt_len (cutsY l ++ cutsY []); rw [List.length_append, cutsY_len, cutsY_len] at this; simp at this; omega
      generalize srt (cutsL l ++ cutsL []) = xs at *
      generalize srt (cutsY l ++ cutsY []) = ys at *
      generalize hullL l = P at *
      obtain ⟨p0, p1, p2, p3⟩ := P
      obtain ⟨⟨e0, e2, lx⟩, e1, e3, ly⟩ := hcuts
      obtain ⟨nx, hnx⟩ : ∃ nx, xs.length = nx + 1 := ⟨xs.length - 1, by omega⟩
      obtain ⟨ny, hny⟩ : ∃ ny, ys.length = ny + 1 := ⟨ys.length - 1, by omega⟩
      rw [hnx, Nat.add_sub_cancel] at e2
      rw [hny, Nat.add_sub_cancel] at e3
      have hnx2 : nx ≤ 1000 := by omega
      have hny2 : ny ≤ 1000 := by omega
      have HE := hide (And.intro (And.intro e0 e2) (And.intro e1 e3))
      have HNX := hide hnx
      have HNY := hide hny
      have HX := hide hX
      have HY := hide hY
      clear hle k2 hX hY e0 e1 e2 e3 hnx hny hxl hyl lx ly
      go_enter Try.func40, Try.ntmps40
      go_wp2_with (fail)
      refine (HCK.out _ HB0.out).mono ?_
      rintro e w1 ⟨rfl, hb1⟩
      have HB1 := hide (HB0.out.trans (hb1.mono (by simp)))
      have HB1' := hide hb1
      clear hb1
      go_wp2_with (fail)
      refine (HX.out _ HB1.out).mono ?_
      rintro e w2 ⟨vx, rfl, ox, hb2⟩
      have HB2 := hide (HB1.out.trans (hb2.mono HB1.out.size))
      have HB2' := hide (HB1'.out.trans (hb2.mono HB1'.out.size))
      obtain ⟨gx, cpx, hvx, hgx0, hgx⟩ := ox.form (by rw [HNX.out]; omega)
      subst hvx
      have OX := hide ox
      clear hb2 ox
      go_wp2_with (fail)
      refine (HY.out _ HB2.out).mono ?_
      rintro e w3 ⟨vy, rfl, oy, hb3⟩
      obtain ⟨gy, cpy, hvy, hgy0, hgy⟩ := oy.form (by rw [HNY.out]; omega)
      subst hvy
      have ox3 := own_below OX.out hb3
      have x0 : w3.cell? ⟨gx, 0, none⟩ = some (.int .i64 p0) := by
        have := (ox3.cells (g := gx) rfl) 0 (iv p0) (by rw [List.getElem?_map, HE.out.1.1]; rfl)
        rwa [addr_add] at this
      have x2 : w3.cell? ⟨gx, nx, none⟩ = some (.int .i64 p2) := by
        have := (ox3.cells (g := gx) rfl) nx (iv p2) (by rw [List.getElem?_map, HE.out.1.2]; rfl)
        rwa [addr_add] at this
      have x1 : w3.cell? ⟨gy, 0, none⟩ = some (.int .i64 p1) := by
        have := (oy.cells (g := gy) rfl) 0 (iv p1) (by rw [List.getElem?_map, HE.out.2.1]; rfl)
        rwa [addr_add] at this
      have x3 : w3.cell? ⟨gy, ny, none⟩ = some (.int .i64 p3) := by
        have := (oy.cells (g := gy) rfl) ny (iv p3) (by rw [List.getElem?_map, HE.out.2.2]; rfl)
        rwa [addr_add] at this
      have HB3 := hide (HB2.out.trans (hb3.mono HB2.out.size))
      have hs1 : w.heap.size < w1.heap.size := by have := HB1'.out.size; simp at this; omega
      have hs2 := HB2'.out.size
      have hs3 := HB2.out.size
      have nx1 : gx ≠ w.heap.size := by omega
      have ny1 : gy ≠ w.heap.size := by simp at hs2; omega
      have nx2 : w.heap.size ≠ gx := fun e => nx1 e.symm
      have ny2 : w.heap.size ≠ gy := fun e => ny1 e.symm
      obtain ⟨⟨r0, r1, r2, r3⟩, hf⟩ := KEY.out w3 (HB2'.out.trans (hb3.mono HB2'.out.size))
      have f0 := hf 0
      have f1 := hf 1
      have f2 := hf 2
      have f3 := hf 3
      clear hb3 oy ox3 hf
      rw [HNX.out, HNY.out]
      have t1 : IntKind.i64.wrap (nx : Int) = nx := by simp [IntKind.wrap, IntKind.bits, IntKind.signed]; omega
      have t2 : IntKind.i64.wrap (ny : Int) = ny := by simp [IntKind.wrap, IntKind.bits, IntKind.signed]; omega
      have q1 : (0 : Int) ≤ (nx : Int) := by omega
      have q2 : (0 : Int) ≤ (ny : Int) := by omega
      have q3 : (nx : Int) < (nx : Int) + 1 := by omega
      have q4 : (ny : Int) < (ny : Int) + 1 := by omega
      have q5 : (0 : Int) < (nx : Int) + 1 := by omega
      have q6 : (0 : Int) < (ny : Int) + 1 := by omega
      go_wp2_with (fail)
      refine wp_region_mix [0, 1, 2, 3, 4, 5, 6, 7, 8, 9, 10, 11, 12, 13, 14, 15, 16, 17, 18] [19, 20] (fun w' => (w'.cell? ⟨gx, 0, none⟩ = some (.int .i64 p0) ∧ w'.cell? ⟨gx, nx, none⟩ = some (.int .i64 p2)) ∧ w'.cell? ⟨gy, 0, none⟩ = some (.int .i64 p1) ∧ w'.cell? ⟨gy, ny, none⟩ = some (.int .i64 p3)) (by kernel_rfl) (by kernel_rfl) ⟨⟨x0, x2⟩, x1, x3⟩ ?_
      simp only [List.map_cons, List.map_nil, opAt, List.getElem?_cons_succ, List.getElem?_cons_zero, Option.getD_some]
      iterate 19
        refine ⟨?_, Or.inl ⟨by rfl, ?_⟩, ?_⟩
        rotate_left 1
        · intro w' hSw
          obtain ⟨⟨z1, z2⟩, z3, z4⟩ := hSw
          go_simp
          first | done | with_reducible rfl
        simp only [Act.put, List.setIfInBounds_toArray, List.set_cons_zero, List.set_cons_succ]
      clear t1 t2 q1 q2 q3 q4 q5 q6
      simp only [wpReads]
      intro K hK
      simp only [Act.put, List.setIfInBounds_toArray, List.set_cons_zero, List.set_cons_succ] at hK ⊢
      go_simp
      refine hK _ _ (fun _ => ⟨⟨by go_keep, by go_keep⟩, by go_keep, by go_keep⟩) ?_
      clear hK K
      intro K hK
      simp only [Act.put, List.setIfInBounds_toArray, List.set_cons_zero, List.set_cons_succ] at hK ⊢
      go_simp
      refine hK _ _ (fun h => absurd rfl h) ?_
      clear hK K
      refine NoPanic.normal ?_
      go_wp2_with (fail)
      refine bodyPost_ret (v := .tuple #[.agg #[.int .i64 p0, .int .i64 p1, .int .i64 p2, .int .i64 p3], .int .i64 0]) (by simp [results, Try.results40, go_sem, r0, r1, r2, r3]) rfl ⟨by rw [HF.out]; rfl, ?_⟩
      exact ((((HB3.out.drew).setCell (Nat.le_refl _) _).setCell (Nat.le_refl _) _).setCell (Nat.le_refl _) _).setCell (Nat.le_refl _) _
  · have HF : Hid (hullF l = (⟨0, 0, 0, 0⟩, checkF l)) := hide (if_neg h0)
    generalize checkF l = ck at *
    have hne : (ck != 0) = true := by simpa using h0
    clear h0
    go_enter Try.func40, Try.ntmps40
    go_wp2_with (fail)
    refine (HCK.out _ HB0.out).mono ?_
    rintro e w1 ⟨rfl, hb1⟩
    have HB1 := hide (HB0.out.trans (hb1.mono (by simp)))
    have HB1' := hide hb1
    clear hb1
    go_wp2_with (fail)
    refine (HCK.out _ HB1.out).mono ?_
    rintro e w2 ⟨rfl, hb2⟩
    obtain ⟨⟨r0, r1, r2, r3⟩, hf⟩ := KEY.out w2 (HB1'.out.trans (hb2.mono HB1'.out.size))
    have f0 := hf 0
    have f1 := hf 1
    have f2 := hf 2
    have f3 := hf 3
    have HB2 := hide (HB1.out.trans (hb2.mono HB1.out.size))
    clear hb2 hf
    go_wp2_with (fail)
    refine bodyPost_ret (v := .tuple #[.agg #[.int .i64 0, .int .i64 0, .int .i64 0, .int .i64 0], .int .i64 ck]) (by simp [results, Try.results40, go_sem, r0, r1, r2, r3]) rfl ⟨by rw [HF.out]; rfl, ?_⟩
    exact (((HB2.out.setCell (Nat.le_refl _) _).setCell (Nat.le_refl _) _).setCell (Nat.le_refl _) _).setCell (Nat.le_refl _) _
end Go.Proofs.Ytlkaniojnaaocaa
