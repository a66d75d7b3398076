/- The walk of the law LotsNames. -/
import Derived.Test.YtabogapiecciiaaPk9
import Derived.Test.YtabogapiecciiaaPk10
namespace Go.Proofs.Ytabogapiecciiaa
open Go.RowKit
set_option linter.unusedVariables false
set_option linter.unusedSimpArgs false

def ringN : List R4 := [⟨0, 0, 2, 10⟩, ⟨2, 0, 8, 2⟩, ⟨2, 8, 8, 10⟩, ⟨8, 0, 10, 10⟩]
def cornN : List R4 := [⟨0, 0, 3, 6⟩, ⟨3, 0, 6, 3⟩]
def twoN : List Par6 := [⟨1, ⟨⟨0, 0, 3, 6⟩, 4⟩⟩, ⟨1, ⟨⟨3, 0, 6, 3⟩, 4⟩⟩]
theorem ringN_eq : joinF hSub [⟨0, 0, 10, 10⟩] [⟨2, 2, 8, 8⟩] = (ringN, 0) := by kernel_rfl
theorem cornN_eq : joinF hSub [⟨0, 0, 6, 6⟩] [⟨3, 3, 6, 6⟩] = (cornN, 0) := by kernel_rfl
theorem nm1 {W : World} {v u : Value} (r : RdK encR 4 W W.heap.size v [⟨0, 0, 10, 10⟩]) (q : RdK encR 4 W W.heap.size u [⟨2, 2, 8, 8⟩]) : Calls Try.prog 10 #[v, u] W fun e w' => (∃ A c, e = .returned (.tuple #[.slice A 4 c, .int .i64 0]) ∧ RdK encR 4 w' w'.heap.size (.slice A 4 c) ringN) ∧ Below W.heap.size W w' := by
  have := minus_any r q (by decide) (by decide)
  rw [ringN_eq] at this
  refine this.mono ?_
  rintro e w' ⟨⟨A, c, he, ho⟩, hb⟩
  exact ⟨⟨A, c, he, own_rd ho (fun _ => rfl)⟩, hb⟩
theorem nm2_eq : frontsF ⟨2, 2, 8, 8⟩ ringN = (15, 0) := by kernel_rfl
theorem nm2 {W : World} {v : Value} (q : RdK encR 4 W W.heap.size v ringN) : Calls Try.prog 6 #[.agg #[.int .i64 2, .int .i64 2, .int .i64 8, .int .i64 8], v] W fun e w' => e = .returned (.tuple #[.int .u8 15, .int .i64 0]) ∧ Below W.heap.size W w' := by
  have := lFronts_any ⟨2, 2, 8, 8⟩ q (by decide)
  rwa [nm2_eq] at this
theorem nm3_eq : frontsF ⟨2, 2, 8, 7⟩ ringN = (7, 0) := by kernel_rfl
theorem nm3 {W : World} {v : Value} (q : RdK encR 4 W W.heap.size v ringN) : Calls Try.prog 6 #[.agg #[.int .i64 2, .int .i64 2, .int .i64 8, .int .i64 7], v] W fun e w' => e = .returned (.tuple #[.int .u8 7, .int .i64 0]) ∧ Below W.heap.size W w' := by
  have := lFronts_any ⟨2, 2, 8, 7⟩ q (by decide)
  rwa [nm3_eq] at this
theorem nm4_eq : frontsF ⟨3, 3, 4, 4⟩ ringN = (0, 0) := by kernel_rfl
theorem nm4 {W : World} {v : Value} (q : RdK encR 4 W W.heap.size v ringN) : Calls Try.prog 6 #[.agg #[.int .i64 3, .int .i64 3, .int .i64 4, .int .i64 4], v] W fun e w' => e = .returned (.tuple #[.int .u8 0, .int .i64 0]) ∧ Below W.heap.size W w' := by
  have := lFronts_any ⟨3, 3, 4, 4⟩ q (by decide)
  rwa [nm4_eq] at this
theorem nm5_eq : reachedF ⟨⟨2, 2, 8, 7⟩, 15⟩ ringN = (16, 0) := by kernel_rfl
theorem nm5 {W : World} {v : Value} (q : RdK encR 4 W W.heap.size v ringN) : Calls Try.prog 8 #[.agg #[.int .i64 0, .int .i64 2, .int .i64 2, .int .i64 8, .int .i64 7, .int .u8 15], v] W fun e w' => e = .returned (.tuple #[.int .i64 16, .int .i64 0]) ∧ Below W.heap.size W w' := by
  have := lReached_any ⟨0, ⟨⟨2, 2, 8, 7⟩, 15⟩⟩ (by decide) q (by decide)
  rwa [nm5_eq] at this
theorem nm6_eq : reachedF ⟨⟨6, 2, 12, 4⟩, 4⟩ [⟨0, 0, 10, 2⟩] = (4, 0) := by kernel_rfl
theorem nm6 {W : World} {v : Value} (q : RdK encR 4 W W.heap.size v [⟨0, 0, 10, 2⟩]) : Calls Try.prog 8 #[.agg #[.int .i64 0, .int .i64 6, .int .i64 2, .int .i64 12, .int .i64 4, .int .u8 4], v] W fun e w' => e = .returned (.tuple #[.int .i64 4, .int .i64 0]) ∧ Below W.heap.size W w' := by
  have := lReached_any ⟨0, ⟨⟨6, 2, 12, 4⟩, 4⟩⟩ (by decide) q (by decide)
  rwa [nm6_eq] at this
theorem nm7 {W : World} {v u : Value} (r : RdK encR 4 W W.heap.size v [⟨0, 0, 6, 6⟩]) (q : RdK encR 4 W W.heap.size u [⟨3, 3, 6, 6⟩]) : Calls Try.prog 10 #[v, u] W fun e w' => (∃ A c, e = .returned (.tuple #[.slice A 2 c, .int .i64 0]) ∧ RdK encR 4 w' w'.heap.size (.slice A 2 c) cornN) ∧ Below W.heap.size W w' := by
  have := minus_any r q (by decide) (by decide)
  rw [cornN_eq] at this
  refine this.mono ?_
  rintro e w' ⟨⟨A, c, he, ho⟩, hb⟩
  exact ⟨⟨A, c, he, own_rd ho (fun _ => rfl)⟩, hb⟩
theorem nm8_code : (lotsF [[], cornN] [⟨0, -1, 6, 0⟩] ⟨1, 1, 100⟩).2 = 0 := by kernel_rfl
theorem nm8_row : (lotsF [[], cornN] [⟨0, -1, 6, 0⟩] ⟨1, 1, 100⟩).1 = twoN := by kernel_rfl
theorem nm8 {W : World} {u v : Value} (r : RdRR W W.heap.size u [[], cornN]) (q : RdK encR 4 W W.heap.size v [⟨0, -1, 6, 0⟩]) : Calls Try.prog 13 #[u, v, .agg #[.int .i64 1, .int .i64 1, .int .i64 100]] W fun e w' => (∃ A c, e = .returned (.tuple #[.slice A 2 c, .int .i64 0]) ∧ RdK encQ 6 w' w'.heap.size (.slice A 2 c) twoN) ∧ Below W.heap.size W w' := by
  refine (lots_any r q ⟨1, 1, 100⟩ (of_decide_eq_true (by kernel_rfl)) (of_decide_eq_true (by kernel_rfl)) (of_decide_eq_true (by kernel_rfl))).mono ?_
  rintro e w' ⟨⟨A, c, he, ho⟩, hb⟩
  rw [nm8_code] at he
  rw [nm8_row] at he ho
  exact ⟨⟨A, c, he, own_rd ho (fun _ => rfl)⟩, hb⟩
theorem nm9_eq : frontsF ⟨0, 0, 0, 0⟩ [] = (0, 8) := by kernel_rfl
theorem nm9 {W : World} {v : Value} (q : RdK encR 4 W W.heap.size v []) : Calls Try.prog 6 #[.agg #[.int .i64 0, .int .i64 0, .int .i64 0, .int .i64 0], v] W fun e w' => e = .returned (.tuple #[.int .u8 0, .int .i64 8]) ∧ Below W.heap.size W w' := by
  have := lFronts_any ⟨0, 0, 0, 0⟩ q (by decide)
  rwa [nm9_eq] at this
theorem nm10_eq : frontsF ⟨0, 0, 0, 0⟩ [⟨0, 0, 0, 0⟩] = (0, 8) := by kernel_rfl
theorem nm10 {W : World} {v : Value} (q : RdK encR 4 W W.heap.size v [⟨0, 0, 0, 0⟩]) : Calls Try.prog 6 #[.agg #[.int .i64 0, .int .i64 0, .int .i64 0, .int .i64 0], v] W fun e w' => e = .returned (.tuple #[.int .u8 0, .int .i64 8]) ∧ Below W.heap.size W w' := by
  have := lFronts_any ⟨0, 0, 0, 0⟩ q (by decide)
  rwa [nm10_eq] at this
theorem nm11_code : (lotsF (List.replicate 401 []) [] ⟨0, 0, 0⟩).2 = 4 := by kernel_rfl
theorem nm11_len : (lotsF (List.replicate 401 []) [] ⟨0, 0, 0⟩).1.length = 0 := by kernel_rfl
theorem nm11 {W : World} {u v : Value} (r : RdRR W W.heap.size u (List.replicate 401 [])) (q : RdK encR 4 W W.heap.size v []) : Calls Try.prog 13 #[u, v, .agg #[.int .i64 0, .int .i64 0, .int .i64 0]] W fun e w' => (∃ A c, e = .returned (.tuple #[.slice A 0 c, .int .i64 4])) ∧ Below W.heap.size W w' := by
  refine (lots_any r q ⟨0, 0, 0⟩ (of_decide_eq_true (by kernel_rfl)) (of_decide_eq_true (by kernel_rfl)) (of_decide_eq_true (by kernel_rfl))).mono ?_
  rintro e w' ⟨⟨A, c, he, ho⟩, hb⟩
  rw [nm11_code] at he
  rw [nm11_len] at he
  exact ⟨⟨A, c, he⟩, hb⟩
theorem nm12_code : (lotsF [[⟨0, 0, 0, 0⟩]] [] ⟨0, 0, 0⟩).2 = 8 := by kernel_rfl
theorem nm12_len : (lotsF [[⟨0, 0, 0, 0⟩]] [] ⟨0, 0, 0⟩).1.length = 0 := by kernel_rfl
theorem nm12 {W : World} {u v : Value} (r : RdRR W W.heap.size u [[⟨0, 0, 0, 0⟩]]) (q : RdK encR 4 W W.heap.size v []) : Calls Try.prog 13 #[u, v, .agg #[.int .i64 0, .int .i64 0, .int .i64 0]] W fun e w' => (∃ A c, e = .returned (.tuple #[.slice A 0 c, .int .i64 8])) ∧ Below W.heap.size W w' := by
  refine (lots_any r q ⟨0, 0, 0⟩ (of_decide_eq_true (by kernel_rfl)) (of_decide_eq_true (by kernel_rfl)) (of_decide_eq_true (by kernel_rfl))).mono ?_
  rintro e w' ⟨⟨A, c, he, ho⟩, hb⟩
  rw [nm12_code] at he
  rw [nm12_len] at he
  exact ⟨⟨A, c, he⟩, hb⟩
theorem nm13_code : (lotsF [] [] ⟨0, 0, 0⟩).2 = 2 := by kernel_rfl
theorem nm13_len : (lotsF [] [] ⟨0, 0, 0⟩).1.length = 0 := by kernel_rfl
theorem nm13 {W : World} {u v : Value} (r : RdRR W W.heap.size u []) (q : RdK encR 4 W W.heap.size v []) : Calls Try.prog 13 #[u, v, .agg #[.int .i64 0, .int .i64 0, .int .i64 0]] W fun e w' => (∃ A c, e = .returned (.tuple #[.slice A 0 c, .int .i64 2])) ∧ Below W.heap.size W w' := by
  refine (lots_any r q ⟨0, 0, 0⟩ (of_decide_eq_true (by kernel_rfl)) (of_decide_eq_true (by kernel_rfl)) (of_decide_eq_true (by kernel_rfl))).mono ?_
  rintro e w' ⟨⟨A, c, he, ho⟩, hb⟩
  rw [nm13_code] at he
  rw [nm13_len] at he
  exact ⟨⟨A, c, he⟩, hb⟩
theorem nm14_eq : reachedF ⟨⟨0, 0, 1, 1⟩, 16⟩ [] = (0, 8) := by kernel_rfl
theorem nm14 {W : World} {v : Value} (q : RdK encR 4 W W.heap.size v []) : Calls Try.prog 8 #[.agg #[.int .i64 0, .int .i64 0, .int .i64 0, .int .i64 1, .int .i64 1, .int .u8 16], v] W fun e w' => e = .returned (.tuple #[.int .i64 0, .int .i64 8]) ∧ Below W.heap.size W w' := by
  have := lReached_any ⟨0, ⟨⟨0, 0, 1, 1⟩, 16⟩⟩ (by decide) q (by decide)
  rwa [nm14_eq] at this
theorem nm15_code : (lotsF [[⟨0, 0, 401, 1⟩]] [⟨0, 1, 401, 2⟩] ⟨1, 1, 1⟩).2 = 4 := by kernel_rfl
theorem nm15_len : (lotsF [[⟨0, 0, 401, 1⟩]] [⟨0, 1, 401, 2⟩] ⟨1, 1, 1⟩).1.length = 0 := by kernel_rfl
theorem nm15 {W : World} {u v : Value} (r : RdRR W W.heap.size u [[⟨0, 0, 401, 1⟩]]) (q : RdK encR 4 W W.heap.size v [⟨0, 1, 401, 2⟩]) : Calls Try.prog 13 #[u, v, .agg #[.int .i64 1, .int .i64 1, .int .i64 1]] W fun e w' => (∃ A c, e = .returned (.tuple #[.slice A 0 c, .int .i64 4])) ∧ Below W.heap.size W w' := by
  refine (lots_any r q ⟨1, 1, 1⟩ (of_decide_eq_true (by kernel_rfl)) (of_decide_eq_true (by kernel_rfl)) (of_decide_eq_true (by kernel_rfl))).mono ?_
  rintro e w' ⟨⟨A, c, he, ho⟩, hb⟩
  rw [nm15_code] at he
  rw [nm15_len] at he
  exact ⟨⟨A, c, he⟩, hb⟩
theorem nm16_code : (lotsF [[⟨0, 0, 301, 1⟩], [⟨0, 2, 301, 3⟩]] [⟨0, 1, 301, 2⟩] ⟨1, 1, 1⟩).2 = 4 := by kernel_rfl
theorem nm16_len : (lotsF [[⟨0, 0, 301, 1⟩], [⟨0, 2, 301, 3⟩]] [⟨0, 1, 301, 2⟩] ⟨1, 1, 1⟩).1.length = 0 := by kernel_rfl
theorem nm16 {W : World} {u v : Value} (r : RdRR W W.heap.size u [[⟨0, 0, 301, 1⟩], [⟨0, 2, 301, 3⟩]]) (q : RdK encR 4 W W.heap.size v [⟨0, 1, 301, 2⟩]) : Calls Try.prog 13 #[u, v, .agg #[.int .i64 1, .int .i64 1, .int .i64 1]] W fun e w' => (∃ A c, e = .returned (.tuple #[.slice A 0 c, .int .i64 4])) ∧ Below W.heap.size W w' := by
  refine (lots_any r q ⟨1, 1, 1⟩ (of_decide_eq_true (by kernel_rfl)) (of_decide_eq_true (by kernel_rfl)) (of_decide_eq_true (by kernel_rfl))).mono ?_
  rintro e w' ⟨⟨A, c, he, ho⟩, hb⟩
  rw [nm16_code] at he
  rw [nm16_len] at he
  exact ⟨⟨A, c, he⟩, hb⟩
theorem nm17_code : (lotsF [[⟨0, 0, 300, 1⟩], [⟨0, 2, 300, 3⟩]] [⟨0, 1, 301, 2⟩] ⟨1, 1, 1⟩).2 = 0 := by kernel_rfl
theorem nm17_len : (lotsF [[⟨0, 0, 300, 1⟩], [⟨0, 2, 300, 3⟩]] [⟨0, 1, 301, 2⟩] ⟨1, 1, 1⟩).1.length = 600 := by kernel_rfl
theorem nm17 {W : World} {u v : Value} (r : RdRR W W.heap.size u [[⟨0, 0, 300, 1⟩], [⟨0, 2, 300, 3⟩]]) (q : RdK encR 4 W W.heap.size v [⟨0, 1, 301, 2⟩]) : Calls Try.prog 13 #[u, v, .agg #[.int .i64 1, .int .i64 1, .int .i64 1]] W fun e w' => (∃ A c, e = .returned (.tuple #[.slice A 600 c, .int .i64 0])) ∧ Below W.heap.size W w' := by
  refine (lots_any r q ⟨1, 1, 1⟩ (of_decide_eq_true (by kernel_rfl)) (of_decide_eq_true (by kernel_rfl)) (of_decide_eq_true (by kernel_rfl))).mono ?_
  rintro e w' ⟨⟨A, c, he, ho⟩, hb⟩
  rw [nm17_code] at he
  rw [nm17_len] at he
  exact ⟨⟨A, c, he⟩, hb⟩
theorem rr_one {w : World} {v1 : Value} {a : List R4} (h1 : RdK encR 4 w w.heap.size v1 a) (t : TypeId) (c : Nat) : RdRR (w.alloc (.cells #[v1] t)) (w.alloc (.cells #[v1] t)).heap.size (.slice (some ⟨w.heap.size, 0, none⟩) 1 c) [a] := by
  have hb : Below w.heap.size w (w.alloc (.cells #[v1] t)) := (Below.refl _ _).alloc (Nat.le_refl _) _
  refine ⟨_, c, rfl, fun _ => ⟨w.heap.size, 0, rfl, by simp, fun j x hx => ?_⟩⟩
  match j, hx with
  | 0, hx =>
    simp at hx
    subst hx
    exact ⟨v1, by simp [go_sem], (h1.below hb).mono hb.size⟩
theorem rr_many (w : World) (n : Nat) (t : TypeId) (c : Nat) : RdRR (w.alloc (.cells (List.replicate n (.slice none 0 0)).toArray t)) (w.alloc (.cells (List.replicate n (.slice none 0 0)).toArray t)).heap.size (.slice (some ⟨w.heap.size, 0, none⟩) n c) (List.replicate n []) := by
  refine ⟨some ⟨w.heap.size, 0, none⟩, c, by simp, fun _ => ⟨w.heap.size, 0, rfl, by simp, fun j x hx => ?_⟩⟩
  have hj : j < n := by have := (List.getElem?_eq_some_iff.1 hx).1; simpa using this
  have hx' : x = [] := by
    have := List.mem_of_getElem? hx
    exact (List.mem_replicate.1 this).2
  subst hx'
  refine ⟨.slice none 0 0, ?_, RdK.nil none 0⟩
  have := news_new w (List.replicate n (.slice none 0 0)) t w.heap.size rfl j (.slice none 0 0) (by rw [List.getElem?_replicate]; simp [hj])
  rw [addr_add] at this
  rwa [Nat.zero_add]
set_option maxRecDepth 100000 in
set_option maxHeartbeats 16000000 in
theorem names36_walk (w : World) : Calls Try.prog 4 #[] w fun e w' => e = .returned (.bool true) ∧ Below w.heap.size w w' := by
  have K := hide (Below.refl w.heap.size w)
  go_enter Try.func4, Try.ntmps4
  go_wp2_with (fail)
  refine (box36_any 0 0 10 10 _).mono ?_
  rintro e v1 ⟨⟨A1, c1, rfl, hr1⟩, hb⟩
  replace K := hide (K.out.trans (hb.mono K.out.size))
  have R1 := hide hr1
  clear hb hr1
  go_wp2_with (fail)
  refine (box36_any 2 2 8 8 _).mono ?_
  rintro e v2 ⟨⟨A2, c2, rfl, hr2⟩, hb⟩
  replace K := hide (K.out.trans (hb.mono K.out.size))
  replace R1 := hide ((R1.out.below hb).mono hb.size)
  have R2 := hide hr2
  clear hb hr2
  go_wp2_with (fail)
  refine (nm1 R1.out R2.out).mono ?_
  rintro e v3 ⟨⟨A3, c3, rfl, hr3⟩, hb⟩
  replace K := hide (K.out.trans (hb.mono K.out.size))
  replace R1 := hide ((R1.out.below hb).mono hb.size)
  replace R2 := hide ((R2.out.below hb).mono hb.size)
  have R3 := hide hr3
  clear hb hr3
  clear R1 R2
  go_wp2_with (fail)
  refine (nm2 R3.out).mono ?_
  rintro e v4 ⟨rfl, hb⟩
  replace K := hide (K.out.trans (hb.mono K.out.size))
  replace R3 := hide ((R3.out.below hb).mono hb.size)
  clear hb
  go_wp2_with (fail)
  refine (nm3 R3.out).mono ?_
  rintro e v5 ⟨rfl, hb⟩
  replace K := hide (K.out.trans (hb.mono K.out.size))
  replace R3 := hide ((R3.out.below hb).mono hb.size)
  clear hb
  go_wp2_with (fail)
  refine (nm4 R3.out).mono ?_
  rintro e v6 ⟨rfl, hb⟩
  replace K := hide (K.out.trans (hb.mono K.out.size))
  replace R3 := hide ((R3.out.below hb).mono hb.size)
  clear hb
  go_wp2_with (fail)
  refine (piece36_any 0 2 2 8 7 15 _).mono ?_
  rintro e v7 ⟨rfl, hb⟩
  replace K := hide (K.out.trans (hb.mono K.out.size))
  replace R3 := hide ((R3.out.below hb).mono hb.size)
  clear hb
  go_wp2_with (fail)
  refine (nm5 R3.out).mono ?_
  rintro e v8 ⟨rfl, hb⟩
  replace K := hide (K.out.trans (hb.mono K.out.size))
  replace R3 := hide ((R3.out.below hb).mono hb.size)
  clear hb
  clear R3
  go_wp2_with (fail)
  refine (piece36_any 0 6 2 12 4 4 _).mono ?_
  rintro e v9 ⟨rfl, hb⟩
  replace K := hide (K.out.trans (hb.mono K.out.size))
  clear hb
  go_wp2_with (fail)
  refine (box36_any 0 0 10 2 _).mono ?_
  rintro e v10 ⟨⟨A4, c4, rfl, hr4⟩, hb⟩
  replace K := hide (K.out.trans (hb.mono K.out.size))
  have R4 := hide hr4
  clear hb hr4
  go_wp2_with (fail)
  refine (nm6 R4.out).mono ?_
  rintro e v11 ⟨rfl, hb⟩
  replace K := hide (K.out.trans (hb.mono K.out.size))
  replace R4 := hide ((R4.out.below hb).mono hb.size)
  clear hb
  clear R4
  go_wp2_with (fail)
  refine (box36_any 0 0 6 6 _).mono ?_
  rintro e v12 ⟨⟨A5, c5, rfl, hr5⟩, hb⟩
  replace K := hide (K.out.trans (hb.mono K.out.size))
  have R5 := hide hr5
  clear hb hr5
  go_wp2_with (fail)
  refine (box36_any 3 3 6 6 _).mono ?_
  rintro e v13 ⟨⟨A6, c6, rfl, hr6⟩, hb⟩
  replace K := hide (K.out.trans (hb.mono K.out.size))
  replace R5 := hide ((R5.out.below hb).mono hb.size)
  have R6 := hide hr6
  clear hb hr6
  go_wp2_with (fail)
  refine (nm7 R5.out R6.out).mono ?_
  rintro e v14 ⟨⟨A7, c7, rfl, hr7⟩, hb⟩
  replace K := hide (K.out.trans (hb.mono K.out.size))
  replace R5 := hide ((R5.out.below hb).mono hb.size)
  replace R6 := hide ((R6.out.below hb).mono hb.size)
  have R7 := hide hr7
  clear hb hr7
  clear R5 R6
  go_wp2_with (fail)
  refine calls_name fun v15 hZ => ?_
  have hbz : Below v14.heap.size v14 v15 := by
    rw [hZ]
    repeat (first | with_reducible exact Below.refl _ _ | with_reducible refine Below.setCell ?_ (by first | (simp; done) | (simp; omega)) _ | with_reducible refine Below.alloc ?_ (by first | omega | (simp; omega) | simp) _)
  have RT : Hid (RdRR v15 v15.heap.size (.slice (some ⟨v14.heap.size, 0, none⟩) 2 2) [[], cornN]) := hide (by rw [hZ]; exact rr_two (RdK.nil (enc := encR) (k := 4) none 0) R7.out _ 2)
  replace K := hide (K.out.trans (hbz.mono K.out.size))
  replace R7 := hide ((R7.out.below hbz).mono hbz.size)
  clear hZ hbz
  generalize v14.heap.size = gRT at *
  refine (box36_any 0 (-1) 6 0 _).mono ?_
  rintro e v16 ⟨⟨A8, c8, rfl, hr8⟩, hb⟩
  replace K := hide (K.out.trans (hb.mono K.out.size))
  replace R7 := hide ((R7.out.below hb).mono hb.size)
  replace RT := hide ((RT.out.below hb).mono hb.size)
  have R8 := hide hr8
  clear hb hr8
  go_wp2_with (fail)
  refine (nm8 RT.out R8.out).mono ?_
  rintro e v17 ⟨⟨A9, c9, rfl, hr9⟩, hb⟩
  replace K := hide (K.out.trans (hb.mono K.out.size))
  replace R7 := hide ((R7.out.below hb).mono hb.size)
  replace RT := hide ((RT.out.below hb).mono hb.size)
  replace R8 := hide ((R8.out.below hb).mono hb.size)
  have R9 := hide hr9
  clear hb hr9
  clear RT R8 R7
  go_wp2_with (fail)
  refine (nm9 (RdK.nil (enc := encR) (k := 4) none 0)).mono ?_
  rintro e v18 ⟨rfl, hb⟩
  replace K := hide (K.out.trans (hb.mono K.out.size))
  replace R9 := hide ((R9.out.below hb).mono hb.size)
  clear hb
  go_wp2_with (fail)
  refine calls_name fun v19 hZ => ?_
  have hbz : Below v18.heap.size v18 v19 := by
    rw [hZ]
    repeat (first | with_reducible exact Below.refl _ _ | with_reducible refine Below.setCell ?_ (by first | (simp; done) | (simp; omega)) _ | with_reducible refine Below.alloc ?_ (by first | omega | (simp; omega) | simp) _)
  have RZ : Hid (RdK encR 4 v19 v19.heap.size (.slice (some ⟨v18.heap.size, 0, none⟩) 1 1) [⟨0, 0, 0, 0⟩]) := hide (by rw [hZ]; exact rd_lit _ [⟨0, 0, 0, 0⟩] _ 1)
  replace K := hide (K.out.trans (hbz.mono K.out.size))
  replace R9 := hide ((R9.out.below hbz).mono hbz.size)
  clear hZ hbz
  generalize v18.heap.size = gRZ at *
  refine (nm10 RZ.out).mono ?_
  rintro e v20 ⟨rfl, hb⟩
  replace K := hide (K.out.trans (hb.mono K.out.size))
  replace R9 := hide ((R9.out.below hb).mono hb.size)
  replace RZ := hide ((RZ.out.below hb).mono hb.size)
  clear hb
  clear RZ
  have hmk : ∀ w : World, (Instr.makeSlice 48 (.int .i64 401) (.int .i64 401)).run Try.prog w = .ok (.slice (some ⟨w.heap.size, 0, none⟩) 401 401) (w.alloc (.cells (List.replicate 401 (.slice none 0 0)).toArray 29)) := fun _ => by kernel_rfl
  generalize hrep : (List.replicate 401 (Value.slice none 0 0)).toArray = rep at hmk
  go_wp2_with (fail)
  refine calls_name fun v21 hZ => ?_
  have hbz : Below v20.heap.size v20 v21 := by
    rw [hZ]
    repeat (first | with_reducible exact Below.refl _ _ | with_reducible refine Below.setCell ?_ (by first | (simp; done) | (simp; omega)) _ | with_reducible refine Below.alloc ?_ (by first | omega | (simp; omega) | simp) _)
  have RM : Hid (RdRR v21 v21.heap.size (.slice (some ⟨v20.heap.size, 0, none⟩) 401 401) (List.replicate 401 [])) := hide (by rw [hZ, ← hrep]; exact rr_many _ 401 _ 401)
  replace K := hide (K.out.trans (hbz.mono K.out.size))
  replace R9 := hide ((R9.out.below hbz).mono hbz.size)
  clear hZ hbz
  generalize v20.heap.size = gRM at *
  clear hmk hrep
  refine (nm11 RM.out (RdK.nil (enc := encR) (k := 4) none 0)).mono ?_
  rintro e v22 ⟨⟨A10, c10, rfl⟩, hb⟩
  replace K := hide (K.out.trans (hb.mono K.out.size))
  replace R9 := hide ((R9.out.below hb).mono hb.size)
  replace RM := hide ((RM.out.below hb).mono hb.size)
  clear hb
  clear RM
  go_wp2_with (fail)
  refine calls_name fun v23 hZ => ?_
  have hbz : Below v22.heap.size v22 v23 := by
    rw [hZ]
    repeat (first | with_reducible exact Below.refl _ _ | with_reducible refine Below.setCell ?_ (by first | (simp; done) | (simp; omega)) _ | with_reducible refine Below.alloc ?_ (by first | omega | (simp; omega) | simp) _)
  obtain ⟨Y, hY⟩ : ∃ x, x = v22.alloc (.cells #[.int .i64 0, .int .i64 0, .int .i64 0, .int .i64 0] 23) := ⟨_, rfl⟩
  have hY1 : RdK encR 4 Y Y.heap.size (.slice (some ⟨v22.heap.size, 0, none⟩) 1 1) [⟨0, 0, 0, 0⟩] := by rw [hY]; exact rd_lit _ [⟨0, 0, 0, 0⟩] _ 1
  have hY2 : Y.heap.size = v22.heap.size + 1 := by rw [hY]; simp
  have RY : Hid (RdRR v23 v23.heap.size (.slice (some ⟨v22.heap.size + 1, 0, none⟩) 1 1) [[⟨0, 0, 0, 0⟩]]) := hide (by rw [hZ, ← hY, ← hY2]; exact rr_one hY1 _ 1)
  clear hY hY1 hY2
  replace K := hide (K.out.trans (hbz.mono K.out.size))
  replace R9 := hide ((R9.out.below hbz).mono hbz.size)
  clear hZ hbz
  refine (nm12 RY.out (RdK.nil (enc := encR) (k := 4) none 0)).mono ?_
  rintro e v24 ⟨⟨A11, c11, rfl⟩, hb⟩
  replace K := hide (K.out.trans (hb.mono K.out.size))
  replace R9 := hide ((R9.out.below hb).mono hb.size)
  replace RY := hide ((RY.out.below hb).mono hb.size)
  clear hb
  clear RY
  go_wp2_with (fail)
  refine (nm13 ⟨none, 0, rfl, fun h => absurd rfl h⟩ (RdK.nil (enc := encR) (k := 4) none 0)).mono ?_
  rintro e v25 ⟨⟨A12, c12, rfl⟩, hb⟩
  replace K := hide (K.out.trans (hb.mono K.out.size))
  replace R9 := hide ((R9.out.below hb).mono hb.size)
  clear hb
  go_wp2_with (fail)
  refine (piece36_any 0 0 0 1 1 16 _).mono ?_
  rintro e v26 ⟨rfl, hb⟩
  replace K := hide (K.out.trans (hb.mono K.out.size))
  replace R9 := hide ((R9.out.below hb).mono hb.size)
  clear hb
  go_wp2_with (fail)
  refine (nm14 (RdK.nil (enc := encR) (k := 4) none 0)).mono ?_
  rintro e v27 ⟨rfl, hb⟩
  replace K := hide (K.out.trans (hb.mono K.out.size))
  replace R9 := hide ((R9.out.below hb).mono hb.size)
  clear hb
  go_wp2_with (fail)
  refine (box36_any 0 0 401 1 _).mono ?_
  rintro e v28 ⟨⟨A13, c13, rfl, hr13⟩, hb⟩
  replace K := hide (K.out.trans (hb.mono K.out.size))
  replace R9 := hide ((R9.out.below hb).mono hb.size)
  have R13 := hide hr13
  clear hb hr13
  go_wp2_with (fail)
  refine calls_name fun v29 hZ => ?_
  have hbz : Below v28.heap.size v28 v29 := by
    rw [hZ]
    repeat (first | with_reducible exact Below.refl _ _ | with_reducible refine Below.setCell ?_ (by first | (simp; done) | (simp; omega)) _ | with_reducible refine Below.alloc ?_ (by first | omega | (simp; omega) | simp) _)
  have RO : Hid (RdRR v29 v29.heap.size (.slice (some ⟨v28.heap.size, 0, none⟩) 1 1) [[⟨0, 0, 401, 1⟩]]) := hide (by rw [hZ]; exact rr_one R13.out _ 1)
  replace K := hide (K.out.trans (hbz.mono K.out.size))
  replace R9 := hide ((R9.out.below hbz).mono hbz.size)
  replace R13 := hide ((R13.out.below hbz).mono hbz.size)
  clear hZ hbz
  generalize v28.heap.size = gRO at *
  refine (box36_any 0 1 401 2 _).mono ?_
  rintro e v30 ⟨⟨A14, c14, rfl, hr14⟩, hb⟩
  replace K := hide (K.out.trans (hb.mono K.out.size))
  replace R9 := hide ((R9.out.below hb).mono hb.size)
  replace R13 := hide ((R13.out.below hb).mono hb.size)
  replace RO := hide ((RO.out.below hb).mono hb.size)
  have R14 := hide hr14
  clear hb hr14
  go_wp2_with (fail)
  refine (nm15 RO.out R14.out).mono ?_
  rintro e v31 ⟨⟨A15, c15, rfl⟩, hb⟩
  replace K := hide (K.out.trans (hb.mono K.out.size))
  replace R9 := hide ((R9.out.below hb).mono hb.size)
  replace R13 := hide ((R13.out.below hb).mono hb.size)
  replace RO := hide ((RO.out.below hb).mono hb.size)
  replace R14 := hide ((R14.out.below hb).mono hb.size)
  clear hb
  clear RO R13 R14
  go_wp2_with (fail)
  refine (box36_any 0 0 301 1 _).mono ?_
  rintro e v32 ⟨⟨A16, c16, rfl, hr16⟩, hb⟩
  replace K := hide (K.out.trans (hb.mono K.out.size))
  replace R9 := hide ((R9.out.below hb).mono hb.size)
  have R16 := hide hr16
  clear hb hr16
  go_wp2_with (fail)
  refine (box36_any 0 2 301 3 _).mono ?_
  rintro e v33 ⟨⟨A17, c17, rfl, hr17⟩, hb⟩
  replace K := hide (K.out.trans (hb.mono K.out.size))
  replace R9 := hide ((R9.out.below hb).mono hb.size)
  replace R16 := hide ((R16.out.below hb).mono hb.size)
  have R17 := hide hr17
  clear hb hr17
  go_wp2_with (fail)
  refine calls_name fun v34 hZ => ?_
  have hbz : Below v33.heap.size v33 v34 := by
    rw [hZ]
    repeat (first | with_reducible exact Below.refl _ _ | with_reducible refine Below.setCell ?_ (by first | (simp; done) | (simp; omega)) _ | with_reducible refine Below.alloc ?_ (by first | omega | (simp; omega) | simp) _)
  have RP301 : Hid (RdRR v34 v34.heap.size (.slice (some ⟨v33.heap.size, 0, none⟩) 2 2) [[⟨0, 0, 301, 1⟩], [⟨0, 2, 301, 3⟩]]) := hide (by rw [hZ]; exact rr_two R16.out R17.out _ 2)
  replace K := hide (K.out.trans (hbz.mono K.out.size))
  replace R9 := hide ((R9.out.below hbz).mono hbz.size)
  replace R16 := hide ((R16.out.below hbz).mono hbz.size)
  replace R17 := hide ((R17.out.below hbz).mono hbz.size)
  clear hZ hbz
  generalize v33.heap.size = gRP301 at *
  refine (box36_any 0 1 301 2 _).mono ?_
  rintro e v35 ⟨⟨A18, c18, rfl, hr18⟩, hb⟩
  replace K := hide (K.out.trans (hb.mono K.out.size))
  replace R9 := hide ((R9.out.below hb).mono hb.size)
  replace R16 := hide ((R16.out.below hb).mono hb.size)
  replace R17 := hide ((R17.out.below hb).mono hb.size)
  replace RP301 := hide ((RP301.out.below hb).mono hb.size)
  have R18 := hide hr18
  clear hb hr18
  go_wp2_with (fail)
  refine (nm16 RP301.out R18.out).mono ?_
  rintro e v36 ⟨⟨A19, c19, rfl⟩, hb⟩
  replace K := hide (K.out.trans (hb.mono K.out.size))
  replace R9 := hide ((R9.out.below hb).mono hb.size)
  replace R16 := hide ((R16.out.below hb).mono hb.size)
  replace R17 := hide ((R17.out.below hb).mono hb.size)
  replace RP301 := hide ((RP301.out.below hb).mono hb.size)
  replace R18 := hide ((R18.out.below hb).mono hb.size)
  clear hb
  clear RP301 R16 R17 R18
  go_wp2_with (fail)
  refine (box36_any 0 0 300 1 _).mono ?_
  rintro e v37 ⟨⟨A20, c20, rfl, hr20⟩, hb⟩
  replace K := hide (K.out.trans (hb.mono K.out.size))
  replace R9 := hide ((R9.out.below hb).mono hb.size)
  have R20 := hide hr20
  clear hb hr20
  go_wp2_with (fail)
  refine (box36_any 0 2 300 3 _).mono ?_
  rintro e v38 ⟨⟨A21, c21, rfl, hr21⟩, hb⟩
  replace K := hide (K.out.trans (hb.mono K.out.size))
  replace R9 := hide ((R9.out.below hb).mono hb.size)
  replace R20 := hide ((R20.out.below hb).mono hb.size)
  have R21 := hide hr21
  clear hb hr21
  go_wp2_with (fail)
  refine calls_name fun v39 hZ => ?_
  have hbz : Below v38.heap.size v38 v39 := by
    rw [hZ]
    repeat (first | with_reducible exact Below.refl _ _ | with_reducible refine Below.setCell ?_ (by first | (simp; done) | (simp; omega)) _ | with_reducible refine Below.alloc ?_ (by first | omega | (simp; omega) | simp) _)
  have RP300 : Hid (RdRR v39 v39.heap.size (.slice (some ⟨v38.heap.size, 0, none⟩) 2 2) [[⟨0, 0, 300, 1⟩], [⟨0, 2, 300, 3⟩]]) := hide (by rw [hZ]; exact rr_two R20.out R21.out _ 2)
  replace K := hide (K.out.trans (hbz.mono K.out.size))
  replace R9 := hide ((R9.out.below hbz).mono hbz.size)
  replace R20 := hide ((R20.out.below hbz).mono hbz.size)
  replace R21 := hide ((R21.out.below hbz).mono hbz.size)
  clear hZ hbz
  generalize v38.heap.size = gRP300 at *
  refine (box36_any 0 1 301 2 _).mono ?_
  rintro e v40 ⟨⟨A22, c22, rfl, hr22⟩, hb⟩
  replace K := hide (K.out.trans (hb.mono K.out.size))
  replace R9 := hide ((R9.out.below hb).mono hb.size)
  replace R20 := hide ((R20.out.below hb).mono hb.size)
  replace R21 := hide ((R21.out.below hb).mono hb.size)
  replace RP300 := hide ((RP300.out.below hb).mono hb.size)
  have R22 := hide hr22
  clear hb hr22
  go_wp2_with (fail)
  refine (nm17 RP300.out R22.out).mono ?_
  rintro e v41 ⟨⟨A23, c23, rfl⟩, hb⟩
  replace K := hide (K.out.trans (hb.mono K.out.size))
  replace R9 := hide ((R9.out.below hb).mono hb.size)
  replace R20 := hide ((R20.out.below hb).mono hb.size)
  replace R21 := hide ((R21.out.below hb).mono hb.size)
  replace RP300 := hide ((RP300.out.below hb).mono hb.size)
  replace R22 := hide ((R22.out.below hb).mono hb.size)
  clear hb
  clear RP300 R20 R21 R22
  go_wp2_with (fail)
  refine (piece36_any 1 0 0 3 6 4 _).mono ?_
  rintro e v42 ⟨rfl, hb⟩
  replace K := hide (K.out.trans (hb.mono K.out.size))
  replace R9 := hide ((R9.out.below hb).mono hb.size)
  clear hb
  go_wp2_with (fail)
  refine (piece36_any 1 3 0 6 3 4 _).mono ?_
  rintro e v43 ⟨rfl, hb⟩
  replace K := hide (K.out.trans (hb.mono K.out.size))
  replace R9 := hide ((R9.out.below hb).mono hb.size)
  clear hb
  go_wp2_with (fail)
  refine calls_name fun v44 hZ => ?_
  have hbz : Below v43.heap.size v43 v44 := by
    rw [hZ]
    repeat (first | with_reducible exact Below.refl _ _ | with_reducible refine Below.setCell ?_ (by first | (simp; done) | (simp; omega)) _ | with_reducible refine Below.alloc ?_ (by first | omega | (simp; omega) | simp) _)
  have RX : Hid (RdK encQ 6 v44 v44.heap.size (.slice (some ⟨v43.heap.size, 0, none⟩) 2 2) twoN) := hide (by rw [hZ]; exact rd_litP v43 twoN _ 2)
  replace K := hide (K.out.trans (hbz.mono K.out.size))
  replace R9 := hide ((R9.out.below hbz).mono hbz.size)
  clear hZ hbz
  generalize v43.heap.size = gX at *
  have HS := hide (rSameP_any R9.out RX.out (by decide) (Nat.le_refl _) (Nat.le_refl _))
  rw [decide_eq_true (rfl : twoN = twoN)] at HS
  refine (HS.out).mono ?_
  rintro e v45 ⟨rfl, hb⟩
  replace K := hide (K.out.trans (hb.mono K.out.size))
  replace R9 := hide ((R9.out.below hb).mono hb.size)
  replace RX := hide ((RX.out.below hb).mono hb.size)
  clear hb
  go_wp2_with (fail)
  refine (alive36_any _).mono ?_
  rintro e v46 ⟨rfl, hb⟩
  replace K := hide (K.out.trans (hb.mono K.out.size))
  replace R9 := hide ((R9.out.below hb).mono hb.size)
  replace RX := hide ((RX.out.below hb).mono hb.size)
  clear hb
  go_wp2_with (fail)
  go_ret
  exact ⟨rfl, K.out⟩
end Go.Proofs.Ytabogapiecciiaa
