/- The reference's small functions: In, Valid, Has, Holds, Great. -/
import Derived.Test.YtamnaojheecopaaRegA
import Derived.Test.YtamnaojheecopaaRd
namespace Go.Proofs.Ytamnaojheecopaa
open Go.RowKit
set_option linter.unusedVariables false
set_option linter.unusedSimpArgs false

instance (x : Int) : Decidable (fineP x) := by unfold fineP; infer_instance
set_option maxHeartbeats 1000000 in
theorem rIn_any (x : Int) (w : World) : Calls Try.prog 52 #[.int .i64 x] w fun e w' => e = .returned (.bool (decide (fineP x))) ∧ w = w' := by
  go_enter Try.func52, Try.ntmps52
  go_wp2
  all_goals
    go_ret
    refine ⟨ret_eq (bool_eq ?_), rfl⟩
    first
      | exact (decide_eq_false (by simp only [fineP]; omega)).symm
      | exact (decide_eq_true (by simp only [fineP]; omega)).symm
      | exact decide_eq_decide.2 (by simp only [fineP]; omega)

set_option maxHeartbeats 2000000 in
theorem rValid_any (r : R4) (w : World) :
    Calls Try.prog 43 #[.agg (encR r).toArray] w fun e w' => e = .returned (.bool (decide (valid4 r))) ∧ Below w.heap.size w w' := by
  obtain ⟨a, b, c, d⟩ := r
  show Calls Try.prog 43 #[.agg #[.int .i64 a, .int .i64 b, .int .i64 c, .int .i64 d]] w _
  have h1 : decide (valid4 ⟨a, b, c, d⟩) = (decide (a < c) && decide (b < d) && decide (fineP a) && decide (fineP c) && decide (fineP b) && decide (fineP d)) := by
    rw [Bool.eq_iff_iff, decide_eq_true_iff]; simp [valid4, and_assoc]
  rw [h1]
  have ha := fun W => rIn_any a W
  have hb := fun W => rIn_any b W
  have hc := fun W => rIn_any c W
  have hd := fun W => rIn_any d W
  generalize decide (fineP a) = fa at *
  generalize decide (fineP b) = fb at *
  generalize decide (fineP c) = fc at *
  generalize decide (fineP d) = fd at *
  have HA := hide ha
  have HB := hide hb
  have HC := hide hc
  have HD := hide hd
  clear ha hb hc hd h1
  have fin : Below w.heap.size w (w.alloc (.cells #[.int .i64 a, .int .i64 b, .int .i64 c, .int .i64 d] 43)) := (Below.refl _ _).alloc (Nat.le_refl _) _
  have FIN := hide fin
  clear fin
  by_cases t1 : a < c
  · by_cases t2 : b < d
    · cases fa with
      | false =>
        go_enter Try.func43, Try.ntmps43
        go_wp2_with (go_at_call 52; refine (HA.out _).mono ?_; rintro e w1 ⟨rfl, rfl⟩)
        go_ret
        exact ⟨ret_eq (bool_eq (by simp)), FIN.out⟩
      | true =>
        cases fc with
        | false =>
          go_enter Try.func43, Try.ntmps43
          go_wp2_with (fail)
          refine (HA.out _).mono ?_
          rintro e w1 ⟨rfl, rfl⟩
          go_wp2_with (fail)
          refine (HC.out _).mono ?_
          rintro e w1 ⟨rfl, rfl⟩
          go_wp2_with (fail)
          go_ret
          exact ⟨ret_eq (bool_eq (by simp)), FIN.out⟩
        | true =>
          cases fb with
          | false =>
            go_enter Try.func43, Try.ntmps43
            go_wp2_with (fail)
            refine (HA.out _).mono ?_
            rintro e w1 ⟨rfl, rfl⟩
            go_wp2_with (fail)
            refine (HC.out _).mono ?_
            rintro e w1 ⟨rfl, rfl⟩
            go_wp2_with (fail)
            refine (HB.out _).mono ?_
            rintro e w1 ⟨rfl, rfl⟩
            go_wp2_with (fail)
            go_ret
            exact ⟨ret_eq (bool_eq (by simp)), FIN.out⟩
          | true =>
            go_enter Try.func43, Try.ntmps43
            go_wp2_with (fail)
            refine (HA.out _).mono ?_
            rintro e w1 ⟨rfl, rfl⟩
            go_wp2_with (fail)
            refine (HC.out _).mono ?_
            rintro e w1 ⟨rfl, rfl⟩
            go_wp2_with (fail)
            refine (HB.out _).mono ?_
            rintro e w1 ⟨rfl, rfl⟩
            go_wp2_with (fail)
            refine (HD.out _).mono ?_
            rintro e w1 ⟨rfl, rfl⟩
            go_wp2_with (fail)
            go_ret
            exact ⟨ret_eq (bool_eq (by simp [t1, t2])), FIN.out⟩
    · go_enter Try.func43, Try.ntmps43
      have t2' : decide (b < d) = false := decide_eq_false t2
      go_wp2
      go_ret
      exact ⟨ret_eq (bool_eq (by simp [t2])), FIN.out⟩
  · go_enter Try.func43, Try.ntmps43
    have t1' : decide (a < c) = false := decide_eq_false t1
    go_wp2
    go_ret
    exact ⟨ret_eq (bool_eq (by simp [t1])), FIN.out⟩

set_option maxHeartbeats 2000000 in
theorem rHas_any {w : World} {v : Value} {l : List R4} {B : Nat} (hr : RdK encR 4 w B v l) (hl : l.length ≤ 100000000) (x y : Int) :
    Calls Try.prog 18 #[v, .int .i64 x, .int .i64 y] w fun e w' => e = .returned (.bool (decide (pmem l x y))) ∧ w = w' := by
  obtain ⟨A, c, rfl, hc⟩ := hr
  have HR := hide hc
  clear hc
  go_enter Try.func18, Try.ntmps18
  go_wp2
  go_loop [7] (fun i => ∃ m : Nat, m ≤ l.length ∧ i = .int .i64 m ∧ Hid (∀ r ∈ l.take m, ¬ rin r x y)) (fun i => l.length - (intOf i).toNat)
  case atStart => exact ⟨0, Nat.zero_le _, rfl, hide (by simp)⟩
  case round =>
    obtain ⟨m, hm, rfl, HN⟩ := hrel
    by_cases hlt : m < l.length
    · obtain ⟨⟨x0, y0, x1, y1⟩, hp⟩ : ∃ p, l[m]? = some p := ⟨_, List.getElem?_eq_getElem hlt⟩
      obtain ⟨b, o, rfl, hbl, k⟩ := HR.out (by intro e; rw [e] at hlt; simp at hlt)
      have d0 : w.cell? ⟨b, o + m * 4, none⟩ = some (.int .i64 x0) := k m _ hp 0 _ rfl
      have d1 : w.cell? ⟨b, o + m * 4 + 1, none⟩ = some (.int .i64 y0) := k m _ hp 1 _ rfl
      have d2 : w.cell? ⟨b, o + m * 4 + 2, none⟩ = some (.int .i64 x1) := k m _ hp 2 _ rfl
      have d3 : w.cell? ⟨b, o + m * 4 + 3, none⟩ = some (.int .i64 y1) := k m _ hp 3 _ rfl
      have mz : (m : Int) < (l.length : Int) := by omega
      have HP := hide hp
      clear k hp
      go_wp2
      all_goals first
        | (go_ret
           refine ⟨ret_eq (bool_eq (decide_eq_true ?_).symm), rfl⟩
           exact ⟨_, List.mem_of_getElem? HP.out, by assumption, by assumption, by assumption, by assumption⟩)
        | (go_round
           case rel =>
             refine ⟨m + 1, by omega, by go_num, hide ?_⟩
             obtain ⟨i1, e1⟩ := List.getElem?_eq_some_iff.1 HP.out
             intro r hr
             rw [List.take_succ_eq_append_getElem i1, List.mem_append] at hr
             rcases hr with hr | hr
             · exact HN.out r hr
             · rw [List.mem_singleton] at hr
               subst hr
               rw [e1]
               unfold rin
               simp only
               omega
           case measure => simp [intOf]; omega)
    · have mz : ¬ (m : Int) < (l.length : Int) := by omega
      go_wp2
      go_ret
      refine ⟨ret_eq (bool_eq (decide_eq_false ?_).symm), rfl⟩
      rintro ⟨r, hr, h⟩
      have := HN.out
      rw [List.take_of_length_le (by omega)] at this
      exact this r hr h

def hk (k : Int) (a b : Bool) : Bool := if k = 1 then a && b else if k = 2 then a || b else a && !b
set_option maxHeartbeats 1000000 in
theorem rHolds_any (k : Int) (hk0 : k = 1 ∨ k = 2 ∨ k = 3) (a b : Bool) (w : World) : Calls Try.prog 68 #[.int .i64 k, .bool a, .bool b] w fun e w' => e = .returned (.bool (hk k a b)) ∧ w = w' := by
  rcases hk0 with rfl | rfl | rfl <;> cases a <;> cases b
  all_goals
    go_enter Try.func68, Try.ntmps68
    go_wp2
    go_ret
    exact ⟨rfl, rfl⟩

def greatP (n : Nat) : Prop := (60 < n ∧ n ≤ 400) ∨ 420 < n
instance (n : Nat) : Decidable (greatP n) := by unfold greatP; infer_instance
set_option maxHeartbeats 1000000 in
theorem rGreat_any (A : Option Addr) (n c : Nat) (hn : n ≤ maxLen) (w : World) : Calls Try.prog 8 #[.slice A n c] w fun e w' => e = .returned (.bool (decide (greatP n))) ∧ w = w' := by
  unfold maxLen at hn
  go_enter Try.func8, Try.ntmps8
  go_wp2
  all_goals
    go_ret
    refine ⟨ret_eq (bool_eq ?_), rfl⟩
    rw [Bool.eq_iff_iff, decide_eq_true_iff (p := greatP n)]
    unfold greatP
    simp only [Bool.or_eq_true, decide_eq_true_eq, true_iff]
    omega
end Go.Proofs.Ytamnaojheecopaa
