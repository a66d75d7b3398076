/- The walk of BlockAlongs. -/
import Derived.Test.YteojjihgmmecpaaPk6
namespace Go.Proofs.Yteojjihgmmecpaa
open Go.RowKit
set_option linter.unusedVariables false
set_option linter.unusedSimpArgs false

theorem great35_any {w : World} {v : Value} {l : List R4} (hr : RdK encR 4 w w.heap.size v l) (hl : l.length ≤ maxLen) :
    Calls Try.prog 4 #[v] w fun e w' => (e = .returned (.bool true) ∨ (e = .returned (.bool false) ∧ l.length ≤ 420)) ∧ Below w.heap.size w w' := by
  unfold maxLen at hl
  obtain ⟨A, c, rfl, _⟩ := hr
  by_cases h1 : (16 : Int) < (l.length : Int)
  · by_cases h2 : (l.length : Int) ≤ 400
    · go_enter Try.func4, Try.ntmps4
      go_wp2
      go_ret
      exact ⟨.inl rfl, Below.refl _ _⟩
    · by_cases h3 : (420 : Int) < (l.length : Int)
      · go_enter Try.func4, Try.ntmps4
        go_wp2
        go_ret
        exact ⟨.inl rfl, Below.refl _ _⟩
      · have h4 : l.length ≤ 420 := by omega
        have z3 : decide ((420 : Int) < (l.length : Int)) = false := decide_eq_false h3
        clear h3
        have H4 := hide h4
        clear h4
        go_enter Try.func4, Try.ntmps4
        go_wp2
        go_ret
        exact ⟨.inr ⟨rfl, H4.out⟩, Below.refl _ _⟩
  · have h4 : l.length ≤ 420 := by omega
    have z3 : decide ((420 : Int) < (l.length : Int)) = false := decide_eq_false (by omega)
    have z1 : decide ((16 : Int) < (l.length : Int)) = false := decide_eq_false h1
    clear h1
    have H4 := hide h4
    clear h4
    go_enter Try.func4, Try.ntmps4
    go_wp2
    go_ret
    exact ⟨.inr ⟨rfl, H4.out⟩, Below.refl _ _⟩
set_option maxRecDepth 100000 in
set_option maxHeartbeats 8000000 in
theorem alongs_walk {w : World} {va vb : Value} {a b : List R4} (ra : RdK encR 4 w w.heap.size va a) (rb : RdK encR 4 w w.heap.size vb b) (na : a.length ≤ maxLen) (nb : b.length ≤ maxLen) :
    Calls Try.prog 3 #[va, vb] w fun e w' => e = .returned (.bool true) ∧ Below w.heap.size w w' := by
  have RA := hide ra
  have RB := hide rb
  have GA := hide (fun (w' : World) (h : Below w.heap.size w w') => great35_any (w := w') ((RA.out.below h).mono h.size) na)
  have GB := hide (fun (w' : World) (h : Below w.heap.size w w') => great35_any (w := w') ((RB.out.below h).mono h.size) nb)
  have C1 := hide (fun (w' : World) (h : Below w.heap.size w w') (ha : a.length ≤ 420) (hb : b.length ≤ 420) => along_any (w := w') ((RA.out.below h).mono h.size) ((RB.out.below h).mono h.size) (by omega) (by omega))
  have C2 := hide (fun (w' : World) (h : Below w.heap.size w w') (ha : a.length ≤ 420) (hb : b.length ≤ 420) => rAlong_any (w := w') ((RA.out.below h).mono h.size) ((RB.out.below h).mono h.size) (by omega) (by omega))
  obtain ⟨A1, c1, rfl, _⟩ := ra
  obtain ⟨A2, c2, rfl, _⟩ := rb
  obtain ⟨⟨S, E⟩, hS⟩ : ∃ x, alongF a b = x := ⟨_, rfl⟩
  rw [hS] at C1 C2
  have hK := hide (Below.refl w.heap.size w)
  clear RA RB hS na nb
  go_enter Try.func3, Try.ntmps3
  go_wp2_with (fail)
  refine (GA.out _ hK.out).mono ?_
  rintro e w1 ⟨rfl | ⟨rfl, ha⟩, hb1⟩
  · have HB1 := hide hb1
    clear hb1
    go_wp2_with (fail)
    go_ret
    exact ⟨rfl, HB1.out⟩
  have HB1 := hide hb1
  have HLA := hide ha
  clear hb1 ha GA
  go_wp2_with (fail)
  refine (GB.out _ HB1.out).mono ?_
  rintro e w2 ⟨rfl | ⟨rfl, hb⟩, hb2⟩
  · have HB2 := hide (HB1.out.trans (hb2.mono HB1.out.size))
    clear hb2
    go_wp2_with (fail)
    go_ret
    exact ⟨rfl, HB2.out⟩
  have HB2 := hide (HB1.out.trans (hb2.mono HB1.out.size))
  have HLB := hide hb
  clear hb2 hb GB HB1
  go_wp2_with (fail)
  refine (C1.out _ HB2.out HLA.out HLB.out).mono ?_
  rintro e w3 ⟨rfl, hb⟩
  have HB3 := hide (HB2.out.trans (hb.mono HB2.out.size))
  clear hb HB2 C1
  go_wp2_with (fail)
  refine (C2.out _ HB3.out HLA.out HLB.out).mono ?_
  rintro e w4 ⟨rfl, hb⟩
  have HB4 := hide (HB3.out.trans (hb.mono HB3.out.size))
  clear hb HB3 C2
  go_wp2_with (fail)
  go_ret
  exact ⟨rfl, HB4.out⟩
end Go.Proofs.Yteojjihgmmecpaa
