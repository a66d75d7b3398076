/- region.Union, Meet and Minus. -/
import Derived.Test.YtamnaojheecopaaJoinR
namespace Go.Proofs.Ytamnaojheecopaa
open Go.RowKit
set_option linter.unusedVariables false
set_option linter.unusedSimpArgs false

theorem hk_or : hk 2 = hOr := by funext p q; cases p <;> cases q <;> rfl
theorem hk_and : hk 1 = hAnd := by funext p q; cases p <;> cases q <;> rfl
theorem hk_sub : hk 3 = hSub := by funext p q; cases p <;> cases q <;> rfl
theorem joinF_len (h : Bool → Bool → Bool) (a b : List R4) : (joinF h a b).1.length ≤ 400 := by
  unfold joinF
  split
  · split
    · simp
    · simp only; omega
  · simp
set_option maxHeartbeats 1000000 in
theorem union_any {a b : List R4} {va vb : Value} {w : World} (ra : RdK encR 4 w w.heap.size va a) (rb : RdK encR 4 w w.heap.size vb b) (na : a.length ≤ 100000000) (nb : b.length ≤ 100000000) :
    Calls Try.prog 33 #[va, vb] w fun e w' => RegRet w.heap.size (joinF hOr a b) e w' ∧ Below w.heap.size w w' := by
  have hc := joined_any (h := hOr) rfl spOr_any enter_spOr ra rb na nb
  obtain ⟨A1, c1, hva, _⟩ := ra
  obtain ⟨A2, c2, hvb, _⟩ := rb
  subst hva; subst hvb
  have HC := hide hc
  clear hc
  generalize joinF hOr a b = R at *
  obtain ⟨R1, R2⟩ := R
  go_enter Try.func33, Try.ntmps33
  go_wp2_with (fail)
  refine HC.out.mono ?_
  rintro e w1 ⟨⟨A3, c3, rfl, ho⟩, hb⟩
  have HO := hide ho
  clear ho
  go_wp2_with (fail)
  go_ret2
  exact ⟨⟨A3, c3, rfl, HO.out⟩, hb⟩
set_option maxHeartbeats 1000000 in
theorem meet_any {a b : List R4} {va vb : Value} {w : World} (ra : RdK encR 4 w w.heap.size va a) (rb : RdK encR 4 w w.heap.size vb b) (na : a.length ≤ 100000000) (nb : b.length ≤ 100000000) :
    Calls Try.prog 35 #[va, vb] w fun e w' => RegRet w.heap.size (joinF hAnd a b) e w' ∧ Below w.heap.size w w' := by
  have hc := joined_any (h := hAnd) rfl spAnd_any enter_spAnd ra rb na nb
  obtain ⟨A1, c1, hva, _⟩ := ra
  obtain ⟨A2, c2, hvb, _⟩ := rb
  subst hva; subst hvb
  have HC := hide hc
  clear hc
  generalize joinF hAnd a b = R at *
  obtain ⟨R1, R2⟩ := R
  go_enter Try.func35, Try.ntmps35
  go_wp2_with (fail)
  refine HC.out.mono ?_
  rintro e w1 ⟨⟨A3, c3, rfl, ho⟩, hb⟩
  have HO := hide ho
  clear ho
  go_wp2_with (fail)
  go_ret2
  exact ⟨⟨A3, c3, rfl, HO.out⟩, hb⟩
set_option maxHeartbeats 1000000 in
theorem minus_any {a b : List R4} {va vb : Value} {w : World} (ra : RdK encR 4 w w.heap.size va a) (rb : RdK encR 4 w w.heap.size vb b) (na : a.length ≤ 100000000) (nb : b.length ≤ 100000000) :
    Calls Try.prog 36 #[va, vb] w fun e w' => RegRet w.heap.size (joinF hSub a b) e w' ∧ Below w.heap.size w w' := by
  have hc := joined_any (h := hSub) rfl spSub_any enter_spSub ra rb na nb
  obtain ⟨A1, c1, hva, _⟩ := ra
  obtain ⟨A2, c2, hvb, _⟩ := rb
  subst hva; subst hvb
  have HC := hide hc
  clear hc
  generalize joinF hSub a b = R at *
  obtain ⟨R1, R2⟩ := R
  go_enter Try.func36, Try.ntmps36
  go_wp2_with (fail)
  refine HC.out.mono ?_
  rintro e w1 ⟨⟨A3, c3, rfl, ho⟩, hb⟩
  have HO := hide ho
  clear ho
  go_wp2_with (fail)
  go_ret2
  exact ⟨⟨A3, c3, rfl, HO.out⟩, hb⟩
end Go.Proofs.Ytamnaojheecopaa
