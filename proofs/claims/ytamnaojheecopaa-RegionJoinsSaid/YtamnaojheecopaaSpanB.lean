/- span.Make, span.Check, span.Union .. by their contracts, at lists in range. -/
import Derived.Test.YtamnaojheecopaaJoin
import Derived.Test.YtamnaojheecopaaIdxC
import Derived.Test.YtamnaojheecopaaMRegion
namespace Go.Proofs.Ytamnaojheecopaa
open Go.RowKit
set_option linter.unusedVariables false
set_option linter.unusedSimpArgs false

theorem sjoin_any (a b : List Sp) (va vb : Value) (w : World) (g : Nat) (h : Bool → Bool → Bool) (h0 : h false false = false) (eg : ∀ args w, (callFunc g args).run Try.prog w = .ok (.enter g args) w)
    (hg : ∀ (x y : Bool) (W : World), Calls Try.prog g #[.bool x, .bool y] W fun e w' => e = .returned (.bool (h x y)) ∧ W = w')
    (ra : RdK encS 2 w w.heap.size va a) (rb : RdK encS 2 w w.heap.size vb b) (na : a.length ≤ 100000000) (nb : b.length ≤ 100000000) (ba : ∀ p ∈ a, validS p) (bb : ∀ p ∈ b, validS p) :
    Calls Try.prog 82 #[va, vb, .func (.func g) #[] #[]] w fun e w' => ∃ A c, e = .returned (.slice A (sjoin h a b).length c) ∧ w'.ownsRow w.heap.size 78 2 (.slice A (sjoin h a b).length c) (sjoin h a b).length ((sjoin h a b).flatMap encS) ∧ Below w.heap.size w w' := by
  refine (join_any a b va vb w g h eg hg ra rb na nb ba bb).mono ?_
  rintro e w' ⟨E, v, rfl, hp, hs, hb, ho⟩
  obtain ⟨j1, j2⟩ := jfold_ok (h := h) h0 (fun p hp => (ba p hp).1) (fun p hp => (bb p hp).1) hp hs
  have e := sjoin_eq h0 (fun p hp => (ba p hp).1) (fun p hp => (bb p hp).1) j1 j2
  rw [e] at ho
  obtain ⟨A, c, rfl, hc⟩ := own_rd ho (fun _ => rfl)
  exact ⟨A, c, rfl, ho, hb⟩

def hOr (a b : Bool) : Bool := a || b
def hAnd (a b : Bool) : Bool := a && b
def hSub (a b : Bool) : Bool := a && !b
def hFst (a b : Bool) : Bool := a

theorem fst_any (x y : Bool) (W : World) : Calls Try.prog 83 #[.bool x, .bool y] W fun e w' => e = .returned (.bool (hFst x y)) ∧ W = w' := by
  go_enter Try.func83, Try.ntmps83
  go_wp2
  go_ret
  exact ⟨rfl, rfl⟩

theorem spInv_any (p : Sp) (w : World) :
    Calls Try.prog 80 #[.agg (encS p).toArray] w fun e w' => e = .returned (.bool (!decide (validS p))) ∧ Below w.heap.size w w' := by
  have hv := fun W => validS_any p W
  obtain ⟨a, b⟩ := p
  generalize decide (validS (a, b)) = r at hv ⊢
  show Calls Try.prog 80 #[.agg #[.int .i64 a, .int .i64 b]] w _
  change ∀ W, Calls Try.prog 81 #[.agg #[.int .i64 a, .int .i64 b]] W _ at hv
  go_enter Try.func80, Try.ntmps80
  go_wp2_with (go_at_call 81; refine (hv _).mono ?_; rintro e w1 ⟨rfl, hb⟩)
  go_ret
  exact ⟨rfl, ((Below.refl _ _).alloc (Nat.le_refl _) _).trans (hb.mono (by simp))⟩

theorem enter_fst : ∀ args w, (callFunc 83 args).run Try.prog w = .ok (.enter 83 args) w := enters_of Try.func83 (by kernel_rfl) rfl
theorem enter_spInv : ∀ args w, (callFunc 80 args).run Try.prog w = .ok (.enter 80 args) w := enters_of Try.func80 (by kernel_rfl) rfl

set_option maxHeartbeats 1000000 in
/-- span.Make of at most 400 valid spans. -/
theorem spanMake_ok {w : World} {v : Value} {l : List Sp} (hr : RdK encS 2 w w.heap.size v l) (hl : l.length ≤ 400) (hv : ∀ p ∈ l, validS p) :
    Calls Try.prog 65 #[v] w fun e w' => ∃ A c, e = .returned (.tuple #[.slice A (sjoin hFst l []).length c, .int .i64 0]) ∧ w'.ownsRow w.heap.size 78 2 (.slice A (sjoin hFst l []).length c) (sjoin hFst l []).length ((sjoin hFst l []).flatMap encS) ∧ Below w.heap.size w w' := by
  have hcf := cfSpan_any hr (by omega) 80 #[] (fun p => !decide (validS p)) enter_spInv (fun W x _ _ => spInv_any x W)
  have hany : l.any (fun p => !decide (validS p)) = false := by
    rw [List.any_eq_false]
    intro p hp
    simp [hv p hp]
  rw [hany] at hcf
  have hj := fun (W : World) (hb : Below w.heap.size w W) => sjoin_any l [] v (.slice none 0 0) W 83 hFst rfl enter_fst fst_any ((hr.below hb).mono hb.size) (RdK.nil none 0) (by omega) (by simp) hv (by simp)
  obtain ⟨A, c, rfl, _⟩ := hr
  have HCF := hide hcf
  have HJ := hide hj
  clear hcf hj hv hany
  generalize sjoin hFst l [] = r at *
  have hlz : (l.length : Int) ≤ 400 := by omega
  go_enter Try.func65, Try.ntmps65
  go_wp2_with (first
    | (go_at_call 79; refine HCF.out.mono ?_; rintro e w1 ⟨rfl, hb1⟩)
    | (go_at_call 82; refine (HJ.out _ hb1).mono ?_; rintro e w2 ⟨A2, c2, rfl, hr2, hb2⟩))
  go_ret2
  exact ⟨A2, c2, rfl, own_base hr2 hb1.size, hb1.trans (hb2.mono hb1.size)⟩
end Go.Proofs.Ytamnaojheecopaa
