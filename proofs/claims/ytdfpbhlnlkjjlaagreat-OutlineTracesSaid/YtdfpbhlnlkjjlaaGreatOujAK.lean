/- Outlines: the reference follows a loop (plain). -/
import Derived.Test.YtdfpbhlnlkjjlaaGreatXtoK
import Derived.Test.YtdfpbhlnlkjjlaaGreatOutLK
namespace Go.Proofs.YtdfpbhlnlkjjlaaGreat
set_option linter.unusedVariables false
set_option linter.unusedSimpArgs false
section
variable {S : Cs}
theorem nx_left {u : Un} (hu : bgn S u) (h : bgn S (hdU u, u.2.l)) : (hdU u, u.2.l) = nx S u := by
 have h2 : inC S (lc (hdU u, u.2)) = false := by rw [← rc_left]; exact h.2
 unfold nx nxW
 rw [if_pos h2]
theorem nx_on {u : Un} (hu : bgn S u) (hl : ¬ bgn S (hdU u, u.2.l)) (h : bgn S (hdU u, u.2)) : (hdU u, u.2) = nx S u := by
 unfold nx nxW
 rw [if_neg (by rw [h.1]; simp), if_pos h.2]
theorem nx_right {u : Un} (hu : bgn S u) (hl : ¬ bgn S (hdU u, u.2.l)) (ho : ¬ bgn S (hdU u, u.2)) : bgn S (hdU u, u.2.r) ∧ (hdU u, u.2.r) = nx S u := by
 have h1 : inC S (lc (hdU u, u.2)) = true := by
  cases h : inC S (lc (hdU u, u.2)) with
  | true => rfl
  | false => exact absurd ⟨by rw [lc_left]; exact hu.1, by rw [rc_left]; exact h⟩ hl
 have h2 : inC S (rc (hdU u, u.2)) = true := by
  cases h : inC S (rc (hdU u, u.2)) with
  | true => rfl
  | false => exact absurd ⟨h1, h⟩ ho
 refine ⟨⟨by rw [lc_right]; exact h2, by rw [rc_right]; exact hu.2⟩, ?_⟩
 unfold nx nxW
 rw [if_neg (by rw [h1]; simp), if_neg (by rw [h2]; simp)]
theorem turn_way {u : Un} (hu : bgn S u) : trn S u = 0 ↔ (nx S u).2 = u.2 := by
 rcases nx_cases S u with ⟨_, h2, h3⟩ | ⟨_, _, h2, h3⟩ | ⟨_, _, h2, h3⟩
 ·rw [h2, h3]; constructor
  ·intro h; omega
  ·intro h; exfalso; revert h; cases u.2 <;> simp [Wy.l]
 ·rw [h2, h3]; simp
 ·rw [h2, h3]; constructor
  ·intro h; omega
  ·intro h; exfalso; revert h; cases u.2 <;> simp [Wy.r]
end
def wyOf : Nat → Wy
 | 0 => .e
 | 1 => .n
 | 2 => .w
 | _ => .s
theorem wy_left (d : Wy) : (wyN d + 1).tmod 4 = wyN d.l := by cases d <;> rfl
theorem wy_right (d : Wy) : (wyN d + 3).tmod 4 = wyN d.r := by cases d <;> rfl
theorem wy_inj {a b : Wy} (h : wyN a = wyN b) : a = b := by cases a <;> cases b <;> first | rfl | (simp [wyN] at h)
def wyK : Wy → Nat
 | .e => 0
 | .n => 1
 | .w => 2
 | .s => 3
theorem wyK_lt (d : Wy) : wyK d < 4 := by cases d <;> decide
theorem wyK_N (d : Wy) : wyN d = (wyK d : Int) := by cases d <;> rfl
theorem wyOf_K (d : Wy) : wyOf (wyK d) = d := by cases d <;> rfl
theorem wyK_of {a : Nat} (h : a < 4) : wyK (wyOf a) = a := by
 have : a = 0 ∨ a = 1 ∨ a = 2 ∨ a = 3 := by omega
 rcases this with rfl | rfl | rfl | rfl <;> rfl
def snU (U : Un → Bool) (d i j : Nat) : Bool := U (((i : Int) - 70, (j : Int) - 70), wyOf d)
def inG (v : Un) : Prop := (-70 ≤ v.1.1 ∧ v.1.1 < 70) ∧ -70 ≤ v.1.2 ∧ v.1.2 < 70
theorem SnW.congr {W : World} {g : Nat} {vr : Value} {s t : Nat → Nat → Nat → Bool} (h : SnW W g vr s) (e : ∀ d i j, d < 4 → i < 140 → j < 140 → s d i j = t d i j) : SnW W g vr t :=
 ⟨h.lt, h.rects, fun d i j a b c => by rw [← e d i j a b c]; exact h.cell d i j a b c, h.froz⟩
open Classical in
noncomputable def addU (U : Un → Bool) (v : Un) : Un → Bool := fun z => U z || decide (z = v)
open Classical in
theorem SnW.add {W : World} {g : Nat} {vr : Value} {U : Un → Bool} {v : Un} {i j : Nat} (hi : v.1.1 = (i : Int) - 70) (hj : v.1.2 = (j : Int) - 70) (h : SnW W g vr fun a b c => (decide (a = wyK v.2) && (decide (b = i) && decide (c = j))) || snU U a b c) : SnW W g vr (snU (addU U v)) :=
 h.congr fun a b c ha hb hc => by
  unfold snU addU
  rw [Bool.or_comm]
  congr 1
  rw [Bool.eq_iff_iff]
  simp only [Bool.and_eq_true, decide_eq_true_eq]
  constructor
  ·rintro ⟨rfl, rfl, rfl⟩
   exact Prod.ext (Prod.ext hi.symm hj.symm) (wyOf_K _)
  ·intro e
   have e1 := congrArg (fun u : Un => u.1.1) e
   have e2 := congrArg (fun u : Un => u.1.2) e
   have e3 := congrArg (fun u : Un => u.2) e
   simp only at e1 e2 e3
   refine ⟨by rw [← e3, wyK_of ha], by omega, by omega⟩
open Classical in
noncomputable def seenU (S : Cs) (U : Un → Bool) (u : Un) (k : Nat) : Un → Bool := fun z => U z || decide (∃ j, j ≤ k ∧ itU S u j = z)
theorem seenU_zero {S : Cs} {U : Un → Bool} {u : Un} (h : U u = true) : seenU S U u 0 = U := by
 funext z
 unfold seenU
 by_cases e : u = z
 ·rw [← e, h]; rfl
 ·rw [decide_eq_false, Bool.or_false]
  rintro ⟨j, hj, h1⟩
  obtain rfl : j = 0 := by omega
  exact e h1
theorem seenU_succ {S : Cs} {U : Un → Bool} {u : Un} {k : Nat} : addU (seenU S U u k) (itU S u (k + 1)) = seenU S U u (k + 1) := by
 funext z
 rw [Bool.eq_iff_iff]
 unfold addU seenU
 simp only [Bool.or_eq_true, decide_eq_true_eq]
 constructor
 ·rintro ((h | ⟨j, hj, h⟩) | h)
  ·exact .inl h
  ·exact .inr ⟨j, by omega, h⟩
  ·exact .inr ⟨k + 1, Nat.le_refl _, h.symm⟩
 ·rintro (h | ⟨j, hj, h⟩)
  ·exact .inl (.inl h)
  ·by_cases e : j = k + 1
   ·subst e; exact .inr h.symm
   ·exact .inl (.inr ⟨j, by omega, h⟩)
open Classical in
theorem seenU_all {S : Cs} {U : Un → Bool} {u : Un} {n : Nat} (hc : Cyc S u n) (h0 : U u = true) {k : Nat} (hk : n ≤ k + 1) : seenU S U u k = fun z => U z || decide (inCy S u n z) := by
 funext z
 rw [Bool.eq_iff_iff]
 unfold seenU inCy
 simp only [Bool.or_eq_true, decide_eq_true_eq]
 constructor
 ·rintro (h | ⟨j, hj, h⟩)
  ·exact .inl h
  ·have hp := hc.pos
   refine .inr ⟨j % n, Nat.mod_lt _ hp, ?_⟩
   rw [← h]
   conv => rhs; rw [← Nat.mod_add_div j n]
   have gen : ∀ m, itU S u (j % n + n * m) = itU S u (j % n) := by
    intro m
    induction m with
    | zero => rfl
    | succ m ih => rw [Nat.mul_succ, ← Nat.add_assoc, hc.period, ih]
   exact (gen _).symm
 ·rintro (h | ⟨j, hj, h⟩)
  ·exact .inl h
  ·exact .inr ⟨j, by omega, h⟩
theorem seenU_new {S : Cs} {U : Un → Bool} {u : Un} {n k : Nat} (hc : Cyc S u n) (hn : ∀ k, 0 < k → k < n → U (itU S u k) = false) (hk : k + 1 < n) : seenU S U u k (itU S u (k + 1)) = false := by
 unfold seenU
 rw [hn (k + 1) (by omega) hk, Bool.false_or]
 refine decide_eq_false ?_
 rintro ⟨j, hj, h⟩
 exact hc.apart j (k + 1) (by omega) hk h
theorem seenU_back {S : Cs} {U : Un → Bool} {u : Un} {n k : Nat} (hc : Cyc S u n) (h0 : U u = true) (hk : k + 1 = n) : seenU S U u k (itU S u (k + 1)) = true := by
 unfold seenU
 rw [hk, hc.back, h0]
 rfl
end Go.Proofs.YtdfpbhlnlkjjlaaGreat
