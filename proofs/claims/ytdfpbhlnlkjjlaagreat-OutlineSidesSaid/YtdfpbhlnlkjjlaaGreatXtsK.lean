/- Lemmas that the statement of this seat needs beside the texts laid together; no condition. -/
import Derived.Test.YtdfpbhlnlkjjlaaGreatPk1
import Derived.Test.YtdfpbhlnlkjjlaaGreatPk2
import Derived.Test.YtdfpbhlnlkjjlaaGreatPk3
import Derived.Test.YtdfpbhlnlkjjlaaGreatPk4
import Derived.Test.YtdfpbhlnlkjjlaaGreatPk5
import Derived.Test.YtdfpbhlnlkjjlaaGreatPk6
import Derived.Test.YtdfpbhlnlkjjlaaGreatPk7
import Derived.Test.YtdfpbhlnlkjjlaaGreatPk8
import Derived.Test.YtdfpbhlnlkjjlaaGreatPk9
import Derived.Test.YtdfpbhlnlkjjlaaGreatPk10
import Derived.Test.YtdfpbhlnlkjjlaaGreatPk11
import Derived.Test.YtdfpbhlnlkjjlaaGreatPk12
import Derived.Test.YtdfpbhlnlkjjlaaGreatPk13
import Derived.Test.YtdfpbhlnlkjjlaaGreatPk14
import Derived.Test.YtdfpbhlnlkjjlaaGreatPk15
import Derived.Test.YtdfpbhlnlkjjlaaGreatShelf
import Derived.Test.YtdfpbhlnlkjjlaaGreatShelfB
namespace Go.Proofs.YtdfpbhlnlkjjlaaGreat
set_option linter.unusedVariables false
set_option linter.unusedSimpArgs false
section
variable {S : Cs} {u v : Un} {n : Nat}
theorem len_add (p : Pt) (d : Wy) (t : Nat) : lenP p (addW p t d) = smN (fun j => (fun _ => (1 : Int)) (addW p j d, d)) t := by
  rw [smN_const]
  obtain ⟨x, y⟩ := p
  cases d <;> simp only [lenP, addW, Wy.v] <;> omega
def covP (low : Bool) (x y : Int) (p q : Pt) : Int := if covQ low x y p q then 1 else 0
def edU (low : Bool) (x y : Int) : Un := if low then ((x, y), .e) else ((x, y), .n)
def edg (low : Bool) (x y : Int) (v : Un) : Int := isN v (edU low x y) + isN v (opU (edU low x y))
theorem edg_eq (low : Bool) (x y : Int) (v : Un) : edg low x y v = if (low = true ∧ v.1.2 = y ∧ (v.2 = .e ∧ v.1.1 = x ∨ v.2 = .w ∧ v.1.1 = x + 1)) ∨ (low = false ∧ v.1.1 = x ∧ (v.2 = .n ∧ v.1.2 = y ∨ v.2 = .s ∧ v.1.2 = y + 1)) then 1 else 0 := by
  obtain ⟨⟨a, b⟩, d⟩ := v
  unfold edg
  rw [isN_eq, isN_eq]
  cases low <;> cases d <;> simp only [edU, opU, hdU, Wy.l, Wy.v, Bool.false_eq_true, if_false, if_true, reduceCtorEq, and_false, false_and, and_true, true_and, or_false, false_or, Int.add_zero, Int.zero_add]
  all_goals repeat' split
  all_goals omega
theorem cov_add (low : Bool) (x y : Int) (p : Pt) (d : Wy) (t : Nat) : covP low x y p (addW p t d) = smN (fun j => edg low x y (addW p j d, d)) t := by
  rw [smN_congr fun j _ => edg_eq low x y (addW p j d, d), smN_one]
  · have key : covQ low x y p (addW p t d) ↔ ∃ j, j < t ∧ ((low = true ∧ (addW p j d, d).1.2 = y ∧ ((addW p j d, d).2 = .e ∧ (addW p j d, d).1.1 = x ∨ (addW p j d, d).2 = .w ∧ (addW p j d, d).1.1 = x + 1)) ∨ (low = false ∧ (addW p j d, d).1.1 = x ∧ ((addW p j d, d).2 = .n ∧ (addW p j d, d).1.2 = y ∨ (addW p j d, d).2 = .s ∧ (addW p j d, d).1.2 = y + 1))) := by
      obtain ⟨a, b⟩ := p
      unfold covQ
      cases low <;> cases d <;> simp only [addW, Wy.v, Bool.false_eq_true, reduceCtorEq, false_and, and_false, true_and, or_false, false_or]
      all_goals constructor
      all_goals first | (rintro ⟨j, h1, h2⟩; omega) | (intro h; first | exact ⟨(y - b).toNat, by omega, by omega⟩ | exact ⟨(b - 1 - y).toNat, by omega, by omega⟩ | exact ⟨(x - a).toNat, by omega, by omega⟩ | exact ⟨(a - 1 - x).toNat, by omega, by omega⟩ | (exfalso; omega) | (obtain ⟨_, h⟩ := h; exact h.elim))
    unfold covP
    by_cases h : covQ low x y p (addW p t d)
    · rw [if_pos h, if_pos (key.1 h)]
    · rw [if_neg h, if_neg fun h2 => h (key.2 h2)]
  · intro i j h1 h2
    obtain ⟨a, b⟩ := p
    cases low <;> cases d <;> simp only [addW, Wy.v, Bool.false_eq_true, reduceCtorEq, false_and, and_false, true_and, or_false, false_or] at h1 h2 <;> omega
end
end Go.Proofs.YtdfpbhlnlkjjlaaGreat
namespace Go.Proofs.YtdfpbhlnlkjjlaaGreat
set_option linter.unusedVariables false
set_option linter.unusedSimpArgs false
section
variable {S : Cs} {u : Un} {n : Nat}
theorem LpU.lenS_n (h : LpU S u n) : Go.Proofs.YtdfpbhlnlkjjlaaGreat.lenS (lpC S u n) (lpC S u n).length = n := by
  rw [h.lenS, h.sum (f := lenP) (g := fun _ => (1 : Int)) len_add, smN_const]
  omega
end
end Go.Proofs.YtdfpbhlnlkjjlaaGreat
namespace Go.Proofs.YtdfpbhlnlkjjlaaGreat
set_option linter.unusedVariables false
set_option linter.unusedSimpArgs false
section
variable {S : Cs}
def lnL (l : List Pt) : Int := lenS l l.length
end
end Go.Proofs.YtdfpbhlnlkjjlaaGreat
namespace Go.Proofs.YtdfpbhlnlkjjlaaGreat
set_option linter.unusedVariables false
set_option linter.unusedSimpArgs false
section
variable {S : Cs}
/-- How often a list of corners goes along a unit edge. -/
def cvL (low : Bool) (x y : Int) (l : List Pt) : Int := smN (fun i => covP low x y (pAt l i) (qAt l i)) l.length
theorem LpU.cov {u : Un} {n : Nat} (h : LpU S u n) (low : Bool) (x y : Int) : cvL low x y (lpC S u n) = cnU S u n (edU low x y) + cnU S u n (opU (edU low x y)) := by
  have e : cvL low x y (lpC S u n) = smN (fun i => covP low x y (cU S u n i).1 (cU S u n (i + 1)).1) (mC S u n) := by
    unfold cvL
    rw [lp_len]
    exact smN_congr' _ fun i hi => by rw [h.pAt hi, h.qAt hi]
  rw [e, h.sum (f := covP low x y) (g := edg low x y) (cov_add low x y)]
  unfold edg cnU
  rw [smN_add]
theorem Trips.cn_yes {us : List (Un × Nat)} (ht : Trips S us) {v : Un} (hv : bgn S v) : sumT (fun q => cnU S q.1 q.2 v) us = 1 :=
  Trips.cn_sum (fun q hq => (ht.lp q hq).cyc) ht.apart (ht.all v hv)
theorem Trips.cn_no {us : List (Un × Nat)} (ht : Trips S us) {v : Un} (hv : ¬ bgn S v) : sumT (fun q => cnU S q.1 q.2 v) us = 0 :=
  sumT_none fun q hq => cn_none fun hi => hv ((ht.lp q hq).cyc.bgn_of hi)
theorem sumT_add (f g : Un × Nat → Int) : ∀ us, sumT (fun q => f q + g q) us = sumT f us + sumT g us
  | [] => rfl
  | q :: us => by rw [sumT_cons, sumT_cons, sumT_cons, sumT_add f g us]; omega
/-- **A unit edge is gone along once exactly if its two cells differ.** -/
theorem Outl.cover {L : List (List Pt)} (h : Outl S L) (low : Bool) (x y : Int) : (L.map (cvL low x y)).sum = if inC S (lc (edU low x y)) = inC S (rc (edU low x y)) then 0 else 1 := by
  obtain ⟨⟨us, ht, hp⟩, _⟩ := h
  rw [perm_sum (cvL low x y) hp, List.map_map]
  have e : (us.map (cvL low x y ∘ lpP S)).sum = sumT (fun q => cnU S q.1 q.2 (edU low x y) + cnU S q.1 q.2 (opU (edU low x y))) us :=
    sumT_congr (f := cvL low x y ∘ lpP S) fun q hq => (ht.lp q hq).cov low x y
  rw [e, sumT_add]
  generalize edU low x y = v
  have ho : bgn S (opU v) ↔ inC S (rc v) = true ∧ inC S (lc v) = false := by unfold bgn; rw [lc_op, rc_op]
  cases h1 : inC S (lc v) <;> cases h2 : inC S (rc v)
  · rw [ht.cn_no (fun hb => by rw [bgn, h1] at hb; cases hb.1), ht.cn_no (fun hb => by rw [ho, h2] at hb; cases hb.1)]; rfl
  · rw [ht.cn_no (fun hb => by rw [bgn, h1] at hb; cases hb.1), ht.cn_yes (ho.2 ⟨h2, h1⟩)]; rfl
  · rw [ht.cn_yes ⟨h1, h2⟩, ht.cn_no (fun hb => by rw [ho, h2] at hb; cases hb.1)]; rfl
  · rw [ht.cn_no (fun hb => by rw [bgn, h2] at hb; cases hb.2), ht.cn_no (fun hb => by rw [ho, h1] at hb; cases hb.2)]; rfl
end
end Go.Proofs.YtdfpbhlnlkjjlaaGreat
namespace Go.Proofs.YtdfpbhlnlkjjlaaGreat
open Go.ChangeShapes Go.WideShapes Go.ChangeAt Go.RowKit Go.Joins Go.Deep
set_option linter.unusedVariables false
set_option linter.unusedSimpArgs false
section
variable {H : Type} {enc : TypeId × Value → H} {P : Program} {w : World} {base : Nat} {spare : Nat → Bool} {held : Bool}
end
theorem int_bd {n : Int} (h : (Lit.int .i64 n).wf = true) : -9223372036854775808 ≤ n ∧ n ≤ 9223372036854775807 := by
  simp [Lit.wf, IntKind.min, IntKind.max, IntKind.signed, IntKind.bits] at h
  omega
end Go.Proofs.YtdfpbhlnlkjjlaaGreat
