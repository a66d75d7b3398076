/- Outlines: what the reference's Loops keeps while it runs (plain). -/
import Derived.Test.YtdfpbhlnlkjjlaaGreatXtoK
import Derived.Test.YtdfpbhlnlkjjlaaGreatOujCK
namespace Go.Proofs.YtdfpbhlnlkjjlaaGreat
set_option linter.unusedVariables false
set_option linter.unusedSimpArgs false
theorem Wrote.snoc {S : Cs} {vs : List (Un × Nat)} {L : List (List Pt)} (hw : Wrote S vs L) {q : Un × Nat} {b : List Pt} (h : isTurned (cnr S q.1 q.2) b) : Wrote S (vs ++ [q]) (L ++ [b]) := by
 induction hw with
 | nil => exact .cons (v := q.1) (n := q.2) h .nil
 | cons h1 _ ih => exact .cons h1 ih
theorem ins_sortedL {K : List (List Pt)} {t : List Pt} {a : Nat} (hs : K.Pairwise fun a b => ¬ ltL b a) (ha : a ≤ K.length) (h1 : ∀ b, 0 < a → K[a - 1]? = some b → ¬ ltL t b) (h2 : ∀ j b, a ≤ j → K[j]? = some b → ltL t b) : (K.take a ++ t :: K.drop a).Pairwise fun a b => ¬ ltL b a := by
 rw [List.pairwise_append, List.pairwise_cons]
 have hp := hs
 rw [← List.take_append_drop a K, List.pairwise_append] at hp
 have hd : ∀ y ∈ K.drop a, ltL t y := fun y hy => by
  obtain ⟨j, hj, rfl⟩ := List.mem_iff_getElem.1 hy
  rw [List.getElem_drop]
  exact h2 (a + j) _ (by omega) (List.getElem?_eq_getElem _)
 have ht : ∀ x ∈ K.take a, ¬ ltL t x := fun x hx hlt => by
  obtain ⟨i, hi, rfl⟩ := List.mem_iff_getElem.1 hx
  rw [List.length_take] at hi
  rw [List.getElem_take] at hlt
  have ha0 : 0 < a := by omega
  have hb : K[a - 1]? = some (K[a - 1]'(by omega)) := List.getElem?_eq_getElem _
  have hnot := h1 _ ha0 hb
  by_cases e : i = a - 1
  ·subst e; exact hnot hlt
  ·have h3 := List.pairwise_iff_getElem.1 hs i (a - 1) (by omega) (by omega) (by omega)
   by_cases e2 : K[i]'(by omega) = K[a - 1]'(by omega)
   ·rw [e2] at hlt; exact hnot hlt
   ·rcases ltL_or e2 with h4 | h4
    ·exact hnot (ltL_tr hlt h4)
    ·exact h3 h4
 refine ⟨hp.1, ⟨fun y hy h => ltL_irr _ (ltL_tr h (hd y hy)), hp.2.1⟩, fun x hx y hy hlt => ?_⟩
 rcases List.mem_cons.1 hy with rfl | hy
 ·exact ht x hx hlt
 ·exact hp.2.2 x hx y hy hlt
def dnU (X Y : Int) (W : Nat) (z : Un) : Prop := z.1.1 < X ∨ (z.1.1 = X ∧ (z.1.2 < Y ∨ (z.1.2 = Y ∧ wyK z.2 < W)))
structure LsP (S : Cs) (U : Un → Bool) (K : List (List Pt)) (X Y : Int) (W : Nat) : Prop where
 ex : ∃ (vs : List (Un × Nat)) (L : List (List Pt)), (∀ q ∈ vs, Cyc S q.1 q.2) ∧ (vs.Pairwise fun a b => ∀ z, ¬ (inCy S a.1 a.2 z ∧ inCy S b.1 b.2 z)) ∧ (∀ z, U z = true ↔ ∃ q ∈ vs, inCy S q.1 q.2 z) ∧ Wrote S vs L ∧ K.Perm L ∧ K.Pairwise fun a b => ¬ ltL b a
 done : ∀ z, bgn S z → dnU X Y W z → U z = true
section
variable {S : Cs} {U : Un → Bool} {K : List (List Pt)} {X Y : Int} {W : Nat}
theorem LsP.start {X0 Y0 : Int} (h : ∀ z, bgn S z → X0 ≤ z.1.1 ∧ Y0 ≤ z.1.2) : LsP S (fun _ => false) [] X0 Y0 0 :=
 ⟨⟨[], [], by simp, List.Pairwise.nil, by simp, .nil, List.Perm.refl _, List.Pairwise.nil⟩, fun z hz hd => by
  have := h z hz
  unfold dnU at hd
  omega⟩
theorem wyK_inj {a b : Wy} (h : wyK a = wyK b) : a = b := by rw [← wyOf_K a, ← wyOf_K b, h]
theorem LsP.skip (h : LsP S U K X Y W) (hW : W < 4) (hu : bgn S ((X, Y), wyOf W) → U ((X, Y), wyOf W) = true) : LsP S U K X Y (W + 1) :=
 ⟨h.ex, fun z hz hd => by
  by_cases e : z = ((X, Y), wyOf W)
  ·subst e; exact hu hz
  ·refine h.done z hz ?_
   unfold dnU at hd ⊢
   rcases hd with hd | ⟨h1, hd | ⟨h2, h3⟩⟩
   ·exact .inl hd
   ·exact .inr ⟨h1, .inl hd⟩
   ·refine .inr ⟨h1, .inr ⟨h2, ?_⟩⟩
    rcases Nat.lt_or_ge (wyK z.2) W with h4 | h4
    ·exact h4
    ·refine absurd (Prod.ext (Prod.ext h1 h2) ?_) e
     exact wyK_inj (by rw [wyK_of hW]; omega)⟩
theorem LsP.up (h : LsP S U K X Y 4) : LsP S U K X (Y + 1) 0 :=
 ⟨h.ex, fun z hz hd => h.done z hz (by
  unfold dnU at hd ⊢
  have := wyK_lt z.2
  omega)⟩
theorem LsP.on {Y0 Y1 : Int} (h : LsP S U K X Y 0) (hY : Y1 < Y) (hb : ∀ z, bgn S z → Y0 ≤ z.1.2 ∧ z.1.2 ≤ Y1) : LsP S U K (X + 1) Y0 0 :=
 ⟨h.ex, fun z hz hd => h.done z hz (by
  have := hb z hz
  unfold dnU at hd ⊢
  omega)⟩
theorem LsP.fresh (h : LsP S U K X Y W) {u : Un} {n : Nat} (hc : Cyc S u n) (hu : U u = false) {z : Un} (hz : inCy S u n z) : U z = false := by
 obtain ⟨vs, L, h1, _, h3, _⟩ := h.ex
 cases hU : U z with
 | false => rfl
 | true =>
  obtain ⟨q, hq, hi⟩ := (h3 z).1 hU
  have := ((hc.share (h1 q hq) hz hi).2 u).1 hc.refl_in
  rw [(h3 u).2 ⟨q, hq, this⟩] at hu
  cases hu
theorem LsP.rest (h : LsP S U K X Y W) {u : Un} {n : Nat} (hc : Cyc S u n) (hu : U u = false) : ∀ k, 0 < k → k < n → addU U u (itU S u k) = false := by
 intro k h0 hk
 unfold addU
 rw [h.fresh hc hu ⟨k, hk, rfl⟩, Bool.false_or]
 exact decide_eq_false fun e => hc.apart 0 k h0 hk e.symm
open Classical in
theorem LsP.new (h : LsP S U K X Y W) (hW : W < 4) {n : Nat} (hc : Cyc S ((X, Y), wyOf W) n) (hu : U ((X, Y), wyOf W) = false) {t : List Pt} (ht : isTurned (cnr S ((X, Y), wyOf W) n) t) {a : Nat} (ha : a ≤ K.length) (h1 : ∀ b, 0 < a → K[a - 1]? = some b → ¬ ltL t b) (h2 : ∀ j b, a ≤ j → K[j]? = some b → ltL t b) :
  LsP S (fun z => addU U ((X, Y), wyOf W) z || decide (inCy S ((X, Y), wyOf W) n z)) (K.take a ++ t :: K.drop a) X Y (W + 1) := by
 have hf := fun z => h.fresh hc hu (z := z)
 have key : ∀ z, (addU U ((X, Y), wyOf W) z || decide (inCy S ((X, Y), wyOf W) n z)) = true ↔ U z = true ∨ inCy S ((X, Y), wyOf W) n z := by
  intro z
  unfold addU
  simp only [Bool.or_eq_true, decide_eq_true_eq]
  constructor
  ·rintro ((h | rfl) | h)
   ·exact .inl h
   ·exact .inr hc.refl_in
   ·exact .inr h
  ·rintro (h | h)
   ·exact .inl (.inl h)
   ·exact .inr h
 obtain ⟨vs, L, e1, e2, e3, e4, e5, e6⟩ := h.ex
 refine ⟨⟨vs ++ [(((X, Y), wyOf W), n)], L ++ [t], fun q hq => ?_, ?_, fun z => ?_, e4.snoc ht, ?_, ins_sortedL e6 ha h1 h2⟩, fun z hz hd => (key z).2 ?_⟩
 ·rcases List.mem_append.1 hq with hq | hq
  ·exact e1 q hq
  ·rw [List.mem_singleton.1 hq]; exact hc
 ·rw [List.pairwise_append]
  refine ⟨e2, List.pairwise_singleton _ _, fun q hq r hr z ⟨h3, h4⟩ => ?_⟩
  rw [List.mem_singleton.1 hr] at h4
  have := hf z h4
  rw [(e3 z).2 ⟨q, hq, h3⟩] at this
  cases this
 ·rw [key]
  constructor
  ·rintro (h | h)
   ·obtain ⟨q, hq, hi⟩ := (e3 z).1 h
    exact ⟨q, List.mem_append_left _ hq, hi⟩
   ·exact ⟨_, List.mem_append_right _ (List.mem_singleton.2 rfl), h⟩
  ·rintro ⟨q, hq, hi⟩
   rcases List.mem_append.1 hq with hq | hq
   ·exact .inl ((e3 z).2 ⟨q, hq, hi⟩)
   ·rw [List.mem_singleton.1 hq] at hi; exact .inr hi
 ·refine List.Perm.trans List.perm_middle ?_
  rw [List.take_append_drop]
  exact (List.Perm.cons t e5).trans (List.perm_append_singleton t L).symm
 ·by_cases e : z = ((X, Y), wyOf W)
  ·subst e; exact .inr hc.refl_in
  ·refine .inl (h.done z hz ?_)
   unfold dnU at hd ⊢
   rcases hd with hd | ⟨h1, hd | ⟨h2, h3⟩⟩
   ·exact .inl hd
   ·exact .inr ⟨h1, .inl hd⟩
   ·refine .inr ⟨h1, .inr ⟨h2, ?_⟩⟩
    rcases Nat.lt_or_ge (wyK z.2) W with h4 | h4
    ·exact h4
    ·refine absurd (Prod.ext (Prod.ext h1 h2) ?_) e
     exact wyK_inj (by rw [wyK_of hW]; omega)
theorem LsP.outl {X1 : Int} (h : LsP S U K X Y 0) (hX : X1 < X) (hb : ∀ z, bgn S z → z.1.1 ≤ X1) : Outl S K := by
 obtain ⟨vs, L, e1, e2, e3, e4, e5, e6⟩ := h.ex
 refine Follow.outl ⟨e1, e2, fun z hz => ?_⟩ e4 e5 e6
 have := hb z hz
 exact (e3 z).1 (h.done z hz (.inl (by omega)))
end
end Go.Proofs.YtdfpbhlnlkjjlaaGreat
