/- Outlines: the memory that the reference's Loops keeps. -/
import Derived.Test.YtdfpbhlnlkjjlaaGreatXtoK
import Derived.Test.YtdfpbhlnlkjjlaaGreatOujDK
namespace Go.Proofs.YtdfpbhlnlkjjlaaGreat
open Go.RowKit
set_option linter.unusedVariables false
set_option linter.unusedSimpArgs false
structure BxR (W : World) (g : Nat) (h : R4) : Prop where
 lt : g < W.heap.size
 c0 : W.cell? ⟨g, 0, none⟩ = some (.int .i64 h.x0)
 c1 : W.cell? ⟨g, 1, none⟩ = some (.int .i64 h.y0)
 c2 : W.cell? ⟨g, 2, none⟩ = some (.int .i64 h.x1)
 c3 : W.cell? ⟨g, 3, none⟩ = some (.int .i64 h.y1)
theorem BxR.kept {W V : World} {g : Nat} {h : R4} {row : Option Nat} (hb : BxR W g h) (hg : W.grownBy V row) (hr : row ≠ some g) : BxR V g h := by
 have hq := hg.block g hb.lt (fun e => hr e.symm)
 exact ⟨Nat.lt_of_lt_of_le hb.lt hg.size, (World.cell?_of_block (a := ⟨g, 0, none⟩) hq).trans hb.c0, (World.cell?_of_block (a := ⟨g, 1, none⟩) hq).trans hb.c1, (World.cell?_of_block (a := ⟨g, 2, none⟩) hq).trans hb.c2, (World.cell?_of_block (a := ⟨g, 3, none⟩) hq).trans hb.c3⟩
structure LsI (w wr : World) (g gh B : Nat) (vr : Value) (U : Un → Bool) (hu : R4) (vo : Value) (K : List (List Pt)) (vs : List Value) : Prop where
 low : Below w.heap.size w wr
 lt : (w.heap.size ≤ g ∧ g < B) ∧ (w.heap.size ≤ gh ∧ gh < B) ∧ g ≠ gh ∧ B ≤ wr.heap.size
 sn : SnW wr g vr (snU U)
 bx : BxR wr gh hu
 out : wr.ownsRow B 36 1 vo K.length vs
 el : ∀ (i : Nat) (x : List Pt), K[i]? = some x → ∃ u, vs[i]? = some u ∧ wr.ownsRow B 53 2 u x.length (x.flatMap encS)
section
variable {w wr w2 : World} {g gh B : Nat} {vr vo v2 : Value} {U U' : Un → Bool} {hu : R4} {K K' : List (List Pt)} {vs vs' : List Value}
theorem LsI.below (h : LsI w wr g gh B vr U hu vo K vs) (hb : Below wr.heap.size wr w2) : LsI w w2 g gh B vr U hu vo K vs :=
 ⟨h.low.trans (hb.mono h.low.size), ⟨h.lt.1, h.lt.2.1, h.lt.2.2.1, Nat.le_trans h.lt.2.2.2 hb.size⟩, h.sn.below hb, h.bx.kept (grownO_below hb none) (by simp), own_below h.out hb, fun i x hx => by
  obtain ⟨u, h1, h2⟩ := h.el i x hx
  exact ⟨u, h1, own_below h2 hb⟩⟩
theorem LsI.mark (h : LsI w wr g gh B vr U hu vo K vs) (hs : SnW w2 g vr (snU U')) (hg : wr.grownBy w2 (some g)) : LsI w w2 g gh B vr U' hu vo K vs := by
 obtain ⟨⟨l1, l2⟩, ⟨l3, l4⟩, l5, l6⟩ := h.lt
 refine ⟨h.low.grown hg h.low.size (fun q hq => by injection hq with hq; omega), ⟨⟨l1, l2⟩, ⟨l3, l4⟩, l5, Nat.le_trans l6 hg.size⟩, hs, h.bx.kept hg (fun e => by injection e with e; exact l5 e), h.out.kept hg (.inr fun e => by have := (h.out.lt g e).1; omega), fun i x hx => ?_⟩
 obtain ⟨u, h1, h2⟩ := h.el i x hx
 exact ⟨u, h1, h2.kept hg (.inr fun e => by have := (h2.lt g e).1; omega)⟩
theorem LsI.row (h : LsI w wr g gh B vr U hu vo K vs) (hg : wr.grownBy w2 vo.ownBlock) (ho : w2.ownsRow B 36 1 v2 K'.length vs') (hel : ∀ (i : Nat) (x : List Pt), K'[i]? = some x → ∃ u, vs'[i]? = some u ∧ wr.ownsRow B 53 2 u x.length (x.flatMap encS)) : LsI w w2 g gh B vr U hu v2 K' vs' := by
 obtain ⟨⟨l1, l2⟩, ⟨l3, l4⟩, l5, l6⟩ := h.lt
 have hne : ∀ k, k < B → vo.ownBlock ≠ some k := fun k hk e => by have := (h.out.lt k e).1; omega
 refine ⟨h.low.grown hg h.low.size (fun q hq => by have := (h.out.lt q hq).1; omega), ⟨⟨l1, l2⟩, ⟨l3, l4⟩, l5, Nat.le_trans l6 hg.size⟩, h.sn.kept hg (hne g l2), h.bx.kept hg (hne gh l4), ho, fun i x hx => ?_⟩
 obtain ⟨u, h1, h2⟩ := hel i x hx
 exact ⟨u, h1, h2.kept hg (own_apart h2 h.out (by decide))⟩
theorem LsI.rdps (h : LsI w wr g gh B vr U hu vo K vs) : RdPs wr wr.heap.size vo K := by
 obtain ⟨A, c, rfl⟩ := own_form h.out
 refine ⟨A, c, rfl, fun hl => ?_⟩
 have hp : 0 < K.length := List.length_pos_iff.2 hl
 obtain ⟨q, cap, hv, hB, hq⟩ := h.out.form hp
 injection hv with e1 _ _
 subst e1
 refine ⟨q, 0, rfl, hq, fun j x hx => ?_⟩
 obtain ⟨u, h1, h2⟩ := h.el j x hx
 have h3 := (h.out.cells (g := q) rfl) j u h1
 rw [addr_add] at h3
 rw [Nat.zero_add]
 exact ⟨u, h3, own_rd h2 (fun _ => rfl)⟩
end
theorem els_ins {wr : World} {B : Nat} {K : List (List Pt)} {vs : List Value} {t : List Pt} {vt : Value} {a : Nat} (hl : vs.length = K.length) (ha : a ≤ K.length) (hel : ∀ (i : Nat) (x : List Pt), K[i]? = some x → ∃ u, vs[i]? = some u ∧ wr.ownsRow B 53 2 u x.length (x.flatMap encS)) (ht : wr.ownsRow B 53 2 vt t.length (t.flatMap encS)) :
  ∀ (i : Nat) (x : List Pt), (K.take a ++ t :: K.drop a)[i]? = some x → ∃ u, (vs.take a ++ vt :: vs.drop a)[i]? = some u ∧ wr.ownsRow B 53 2 u x.length (x.flatMap encS) := by
 intro i x hx
 have h1 : (K.take a).length = a := by rw [List.length_take]; omega
 have h2 : (vs.take a).length = a := by rw [List.length_take]; omega
 rcases Nat.lt_trichotomy i a with h | h | h
 ·rw [List.getElem?_append_left (by omega), List.getElem?_take_of_lt h] at hx
  obtain ⟨u, h3, h4⟩ := hel i x hx
  exact ⟨u, by rw [List.getElem?_append_left (by omega), List.getElem?_take_of_lt h]; exact h3, h4⟩
 ·subst h
  rw [List.getElem?_append_right (by omega), h1, Nat.sub_self, List.getElem?_cons_zero] at hx
  injection hx with hx
  subst hx
  exact ⟨vt, by rw [List.getElem?_append_right (by omega), h2, Nat.sub_self, List.getElem?_cons_zero], ht⟩
 ·obtain ⟨j, hj⟩ : ∃ j, i - a = j + 1 := ⟨i - a - 1, by omega⟩
  rw [List.getElem?_append_right (by omega), h1, hj, List.getElem?_cons_succ, List.getElem?_drop] at hx
  obtain ⟨u, h3, h4⟩ := hel _ x hx
  exact ⟨u, by rw [List.getElem?_append_right (by omega), h2, hj, List.getElem?_cons_succ, List.getElem?_drop]; exact h3, h4⟩
end Go.Proofs.YtdfpbhlnlkjjlaaGreat
