/- Texts laid together: HeldN, Bx2, OutD, OutH, OutQ, OutR, OutS, OulC, OueB, OueC, OudA. Lemmas for the statements of this seat; no condition. -/
import Derived.Test.YtdfpbhlnlkjjlaaGreatPk7
import Derived.Test.YtdfpbhlnlkjjlaaGreatPk1
import Derived.Test.YtdfpbhlnlkjjlaaGreatPk4
import Derived.Test.YtdfpbhlnlkjjlaaGreatPk5
import Derived.Deep.Heap
import Derived.Test.YtdfpbhlnlkjjlaaGreatPk2
import Derived.Test.YtdfpbhlnlkjjlaaGreatShelf
import Derived.Test.YtdfpbhlnlkjjlaaGreatPk6
import Derived.Deep.LoopGhost
import Derived.Shelf.Abstract
import Derived.Laws.StructEq
import Derived.Deep.QuietTactic
import Derived.BigQuiet

/- A region that draws its order: reads first, then the other operations in each of the orders that they may come up in: a tree of orders with any number of branches. -/
namespace Go.Proofs.YtdfpbhlnlkjjlaaGreat
open Go.RowKit
set_option linter.unusedVariables false
set_option linter.unusedSimpArgs false
inductive OrdN where
 | nil : OrdN
 | cons : Nat → OrdN → OrdN → OrdN
def OrdN.ids : OrdN → List Nat
 | .nil => []
 | .cons i _ r => i :: r.ids
def OrdN.isNil : OrdN → Bool
 | .nil => true
 | _ => false
def ordNB (md : Region.Mode) (ops : Array Oper) : Bool → Nat → OrdN → Array Bool → Bool
 | true, 0, .nil, l => (Region.ready md ops l).isEmpty
 | false, _, .nil, l => true
 | true, n + 1, .cons i s r, l => (Region.ready md ops l == i :: r.ids) && (!s.isNil || i == ops.size - 1) && ordNB md ops true n s (l.setIfInBounds i true) && ordNB md ops false n r l
 | false, n, .cons i s r, l => (!s.isNil || i == ops.size - 1) && ordNB md ops true n s (l.setIfInBounds i true) && ordNB md ops false n r l
 | _, _, _, _ => false
section
variable {P : Program} {Q : Exit → Act → World → Prop} {md : Region.Mode} {S : World → Prop}
def wpOrdN (P : Program) (l : List Oper) (S : World → Prop) (Q : Exit → Act → World → Prop) : Bool → OrdN → Act → World → Prop
 | true, .nil, a, w => Q .normal a w
 | false, .nil, a, w => True
 | _, .cons i s r, a, w => wpOne P l.toArray Q (opAt l i) (fun a' w' => (s.isNil = false → S w') ∧ wpOrdN P l S Q true s a' w') a w ∧ wpOrdN P l S Q false r a w
theorem wpOrdN_sub {l : List Oper} {a : Act} {w : World} {n : Nat} {listed : Array Bool} : ∀ (T : OrdN), ordNB md l.toArray false n T listed = true → wpOrdN P l S Q false T a w → ∀ i ∈ T.ids, ∃ s : OrdN, (s.isNil = true → i = l.length - 1) ∧ ordNB md l.toArray true n s (listed.setIfInBounds i true) = true ∧ wpOne P l.toArray Q (opAt l i) (fun a' w' => (s.isNil = false → S w') ∧ wpOrdN P l S Q true s a' w') a w
 | .nil, _, _, i, hi => by simp [OrdN.ids] at hi
 | .cons t s r, hT, h, i, hi => by
  simp only [ordNB, Bool.and_eq_true, Bool.or_eq_true, Bool.not_eq_true', beq_iff_eq, List.size_toArray] at hT
  obtain ⟨⟨h1, h2⟩, h3⟩ := hT
  simp only [OrdN.ids] at hi
  rcases List.mem_cons.1 hi with rfl | hi
  ·exact ⟨s, fun hn => h1.resolve_left (by rw [hn]; simp), h2, h.1⟩
  ·exact wpOrdN_sub r h3 h.2 i hi
theorem wpOrdN_E {l : List Oper} : ∀ (n : Nat) (T : OrdN) (listed : Array Bool) (a : Act) (w : World), ordNB md l.toArray true n T listed = true → wpOrdN P l S Q true T a w → wpAnyE P md l.toArray Q S (l.length - 1) n listed a w
 | 0, .nil, listed, a, w, hT, h => by
  simp only [ordNB, List.isEmpty_iff] at hT
  exact ⟨hT, h⟩
 | 0, .cons _ _ _, listed, a, w, hT, h => by simp [ordNB] at hT
 | n + 1, .nil, listed, a, w, hT, h => by simp [ordNB] at hT
 | n + 1, .cons t s r, listed, a, w, hT, h => by
  simp only [ordNB, Bool.and_eq_true, Bool.or_eq_true, Bool.not_eq_true', beq_iff_eq, List.size_toArray] at hT
  obtain ⟨⟨⟨h1, h2⟩, h3⟩, h4⟩ := hT
  have hall : ∀ i ∈ (OrdN.cons t s r).ids, ∃ s : OrdN, (s.isNil = true → i = l.length - 1) ∧ ordNB md l.toArray true n s (listed.setIfInBounds i true) = true ∧ wpOne P l.toArray Q (opAt l i) (fun a' w' => (s.isNil = false → S w') ∧ wpOrdN P l S Q true s a' w') a w :=
   wpOrdN_sub (.cons t s r) (by simp only [ordNB, Bool.and_eq_true, Bool.or_eq_true, Bool.not_eq_true', beq_iff_eq, List.size_toArray]; exact ⟨⟨h2, h3⟩, h4⟩) h
  refine ⟨fun h0 => (by rw [h1] at h0; cases h0), fun i hi => ?_⟩
  obtain ⟨_, o, ho, _⟩ := mem_ready.1 hi
  rw [h1] at hi
  have ho' : l[i]? = some o := by simpa using ho
  obtain ⟨s', g1, g2, g3⟩ := hall i hi
  rw [opAt_some ho'] at g3
  refine wpOp_step ho fun K' hK => g3 K' fun a' w' hn => hK a' w' ⟨fun hne => hn.1 ?_, wpOrdN_E n s' _ a' w' g2 hn.2⟩
  cases hs : s'.isNil
  ·rfl
  ·exact absurd (g1 hs) hne
def ordNRB (md : Region.Mode) (ops : Array Oper) (n : Nat) (T : OrdN) : List Nat → Array Bool → Bool
 | [], l => ordNB md ops true n T l
 | i :: r, l => Region.free md ops l i && (Region.ready md ops l).contains i && waitsFor md ops (ops.size - 1) i && ordNRB md ops n T r (l.setIfInBounds i true)
def ordNAll (md : Region.Mode) (ops : Array Oper) (R : List Nat) (n : Nat) (T : OrdN) : Bool := Region.noSelect ops && decide (R.length + n = ops.size) && ordNRB md ops n T R (Array.replicate ops.size false)
theorem wpReads_ordN {l : List Oper} {T : OrdN} {n : Nat} (hsel : ∀ (j : Nat) (o : Oper) cs b, l.toArray[j]? = some o → o.op ≠ .select cs b) (hQ : ∀ c a a' w, Q (.panic c) a w → Q (.panic c) a' w)
  {w : World} (hS : S w) : ∀ (R : List Nat) (listed : Array Bool) (a : Act), ordNRB md l.toArray n T R listed = true → wpReads P l.toArray S (fun a' => wpOrdN P l S Q true T a' w) (R.map (opAt l)) a →
   wpAnyE P md l.toArray Q S (l.length - 1) (R.length + n) listed a w
 | [], listed, a, hR, h => by
  rw [List.length_nil, Nat.zero_add]
  exact wpOrdN_E n T listed a w hR h
 | i :: r, listed, a, hR, h => by
  simp only [ordNRB, Bool.and_eq_true, List.contains_iff_mem] at hR
  obtain ⟨⟨⟨f1, f2⟩, f3⟩, f4⟩ := hR
  obtain ⟨_, o, ho, _⟩ := mem_ready.1 f2
  have ho' : l[i]? = some o := by simpa using ho
  simp only [List.map_cons, opAt_some ho'] at h
  obtain ⟨v, hy, h⟩ := h
  have ih := wpReads_ordN hsel hQ hS r _ _ f4 h
  rw [List.length_cons, Nat.add_right_comm]
  refine wpAnyE_first ho hsel (fun c a w h => hQ c _ _ w h) ?_ _ _ _ _ (Region.free_spec ho f1) f2 hy hS ih
  intro oL hoL
  unfold waitsFor at f3
  simp only [List.size_toArray] at f3
  rw [hoL] at f3
  obtain ⟨e, he, h2⟩ := Array.any_eq_true'.1 f3
  simp only [Bool.and_eq_true, beq_iff_eq] at h2
  exact ⟨e, he, h2.1, h2.2⟩
theorem wp_region_ordN {id : Nat} {a : Act} {w : World} {l : List Oper} (R : List Nat) (n : Nat) (T : OrdN) (S : World → Prop) (hm : P.follows .mixedOrders = true) (hB : ordNAll .any l.toArray R n T = true) (hS : S w.drew)
  (h : wpReads P l.toArray S (fun a' => wpOrdN P l S (NoPanic Q) true T a' w.drew) (R.map (opAt l)) a) : (Code.region id l.toArray true).wp P Q a w := by
 refine wp_region_noPanic (wp_region_any hm (wpAny_of_E (S := S) (L := l.length - 1) _ _ _ _ ?_))
 simp only [ordNAll, Bool.and_eq_true, decide_eq_true_eq, List.size_toArray] at hB
 obtain ⟨⟨b1, b2⟩, b4⟩ := hB
 have := wpReads_ordN (Q := NoPanic Q) (S := S) (l := l) (T := T) (n := n) (w := w.drew) (Region.noSelect_spec b1) (fun _ _ _ _ h => h) hS R _ a b4 h
 rw [b2] at this
 exact this
end
end Go.Proofs.YtdfpbhlnlkjjlaaGreat

/- A box with two numbers. -/
namespace Go.Proofs.YtdfpbhlnlkjjlaaGreat
open Go.RowKit
set_option linter.unusedVariables false
set_option linter.unusedSimpArgs false
def Bx2 (W : World) (g : Nat) (x y : Int) : Prop := g < W.heap.size ∧ W.cell? ⟨g, 0, none⟩ = some (.int .i64 x) ∧ W.cell? ⟨g, 1, none⟩ = some (.int .i64 y)
theorem Bx2.below {W V : World} {g : Nat} {x y : Int} (h : Bx2 W g x y) (hb : Below W.heap.size W V) : Bx2 V g x y := ⟨Nat.lt_of_lt_of_le h.1 hb.size, (hb.cell (p := ⟨g, 0, none⟩) h.1).trans h.2.1, (hb.cell (p := ⟨g, 1, none⟩) h.1).trans h.2.2⟩
theorem Bx2.grown {W V : World} {g : Nat} {x y : Int} {r : Option Nat} (h : Bx2 W g x y) (hg : W.grownBy V r) (hne : r ≠ some g) : Bx2 V g x y := ⟨Nat.lt_of_lt_of_le h.1 hg.size, (World.cell?_of_block (hg.block g h.1 (Ne.symm hne))).trans h.2.1, (World.cell?_of_block (hg.block g h.1 (Ne.symm hne))).trans h.2.2⟩
end Go.Proofs.YtdfpbhlnlkjjlaaGreat

/- Outlines: Turning. -/
namespace Go.Proofs.YtdfpbhlnlkjjlaaGreat
open Go.RowKit
set_option linter.unusedVariables false
set_option linter.unusedSimpArgs false
def rAt (l : List Pt) (i : Nat) : Pt := pAt l ((i + 2) % l.length)
def trnP (l : List Pt) (i : Nat) : Int := crs (wayF (pAt l i, qAt l i)) (wayF (qAt l i, rAt l i))
def turnS (l : List Pt) (m : Nat) : Int := smN (trnP l) m
def turnO (l : List Pt) : Int × Int := if chkO l = 0 then (if (turnS l l.length).tmod 4 = 0 then Int.tdiv (turnS l l.length) 4 else 0, 0) else (0, chkO l)
theorem cmpI_bd (a b : Int) : -1 ≤ cmpI a b ∧ cmpI a b ≤ 1 := by
 unfold cmpI
 repeat' split
 all_goals omega
theorem mul_one_bd {a b : Int} (ha : -1 ≤ a ∧ a ≤ 1) (hb : -1 ≤ b ∧ b ≤ 1) : -1 ≤ a * b ∧ a * b ≤ 1 := by
 have h1 : (a * b).natAbs ≤ 1 * 1 := by
  rw [Int.natAbs_mul]
  exact Nat.mul_le_mul (by omega) (by omega)
 omega
theorem trnP_bd (l : List Pt) (i : Nat) : -2 ≤ trnP l i ∧ trnP l i ≤ 2 := by
 unfold trnP crs wayF
 simp only
 have h1 := mul_one_bd (cmpI_bd (qAt l i).1 (pAt l i).1) (cmpI_bd (rAt l i).2 (qAt l i).2)
 have h2 := mul_one_bd (cmpI_bd (qAt l i).2 (pAt l i).2) (cmpI_bd (rAt l i).1 (qAt l i).1)
 omega
theorem turnS_bd (l : List Pt) : ∀ m : Nat, -(2 * (m : Int)) ≤ turnS l m ∧ turnS l m ≤ 2 * (m : Int)
 | 0 => by simp [turnS, smN]
 | m + 1 => by
  have ih := turnS_bd l m
  have := trnP_bd l m
  show _ ≤ turnS l m + trnP l m ∧ turnS l m + trnP l m ≤ _
  omega
def Bz (W : World) (g : Nat) : Prop := g < W.heap.size ∧ (∃ u, W.cell? ⟨g, 0, none⟩ = some u) ∧ (∃ u, W.cell? ⟨g, 1, none⟩ = some u) ∧ W.frozen? ⟨g, 0, none⟩ = false ∧ W.frozen? ⟨g, 1, none⟩ = false
theorem Bz.below {W V : World} {g : Nat} (h : Bz W g) (hb : Below W.heap.size W V) : Bz V g := by
 obtain ⟨h1, ⟨u, h2⟩, ⟨v, h3⟩, h4, h5⟩ := h
 exact ⟨Nat.lt_of_lt_of_le h1 hb.size, ⟨u, (hb.cell (p := ⟨g, 0, none⟩) h1).trans h2⟩, ⟨v, (hb.cell (p := ⟨g, 1, none⟩) h1).trans h3⟩, (hb.frozen (p := ⟨g, 0, none⟩) h1).trans h4, (hb.frozen (p := ⟨g, 1, none⟩) h1).trans h5⟩
theorem Bz.made (W : World) : Bz (W.alloc (.cells #[.int .i64 0, .int .i64 0] 53)) W.heap.size := ⟨by simp, ⟨_, by simp [go_sem]; rfl⟩, ⟨_, by simp [go_sem]; rfl⟩, by simp [go_sem], by simp [go_sem]⟩
theorem Bz.set {W : World} {g : Nat} (h : Bz W g) (a b : Int) : Bx2 ((W.setCell ⟨g, 0, none⟩ (.int .i64 a)).setCell ⟨g, 1, none⟩ (.int .i64 b)) g a b := by
 obtain ⟨h1, ⟨u, h2⟩, ⟨v, h3⟩, h4, h5⟩ := h
 exact ⟨by simpa using h1, by simp [go_sem, h2, h3, h1], by simp [go_sem, h2, h3, h1]⟩
theorem Bx2.far {W : World} {g k : Nat} {a b x y : Int} (h : Bx2 W g a b) (hne : g ≠ k) : Bx2 ((W.setCell ⟨k, 0, none⟩ (.int .i64 x)).setCell ⟨k, 1, none⟩ (.int .i64 y)) g a b := by
 have e : ((W.setCell ⟨k, 0, none⟩ (.int .i64 x)).setCell ⟨k, 1, none⟩ (.int .i64 y)).heap[g]? = W.heap[g]? := by rw [Go.Deep.blk_setCell_other _ _ _ _ hne, Go.Deep.blk_setCell_other _ _ _ _ hne]
 exact ⟨by simpa using h.1, (World.cell?_of_block e).trans h.2.1, (World.cell?_of_block e).trans h.2.2⟩
theorem Bz.far {W : World} {g k : Nat} {x y : Int} (h : Bz W g) (hne : g ≠ k) : Bz ((W.setCell ⟨k, 0, none⟩ (.int .i64 x)).setCell ⟨k, 1, none⟩ (.int .i64 y)) g := by
 have e : ((W.setCell ⟨k, 0, none⟩ (.int .i64 x)).setCell ⟨k, 1, none⟩ (.int .i64 y)).heap[g]? = W.heap[g]? := by rw [Go.Deep.blk_setCell_other _ _ _ _ hne, Go.Deep.blk_setCell_other _ _ _ _ hne]
 obtain ⟨h1, ⟨u, h2⟩, ⟨v, h3⟩, h4, h5⟩ := h
 exact ⟨by simpa using h1, ⟨u, (World.cell?_of_block e).trans h2⟩, ⟨v, (World.cell?_of_block e).trans h3⟩, (World.frozen?_of_block e).trans h4, (World.frozen?_of_block e).trans h5⟩
theorem Bx2.all {W : World} {g : Nat} {a b : Int} (h : Bx2 W g a b) : ∀ V, Below W.heap.size W V → Bx2 V g a b := fun _ hb => h.below hb
theorem wayF_bd (p q r : Pt) : (-1 ≤ (wayF (p, q)).1 ∧ (wayF (p, q)).1 ≤ 1) ∧ (-1 ≤ (wayF (p, q)).2 ∧ (wayF (p, q)).2 ≤ 1) ∧ (-1 ≤ (wayF (q, r)).1 ∧ (wayF (q, r)).1 ≤ 1) ∧ -1 ≤ (wayF (q, r)).2 ∧ (wayF (q, r)).2 ≤ 1 := ⟨cmpI_bd _ _, cmpI_bd _ _, cmpI_bd _ _, cmpI_bd _ _⟩
set_option maxRecDepth 100000 in
set_option maxHeartbeats 16000000 in
theorem turn_o_any {w : World} {v : Value} {l : List Pt} (hr : RdK encS 2 w w.heap.size v l) (hl : l.length ≤ 100000000) :
    Calls Tryz.prog 28 #[v] w fun e w' => e = .returned (.tuple #[.int .i64 (turnO l).1, .int .i64 (turnO l).2]) ∧ Below w.heap.size w w' := by
  have HRD := hide hr
  have HCK := hide (chkO_any hr hl)
  obtain ⟨A, c, rfl, _⟩ := hr
  go_enter Tryz.func28, Tryz.ntmps28
  go_wp2_with (fail)
  refine HCK.out.mono ?_
  rintro e w0 ⟨rfl, hb0⟩
  have HB0 := hide hb0
  clear hb0 HCK
  have HSP : Hid (turnO l = if chkO l = 0 then (if (turnS l l.length).tmod 4 = 0 then Int.tdiv (turnS l l.length) 4 else 0, 0) else (0, chkO l)) := hide rfl
  obtain ⟨r, hr⟩ : ∃ r, chkO l = r := ⟨_, rfl⟩
  rw [hr] at HSP ⊢
  by_cases h0 : r = 0
  · subst h0
    have HOK := hide hr
    have HV : Hid (turnO l = (if (turnS l l.length).tmod 4 = 0 then Int.tdiv (turnS l l.length) 4 else 0, 0)) := hide (by rw [HSP.out, if_pos rfl])
    have HL := hide (chkO_ok hr).1
    obtain ⟨b, o, rfl, hb, hcell⟩ := rd_two HRD.out (show 0 < l.length by have := HL.out; omega)
    have HCL := hide hcell
    clear hr hcell HRD HSP
    go_wp2
    go_loopw [5, 19] (fun s i wr => ∃ m : Nat, m ≤ l.length ∧ i = .int .i64 (m : Int) ∧ s = .int .i64 (turnS l m) ∧ Hid (Below w.heap.size w wr)) (fun _ i _ => l.length - (intOf i).toNat)
    case atStart => exact ⟨0, Nat.zero_le _, rfl, rfl, HB0⟩
    case round =>
      obtain ⟨m, hm, rfl, rfl, HB⟩ := hrel
      have hll := HL.out
      by_cases hlt : m < l.length
      · have mz : (m : Int) < (l.length : Int) := by omega
        have m0 : (0 : Int) ≤ (m : Int) := by omega
        have d0 := (HB.out.cell (p := ⟨b, _, none⟩) hb).trans (HCL.out m hlt).1
        have d1 := (HB.out.cell (p := ⟨b, _, none⟩) hb).trans (HCL.out m hlt).2
        have hbr : b < wr.heap.size := Nat.lt_of_lt_of_le hb HB.out.size
        go_upto_region 8 with fail
        refine wp_name fun w2 hw2 => ?_
        obtain ⟨g, hg⟩ : ∃ g, wr.heap.size = g := ⟨_, rfl⟩
        have hb2 : Below wr.heap.size wr w2 := by rw [hw2]; exact (Below.refl _ _).alloc (Nat.le_refl _) _
        have HP2 : Hid (Bx2 w2 g (pAt l m).1 (pAt l m).2) := hide ⟨by rw [hw2, ← hg]; simp, by rw [hw2, ← hg]; simp [go_sem], by rw [hw2, ← hg]; simp [go_sem]⟩
        have HB2 := hide (HB.out.trans (hb2.mono HB.out.size))
        rw [hg]
        clear hw2 hb2 d0 d1 hbr HB hg
        obtain ⟨j, hj⟩ : ∃ j, (m + 1) % l.length = j := ⟨_, rfl⟩
        have hjl : j < l.length := by rw [← hj]; exact Nat.mod_lt _ (by omega)
        have hmod : ((m : Int) + 1) % (l.length : Int) = (j : Int) := by rw [← hj]; simp
        have HQ : Hid (qAt l m = pAt l j) := hide (by unfold qAt; rw [hj])
        obtain ⟨k, hk⟩ : ∃ j, (m + 2) % l.length = j := ⟨_, rfl⟩
        have hkl : k < l.length := by rw [← hk]; exact Nat.mod_lt _ (by omega)
        have hmod2 : ((m : Int) + 2) % (l.length : Int) = (k : Int) := by rw [← hk]; simp
        have HR : Hid (rAt l m = pAt l k) := hide (by unfold rAt; rw [hk])
        have e0 := (HB2.out.cell (p := ⟨b, _, none⟩) hb).trans (HCL.out j hjl).1
        have e1 := (HB2.out.cell (p := ⟨b, _, none⟩) hb).trans (HCL.out j hjl).2
        have f0 := (HB2.out.cell (p := ⟨b, _, none⟩) hb).trans (HCL.out k hkl).1
        have f1 := (HB2.out.cell (p := ⟨b, _, none⟩) hb).trans (HCL.out k hkl).2
        have hbr : b < w2.heap.size := Nat.lt_of_lt_of_le hb HB2.out.size
        have HWQ := hide (wayF_bd (pAt l m) (pAt l j) (pAt l k))
        have HNX : Hid (turnS l (m + 1) = turnS l m + crs (wayF (pAt l m, pAt l j)) (wayF (pAt l j, pAt l k))) := hide (by rw [← HQ.out, ← HR.out]; rfl)
        have HSB : Hid (-4000 ≤ turnS l m ∧ turnS l m ≤ 4000) := hide (by have := turnS_bd l m; omega)
        have HWB := HWQ
        have w1' : IntKind.i64.wrap ((m : Int) + 1) = (m : Int) + 1 := IntWalk.i64_in _ (by omega)
        have w2' : IntKind.i64.wrap ((m : Int) + 2) = (m : Int) + 2 := IntWalk.i64_in _ (by omega)
        have jz : (j : Int) < (l.length : Int) := by omega
        have j0 : (0 : Int) ≤ (j : Int) := by omega
        have kz : (k : Int) < (l.length : Int) := by omega
        have k0 : (0 : Int) ≤ (k : Int) := by omega
        have l0 : ¬ (l.length : Int) = 0 := by omega
        have lnil : ¬ l = [] := fun e => by rw [e] at hlt; simp at hlt
        have tm1 : ((m : Int) + 1).tmod (l.length : Int) = (j : Int) := by have h9 := tmod_nat (m + 1) l.length; rw [hj] at h9; exact h9
        have tm2 : ((m : Int) + 2).tmod (l.length : Int) = (k : Int) := by have h9 := tmod_nat (m + 2) l.length; rw [hk] at h9; exact h9
        have HCE := hide (And.intro (And.intro e0 e1) (And.intro (And.intro f0 f1) hbr))
        clear hj hk hll hlt e0 e1 f0 f1 hbr HQ HR HWQ
        generalize pAt l m = P9 at *
        generalize pAt l j = Q9 at *
        generalize pAt l k = R9 at *
        generalize turnS l m = SM at *
        have HBK : Hid (Below w2.heap.size w2 w2.drew) := hide (Below.refl _ _).drew
        refine wp_region_ords [0, 1, 2, 3, 4, 5, 6, 7, 8, 9, 10, 11, 12, 13, 14, 15] 4 (.two 16 (.one 17 (.one 18 (.one 19 .done))) 17 (.one 16 (.one 18 (.one 19 .done)))) (fun w' => Below w2.heap.size w2 w') (by kernel_rfl) (by kernel_rfl) HBK.out ?_
        simp only [List.map_cons, List.map_nil, opAt, List.getElem?_cons_succ, List.getElem?_cons_zero, Option.getD_some]
        generalize w2.drew = wk at *
        iterate 16
          refine ⟨?_, Or.inl ⟨by rfl, ?_⟩, ?_⟩
          rotate_left 1
          · intro w' hSw
            obtain ⟨⟨e0, e1⟩, ⟨f0, f1⟩, q1⟩ := HCE.out
            replace e0 := (hSw.cell (p := ⟨b, _, none⟩) q1).trans e0
            replace e1 := (hSw.cell (p := ⟨b, _, none⟩) q1).trans e1
            replace f0 := (hSw.cell (p := ⟨b, _, none⟩) q1).trans f0
            replace f1 := (hSw.cell (p := ⟨b, _, none⟩) q1).trans f1
            have hq1 : b < w'.heap.size := Nat.lt_of_lt_of_le q1 hSw.size
            clear hSw q1
            go_simp
            first | done | with_reducible rfl
          simp only [Act.put, List.setIfInBounds_toArray, List.set_cons_zero, List.set_cons_succ]
        simp only [wpReads, wpOrds, wpOne, opAt, List.getElem?_cons_succ, List.getElem?_cons_zero, Option.getD_some]
        clear w1' w2' hmod hmod2 jz j0 kz k0 l0 lnil tm1 tm2
        refine ⟨?_, ?_⟩
        · intro K0 hK
          simp only [Act.put, List.setIfInBounds_toArray, List.set_cons_zero, List.set_cons_succ] at hK ⊢
          go_simp
          refine hK _ _ ⟨(by repeat (first | with_reducible exact HBK.out | with_reducible refine Below.setCell ?_ (by first | exact HBK.out.size | (simp; done) | (have := HBK.out.size; simp; omega)) _ | with_reducible refine Below.alloc ?_ (by first | exact HBK.out.size | omega | (simp; done) | (have := HBK.out.size; simp; omega)) _)), ?_⟩
          clear hK K0
          intro K0 hK
          simp only [Act.put, List.setIfInBounds_toArray, List.set_cons_zero, List.set_cons_succ] at hK ⊢
          go_simp
          refine hK _ _ ⟨fun _ => (by repeat (first | with_reducible exact HBK.out | with_reducible refine Below.setCell ?_ (by first | exact HBK.out.size | (simp; done) | (have := HBK.out.size; simp; omega)) _ | with_reducible refine Below.alloc ?_ (by first | exact HBK.out.size | omega | (simp; done) | (have := HBK.out.size; simp; omega)) _)), ?_⟩
          clear hK K0
          intro K0 hK
          simp only [Act.put, List.setIfInBounds_toArray, List.set_cons_zero, List.set_cons_succ] at hK ⊢
          go_simp
          refine hK _ _ ⟨fun _ => (by repeat (first | with_reducible exact HBK.out | with_reducible refine Below.setCell ?_ (by first | exact HBK.out.size | (simp; done) | (have := HBK.out.size; simp; omega)) _ | with_reducible refine Below.alloc ?_ (by first | exact HBK.out.size | omega | (simp; done) | (have := HBK.out.size; simp; omega)) _)), ?_⟩
          clear hK K0
          intro K0 hK
          simp only [Act.put, List.setIfInBounds_toArray, List.set_cons_zero, List.set_cons_succ] at hK ⊢
          go_simp
          refine hK _ _ ⟨fun h => absurd h (by decide), ?_⟩
          clear hK K0
          refine NoPanic.normal ?_
          refine name_exit fun w3 hw3 => ?_
          have HB32 : Hid (Below w2.heap.size w2 w3) := hide (by rw [hw3]; exact (by repeat (first | with_reducible exact HBK.out | with_reducible refine Below.setCell ?_ (by first | exact HBK.out.size | (simp; done) | (have := HBK.out.size; simp; omega)) _ | with_reducible refine Below.alloc ?_ (by first | exact HBK.out.size | omega | (simp; done) | (have := HBK.out.size; simp; omega)) _)))
          have HQ9 : Hid (Bx2 w3 (wk.heap.size) Q9.1 Q9.2) := hide ⟨by first | (rw [hw3]; simp; done) | (rw [hw3]; simp; omega), by rw [hw3]; simp [go_sem], by rw [hw3]; simp [go_sem]⟩
          have HR9 : Hid (Bx2 w3 (wk.heap.size + 1) R9.1 R9.2) := hide ⟨by first | (rw [hw3]; simp; done) | (rw [hw3]; simp; omega), by rw [hw3]; simp [go_sem], by rw [hw3]; simp [go_sem]⟩
          have HP9 := hide (HP2.out.below HB32.out)
          have HB3 := hide (HB2.out.trans (HB32.out.mono HB2.out.size))
          obtain ⟨gq, hgq⟩ : ∃ g, wk.heap.size = g := ⟨_, rfl⟩
          obtain ⟨gr, hgr⟩ : ∃ g, wk.heap.size + 1 = g := ⟨_, rfl⟩
          rw [hgq] at HQ9
          rw [hgr] at HR9
          simp only [hgr]
          simp only [hgq]
          clear hw3 hgq hgr HB32 HBK HCE HP2 HB2
          go_upto_region 9 with fail
          have HBC : Hid (Below w3.heap.size w3 w3.drew) := hide (Below.refl _ _).drew
          refine wp_region_ordN [0, 1, 2, 4, 5, 6] 6 (.cons 3 (.cons 7 (.cons 8 (.cons 9 (.cons 10 (.cons 11 .nil .nil) .nil) .nil) (.cons 9 (.cons 8 (.cons 10 (.cons 11 .nil .nil) .nil) .nil) .nil)) (.cons 8 (.cons 7 (.cons 9 (.cons 10 (.cons 11 .nil .nil) .nil) .nil) (.cons 9 (.cons 7 (.cons 10 (.cons 11 .nil .nil) .nil) .nil) .nil)) (.cons 9 (.cons 7 (.cons 8 (.cons 10 (.cons 11 .nil .nil) .nil) .nil) (.cons 8 (.cons 7 (.cons 10 (.cons 11 .nil .nil) .nil) .nil) .nil)) .nil))) (.cons 8 (.cons 3 (.cons 7 (.cons 9 (.cons 10 (.cons 11 .nil .nil) .nil) .nil) (.cons 9 (.cons 7 (.cons 10 (.cons 11 .nil .nil) .nil) .nil) .nil)) (.cons 9 (.cons 3 (.cons 7 (.cons 10 (.cons 11 .nil .nil) .nil) .nil) .nil) .nil)) (.cons 9 (.cons 3 (.cons 7 (.cons 8 (.cons 10 (.cons 11 .nil .nil) .nil) .nil) (.cons 8 (.cons 7 (.cons 10 (.cons 11 .nil .nil) .nil) .nil) .nil)) (.cons 8 (.cons 3 (.cons 7 (.cons 10 (.cons 11 .nil .nil) .nil) .nil) .nil) .nil)) .nil))) (fun w' => Below w3.heap.size w3 w') (by kernel_rfl) (by kernel_rfl) HBC.out ?_
          simp only [List.map_cons, List.map_nil, opAt, List.getElem?_cons_succ, List.getElem?_cons_zero, Option.getD_some]
          obtain ⟨wc, hwc⟩ : ∃ y, w3.drew = y := ⟨_, rfl⟩
          rw [hwc] at HBC ⊢
          clear hwc
          iterate 6
            refine ⟨?_, Or.inl ⟨by rfl, ?_⟩, ?_⟩
            rotate_left 1
            · intro w' hSw
              obtain ⟨hp0, hp1, hp2⟩ := HP9.out.below hSw
              obtain ⟨hq0, hq1, hq2⟩ := HQ9.out.below hSw
              obtain ⟨hr0, hr1, hr2⟩ := HR9.out.below hSw
              clear hSw
              go_simp
              first | done | with_reducible rfl
            simp only [Act.put, List.setIfInBounds_toArray, List.set_cons_zero, List.set_cons_succ]
          simp only [wpReads, wpOrdN, wpOne, opAt, List.getElem?_cons_succ, List.getElem?_cons_zero, Option.getD_some]
          clear HP9 HQ9 HR9
          have HW1 : Hid (∀ W : World, Calls Tryz.prog 41 #[.agg #[.int .i64 P9.1, .int .i64 P9.2, .int .i64 Q9.1, .int .i64 Q9.2]] W fun r w' => r = .returned (.agg #[.int .i64 (wayF (P9, Q9)).1, .int .i64 (wayF (P9, Q9)).2]) ∧ Below W.heap.size W w') := hide (fun W => way_any (P9, Q9) W)
          have HW2 : Hid (∀ W : World, Calls Tryz.prog 41 #[.agg #[.int .i64 Q9.1, .int .i64 Q9.2, .int .i64 R9.1, .int .i64 R9.2]] W fun r w' => r = .returned (.agg #[.int .i64 (wayF (Q9, R9)).1, .int .i64 (wayF (Q9, R9)).2]) ∧ Below W.heap.size W w') := hide (fun W => way_any (Q9, R9) W)
          repeat' (first
            | with_reducible exact trivial
            | with_reducible refine ⟨?_, ?_⟩
            | (with_reducible intro K0 hK
               try obtain ⟨hz1, ⟨u1, hz2⟩, ⟨u2, hz3⟩, hz4, hz5⟩ := HZ1.out
               try obtain ⟨hy1, ⟨x1, hy2⟩, ⟨x2, hy3⟩, hy4, hy5⟩ := HZ2.out
               simp only [Act.put, List.setIfInBounds_toArray, List.set_cons_zero, List.set_cons_succ] at hK ⊢
               go_simp
               try clear hz1 hz2 hz3 hz4 hz5
               try clear hy1 hy2 hy3 hy4 hy5
               first
                 | (first
                      | with_reducible refine (HW1.out _).mono ?_
                      | with_reducible refine (HW2.out _).mono ?_
                      | fail
                    rintro e wn ⟨rfl, hbn⟩
                    replace HBC := hide (HBC.out.trans (hbn.mono HBC.out.size))
                    try replace HZ1 := hide (HZ1.out.below hbn)
                    try replace HZ2 := hide (HZ2.out.below hbn)
                    clear hbn
                    clear wc
                    obtain ⟨wc, hwc⟩ : ∃ y, y = wn := ⟨_, rfl⟩
                    subst hwc
                    refine hK _ _ ⟨fun _ => HBC.out, ?_⟩
                    clear hK K0)
                 | (obtain ⟨wd, hwd⟩ : ∃ y, (wc.setCell ⟨g1, 0, none⟩ (.int .i64 (wayF (P9, Q9)).1)).setCell ⟨g1, 1, none⟩ (.int .i64 (wayF (P9, Q9)).2) = y := ⟨_, rfl⟩
                    rw [hwd]
                    have HX8 : Hid (Bx2 wd g1 (wayF (P9, Q9)).1 (wayF (P9, Q9)).2) := hide (by rw [← hwd]; exact HZ1.out.set _ _)
                    replace HBC : Hid (Below w3.heap.size w3 wd) := hide (by rw [← hwd]; exact (HBC.out.setCell HG1.out _).setCell HG1.out _)
                    replace HZ2 : Hid (Bz wd g2) := hide (by rw [← hwd]; exact HZ2.out.far (Ne.symm HNE.out))
                    clear hwd HZ1 wc
                    obtain ⟨wc, hwc⟩ : ∃ y, y = wd := ⟨_, rfl⟩
                    subst hwc
                    refine hK _ _ ⟨fun _ => HBC.out, ?_⟩
                    clear hK K0)
                 | (obtain ⟨wd, hwd⟩ : ∃ y, (wc.setCell ⟨g2, 0, none⟩ (.int .i64 (wayF (P9, Q9)).1)).setCell ⟨g2, 1, none⟩ (.int .i64 (wayF (P9, Q9)).2) = y := ⟨_, rfl⟩
                    rw [hwd]
                    have HX8 : Hid (Bx2 wd g2 (wayF (P9, Q9)).1 (wayF (P9, Q9)).2) := hide (by rw [← hwd]; exact HZ2.out.set _ _)
                    replace HBC : Hid (Below w3.heap.size w3 wd) := hide (by rw [← hwd]; exact (HBC.out.setCell HG2.out _).setCell HG2.out _)
                    replace HZ1 : Hid (Bz wd g1) := hide (by rw [← hwd]; exact HZ1.out.far (HNE.out))
                    clear hwd HZ2 wc
                    obtain ⟨wc, hwc⟩ : ∃ y, y = wd := ⟨_, rfl⟩
                    subst hwc
                    refine hK _ _ ⟨fun _ => HBC.out, ?_⟩
                    clear hK K0)
                 | (obtain ⟨wd, hwd⟩ : ∃ y, (wc.setCell ⟨g1, 0, none⟩ (.int .i64 (wayF (Q9, R9)).1)).setCell ⟨g1, 1, none⟩ (.int .i64 (wayF (Q9, R9)).2) = y := ⟨_, rfl⟩
                    rw [hwd]
                    have HX9 : Hid (Bx2 wd g1 (wayF (Q9, R9)).1 (wayF (Q9, R9)).2) := hide (by rw [← hwd]; exact HZ1.out.set _ _)
                    replace HBC : Hid (Below w3.heap.size w3 wd) := hide (by rw [← hwd]; exact (HBC.out.setCell HG1.out _).setCell HG1.out _)
                    replace HX8 : Hid (Bx2 wd g2 (wayF (P9, Q9)).1 (wayF (P9, Q9)).2) := hide (by rw [← hwd]; exact HX8.out.far (Ne.symm HNE.out))
                    clear hwd HZ1
                    refine hK _ _ ⟨fun h => absurd h (by decide), ?_⟩
                    clear hK K0
                    refine NoPanic.normal ?_)
                 | (obtain ⟨wd, hwd⟩ : ∃ y, (wc.setCell ⟨g2, 0, none⟩ (.int .i64 (wayF (Q9, R9)).1)).setCell ⟨g2, 1, none⟩ (.int .i64 (wayF (Q9, R9)).2) = y := ⟨_, rfl⟩
                    rw [hwd]
                    have HX9 : Hid (Bx2 wd g2 (wayF (Q9, R9)).1 (wayF (Q9, R9)).2) := hide (by rw [← hwd]; exact HZ2.out.set _ _)
                    replace HBC : Hid (Below w3.heap.size w3 wd) := hide (by rw [← hwd]; exact (HBC.out.setCell HG2.out _).setCell HG2.out _)
                    replace HX8 : Hid (Bx2 wd g1 (wayF (P9, Q9)).1 (wayF (P9, Q9)).2) := hide (by rw [← hwd]; exact HX8.out.far (HNE.out))
                    clear hwd HZ2
                    refine hK _ _ ⟨fun h => absurd h (by decide), ?_⟩
                    clear hK K0
                    refine NoPanic.normal ?_)
                 | (have HZ2 : Hid (Bz (wc.alloc (.cells #[.int .i64 0, .int .i64 0] 53)) wc.heap.size) := hide (Bz.made wc)
                    have hbn : Below wc.heap.size wc (wc.alloc (.cells #[.int .i64 0, .int .i64 0] 53)) := (Below.refl _ _).alloc (Nat.le_refl _) _
                    have HG2 : Hid (w3.heap.size ≤ wc.heap.size) := hide HBC.out.size
                    have HNE : Hid (g1 ≠ wc.heap.size) := hide (Nat.ne_of_lt HZ1.out.1)
                    replace HZ1 := hide (HZ1.out.below hbn)
                    replace HBC := hide (HBC.out.trans (hbn.mono HBC.out.size))
                    obtain ⟨g2, hg2⟩ : ∃ g, wc.heap.size = g := ⟨_, rfl⟩
                    rw [hg2] at HZ2 HG2 HNE ⊢
                    clear hbn hg2
                    obtain ⟨wc, hwc⟩ : ∃ y, wc.alloc (.cells #[.int .i64 0, .int .i64 0] 53) = y := ⟨_, rfl⟩
                    rw [hwc] at HZ2 HBC HZ1 ⊢
                    clear hwc
                    refine hK _ _ ⟨fun _ => HBC.out, ?_⟩
                    clear hK K0)
                 | (have HZ1 : Hid (Bz (wc.alloc (.cells #[.int .i64 0, .int .i64 0] 53)) wc.heap.size) := hide (Bz.made wc)
                    have hbn : Below wc.heap.size wc (wc.alloc (.cells #[.int .i64 0, .int .i64 0] 53)) := (Below.refl _ _).alloc (Nat.le_refl _) _
                    have HG1 : Hid (w3.heap.size ≤ wc.heap.size) := hide HBC.out.size
                    skip
                    replace HBC := hide (HBC.out.trans (hbn.mono HBC.out.size))
                    obtain ⟨g1, hg1⟩ : ∃ g, wc.heap.size = g := ⟨_, rfl⟩
                    rw [hg1] at HZ1 HG1 ⊢
                    clear hbn hg1
                    obtain ⟨wc, hwc⟩ : ∃ y, wc.alloc (.cells #[.int .i64 0, .int .i64 0] 53) = y := ⟨_, rfl⟩
                    rw [hwc] at HZ1 HBC ⊢
                    clear hwc
                    refine hK _ _ ⟨fun _ => HBC.out, ?_⟩
                    clear hK K0)
                 | fail)
            | fail)
          all_goals
            obtain ⟨hx0, hx1, hx2⟩ := HX8.out
            obtain ⟨hy0, hy1, hy2⟩ := HX9.out
            have HBF := hide (HB3.out.trans (HBC.out.mono HB3.out.size))
            have hb1 := mul_one_bd HWB.out.1 HWB.out.2.2.2
            have hb2 := mul_one_bd HWB.out.2.1 HWB.out.2.2.1
            have hsm := HSB.out
            have hne := HNX.out
            unfold crs at hne
            obtain ⟨a1, ha1⟩ : ∃ a, (wayF (P9, Q9)).1 = a := ⟨_, rfl⟩
            obtain ⟨a2, ha2⟩ : ∃ a, (wayF (P9, Q9)).2 = a := ⟨_, rfl⟩
            obtain ⟨c1, hc1⟩ : ∃ a, (wayF (Q9, R9)).1 = a := ⟨_, rfl⟩
            obtain ⟨c2, hc2⟩ : ∃ a, (wayF (Q9, R9)).2 = a := ⟨_, rfl⟩
            rw [ha1] at hx1 hb1 hne
            rw [ha2] at hx2 hb2 hne
            rw [hc1] at hy1 hb2 hne
            rw [hc2] at hy2 hb1 hne
            have HNE3 := hide hne
            have k1 : IntKind.i64.wrap (a1 * c2) = a1 * c2 := wr63 (by omega) (by omega)
            have k2 : IntKind.i64.wrap (a2 * c1) = a2 * c1 := wr63 (by omega) (by omega)
            have k3 : IntKind.i64.wrap (a1 * c2 - a2 * c1) = a1 * c2 - a2 * c1 := wr63 (by omega) (by omega)
            have k4 : IntKind.i64.wrap (SM + (a1 * c2 - a2 * c1)) = SM + (a1 * c2 - a2 * c1) := wr63 (by omega) (by omega)
            clear hb1 hb2 hsm hne ha1 ha2 hc1 hc2 HX8 HX9 HBC
            go_wp2
            go_roundw
            case rel => exact ⟨m + 1, by omega, by go_num, by rw [HNE3.out], HBF⟩
            case measure => simp [intOf]; omega
        · intro K0 hK
          simp only [Act.put, List.setIfInBounds_toArray, List.set_cons_zero, List.set_cons_succ] at hK ⊢
          go_simp
          refine hK _ _ ⟨(by repeat (first | with_reducible exact HBK.out | with_reducible refine Below.setCell ?_ (by first | exact HBK.out.size | (simp; done) | (have := HBK.out.size; simp; omega)) _ | with_reducible refine Below.alloc ?_ (by first | exact HBK.out.size | omega | (simp; done) | (have := HBK.out.size; simp; omega)) _)), ?_⟩
          clear hK K0
          intro K0 hK
          simp only [Act.put, List.setIfInBounds_toArray, List.set_cons_zero, List.set_cons_succ] at hK ⊢
          go_simp
          refine hK _ _ ⟨fun _ => (by repeat (first | with_reducible exact HBK.out | with_reducible refine Below.setCell ?_ (by first | exact HBK.out.size | (simp; done) | (have := HBK.out.size; simp; omega)) _ | with_reducible refine Below.alloc ?_ (by first | exact HBK.out.size | omega | (simp; done) | (have := HBK.out.size; simp; omega)) _)), ?_⟩
          clear hK K0
          intro K0 hK
          simp only [Act.put, List.setIfInBounds_toArray, List.set_cons_zero, List.set_cons_succ] at hK ⊢
          go_simp
          refine hK _ _ ⟨fun _ => (by repeat (first | with_reducible exact HBK.out | with_reducible refine Below.setCell ?_ (by first | exact HBK.out.size | (simp; done) | (have := HBK.out.size; simp; omega)) _ | with_reducible refine Below.alloc ?_ (by first | exact HBK.out.size | omega | (simp; done) | (have := HBK.out.size; simp; omega)) _)), ?_⟩
          clear hK K0
          intro K0 hK
          simp only [Act.put, List.setIfInBounds_toArray, List.set_cons_zero, List.set_cons_succ] at hK ⊢
          go_simp
          refine hK _ _ ⟨fun h => absurd h (by decide), ?_⟩
          clear hK K0
          refine NoPanic.normal ?_
          refine name_exit fun w3 hw3 => ?_
          have HB32 : Hid (Below w2.heap.size w2 w3) := hide (by rw [hw3]; exact (by repeat (first | with_reducible exact HBK.out | with_reducible refine Below.setCell ?_ (by first | exact HBK.out.size | (simp; done) | (have := HBK.out.size; simp; omega)) _ | with_reducible refine Below.alloc ?_ (by first | exact HBK.out.size | omega | (simp; done) | (have := HBK.out.size; simp; omega)) _)))
          have HQ9 : Hid (Bx2 w3 (wk.heap.size + 1) Q9.1 Q9.2) := hide ⟨by first | (rw [hw3]; simp; done) | (rw [hw3]; simp; omega), by rw [hw3]; simp [go_sem], by rw [hw3]; simp [go_sem]⟩
          have HR9 : Hid (Bx2 w3 (wk.heap.size) R9.1 R9.2) := hide ⟨by first | (rw [hw3]; simp; done) | (rw [hw3]; simp; omega), by rw [hw3]; simp [go_sem], by rw [hw3]; simp [go_sem]⟩
          have HP9 := hide (HP2.out.below HB32.out)
          have HB3 := hide (HB2.out.trans (HB32.out.mono HB2.out.size))
          obtain ⟨gq, hgq⟩ : ∃ g, wk.heap.size + 1 = g := ⟨_, rfl⟩
          obtain ⟨gr, hgr⟩ : ∃ g, wk.heap.size = g := ⟨_, rfl⟩
          rw [hgq] at HQ9
          rw [hgr] at HR9
          simp only [hgq]
          simp only [hgr]
          clear hw3 hgq hgr HB32 HBK HCE HP2 HB2
          go_upto_region 9 with fail
          have HBC : Hid (Below w3.heap.size w3 w3.drew) := hide (Below.refl _ _).drew
          refine wp_region_ordN [0, 1, 2, 4, 5, 6] 6 (.cons 3 (.cons 7 (.cons 8 (.cons 9 (.cons 10 (.cons 11 .nil .nil) .nil) .nil) (.cons 9 (.cons 8 (.cons 10 (.cons 11 .nil .nil) .nil) .nil) .nil)) (.cons 8 (.cons 7 (.cons 9 (.cons 10 (.cons 11 .nil .nil) .nil) .nil) (.cons 9 (.cons 7 (.cons 10 (.cons 11 .nil .nil) .nil) .nil) .nil)) (.cons 9 (.cons 7 (.cons 8 (.cons 10 (.cons 11 .nil .nil) .nil) .nil) (.cons 8 (.cons 7 (.cons 10 (.cons 11 .nil .nil) .nil) .nil) .nil)) .nil))) (.cons 8 (.cons 3 (.cons 7 (.cons 9 (.cons 10 (.cons 11 .nil .nil) .nil) .nil) (.cons 9 (.cons 7 (.cons 10 (.cons 11 .nil .nil) .nil) .nil) .nil)) (.cons 9 (.cons 3 (.cons 7 (.cons 10 (.cons 11 .nil .nil) .nil) .nil) .nil) .nil)) (.cons 9 (.cons 3 (.cons 7 (.cons 8 (.cons 10 (.cons 11 .nil .nil) .nil) .nil) (.cons 8 (.cons 7 (.cons 10 (.cons 11 .nil .nil) .nil) .nil) .nil)) (.cons 8 (.cons 3 (.cons 7 (.cons 10 (.cons 11 .nil .nil) .nil) .nil) .nil) .nil)) .nil))) (fun w' => Below w3.heap.size w3 w') (by kernel_rfl) (by kernel_rfl) HBC.out ?_
          simp only [List.map_cons, List.map_nil, opAt, List.getElem?_cons_succ, List.getElem?_cons_zero, Option.getD_some]
          obtain ⟨wc, hwc⟩ : ∃ y, w3.drew = y := ⟨_, rfl⟩
          rw [hwc] at HBC ⊢
          clear hwc
          iterate 6
            refine ⟨?_, Or.inl ⟨by rfl, ?_⟩, ?_⟩
            rotate_left 1
            · intro w' hSw
              obtain ⟨hp0, hp1, hp2⟩ := HP9.out.below hSw
              obtain ⟨hq0, hq1, hq2⟩ := HQ9.out.below hSw
              obtain ⟨hr0, hr1, hr2⟩ := HR9.out.below hSw
              clear hSw
              go_simp
              first | done | with_reducible rfl
            simp only [Act.put, List.setIfInBounds_toArray, List.set_cons_zero, List.set_cons_succ]
          simp only [wpReads, wpOrdN, wpOne, opAt, List.getElem?_cons_succ, List.getElem?_cons_zero, Option.getD_some]
          clear HP9 HQ9 HR9
          have HW1 : Hid (∀ W : World, Calls Tryz.prog 41 #[.agg #[.int .i64 P9.1, .int .i64 P9.2, .int .i64 Q9.1, .int .i64 Q9.2]] W fun r w' => r = .returned (.agg #[.int .i64 (wayF (P9, Q9)).1, .int .i64 (wayF (P9, Q9)).2]) ∧ Below W.heap.size W w') := hide (fun W => way_any (P9, Q9) W)
          have HW2 : Hid (∀ W : World, Calls Tryz.prog 41 #[.agg #[.int .i64 Q9.1, .int .i64 Q9.2, .int .i64 R9.1, .int .i64 R9.2]] W fun r w' => r = .returned (.agg #[.int .i64 (wayF (Q9, R9)).1, .int .i64 (wayF (Q9, R9)).2]) ∧ Below W.heap.size W w') := hide (fun W => way_any (Q9, R9) W)
          repeat' (first
            | with_reducible exact trivial
            | with_reducible refine ⟨?_, ?_⟩
            | (with_reducible intro K0 hK
               try obtain ⟨hz1, ⟨u1, hz2⟩, ⟨u2, hz3⟩, hz4, hz5⟩ := HZ1.out
               try obtain ⟨hy1, ⟨x1, hy2⟩, ⟨x2, hy3⟩, hy4, hy5⟩ := HZ2.out
               simp only [Act.put, List.setIfInBounds_toArray, List.set_cons_zero, List.set_cons_succ] at hK ⊢
               go_simp
               try clear hz1 hz2 hz3 hz4 hz5
               try clear hy1 hy2 hy3 hy4 hy5
               first
                 | (first
                      | with_reducible refine (HW1.out _).mono ?_
                      | with_reducible refine (HW2.out _).mono ?_
                      | fail
                    rintro e wn ⟨rfl, hbn⟩
                    replace HBC := hide (HBC.out.trans (hbn.mono HBC.out.size))
                    try replace HZ1 := hide (HZ1.out.below hbn)
                    try replace HZ2 := hide (HZ2.out.below hbn)
                    clear hbn
                    clear wc
                    obtain ⟨wc, hwc⟩ : ∃ y, y = wn := ⟨_, rfl⟩
                    subst hwc
                    refine hK _ _ ⟨fun _ => HBC.out, ?_⟩
                    clear hK K0)
                 | (obtain ⟨wd, hwd⟩ : ∃ y, (wc.setCell ⟨g1, 0, none⟩ (.int .i64 (wayF (P9, Q9)).1)).setCell ⟨g1, 1, none⟩ (.int .i64 (wayF (P9, Q9)).2) = y := ⟨_, rfl⟩
                    rw [hwd]
                    have HX8 : Hid (Bx2 wd g1 (wayF (P9, Q9)).1 (wayF (P9, Q9)).2) := hide (by rw [← hwd]; exact HZ1.out.set _ _)
                    replace HBC : Hid (Below w3.heap.size w3 wd) := hide (by rw [← hwd]; exact (HBC.out.setCell HG1.out _).setCell HG1.out _)
                    replace HZ2 : Hid (Bz wd g2) := hide (by rw [← hwd]; exact HZ2.out.far (Ne.symm HNE.out))
                    clear hwd HZ1 wc
                    obtain ⟨wc, hwc⟩ : ∃ y, y = wd := ⟨_, rfl⟩
                    subst hwc
                    refine hK _ _ ⟨fun _ => HBC.out, ?_⟩
                    clear hK K0)
                 | (obtain ⟨wd, hwd⟩ : ∃ y, (wc.setCell ⟨g2, 0, none⟩ (.int .i64 (wayF (P9, Q9)).1)).setCell ⟨g2, 1, none⟩ (.int .i64 (wayF (P9, Q9)).2) = y := ⟨_, rfl⟩
                    rw [hwd]
                    have HX8 : Hid (Bx2 wd g2 (wayF (P9, Q9)).1 (wayF (P9, Q9)).2) := hide (by rw [← hwd]; exact HZ2.out.set _ _)
                    replace HBC : Hid (Below w3.heap.size w3 wd) := hide (by rw [← hwd]; exact (HBC.out.setCell HG2.out _).setCell HG2.out _)
                    replace HZ1 : Hid (Bz wd g1) := hide (by rw [← hwd]; exact HZ1.out.far (HNE.out))
                    clear hwd HZ2 wc
                    obtain ⟨wc, hwc⟩ : ∃ y, y = wd := ⟨_, rfl⟩
                    subst hwc
                    refine hK _ _ ⟨fun _ => HBC.out, ?_⟩
                    clear hK K0)
                 | (obtain ⟨wd, hwd⟩ : ∃ y, (wc.setCell ⟨g1, 0, none⟩ (.int .i64 (wayF (Q9, R9)).1)).setCell ⟨g1, 1, none⟩ (.int .i64 (wayF (Q9, R9)).2) = y := ⟨_, rfl⟩
                    rw [hwd]
                    have HX9 : Hid (Bx2 wd g1 (wayF (Q9, R9)).1 (wayF (Q9, R9)).2) := hide (by rw [← hwd]; exact HZ1.out.set _ _)
                    replace HBC : Hid (Below w3.heap.size w3 wd) := hide (by rw [← hwd]; exact (HBC.out.setCell HG1.out _).setCell HG1.out _)
                    replace HX8 : Hid (Bx2 wd g2 (wayF (P9, Q9)).1 (wayF (P9, Q9)).2) := hide (by rw [← hwd]; exact HX8.out.far (Ne.symm HNE.out))
                    clear hwd HZ1
                    refine hK _ _ ⟨fun h => absurd h (by decide), ?_⟩
                    clear hK K0
                    refine NoPanic.normal ?_)
                 | (obtain ⟨wd, hwd⟩ : ∃ y, (wc.setCell ⟨g2, 0, none⟩ (.int .i64 (wayF (Q9, R9)).1)).setCell ⟨g2, 1, none⟩ (.int .i64 (wayF (Q9, R9)).2) = y := ⟨_, rfl⟩
                    rw [hwd]
                    have HX9 : Hid (Bx2 wd g2 (wayF (Q9, R9)).1 (wayF (Q9, R9)).2) := hide (by rw [← hwd]; exact HZ2.out.set _ _)
                    replace HBC : Hid (Below w3.heap.size w3 wd) := hide (by rw [← hwd]; exact (HBC.out.setCell HG2.out _).setCell HG2.out _)
                    replace HX8 : Hid (Bx2 wd g1 (wayF (P9, Q9)).1 (wayF (P9, Q9)).2) := hide (by rw [← hwd]; exact HX8.out.far (HNE.out))
                    clear hwd HZ2
                    refine hK _ _ ⟨fun h => absurd h (by decide), ?_⟩
                    clear hK K0
                    refine NoPanic.normal ?_)
                 | (have HZ2 : Hid (Bz (wc.alloc (.cells #[.int .i64 0, .int .i64 0] 53)) wc.heap.size) := hide (Bz.made wc)
                    have hbn : Below wc.heap.size wc (wc.alloc (.cells #[.int .i64 0, .int .i64 0] 53)) := (Below.refl _ _).alloc (Nat.le_refl _) _
                    have HG2 : Hid (w3.heap.size ≤ wc.heap.size) := hide HBC.out.size
                    have HNE : Hid (g1 ≠ wc.heap.size) := hide (Nat.ne_of_lt HZ1.out.1)
                    replace HZ1 := hide (HZ1.out.below hbn)
                    replace HBC := hide (HBC.out.trans (hbn.mono HBC.out.size))
                    obtain ⟨g2, hg2⟩ : ∃ g, wc.heap.size = g := ⟨_, rfl⟩
                    rw [hg2] at HZ2 HG2 HNE ⊢
                    clear hbn hg2
                    obtain ⟨wc, hwc⟩ : ∃ y, wc.alloc (.cells #[.int .i64 0, .int .i64 0] 53) = y := ⟨_, rfl⟩
                    rw [hwc] at HZ2 HBC HZ1 ⊢
                    clear hwc
                    refine hK _ _ ⟨fun _ => HBC.out, ?_⟩
                    clear hK K0)
                 | (have HZ1 : Hid (Bz (wc.alloc (.cells #[.int .i64 0, .int .i64 0] 53)) wc.heap.size) := hide (Bz.made wc)
                    have hbn : Below wc.heap.size wc (wc.alloc (.cells #[.int .i64 0, .int .i64 0] 53)) := (Below.refl _ _).alloc (Nat.le_refl _) _
                    have HG1 : Hid (w3.heap.size ≤ wc.heap.size) := hide HBC.out.size
                    skip
                    replace HBC := hide (HBC.out.trans (hbn.mono HBC.out.size))
                    obtain ⟨g1, hg1⟩ : ∃ g, wc.heap.size = g := ⟨_, rfl⟩
                    rw [hg1] at HZ1 HG1 ⊢
                    clear hbn hg1
                    obtain ⟨wc, hwc⟩ : ∃ y, wc.alloc (.cells #[.int .i64 0, .int .i64 0] 53) = y := ⟨_, rfl⟩
                    rw [hwc] at HZ1 HBC ⊢
                    clear hwc
                    refine hK _ _ ⟨fun _ => HBC.out, ?_⟩
                    clear hK K0)
                 | fail)
            | fail)
          all_goals
            obtain ⟨hx0, hx1, hx2⟩ := HX8.out
            obtain ⟨hy0, hy1, hy2⟩ := HX9.out
            have HBF := hide (HB3.out.trans (HBC.out.mono HB3.out.size))
            have hb1 := mul_one_bd HWB.out.1 HWB.out.2.2.2
            have hb2 := mul_one_bd HWB.out.2.1 HWB.out.2.2.1
            have hsm := HSB.out
            have hne := HNX.out
            unfold crs at hne
            obtain ⟨a1, ha1⟩ : ∃ a, (wayF (P9, Q9)).1 = a := ⟨_, rfl⟩
            obtain ⟨a2, ha2⟩ : ∃ a, (wayF (P9, Q9)).2 = a := ⟨_, rfl⟩
            obtain ⟨c1, hc1⟩ : ∃ a, (wayF (Q9, R9)).1 = a := ⟨_, rfl⟩
            obtain ⟨c2, hc2⟩ : ∃ a, (wayF (Q9, R9)).2 = a := ⟨_, rfl⟩
            rw [ha1] at hx1 hb1 hne
            rw [ha2] at hx2 hb2 hne
            rw [hc1] at hy1 hb2 hne
            rw [hc2] at hy2 hb1 hne
            have HNE3 := hide hne
            have k1 : IntKind.i64.wrap (a1 * c2) = a1 * c2 := wr63 (by omega) (by omega)
            have k2 : IntKind.i64.wrap (a2 * c1) = a2 * c1 := wr63 (by omega) (by omega)
            have k3 : IntKind.i64.wrap (a1 * c2 - a2 * c1) = a1 * c2 - a2 * c1 := wr63 (by omega) (by omega)
            have k4 : IntKind.i64.wrap (SM + (a1 * c2 - a2 * c1)) = SM + (a1 * c2 - a2 * c1) := wr63 (by omega) (by omega)
            clear hb1 hb2 hsm hne ha1 ha2 hc1 hc2 HX8 HX9 HBC
            go_wp2
            go_roundw
            case rel => exact ⟨m + 1, by omega, by go_num, by rw [HNE3.out], HBF⟩
            case measure => simp [intOf]; omega
      · have mz : ¬ (m : Int) < (l.length : Int) := by omega
        obtain rfl : m = l.length := by omega
        have hbd := turnS_bd l l.length
        have hna : (Int.tdiv (turnS l l.length) 4).natAbs = (turnS l l.length).natAbs / 4 := Int.natAbs_tdiv _ _
        have hq : IntKind.i64.wrap (Int.tdiv (turnS l l.length) 4) = Int.tdiv (turnS l l.length) 4 := wr63 (by have := HL.out; omega) (by have := HL.out; omega)
        clear hna hbd
        by_cases hm4 : (turnS l l.length).tmod 4 = 0
        · have hz : ((turnS l l.length).tmod 4 != 0) = false := by simp [hm4]
          have HV2 : Hid (turnO l = (Int.tdiv (turnS l l.length) 4, 0)) := hide (by rw [HV.out, if_pos hm4])
          clear hm4 HV
          generalize turnS l l.length = TS at *
          go_wp2
          go_ret2
          exact ⟨by rw [HV2.out]; rfl, HB.out⟩
        · have hz : ((turnS l l.length).tmod 4 != 0) = true := by simp [hm4]
          have HV2 : Hid (turnO l = (0, 0)) := hide (by rw [HV.out, if_neg hm4])
          clear hm4 HV hq
          generalize turnS l l.length = TS at *
          go_wp2
          go_ret2
          exact ⟨by rw [HV2.out]; rfl, HB.out⟩
  · have hz : (r != 0) = true := by simpa using h0
    have HV : Hid (turnO l = (0, r)) := hide (by rw [HSP.out, if_neg h0])
    clear h0 HSP hr
    go_wp2
    go_ret2
    exact ⟨by rw [HV.out]; rfl, HB0.out⟩
end Go.Proofs.YtdfpbhlnlkjjlaaGreat

/- Outlines: the reference's Rounds. -/
namespace Go.Proofs.YtdfpbhlnlkjjlaaGreat
open Go.RowKit
set_option linter.unusedVariables false
set_option linter.unusedSimpArgs false
end Go.Proofs.YtdfpbhlnlkjjlaaGreat

/- Outlines: the turning that the code and the reference reckon of a loop. -/
namespace Go.Proofs.YtdfpbhlnlkjjlaaGreat
set_option linter.unusedVariables false
set_option linter.unusedSimpArgs false
section
variable {S : Cs} {u : Un} {n : Nat}
theorem way_side (p : Pt) (d : Wy) {t : Nat} (ht : 0 < t) : wayF (p, addW p t d) = d.v := by
 have h : (0 : Int) < (t : Int) := by omega
 unfold wayF addW cmpI
 cases d <;> simp only [Wy.v] <;> refine Prod.ext ?_ ?_ <;> simp only <;> (repeat' split) <;> omega
theorem LpU.rAt (h : LpU S u n) {i : Nat} (hi : i < mC S u n) : ∃ t : Nat, 0 < t ∧ Go.Proofs.YtdfpbhlnlkjjlaaGreat.rAt (lpC S u n) i = addW (cU S u n (i + 1)).1 t (cU S u n (i + 1)).2 := by
 have he := h.even
 unfold Go.Proofs.YtdfpbhlnlkjjlaaGreat.rAt
 rw [lp_len]
 rcases Nat.lt_or_ge (i + 1) (mC S u n) with h1 | h1
 ·obtain ⟨t, ht, _, e, _⟩ := h.side h1
  refine ⟨t, ht, ?_⟩
  rw [← e, ← h.qAt h1]
  show _ = Go.Proofs.YtdfpbhlnlkjjlaaGreat.pAt _ _
  rw [lp_len]
 ·have hm : i + 1 = mC S u n := by omega
  obtain ⟨t, ht, _, e, _⟩ := h.side (i := 0) (by omega)
  rw [h.zero_eq] at e
  refine ⟨t, ht, ?_⟩
  rw [hm, h.end_eq, ← e, show i + 2 = 1 + mC S u n by omega, Nat.add_mod_right, Nat.mod_eq_of_lt (show 1 < mC S u n by omega), h.pAt (by omega)]
theorem LpU.trnP (h : LpU S u n) {i : Nat} (hi : i < mC S u n) : Go.Proofs.YtdfpbhlnlkjjlaaGreat.trnP (lpC S u n) i = crs (cU S u n i).2.v (cU S u n (i + 1)).2.v := by
 obtain ⟨t, ht, e⟩ := h.rAt hi
 obtain ⟨s, hs, _, e2, _⟩ := h.side hi
 unfold Go.Proofs.YtdfpbhlnlkjjlaaGreat.trnP
 rw [e, h.pAt hi, h.qAt hi, way_side _ _ ht, e2, way_side _ _ hs]
theorem smN_congr' {f g : Nat → Int} : ∀ m : Nat, (∀ i, i < m → f i = g i) → smN f m = smN g m
 | 0, _ => rfl
 | m + 1, h => by
  show smN f m + f m = smN g m + g m
  rw [smN_congr' m fun i hi => h i (by omega), h m (by omega)]
theorem LpU.turnS (h : LpU S u n) : (Go.Proofs.YtdfpbhlnlkjjlaaGreat.turnS (lpC S u n) (lpC S u n).length = 4 ∧ Wn S u n (lc u) = 1) ∨ (Go.Proofs.YtdfpbhlnlkjjlaaGreat.turnS (lpC S u n) (lpC S u n).length = -4 ∧ Wn S u n (lc u) = 0) := by
 have e : Go.Proofs.YtdfpbhlnlkjjlaaGreat.turnS (lpC S u n) (lpC S u n).length = smN (fun i => crs (cU S u n i).2.v (cU S u n (i + 1)).2.v) (mC S u n) := by
  unfold Go.Proofs.YtdfpbhlnlkjjlaaGreat.turnS
  rw [lp_len]
  exact smN_congr' _ fun i hi => h.trnP hi
 rw [e]
 exact h.rounds
theorem LpU.crsS (h : LpU S u n) : Go.Proofs.YtdfpbhlnlkjjlaaGreat.crsS (lpC S u n) (lpC S u n).length = smN (fun i => crsP (cU S u n i).1 (cU S u n (i + 1)).1) (mC S u n) := by
 unfold Go.Proofs.YtdfpbhlnlkjjlaaGreat.crsS
 rw [lp_len]
 exact smN_congr' _ fun i hi => by rw [h.pAt hi, h.qAt hi]
theorem LpU.lenS (h : LpU S u n) : Go.Proofs.YtdfpbhlnlkjjlaaGreat.lenS (lpC S u n) (lpC S u n).length = smN (fun i => lenP (cU S u n i).1 (cU S u n (i + 1)).1) (mC S u n) := by
 unfold Go.Proofs.YtdfpbhlnlkjjlaaGreat.lenS
 rw [lp_len]
 exact smN_congr' _ fun i hi => by rw [h.pAt hi, h.qAt hi]
theorem LpU.area (h : LpU S u n) {M : Nat} (hM : bdC S M) : Int.tdiv (Go.Proofs.YtdfpbhlnlkjjlaaGreat.crsS (lpC S u n) (lpC S u n).length) 2 = vol M (fun x y => Wn S u n (x, y)) := by
 rw [h.crsS, h.sum (f := crsP) (g := fun v => crsP v.1 (hdU v)) crs_add, h.cyc.area hM]
 exact Int.mul_tdiv_cancel_left _ (by decide)
end
end Go.Proofs.YtdfpbhlnlkjjlaaGreat

/- Outlines: the sign of a loop's area is the sign of its turning. -/
namespace Go.Proofs.YtdfpbhlnlkjjlaaGreat
set_option linter.unusedVariables false
set_option linter.unusedSimpArgs false
section
variable {S : Cs} {u : Un} {n : Nat}
theorem vol_cell {m : Nat} {F : Int → Int → Int} (h0 : ∀ x y, 0 ≤ F x y) {a b : Int} (ha : -(m : Int) ≤ a ∧ a < m) (hb : -(m : Int) ≤ b ∧ b < m) (h1 : 1 ≤ F a b) : 1 ≤ vol m F := by
 have h2 : vol m (fun x y => ind (rin ⟨a, b, a + 1, b + 1⟩ x y)) ≤ vol m F := vol_le fun x y => by
  by_cases hr : rin ⟨a, b, a + 1, b + 1⟩ x y
  ·have hr2 := hr
   unfold rin at hr2
   simp only at hr2
   rw [ind_t hr, show x = a by omega, show y = b by omega]
   exact h1
  ·rw [ind_f hr]; exact h0 x y
 rw [vol_rect (by simp only; omega) (by simp only; omega) (by simp only; omega) (by simp only; omega)] at h2
 have h3 : box ⟨a, b, a + 1, b + 1⟩ = 1 := by
  unfold box
  simp only
  rw [show a + 1 - a = 1 by omega, show b + 1 - b = 1 by omega]
  rfl
 omega
theorem bdC_up {M : Nat} (h : bdC S M) : bdC S (M + 1) := fun x y hs => by
 have := h x y hs
 omega
theorem LpU.area_sign (h : LpU S u n) {M : Nat} (hM : bdC S M) :
  (Go.Proofs.YtdfpbhlnlkjjlaaGreat.turnS (lpC S u n) (lpC S u n).length = 4 ∧ 0 < Int.tdiv (Go.Proofs.YtdfpbhlnlkjjlaaGreat.crsS (lpC S u n) (lpC S u n).length) 2) ∨ (Go.Proofs.YtdfpbhlnlkjjlaaGreat.turnS (lpC S u n) (lpC S u n).length = -4 ∧ Int.tdiv (Go.Proofs.YtdfpbhlnlkjjlaaGreat.crsS (lpC S u n) (lpC S u n).length) 2 < 0) := by
 rw [h.area (bdC_up hM)]
 have hl := hM _ _ h.cyc.beg.1
 rcases h.turnS with ⟨h1, h2⟩ | ⟨h1, h2⟩
 ·refine .inl ⟨h1, ?_⟩
  have := vol_cell (m := M + 1) (F := fun x y => Wn S u n (x, y)) (fun x y => by have := h.cyc.wn_01 (x, y); omega) (a := (lc u).1) (b := (lc u).2) (by omega) (by omega) (by show 1 ≤ Wn S u n (lc u); omega)
  omega
 ·refine .inr ⟨h1, ?_⟩
  have hx := h.cyc.wn_cross h.cyc.refl_in
  have hr : (-((M + 1 : Nat) : Int) ≤ (rc u).1 ∧ (rc u).1 < ((M + 1 : Nat) : Int)) ∧ -((M + 1 : Nat) : Int) ≤ (rc u).2 ∧ (rc u).2 < ((M + 1 : Nat) : Int) := by
   obtain ⟨⟨x, y⟩, d⟩ := u
   cases d <;> simp only [lc, rc] at hl ⊢ <;> omega
  have h3 := vol_cell (m := M + 1) (F := fun x y => 0 - Wn S u n (x, y)) (fun x y => by have := h.cyc.wn_01 (x, y); omega) (a := (rc u).1) (b := (rc u).2) hr.1 hr.2 (by show 1 ≤ 0 - Wn S u n (rc u); omega)
  have h4 := vol_sub (M + 1) (fun _ _ => 0) (fun x y => Wn S u n (x, y))
  rw [vol_zero] at h4
  omega
end
end Go.Proofs.YtdfpbhlnlkjjlaaGreat

/- Outlines: the areas of all loops add up to the volume of the set; so do the lengths to the number of units. -/
namespace Go.Proofs.YtdfpbhlnlkjjlaaGreat
set_option linter.unusedVariables false
set_option linter.unusedSimpArgs false
section
variable {S : Cs}
def arL (l : List Pt) : Int := Int.tdiv (crsS l l.length) 2
theorem vol_sumT (m : Nat) (F : Un × Nat → Int → Int → Int) : ∀ us : List (Un × Nat), sumT (fun q => vol m (F q)) us = vol m (fun x y => sumT (fun q => F q x y) us)
 | [] => by
  show (0 : Int) = vol m (fun _ _ => 0)
  rw [vol_zero]
 | q :: us => by
  rw [sumT_cons, vol_sumT m F us, ← vol_add]
  exact vol_congr fun x y _ _ _ _ => by rw [sumT_cons]
theorem perm_sum {α : Type} {a b : List α} (f : α → Int) (h : a.Perm b) : (a.map f).sum = (b.map f).sum := by
 induction h with
 | nil => rfl
 | cons x _ ih => simp only [List.map_cons, List.sum_cons, ih]
 | swap x y l => simp only [List.map_cons, List.sum_cons]; omega
 | trans _ _ h1 h2 => exact h1.trans h2
theorem Outl.area {L : List (List Pt)} (h : Outl S L) {M : Nat} (hM : bdC S M) : (L.map arL).sum = vol M (fun x y => if S x y = true then 1 else 0) := by
 obtain ⟨⟨us, ht, hp⟩, _⟩ := h
 rw [perm_sum arL hp, List.map_map]
 have e : (us.map (arL ∘ lpP S)).sum = sumT (fun q => vol M (fun x y => Wn S q.1 q.2 (x, y))) us :=
  sumT_congr (f := arL ∘ lpP S) fun q hq => (ht.lp q hq).area hM
 rw [e, vol_sumT]
 exact vol_congr fun x y _ _ _ _ => by rw [ht.wind hM (x, y)]; rfl
end
end Go.Proofs.YtdfpbhlnlkjjlaaGreat

/- Outlines, plain: filling an outline gives the region back. -/
namespace Go.Proofs.YtdfpbhlnlkjjlaaGreat
set_option linter.unusedVariables false
set_option linter.unusedSimpArgs false
abbrev Wl := Int × Int × Int × Int
def wallQ (p q : Pt) : List Wl := if p.1 = q.1 then [(p.1, min p.2 q.2, max p.2 q.2, cmpI p.2 q.2)] else []
def wallsU (l : List Pt) (m : Nat) : List Wl := (List.range m).flatMap fun i => wallQ (pAt l i) (qAt l i)
def wallsF (L : List (List Pt)) : List Wl := L.flatMap fun l => wallsU l l.length
def wlC (c : Pt) (w : Wl) : Int := if w.1 ≤ c.1 ∧ w.2.1 ≤ c.2 ∧ c.2 < w.2.2.1 then w.2.2.2 else 0
def wlS (c : Pt) (W : List Wl) : Int := (W.map (wlC c)).sum
def xsL (L : List (List Pt)) : List Int := L.flatMap fun l => l.map Prod.fst
def ysL (L : List (List Pt)) : List Int := L.flatMap fun l => l.map Prod.snd
def colF (L : List (List Pt)) (x : Int) : List Sp := canF (cutsOf (ysL L)) ((cutsOf (ysL L)).map fun y => decide (wlS (x, y) (wallsF L) = 1))
def fldF (L : List (List Pt)) : List R4 := flat (sweep (colF L) [] (cutsOf (xsL L)))
theorem wlS_append (c : Pt) (a b : List Wl) : wlS c (a ++ b) = wlS c a + wlS c b := by unfold wlS; rw [List.map_append, List.sum_append]
theorem wlS_congr {c d : Pt} : ∀ {W : List Wl}, (∀ w ∈ W, wlC c w = wlC d w) → wlS c W = wlS d W
 | [], _ => rfl
 | w :: W, h => by
  have := wlS_congr (c := c) (d := d) (W := W) fun v hv => h v (by simp [hv])
  unfold wlS at this ⊢
  rw [List.map_cons, List.map_cons, List.sum_cons, List.sum_cons, this, h w (by simp)]
theorem wlS_none {c : Pt} {W : List Wl} (h : ∀ w ∈ W, wlC c w = 0) : wlS c W = 0 := by
 induction W with
 | nil => rfl
 | cons w W ih =>
  have := ih fun v hv => h v (by simp [hv])
  unfold wlS at this ⊢
  rw [List.map_cons, List.sum_cons, this, h w (by simp)]
  rfl
theorem wallQ_wnd (c p q : Pt) : wlS c (wallQ p q) = wndP c p q := by
 unfold wallQ wndP
 by_cases h : p.1 = q.1
 ·rw [if_pos h]
  unfold wlS wlC cmpI
  simp only [List.map_cons, List.map_nil, List.sum_cons, List.sum_nil]
  repeat' split
  all_goals omega
 ·rw [if_neg h, if_neg fun h2 => h h2.1]
  rfl
theorem wallsU_wnd (c : Pt) (l : List Pt) : ∀ m, wlS c (wallsU l m) = smN (fun i => wndP c (pAt l i) (qAt l i)) m
 | 0 => rfl
 | m + 1 => by
  have e : wallsU l (m + 1) = wallsU l m ++ wallQ (pAt l m) (qAt l m) := by unfold wallsU; rw [List.range_succ, List.flatMap_append]; simp
  rw [e, wlS_append, wallsU_wnd c l m, wallQ_wnd, smN_succ]
theorem LpU.wlS {S : Cs} {u : Un} {n : Nat} (h : LpU S u n) (c : Pt) : wlS c (wallsU (lpC S u n) (lpC S u n).length) = Wn S u n c := by
 rw [wallsU_wnd, lp_len]
 rw [smN_congr' _ (g := fun i => wndP c (cU S u n i).1 (cU S u n (i + 1)).1) fun i hi => by rw [h.pAt hi, h.qAt hi]]
 exact h.sum (g := fun v => om c v) fun p d t => wnd_add c p d t
theorem wlS_flat (c : Pt) : ∀ L : List (List Pt), wlS c (wallsF L) = (L.map fun l => wlS c (wallsU l l.length)).sum
 | [] => rfl
 | l :: L => by
  have e : wallsF (l :: L) = wallsU l l.length ++ wallsF L := by unfold wallsF; rw [List.flatMap_cons]
  rw [e, wlS_append, wlS_flat c L, List.map_cons, List.sum_cons]
theorem Outl.walls {S : Cs} {L : List (List Pt)} (h : Outl S L) {M : Nat} (hM : bdC S M) (c : Pt) : wlS c (wallsF L) = if inC S c = true then 1 else 0 := by
 obtain ⟨⟨us, ht, hp⟩, _⟩ := h
 rw [wlS_flat, perm_sum (fun l => wlS c (wallsU l l.length)) hp, List.map_map, ← ht.wind hM c]
 unfold sumT
 exact congrArg List.sum (List.map_congr_left fun q hq => (ht.lp q hq).wlS c)
theorem pAt_mem {l : List Pt} {i : Nat} (h : i < l.length) : pAt l i ∈ l := List.mem_of_getElem? (pAt_get h)
theorem qAt_mem {l : List Pt} {i : Nat} (h : i < l.length) : qAt l i ∈ l := pAt_mem (Nat.mod_lt _ (by omega))
theorem walls_in {L : List (List Pt)} {w : Wl} (hw : w ∈ wallsF L) : w.1 ∈ xsL L ∧ w.2.1 ∈ ysL L ∧ w.2.2.1 ∈ ysL L := by
 obtain ⟨l, hl, hw⟩ := List.mem_flatMap.1 hw
 obtain ⟨i, hi, hw⟩ := List.mem_flatMap.1 hw
 rw [List.mem_range] at hi
 unfold wallQ at hw
 split at hw
 ·obtain rfl := List.mem_singleton.1 hw
  have hp := pAt_mem hi
  have hq := qAt_mem hi
  have y1 : (pAt l i).2 ∈ ysL L := List.mem_flatMap.2 ⟨l, hl, List.mem_map.2 ⟨_, hp, rfl⟩⟩
  have y2 : (qAt l i).2 ∈ ysL L := List.mem_flatMap.2 ⟨l, hl, List.mem_map.2 ⟨_, hq, rfl⟩⟩
  refine ⟨List.mem_flatMap.2 ⟨l, hl, List.mem_map.2 ⟨_, hp, rfl⟩⟩, ?_, ?_⟩
  ·show min (pAt l i).2 (qAt l i).2 ∈ _
   rcases Int.le_total (pAt l i).2 (qAt l i).2 with h | h
   ·rw [Int.min_eq_left h]; exact y1
   ·rw [Int.min_eq_right h]; exact y2
  ·show max (pAt l i).2 (qAt l i).2 ∈ _
   rcases Int.le_total (pAt l i).2 (qAt l i).2 with h | h
   ·rw [Int.max_eq_right h]; exact y2
   ·rw [Int.max_eq_left h]; exact y1
 ·simp at hw
theorem fld_ok {S : Cs} {L : List (List Pt)} (h : Outl S L) {M : Nat} (hM : bdC S M) : RCan (fldF L) ∧ ∀ x y, pmem (fldF L) x y ↔ S x y = true := by
 have hw := fun c => h.walls hM c
 have hW : ∀ x y, wlS (x, y) (wallsF L) = 1 ↔ S x y = true := fun x y => by
  rw [hw]
  show (if S x y = true then (1 : Int) else 0) = 1 ↔ _
  split <;> simp_all
 obtain ⟨x1, x2⟩ := cutsOf_ok (xsL L)
 obtain ⟨y1, y2⟩ := cutsOf_ok (ysL L)
 have hcol : ∀ x, SCan (colF L x) ∧ ∀ y, smem (colF L x) y ↔ S x y = true := fun x => by
  refine canF_ok (H := fun y => S x y = true) y1 (fun c d y hc hd hcd hg h1 h2 => ?_) (fun y hy => ?_) (fun y hy => ?_)
  ·rw [← hW, decide_eq_true_eq]
   have : wlS (x, y) (wallsF L) = wlS (x, c) (wallsF L) := wlS_congr fun w hw => by
    obtain ⟨_, g1, g2⟩ := walls_in hw
    have := hg _ ((y2 _).2 g1)
    have := hg _ ((y2 _).2 g2)
    unfold wlC
    by_cases k : w.1 ≤ x ∧ w.2.1 ≤ c ∧ c < w.2.2.1
    ·rw [if_pos k, if_pos ⟨k.1, by simp only; omega, by simp only; omega⟩]
    ·rw [if_neg k, if_neg fun k2 => k ⟨k2.1, by simp only at k2; omega, by simp only at k2; omega⟩]
   rw [this]
  ·rw [← hW, wlS_none]
   ·simp
   ·intro w hw
    obtain ⟨_, g1, g2⟩ := walls_in hw
    have := hy _ ((y2 _).2 g2)
    unfold wlC
    exact if_neg fun k => by simp only at k; omega
  ·rw [← hW, wlS_none]
   ·simp
   ·intro w hw
    obtain ⟨_, g1, g2⟩ := walls_in hw
    have := hy _ ((y2 _).2 g1)
    unfold wlC
    exact if_neg fun k => by simp only at k; omega
 refine sweep_ok (H := fun x y => S x y = true) x1 (fun c _ => (hcol c).1) (fun c d x y hc hd hcd hg h1 h2 => ?_) (fun x y hx => ?_) (fun x y hx => ?_)
 ·rw [(hcol c).2, ← hW, ← hW]
  have : wlS (x, y) (wallsF L) = wlS (c, y) (wallsF L) := wlS_congr fun w hw => by
   have := hg _ ((x2 _).2 (walls_in hw).1)
   unfold wlC
   by_cases k : w.1 ≤ c ∧ w.2.1 ≤ y ∧ y < w.2.2.1
   ·rw [if_pos k, if_pos ⟨by simp only; omega, k.2⟩]
   ·rw [if_neg k, if_neg fun k2 => k ⟨by simp only at k2; omega, k2.2⟩]
  rw [this]
 ·rw [← hW]
  have : wlS (x, y) (wallsF L) = wlS (max x M, y) (wallsF L) := wlS_congr fun w hw => by
   have := hx _ ((x2 _).2 (walls_in hw).1)
   unfold wlC
   by_cases k : w.1 ≤ x ∧ w.2.1 ≤ y ∧ y < w.2.2.1
   ·rw [if_pos k, if_pos ⟨by simp only; omega, k.2⟩]
   ·rw [if_neg k, if_neg fun k2 => k ⟨by simp only at k2; omega, k2.2⟩]
  rw [this, hW]
  intro hS
  have := hM _ _ hS
  omega
 ·rw [← hW, wlS_none]
  ·simp
  ·intro w hw
   have := hx _ ((x2 _).2 (walls_in hw).1)
   unfold wlC
   exact if_neg fun k => by simp only at k; omega
theorem fld_back {l : List R4} {L : List (List Pt)} (hc : RCan l) (h : Outl (setR l) L) {M : Nat} (hM : bdC (setR l) M) : fldF L = l := by
 obtain ⟨h1, h2⟩ := fld_ok h hM
 refine h1.ext hc fun x y => ?_
 rw [h2]
 simp [setR]
def filF (L : List (List Pt)) : List R4 := flat ((prs (cutsOf (xsL L))).map fun p => ⟨p.1, p.2, colF L p.1⟩)
def joinS (SL : List Slab) : List Slab := SL.foldl (fun S a => addS S a.f a.t a.s) []
theorem fld_join (L : List (List Pt)) : fldF L = flat (joinS ((prs (cutsOf (xsL L))).map fun p => ⟨p.1, p.2, colF L p.1⟩)) := by
 unfold fldF joinS
 rw [sweep_prs, List.foldl_map]
end Go.Proofs.YtdfpbhlnlkjjlaaGreat

/- slices.SortFunc at outline's walls. -/
namespace Go.Proofs.YtdfpbhlnlkjjlaaGreat
open Go.RowKit Go.Sort
set_option linter.unusedVariables false
set_option linter.unusedSimpArgs false
def encW (w : Wl) : List Value := [.int .i64 w.1, .int .i64 w.2.1, .int .i64 w.2.2.1, .int .i64 w.2.2.2]
def finW (w : Wl) : Prop := -1000000 ≤ w.1 ∧ w.1 ≤ 1000000
abbrev BWl := { w : Wl // finW w }
instance : Inhabited BWl := ⟨⟨(0, 0, 0, 0), by unfold finW; decide⟩⟩
def encBw (e : BWl) : List Value := encW e.1
def cfW (x y : BWl) : Int := x.1.1 - y.1.1
theorem lift_bw : ∀ (E : List Wl), (∀ e ∈ E, finW e) → ∃ L : List BWl, L.map (·.1) = E
 | [], _ => ⟨[], rfl⟩
 | e :: E, h => by
  obtain ⟨L, hL⟩ := lift_bw E fun x hx => h x (by simp [hx])
  exact ⟨⟨e, h e (by simp)⟩ :: L, by simp [hL]⟩
theorem flat_bw (L : List BWl) : L.flatMap encBw = (L.map (·.1)).flatMap encW := by
 rw [List.flatMap_map]; rfl
theorem cfW_lt (x y : BWl) : ltOf cfW x y = decide (x.1.1 < y.1.1) := by
 unfold ltOf cfW
 rw [decide_eq_decide]
 omega
theorem swoW : SWO (ltOf cfW) where
 irrefl x := by rw [cfW_lt]; exact decide_eq_false (by omega)
 trans x y z h1 h2 := by
  rw [cfW_lt] at *
  have a := of_decide_eq_true h1
  have b := of_decide_eq_true h2
  exact decide_eq_true (by omega)
 ntrans x y z h1 h2 := by
  rw [cfW_lt] at *
  have a := of_decide_eq_false h1
  have b := of_decide_eq_false h2
  exact decide_eq_false (by omega)
set_option maxHeartbeats 1000000 in
theorem cmpW_any (x y : BWl) (W : World) : Calls Tryz.prog 85 #[.agg (encBw x).toArray, .agg (encBw y).toArray] W fun e w' => e = .returned (.int .i64 (cfW x y)) ∧ ∃ q os', w' = grow (W.drewN q) os' := by
 obtain ⟨⟨a, b, c, d⟩, hx⟩ := x
 obtain ⟨⟨e, f, g, h⟩, hy⟩ := y
 unfold finW at hx hy
 simp only at hx hy
 obtain ⟨x1, x2⟩ := hx
 obtain ⟨y1, y2⟩ := hy
 have hw : IntKind.i64.wrap (a - e) = a - e := by simp [IntKind.wrap, IntKind.bits, IntKind.signed]; omega
 show Calls Tryz.prog 85 #[.agg #[.int .i64 a, .int .i64 b, .int .i64 c, .int .i64 d], .agg #[.int .i64 e, .int .i64 f, .int .i64 g, .int .i64 h]] W fun r w' => r = .returned (.int .i64 (a - e)) ∧ ∃ q os', w' = grow (W.drewN q) os'
 go_enter Tryz.func85, Tryz.ntmps85
 go_wp2
 go_ret
 exact ⟨rfl, 0, _, by rw [alloc_eq_grow, alloc_eq_grow, grow_grow]; rfl⟩
theorem sortWl_any (base : Nat) (v : Value) (E : List Wl) (hB : ∀ e ∈ E, finW e) (w : World) (hown : w.ownsRow base 136 4 v E.length (E.flatMap encW)) (hsz : E.length < 4611686018427387904) :
  Calls Tryz.prog 84 #[v, .func (.func 85) #[] #[]] w fun e w' => e = .returned (.tuple #[]) ∧
   ∃ E' : List Wl, E'.Perm E ∧ E'.Pairwise (fun a b => ¬ b.1 < a.1) ∧ w'.ownsRow base 136 4 v E'.length (E'.flatMap encW) ∧ w.grownBy w' v.ownBlock := by
 by_cases h0 : E = []
 ·subst h0
  obtain ⟨p, cap, hv⟩ : ∃ p cap, v = .slice p 0 cap := by
   rcases hown.2 with ⟨rfl, _⟩ | ⟨g, cap, cur, rfl, _⟩
   ·exact ⟨_, _, rfl⟩
   ·exact ⟨_, _, rfl⟩
  subst hv
  have h := AnyF.slices_SortFunc_none Tryz.sortWl p cap (.func (.func 85) #[] #[]) w
  change Calls Tryz.prog 84 _ _ _ at h
  refine h.mono ?_
  rintro e w' ⟨rfl, rfl⟩
  exact ⟨rfl, [], .refl _, .nil, hown, ⟨rfl, rfl, rfl, Nat.le_refl _, fun _ _ _ => rfl⟩⟩
 ·obtain ⟨L, hL⟩ := lift_bw E hB
  have hlen : L.length = E.length := by rw [← hL]; simp
  have hown0 := hown
  rw [← hL, ← flat_bw, List.length_map] at hown
  obtain ⟨g, cap, rfl, hbg, hg⟩ := hown.form (by rw [hlen]; exact List.length_pos_iff.2 h0)
  have hk : ∀ x : BWl, (encBw x).length = 4 := fun _ => rfl
  have hcon := AnyQ.slices_SortFunc Tryz.sortWl 4 Tryz.isAgg136 Tryz.sizeOf136 encBw hk (fun x v hv => by simp [encBw, encW] at hv; rcases hv with rfl | rfl | rfl | rfl <;> rfl) cfW swoW 85 #[] g 0 cap L.toArray w
   (enters_of Tryz.func85 (by kernel_rfl) rfl) (fun _ _ _ _ x y => cmpW_any x y _) (own_holds hk hown) hg (by simpa [hlen] using hsz)
  change Calls Tryz.prog 84 _ _ _ at hcon
  rw [List.size_toArray] at hcon
  refine hcon.mono ?_
  rintro e w' ⟨rfl, d', n, os, hp, hs, rfl⟩
  obtain ⟨hp1, _, hp3⟩ := hp
  have hsz' : d'.toList.length = L.length := by simpa using hp1
  have hperm : d'.toList.Perm L := by
   have e1 : (d'.extract 0 L.length).toList = d'.toList := by
    rw [Array.toList_extract, List.extract_eq_take_drop, List.drop_zero, Nat.sub_zero, ← hsz', List.take_length]
   have e2 : (L.toArray.extract 0 L.length).toList = L := by
    simp [List.extract]
   rw [e1, e2] at hp3
   exact hp3
  obtain ⟨o1, o2⟩ := own_sorted (n := n) (l' := d'.toList) hk os hown hsz'
  have eW : d'.toList.toArray = d' := by simp
  rw [eW] at o1 o2
  refine ⟨rfl, d'.toList.map (·.1), ?_, ?_, ?_, o2⟩
  ·rw [← hL]; exact hperm.map _
  ·rw [List.pairwise_map, List.pairwise_iff_getElem]
   intro i j hi hj hij
   have := hs i j (Nat.zero_le _) hij (by rw [← hsz']; exact hj)
   have hi' : i < d'.size := by simpa using hi
   have hj' : j < d'.size := by simpa using hj
   rw [getElem!_pos d' i hi', getElem!_pos d' j hj', cfW_lt] at this
   have := of_decide_eq_false this
   rw [Array.getElem_toList, Array.getElem_toList]
   exact this
  ·rw [List.length_map, ← flat_bw, ← hsz']
   rw [hsz'] at o1 ⊢
   exact o1
end Go.Proofs.YtdfpbhlnlkjjlaaGreat

/- Outlines, plain: what filled keeps while it runs. -/
namespace Go.Proofs.YtdfpbhlnlkjjlaaGreat
open Go.RowKit
set_option linter.unusedVariables false
set_option linter.unusedSimpArgs false
def cntW (V : List Wl) (y : Int) : Int := (V.map fun w => if w.2.1 ≤ y ∧ y < w.2.2.1 then w.2.2.2 else 0).sum
theorem cntW_snoc (V : List Wl) (w : Wl) (y : Int) : cntW (V ++ [w]) y = cntW V y + if w.2.1 ≤ y ∧ y < w.2.2.1 then w.2.2.2 else 0 := by
 unfold cntW
 rw [List.map_append, List.sum_append]
 simp
theorem cntW_bd {V : List Wl} (h : ∀ w ∈ V, -1 ≤ w.2.2.2 ∧ w.2.2.2 ≤ 1) (y : Int) : -(V.length : Int) ≤ cntW V y ∧ cntW V y ≤ V.length := by
 induction V with
 | nil => simp [cntW]
 | cons w V ih =>
  have h1 := ih fun a ha => h a (by simp [ha])
  have h2 := h w (by simp)
  have e : cntW (w :: V) y = (if w.2.1 ≤ y ∧ y < w.2.2.1 then w.2.2.2 else 0) + cntW V y := by unfold cntW; rw [List.map_cons, List.sum_cons]
  rw [e, List.length_cons]
  split <;> omega
theorem perm_sumO {a b : List Int} (h : a.Perm b) : a.sum = b.sum := by
 induction h with
 | nil => rfl
 | cons x _ ih => rw [List.sum_cons, List.sum_cons, ih]
 | swap x y l => rw [List.sum_cons, List.sum_cons, List.sum_cons, List.sum_cons]; omega
 | trans _ _ ih1 ih2 => exact ih1.trans ih2
structure SrtW (W V : List Wl) : Prop where
 perm : V.Perm W
 srt : V.Pairwise fun a b => ¬ b.1 < a.1
theorem SrtW.mem {W V : List Wl} (h : SrtW W V) {w : Wl} : w ∈ V ↔ w ∈ W := h.perm.mem_iff
def AtX (V : List Wl) (x : Int) (m : Nat) : Prop := (∀ w ∈ V.take m, w.1 ≤ x) ∧ ∀ w ∈ V.drop m, x ≤ w.1
theorem AtX.step {W V : List Wl} (hs : SrtW W V) {x : Int} {m : Nat} (h : AtX V x m) {w : Wl} (hw : V[m]? = some w) (hx : w.1 = x) : AtX V x (m + 1) := by
 refine ⟨fun a ha => ?_, fun a ha => h.2 a ?_⟩
 ·rw [List.take_add_one, hw] at ha
  rcases List.mem_append.1 ha with h1 | h1
  ·exact h.1 a h1
  ·obtain rfl : a = w := by simpa using h1
   omega
 ·rw [← List.drop_drop] at ha
  exact List.mem_of_mem_drop ha
theorem AtX.over {W V : List Wl} (hs : SrtW W V) {x : Int} {m : Nat} (h : AtX V x m) (hw : ∀ w, V[m]? = some w → w.1 ≠ x) : ∀ w ∈ V.drop m, x < w.1 := by
 intro a ha
 obtain ⟨j, hj, rfl⟩ := List.mem_iff_getElem.1 ha
 have hm : m < V.length := by rw [List.length_drop] at hj; omega
 have h0 := hw V[m] (List.getElem?_eq_getElem hm)
 have h1 := h.2 V[m] (by rw [List.drop_eq_getElem_cons hm]; exact List.mem_cons_self)
 have h2 : (List.drop m V)[j] = V[m + j]'(by rw [List.length_drop] at hj; omega) := List.getElem_drop
 rw [h2]
 rcases Nat.eq_zero_or_pos j with rfl | hp
 ·simp only [Nat.add_zero]; omega
 ·have := List.pairwise_iff_getElem.1 hs.srt m (m + j) hm (by rw [List.length_drop] at hj; omega) (by omega)
  omega
theorem AtX.exit {W V : List Wl} (hs : SrtW W V) {x : Int} {m : Nat} (h : AtX V x m) (hw : ∀ w, V[m]? = some w → w.1 ≠ x) (y : Int) : cntW (V.take m) y = wlS (x, y) W := by
 have e : wlS (x, y) W = wlS (x, y) V := by
  unfold wlS
  exact (perm_sumO (hs.perm.map _)).symm
 rw [e]
 conv => rhs; rw [← List.take_append_drop m V]
 rw [wlS_append, wlS_none (W := V.drop m) fun w h5 => by
  have := h.over hs hw w h5
  unfold wlC
  rw [if_neg]
  simp only
  omega, Int.add_zero]
 unfold cntW wlS
 congr 1
 refine List.map_congr_left fun w h5 => ?_
 have := h.1 w h5
 unfold wlC
 simp only [this, true_and]
theorem AtX.next {W V : List Wl} (hs : SrtW W V) {xs : List Int} (hx : xs.Pairwise (· < ·)) (hmem : ∀ w ∈ W, w.1 ∈ xs) {i : Nat} {x x' : Int} (h1 : xs[i]? = some x) (h2 : xs[i + 1]? = some x') {m : Nat} (h : AtX V x m) (hw : ∀ w, V[m]? = some w → w.1 ≠ x) : AtX V x' m := by
  have hlt : x < x' := by
    obtain ⟨a1, rfl⟩ := List.getElem?_eq_some_iff.1 h1
    obtain ⟨a2, rfl⟩ := List.getElem?_eq_some_iff.1 h2
    exact List.pairwise_iff_getElem.1 hx i (i + 1) a1 a2 (by omega)
  refine ⟨fun w hw => by have := h.1 w hw; omega, fun w hw2 => ?_⟩
  have h3 := h.over hs hw w hw2
  have h4 : w.1 ∈ xs := hmem w (hs.mem.1 (List.mem_of_mem_drop hw2))
  obtain ⟨j, hj, e⟩ := List.mem_iff_getElem.1 h4
  obtain ⟨a1, rfl⟩ := List.getElem?_eq_some_iff.1 h1
  obtain ⟨a2, rfl⟩ := List.getElem?_eq_some_iff.1 h2
  rw [← e] at h3 ⊢
  rcases Nat.lt_or_ge j (i + 1) with h5 | h5
  · rcases Nat.lt_or_ge j i with h6 | h6
    · have := List.pairwise_iff_getElem.1 hx j i hj a1 h6
      omega
    · obtain rfl : j = i := by omega
      omega
  · rcases Nat.lt_or_ge (i + 1) j with h6 | h6
    · have := List.pairwise_iff_getElem.1 hx (i + 1) j a2 hj h6
      omega
    · obtain rfl : j = i + 1 := by omega
      omega
theorem AtX.start {W V : List Wl} (hs : SrtW W V) {xs : List Int} (hx : xs.Pairwise (· < ·)) (hmem : ∀ w ∈ W, w.1 ∈ xs) {x : Int} (h1 : xs[0]? = some x) : AtX V x 0 := by
  refine ⟨fun w hw => by simp at hw, fun w hw => ?_⟩
  obtain ⟨j, hj, e⟩ := List.mem_iff_getElem.1 (hmem w (hs.mem.1 (by simpa using hw)))
  obtain ⟨a1, rfl⟩ := List.getElem?_eq_some_iff.1 h1
  rw [← e]
  rcases Nat.eq_zero_or_pos j with rfl | h5
  · omega
  · have := List.pairwise_iff_getElem.1 hx 0 j a1 hj h5
    omega
def cnM (V V' : List Wl) (ys : List Int) (k : Nat) : List Int := (ys.take k).map (cntW V') ++ (ys.drop k).map (cntW V)
theorem cnM_zero (V V' : List Wl) (ys : List Int) : cnM V V' ys 0 = ys.map (cntW V) := by simp [cnM]
theorem cnM_all (V V' : List Wl) (ys : List Int) : cnM V V' ys ys.length = ys.map (cntW V') := by simp [cnM]
theorem cnM_at {V V' : List Wl} {ys : List Int} {k : Nat} {y : Int} (hy : ys[k]? = some y) : (cnM V V' ys k)[k]? = some (cntW V y) := by
 obtain ⟨h1, rfl⟩ := List.getElem?_eq_some_iff.1 hy
 unfold cnM
 rw [List.getElem?_append_right (by rw [List.length_map, List.length_take]; omega), List.length_map, List.length_take, Nat.min_eq_left (by omega), Nat.sub_self, List.drop_eq_getElem_cons h1]
 rfl
theorem cnM_set {V V' : List Wl} {ys : List Int} {k : Nat} {y : Int} (hy : ys[k]? = some y) : (cnM V V' ys k).set k (cntW V' y) = cnM V V' ys (k + 1) := by
 obtain ⟨h1, rfl⟩ := List.getElem?_eq_some_iff.1 hy
 unfold cnM
 rw [List.set_append_right _ _ (by rw [List.length_map, List.length_take]; omega), List.length_map, List.length_take, Nat.min_eq_left (by omega), Nat.sub_self, List.drop_eq_getElem_cons h1, List.map_cons, List.set_cons_zero, List.take_add_one, List.getElem?_eq_getElem h1, Option.toList_some, List.map_append, List.append_assoc]
 rfl
theorem cnM_same {V V' : List Wl} {ys : List Int} {k : Nat} {y : Int} (hy : ys[k]? = some y) (he : cntW V' y = cntW V y) : cnM V V' ys (k + 1) = cnM V V' ys k := by
 rw [← cnM_set hy, he]
 obtain ⟨h1, h2⟩ := List.getElem?_eq_some_iff.1 (cnM_at (V := V) (V' := V') hy)
 rw [← h2, List.set_getElem_self]
def stepF (O : List R4) (x y x' y' : Int) : List R4 :=
 match O.getLast? with
 | some r => if r.x0 = x ∧ r.y1 = y then O.dropLast ++ [⟨r.x0, r.y0, r.x1, y'⟩] else O ++ [⟨x, y, x', y'⟩]
 | none => O ++ [⟨x, y, x', y'⟩]
def colR (x x' : Int) (s : List Sp) : List R4 := s.map fun p => ⟨x, p.1, x', p.2⟩
theorem stepF_col {F : List R4} {x y x' y' : Int} (hF : ∀ r ∈ F, r.x0 < x) (s : List Sp) : stepF (F ++ colR x x' s) x y x' y' = F ++ colR x x' (sext s y y') := by
 unfold stepF sext
 rcases List.eq_nil_or_concat s with rfl | ⟨q, ⟨a, b⟩, rfl⟩
 ·have e : colR x x' [] = [] := rfl
  rw [e, List.append_nil]
  rcases List.eq_nil_or_concat F with rfl | ⟨G, r, rfl⟩
  ·rfl
  ·have := hF r (by simp)
   have hne : ¬ (r.x0 = x ∧ r.y1 = y) := by omega
   simp [List.concat_eq_append, hne, colR]
 ·have e : F ++ colR x x' (q.concat (a, b)) = (F ++ colR x x' q) ++ [⟨x, a, x', b⟩] := by simp [colR, List.concat_eq_append]
  rw [e]
  by_cases hb : b = y
  ·simp [hb, colR, List.concat_eq_append]
  ·simp [hb, colR, List.concat_eq_append]
def preF (L : List (List Pt)) (i : Nat) : List R4 := flat (((prs (cutsOf (xsL L))).take i).map fun p => ⟨p.1, p.2, colF L p.1⟩)
theorem preF_step {L : List (List Pt)} {i : Nat} {x x' : Int} (h1 : (cutsOf (xsL L))[i]? = some x) (h2 : (cutsOf (xsL L))[i + 1]? = some x') : preF L (i + 1) = preF L i ++ colR x x' (colF L x) := by
 unfold preF
 rw [List.take_add_one, prs_get _ _ _ _ h1 h2, Option.toList_some, List.map_append, flat_append]
 congr 1
 simp [flat, flat1, colR]
theorem preF_all {L : List (List Pt)} {i : Nat} (h : (cutsOf (xsL L)).length ≤ i + 1) : preF L i = filF L := by
 unfold preF filF
 rw [List.take_of_length_le (by rw [prs_len]; omega)]
theorem preF_left {L : List (List Pt)} {i : Nat} {x : Int} (h1 : (cutsOf (xsL L))[i]? = some x) : ∀ r ∈ preF L i, r.x0 < x := by
 intro r hr
 unfold preF flat at hr
 obtain ⟨a, ha, hr⟩ := List.mem_flatMap.1 hr
 obtain ⟨p, hp, rfl⟩ := List.mem_map.1 ha
 obtain ⟨j, hj, e⟩ := List.mem_iff_getElem.1 hp
 have hj2 : j < i ∧ j < (prs (cutsOf (xsL L))).length := by rw [List.length_take] at hj; omega
 have hlen := prs_len (cutsOf (xsL L))
 have e2 : (prs (cutsOf (xsL L)))[j]? = some p := by
  rw [List.getElem?_eq_getElem hj2.2, ← e, List.getElem_take]
 have g1 : j < (cutsOf (xsL L)).length := by omega
 have g2 : j + 1 < (cutsOf (xsL L)).length := by omega
 rw [prs_get _ _ _ _ (List.getElem?_eq_getElem g1) (List.getElem?_eq_getElem g2)] at e2
 have e3 : r.x0 = p.1 := by
  unfold flat1 at hr
  obtain ⟨q, _, rfl⟩ := List.mem_map.1 hr
  rfl
 injection e2 with e2
 rw [e3, ← e2]
 obtain ⟨a1, rfl⟩ := List.getElem?_eq_some_iff.1 h1
 exact List.pairwise_iff_getElem.1 (cutsOf_ok (xsL L)).1 j i g1 a1 hj2.1
def bsF (L : List (List Pt)) (x : Int) : List Bool := (cutsOf (ysL L)).map fun y => decide (wlS (x, y) (wallsF L) = 1)
theorem colF_len (L : List (List Pt)) (x : Int) : (colF L x).length ≤ (ysL L).length := Nat.le_trans (canF_len _ _) (cutsOf_len _)
theorem preF_len (L : List (List Pt)) {n : Nat} (hx : (xsL L).length ≤ n) (hy : (ysL L).length ≤ n) (i : Nat) : (preF L i).length ≤ n * n := by
 have h1 := flat_le (n := n) (S := ((prs (cutsOf (xsL L))).take i).map fun p => (⟨p.1, p.2, colF L p.1⟩ : Slab)) fun a ha => by
  obtain ⟨p, _, rfl⟩ := List.mem_map.1 ha
  exact Nat.le_trans (colF_len L p.1) hy
 have h2 : (((prs (cutsOf (xsL L))).take i).map fun p => (⟨p.1, p.2, colF L p.1⟩ : Slab)).length ≤ n := by
  rw [List.length_map, List.length_take, prs_len]
  have := cutsOf_len (xsL L)
  omega
 exact Nat.le_trans h1 (Nat.mul_le_mul h2 (Nat.le_refl _))
def wlA (L : List (List Pt)) (l : List Pt) (k m : Nat) : List Wl := wallsF (L.take k) ++ wallsU l m
def xsA (L : List (List Pt)) (l : List Pt) (k m : Nat) : List Int := xsL (L.take k) ++ (l.take m).map Prod.fst
def ysA (L : List (List Pt)) (l : List Pt) (k m : Nat) : List Int := ysL (L.take k) ++ (l.take m).map Prod.snd
theorem wlA_step (L : List (List Pt)) (l : List Pt) (k m : Nat) : wlA L l k (m + 1) = wlA L l k m ++ wallQ (pAt l m) (qAt l m) := by
 unfold wlA wallsU
 rw [List.range_succ, List.flatMap_append, List.append_assoc]
 simp
theorem xsA_step {L : List (List Pt)} {l : List Pt} {k m : Nat} (hm : m < l.length) : xsA L l k (m + 1) = xsA L l k m ++ [(pAt l m).1] := by
 unfold xsA
 rw [List.take_add_one, pAt_get hm, Option.toList_some, List.map_append, List.append_assoc]
 rfl
theorem ysA_step {L : List (List Pt)} {l : List Pt} {k m : Nat} (hm : m < l.length) : ysA L l k (m + 1) = ysA L l k m ++ [(pAt l m).2] := by
 unfold ysA
 rw [List.take_add_one, pAt_get hm, Option.toList_some, List.map_append, List.append_assoc]
 rfl
theorem P_zero (L : List (List Pt)) (l : List Pt) (k : Nat) : wlA L l k 0 = wallsF (L.take k) ∧ xsA L l k 0 = xsL (L.take k) ∧ ysA L l k 0 = ysL (L.take k) := by
 simp [wlA, xsA, ysA, wallsU]
theorem P_all {L : List (List Pt)} {l : List Pt} {k : Nat} (hl : L[k]? = some l) : wlA L l k l.length = wallsF (L.take (k + 1)) ∧ xsA L l k l.length = xsL (L.take (k + 1)) ∧ ysA L l k l.length = ysL (L.take (k + 1)) := by
 unfold wlA xsA ysA wallsF xsL ysL
 rw [List.take_add_one, hl]
 simp
theorem wallQ_len (p q : Pt) : (wallQ p q).length ≤ 1 := by unfold wallQ; split <;> simp
theorem wallsU_len (l : List Pt) : ∀ m, (wallsU l m).length ≤ m
 | 0 => by simp [wallsU]
 | m + 1 => by
  have h1 := wallsU_len l m
  have h2 := wallQ_len (pAt l m) (qAt l m)
  have e : wallsU l (m + 1) = wallsU l m ++ wallQ (pAt l m) (qAt l m) := by
   unfold wallsU
   rw [List.range_succ, List.flatMap_append]
   simp
  rw [e, List.length_append]
  omega
theorem wallsF_len : ∀ L : List (List Pt), (wallsF L).length ≤ (L.map List.length).sum
 | [] => by simp [wallsF]
 | l :: L => by
  have h1 := wallsF_len L
  have h2 := wallsU_len l l.length
  have e : wallsF (l :: L) = wallsU l l.length ++ wallsF L := by simp [wallsF]
  rw [e, List.length_append, List.map_cons, List.sum_cons]
  omega
theorem xsL_len : ∀ L : List (List Pt), (xsL L).length = (L.map List.length).sum ∧ (ysL L).length = (L.map List.length).sum
 | [] => by simp [xsL, ysL]
 | l :: L => by
  have h1 := xsL_len L
  have e : xsL (l :: L) = l.map Prod.fst ++ xsL L := by simp [xsL]
  have f : ysL (l :: L) = l.map Prod.snd ++ ysL L := by simp [ysL]
  rw [e, f, List.length_append, List.length_append, List.map_cons, List.sum_cons, List.length_map, List.length_map]
  omega
theorem sum_takeO : ∀ (L : List (List Pt)) (k : Nat), ((L.take k).map List.length).sum ≤ (L.map List.length).sum
 | [], k => by simp
 | l :: L, 0 => by simp
 | l :: L, k + 1 => by
  have := sum_takeO L k
  rw [List.take_succ_cons, List.map_cons, List.map_cons, List.sum_cons, List.sum_cons]
  omega
theorem sum_takeL {L : List (List Pt)} {l : List Pt} {k : Nat} (hl : L[k]? = some l) : ((L.take k).map List.length).sum + l.length ≤ (L.map List.length).sum := by
 have h1 := sum_takeO L (k + 1)
 rw [List.take_add_one, hl, Option.toList_some, List.map_append, List.sum_append] at h1
 simpa using h1
theorem P_len {L : List (List Pt)} {l : List Pt} {k m : Nat} (hl : L[k]? = some l) (hm : m ≤ l.length) (hn : (L.map List.length).sum ≤ 2000) : (wlA L l k m).length ≤ 2000 ∧ (xsA L l k m).length ≤ 2000 ∧ (ysA L l k m).length ≤ 2000 := by
 have h1 := sum_takeL hl
 have h2 := wallsF_len (L.take k)
 have h3 := wallsU_len l m
 have h4 := xsL_len (L.take k)
 unfold wlA xsA ysA
 rw [List.length_append, List.length_append, List.length_append, List.length_map, List.length_map, List.length_take]
 omega
theorem walls_by {L : List (List Pt)} : ∀ w ∈ wallsF L, -1 ≤ w.2.2.2 ∧ w.2.2.2 ≤ 1 := by
 intro w hw
 obtain ⟨l, _, h⟩ := List.mem_flatMap.1 hw
 obtain ⟨i, _, h⟩ := List.mem_flatMap.1 h
 unfold wallQ at h
 split at h
 ·obtain rfl : w = _ := by simpa using h
  simp only
  unfold cmpI
  split
  ·omega
  ·split <;> omega
 ·simp at h
theorem walls_fin {L : List (List Pt)} (h : ∀ x ∈ xsL L, -1000000 ≤ x ∧ x ≤ 1000000) : ∀ w ∈ wallsF L, finW w := fun w hw => h _ (walls_in hw).1
structure FlI (w wr : World) (vw vx vy : Value) (W : List Wl) (X Y : List Int) : Prop where
 low : Below w.heap.size w wr
 rw : wr.ownsRow w.heap.size 136 4 vw W.length (W.flatMap encW)
 rx : wr.ownsRow w.heap.size 3 1 vx X.length (X.map iv)
 ry : wr.ownsRow w.heap.size 3 1 vy Y.length (Y.map iv)
 wx : ∀ k, vw.ownBlock = some k → vx.ownBlock ≠ some k
 wy : ∀ k, vw.ownBlock = some k → vy.ownBlock ≠ some k
 xy : ∀ k, vx.ownBlock = some k → vy.ownBlock ≠ some k
theorem FlI.below {w wr w2 : World} {vw vx vy : Value} {W : List Wl} {X Y : List Int} (h : FlI w wr vw vx vy W X Y) (hb : Below wr.heap.size wr w2) : FlI w w2 vw vx vy W X Y :=
 ⟨h.low.trans (hb.mono h.low.size), own_below h.rw hb, own_below h.rx hb, own_below h.ry hb, h.wx, h.wy, h.xy⟩
theorem FlI.nil (w : World) : FlI w w (.slice none 0 0) (.slice none 0 0) (.slice none 0 0) [] [] [] := ⟨Below.refl _ _, World.ownsRow_nil _ _ _ _, World.ownsRow_nil _ _ _ _, World.ownsRow_nil _ _ _ _, fun k h => by simp [Value.ownBlock] at h, fun k h => by simp [Value.ownBlock] at h, fun k h => by simp [Value.ownBlock] at h⟩
theorem off_kept {w w9 : World} {v u : Value} {B n s : Nat} {e : TypeId} {xs : List Value} (h : w.ownsRow B e s v n xs) (hg : w.grownBy w9 u.ownBlock) (hd : ∀ k, v.ownBlock = some k → u.ownBlock ≠ some k) : w9.ownsRow B e s v n xs := h.kept hg (by
 cases hv : v.ownBlock with
 | none => exact .inl rfl
 | some k => exact .inr fun e => hd k hv e.symm)
def NewB (wr : World) (v u : Value) : Prop := ∀ k, u.ownBlock = some k → v.ownBlock = some k ∨ k = wr.heap.size
theorem NewB.off {wr : World} {v u z : Value} {B n s : Nat} {e : TypeId} {xs : List Value} (h : NewB wr v u) (hz : wr.ownsRow B e s z n xs) (hd : ∀ k, v.ownBlock = some k → z.ownBlock ≠ some k) : ∀ k, u.ownBlock = some k → z.ownBlock ≠ some k := fun k hk e => by
 rcases h k hk with h1 | h1
 ·exact hd k h1 e
 ·have := (hz.lt k e).2
  omega
theorem offS {v u : Value} (h : ∀ k, v.ownBlock = some k → u.ownBlock ≠ some k) : ∀ k, u.ownBlock = some k → v.ownBlock ≠ some k := fun k hk e => h k e hk
theorem FlI.pushX {w wr w9 : World} {vw vx vy v9 : Value} {W : List Wl} {X X9 Y : List Int} (h : FlI w wr vw vx vy W X Y) (hg : wr.grownBy w9 vx.ownBlock) (ho : w9.ownsRow w.heap.size 3 1 v9 X9.length (X9.map iv)) (hn : NewB wr vx v9) : FlI w w9 vw v9 vy W X9 Y :=
 ⟨h.low.grown hg h.low.size (fun q hq => (h.rx.lt q hq).1), off_kept h.rw hg h.wx, ho, off_kept h.ry hg (offS h.xy), offS (hn.off h.rw (offS h.wx)), h.wy, hn.off h.ry h.xy⟩
theorem FlI.pushY {w wr w9 : World} {vw vx vy v9 : Value} {W : List Wl} {X Y9 Y : List Int} (h : FlI w wr vw vx vy W X Y) (hg : wr.grownBy w9 vy.ownBlock) (ho : w9.ownsRow w.heap.size 3 1 v9 Y9.length (Y9.map iv)) (hn : NewB wr vy v9) : FlI w w9 vw vx v9 W X Y9 :=
 ⟨h.low.grown hg h.low.size (fun q hq => (h.ry.lt q hq).1), off_kept h.rw hg h.wy, off_kept h.rx hg h.xy, ho, h.wx, offS (hn.off h.rw (offS h.wy)), offS (hn.off h.rx (offS h.xy))⟩
theorem FlI.pushW {w wr w9 : World} {vw vx vy v9 : Value} {W W9 : List Wl} {X Y : List Int} (h : FlI w wr vw vx vy W X Y) (hg : wr.grownBy w9 vw.ownBlock) (ho : w9.ownsRow w.heap.size 136 4 v9 W9.length (W9.flatMap encW)) (hn : NewB wr vw v9) : FlI w w9 v9 vx vy W9 X Y :=
 ⟨h.low.grown hg h.low.size (fun q hq => (h.rw.lt q hq).1), ho, off_kept h.rx hg (offS h.wx), off_kept h.ry hg (offS h.wy), hn.off h.rx h.wx, hn.off h.ry h.wy, h.xy⟩
theorem NewB.refl (wr : World) (v : Value) : NewB wr v v := fun k hk => .inl hk
theorem NewB.app {wr : World} {v : Value} {g n c : Nat} (h : v.ownBlock = some g ∨ g = wr.heap.size) : NewB wr v (.slice (some ⟨g, 0, none⟩) n c) := fun k hk => by
 have e2 : g = k := by simpa [Value.ownBlock] using hk
 subst e2
 exact h
theorem infoWl : (Tryz.prog.info? 136).map (fun i => (i.zero, i.size, i.bytes)) = some (some (.agg #[.int .i64 0, .int .i64 0, .int .i64 0, .int .i64 0]), 4, 32) := by kernel_rfl
end Go.Proofs.YtdfpbhlnlkjjlaaGreat

/- Outlines: slices.IndexFunc at edges, Index, MinFunc and CompareFunc at points. -/
namespace Go.Proofs.YtdfpbhlnlkjjlaaGreat
open Go.RowKit Go.Shelf
set_option linter.unusedVariables false
set_option linter.unusedSimpArgs false
set_option maxHeartbeats 1000000 in
theorem idxEg_any {w : World} {v : Value} {l : List Eg} (h : RdK encG 4 w w.heap.size v l) (hl : l.length ≤ 1000000000) (g : Nat) (lb : Array Value) (p : Eg → Bool)
  (eg : ∀ args w, (callFunc g args).run Tryz.prog w = .ok (.enter g args) w)
  (hp : ∀ (W : World) (x : Eg), x ∈ l → Below w.heap.size w W → Calls Tryz.prog g (#[.agg (encG x).toArray] ++ lb) W fun e w' => e = .returned (.bool (p x)) ∧ Below W.heap.size W w') :
  Calls Tryz.prog 59 #[v, .func (.func g) #[] lb] w fun e w' => e = .returned (.int .i64 (idxI p l)) ∧ Below w.heap.size w w' := by
 obtain ⟨A, c, rfl, hc⟩ := h
 go_enter Tryz.func59, Tryz.ntmps59
 go_wp2
 go_loopg [5, 8] l.length (fun gg _ s8 wr => ∃ kk : Nat, kk ≤ l.length ∧ l.length - kk ≤ gg ∧ s8 = .int .i64 kk ∧ Hid (Below w.heap.size w wr) ∧ Hid (∀ x ∈ l.take kk, p x = false))
 case atStart => exact ⟨0, Nat.zero_le _, by omega, rfl, hide (Below.refl _ w), hide (by simp)⟩
 case round =>
  obtain ⟨kk, hkk, hg, rfl, BW, A'⟩ := hrel
  by_cases hlt : kk < l.length
  ·have hltz : (kk : Int) < (l.length : Int) := by omega
   obtain ⟨b, off, rfl, hb, hcell⟩ := hc (by intro e; rw [e] at hlt; simp at hlt)
   have hx : l[kk]? = some l[kk] := List.getElem?_eq_getElem hlt
   have hcall := hp wr l[kk] (List.getElem_mem hlt) BW.out
   have hfi : l.take (kk + 1) = l.take kk ++ [l[kk]] := List.take_succ_eq_append_getElem hlt
   have c0 : wr.cell? ⟨b, off + kk * 4, none⟩ = some (.int .i64 l[kk].1.1) := (BW.out.cell (p := ⟨b, off + kk * 4, none⟩) hb).trans (hcell kk _ hx 0 _ rfl)
   have c1 : wr.cell? ⟨b, off + kk * 4 + 1, none⟩ = some (.int .i64 l[kk].1.2) := (BW.out.cell (p := ⟨b, off + kk * 4 + 1, none⟩) hb).trans (hcell kk _ hx 1 _ rfl)
   have c2 : wr.cell? ⟨b, off + kk * 4 + 2, none⟩ = some (.int .i64 l[kk].2.1) := (BW.out.cell (p := ⟨b, off + kk * 4 + 2, none⟩) hb).trans (hcell kk _ hx 2 _ rfl)
   have c3 : wr.cell? ⟨b, off + kk * 4 + 3, none⟩ = some (.int .i64 l[kk].2.2) := (BW.out.cell (p := ⟨b, off + kk * 4 + 3, none⟩) hb).trans (hcell kk _ hx 3 _ rfl)
   clear hc hcell hp
   obtain ⟨x, hxe⟩ : ∃ x, l[kk] = x := ⟨_, rfl⟩
   have XE := hide hxe
   have FI := hide hfi
   rw [hxe] at hcall c0 c1 c2 c3
   clear hx hxe hfi
   cases hq : p x with
   | true =>
    have HQ := hide hq
    rw [hq] at hcall
    clear hq
    go_wp2_with (go_at_fn g; refine hcall.mono ?_; rintro e w' ⟨rfl, hb'⟩)
    go_ret
    refine ⟨ret_eq (int_eq ?_), BW.out.trans (hb'.mono BW.out.size)⟩
    have hxl : p l[kk] = true := by rw [XE.out]; exact HQ.out
    unfold idxI
    rw [if_pos (List.any_eq_true.2 ⟨l[kk], List.getElem_mem hlt, hxl⟩)]
    have : l.findIdx p = kk := by
     rw [List.findIdx_eq hlt]
     refine ⟨hxl, fun j hj => ?_⟩
     have := A'.out l[j] (by rw [List.mem_take_iff_getElem]; exact ⟨j, by omega, rfl⟩)
     simpa using this
    rw [this]
   | false =>
    have HQ := hide hq
    rw [hq] at hcall
    clear hq
    go_wp2_with (go_at_fn g; refine hcall.mono ?_; rintro e w' ⟨rfl, hb'⟩)
    go_roundg (l.length - (kk + 1))
    case measure => omega
    case rel =>
     refine ⟨kk + 1, by omega, by omega, by go_num, hide (BW.out.trans (hb'.mono BW.out.size)), hide fun y hy => ?_⟩
     rw [FI.out, List.mem_append] at hy
     rcases hy with hy | hy
     ·exact A'.out y hy
     ·simp only [List.mem_singleton] at hy
      rw [hy, XE.out]; exact HQ.out
  ·have hltz : ¬ (kk : Int) < (l.length : Int) := by omega
   have hk : kk = l.length := by omega
   go_wp2
   go_ret
   refine ⟨ret_eq (int_eq ?_), BW.out⟩
   have hA := A'.out
   rw [hk, List.take_length] at hA
   unfold idxI
   rw [if_neg (by rw [List.any_eq_true]; rintro ⟨y, hy, hpy⟩; rw [hA y hy] at hpy; cases hpy)]
theorem idx_hit {l : List Pt} {q : Pt} {k : Nat} (h : ∀ x ∈ l.take k, x ≠ q) (hk : l[k]? = some q) : idxI (fun x => decide (x = q)) l = k := by
 obtain ⟨hlt, e⟩ := List.getElem?_eq_some_iff.1 hk
 unfold idxI
 rw [if_pos (List.any_eq_true.2 ⟨q, List.mem_of_getElem? hk, by simp⟩)]
 have : l.findIdx (fun x => decide (x = q)) = k := by
  rw [List.findIdx_eq hlt]
  refine ⟨by simp [e], fun j hj => ?_⟩
  have := h l[j] (by rw [List.mem_take_iff_getElem]; exact ⟨j, by omega, rfl⟩)
  simpa using this
 rw [this]
theorem idx_miss {l : List Pt} {q : Pt} (h : ∀ x ∈ l, x ≠ q) : idxI (fun x => decide (x = q)) l = -1 := by
 unfold idxI
 rw [if_neg (by rw [List.any_eq_true]; rintro ⟨y, hy, hpy⟩; exact h y hy (by simpa using hpy))]
set_option maxHeartbeats 4000000 in
theorem idxPt_any {w : World} {v : Value} {l : List Pt} (hr : RdK encS 2 w w.heap.size v l) (hl : l.length ≤ 100000000) (q : Pt) :
  Calls Tryz.prog 68 #[v, .agg #[.int .i64 q.1, .int .i64 q.2]] w fun e w' => e = .returned (.int .i64 (idxI (fun x => decide (x = q)) l)) ∧ Below w.heap.size w w' := by
 obtain ⟨qx, qy⟩ := q
 obtain ⟨A, c, rfl, h1⟩ := hr
 have g : Tryz.prog.eqGuardType Tryz.prog.depth 53 = false := by kernel_rfl
 have H1 := hide h1
 clear h1
 simp only
 go_enter Tryz.func68, Tryz.ntmps68
 go_wp2
 go_loopw [5, 8] (fun _ i wr => ∃ k : Nat, k ≤ l.length ∧ i = .int .i64 k ∧ Hid (∀ x ∈ l.take k, x ≠ (qx, qy)) ∧ Below w.heap.size w wr ∧ wr.cell? ⟨w.heap.size, 0, none⟩ = some (.int .i64 qx) ∧ wr.cell? ⟨w.heap.size, 1, none⟩ = some (.int .i64 qy)) (fun _ i _ => l.length - (intOf i).toNat)
 case atStart => exact ⟨0, Nat.zero_le _, rfl, hide (by simp), (Below.refl _ _).alloc (Nat.le_refl _) _, by simp [go_sem], by simp [go_sem]⟩
 case round =>
  obtain ⟨k, hk, rfl, HT, hb, c0, c1⟩ := hrel
  by_cases hlt : k < l.length
  ·obtain ⟨⟨a0, a1⟩, hp⟩ : ∃ p, l[k]? = some p := ⟨_, List.getElem?_eq_getElem hlt⟩
   obtain ⟨p1, o1, rfl, hp1, k1⟩ := H1.out (by intro e; rw [e] at hlt; simp at hlt)
   have x0 : wr.cell? ⟨p1, o1 + k * 2, none⟩ = some (.int .i64 a0) := (hb.cell (p := ⟨p1, _, none⟩) hp1).trans (k1 k _ hp 0 _ rfl)
   have x1 : wr.cell? ⟨p1, o1 + k * 2 + 1, none⟩ = some (.int .i64 a1) := (hb.cell (p := ⟨p1, _, none⟩) hp1).trans (k1 k _ hp 1 _ rfl)
   have z1 : (k : Int) < (l.length : Int) := by omega
   have HP := hide hp
   clear hp k1
   by_cases e0 : qx = a0
   rotate_left 1
   ·have HN : Hid (∀ x ∈ l.take (k + 1), x ≠ (qx, qy)) := hide (by
     rw [List.take_add_one, HP.out]
     intro x hx
     rcases List.mem_append.1 hx with hx | hx
     ·exact HT.out x hx
     ·simp only [Option.toList_some, List.mem_singleton] at hx
      rw [hx]
      intro e5
      exact e0 (Prod.mk.inj e5).1.symm)
    go_wp2
    go_region
    go_wp2
    go_roundw
    case rel => exact ⟨k + 1, by omega, by go_num, HN, hb.drew, by simpa using c0, by simpa using c1⟩
    case measure => simp [intOf]; omega
   by_cases e1 : qy = a1
   rotate_left 1
   ·have HN : Hid (∀ x ∈ l.take (k + 1), x ≠ (qx, qy)) := hide (by
     rw [List.take_add_one, HP.out]
     intro x hx
     rcases List.mem_append.1 hx with hx | hx
     ·exact HT.out x hx
     ·simp only [Option.toList_some, List.mem_singleton] at hx
      rw [hx]
      intro e5
      exact e1 (Prod.mk.inj e5).2.symm)
    subst e0
    go_wp2
    go_region
    go_wp2
    go_roundw
    case rel => exact ⟨k + 1, by omega, by go_num, HN, hb.drew, by simpa using c0, by simpa using c1⟩
    case measure => simp [intOf]; omega
   subst e0
   subst e1
   have HH := hide (idx_hit HT.out HP.out)
   go_wp2
   go_region
   go_wp2
   go_ret
   exact ⟨ret_eq (int_eq HH.out.symm), hb.drew⟩
  ·have z1 : ¬ (k : Int) < (l.length : Int) := by omega
   have HH : Hid (idxI (fun x => decide (x = (qx, qy))) l = -1) := hide (idx_miss (by
    have := HT.out
    rw [List.take_of_length_le (by omega)] at this
    exact this))
   go_wp2
   go_ret
   exact ⟨ret_eq (int_eq HH.out.symm), hb⟩
def minU (l : List Pt) : Nat → Pt
 | 0 => pAt l 0
 | k + 1 => if cmpP (pAt l (k + 1)) (minU l k) < 0 then pAt l (k + 1) else minU l k
def Bq (W : World) (g : Nat) : Prop := g < W.heap.size ∧ (∃ u, W.cell? ⟨g, 0, none⟩ = some u) ∧ (∃ u, W.cell? ⟨g, 1, none⟩ = some u) ∧ W.frozen? ⟨g, 0, none⟩ = false ∧ W.frozen? ⟨g, 1, none⟩ = false
theorem Bq.below {W V : World} {g : Nat} (h : Bq W g) (hb : Below W.heap.size W V) : Bq V g := by
 obtain ⟨h1, ⟨u, h2⟩, ⟨v, h3⟩, h4, h5⟩ := h
 exact ⟨Nat.lt_of_lt_of_le h1 hb.size, ⟨u, (hb.cell (p := ⟨g, 0, none⟩) h1).trans h2⟩, ⟨v, (hb.cell (p := ⟨g, 1, none⟩) h1).trans h3⟩, (hb.frozen (p := ⟨g, 0, none⟩) h1).trans h4, (hb.frozen (p := ⟨g, 1, none⟩) h1).trans h5⟩
theorem Bq.set {W : World} {g k : Nat} (h : Bq W g) (a b : Int) : Bq ((W.setCell ⟨k, 0, none⟩ (.int .i64 a)).setCell ⟨k, 1, none⟩ (.int .i64 b)) g := by
 obtain ⟨h1, ⟨u, h2⟩, ⟨v, h3⟩, h4, h5⟩ := h
 by_cases e : g = k
 ·subst e
  exact ⟨by simpa using h1, ⟨.int .i64 a, by simp [go_sem, h2, h3, h1]⟩, ⟨.int .i64 b, by simp [go_sem, h2, h3, h1]⟩, by simpa [go_sem] using h4, by simpa [go_sem] using h5⟩
 ·exact ⟨by simpa using h1, ⟨u, by simpa [go_sem, e] using h2⟩, ⟨v, by simpa [go_sem, e] using h3⟩, by simpa [go_sem] using h4, by simpa [go_sem] using h5⟩
set_option maxRecDepth 100000 in
set_option maxHeartbeats 4000000 in
theorem minPt_any {w : World} {v : Value} {l : List Pt} (hr : RdK encS 2 w w.heap.size v l) (h0 : 0 < l.length) (hl : l.length ≤ 100000000) :
  Calls Tryz.prog 69 #[v, .func (.func 40) #[] #[]] w fun e w' => e = .returned (.agg #[.int .i64 (minU l (l.length - 1)).1, .int .i64 (minU l (l.length - 1)).2]) ∧ Below w.heap.size w w' := by
 have HRD := hide hr
 obtain ⟨A, c, rfl, _⟩ := hr
 obtain ⟨b, off, rfl, hb, hc⟩ := rd_two HRD.out h0
 have HC := hide hc
 obtain ⟨d0, d1⟩ := hc 0 h0
 simp only [Nat.zero_mul, Nat.add_zero] at d0 d1
 have z0 : ¬ (l.length : Int) < 1 := by omega
 have z1 : (0 : Int) < (l.length : Int) := by omega
 have HM0 : Hid (minU l 0 = pAt l 0) := hide rfl
 clear hc
 go_enter Tryz.func69, Tryz.ntmps69
 go_wp2
 go_loopw [6] (fun i wr => ∃ k : Nat, 1 ≤ k ∧ k ≤ l.length ∧ i = .int .i64 k ∧ Below w.heap.size w wr ∧ Hid (Bq wr w.heap.size) ∧ Hid (Bq wr (w.heap.size + 1)) ∧ wr.cell? ⟨w.heap.size + 1, 0, none⟩ = some (.int .i64 (minU l (k - 1)).1) ∧ wr.cell? ⟨w.heap.size + 1, 1, none⟩ = some (.int .i64 (minU l (k - 1)).2)) (fun i _ => l.length - (intOf i).toNat)
 case atStart =>
  refine ⟨1, Nat.le_refl _, by omega, rfl, ?_, hide ⟨by simp; omega, ⟨.int .i64 0, by simp [go_sem]⟩, ⟨.int .i64 0, by simp [go_sem]⟩, by simp [go_sem], by simp [go_sem]⟩, hide ⟨by simp, ⟨.int .i64 (pAt l 0).1, by simp [go_sem]⟩, ⟨.int .i64 (pAt l 0).2, by simp [go_sem]⟩, by simp [go_sem], by simp [go_sem]⟩, by simp [go_sem, HM0.out], by simp [go_sem, HM0.out]⟩
  repeat (first | with_reducible exact Below.refl _ _ | with_reducible refine Below.setCell ?_ (by first | (simp; done) | (simp; omega)) _ | with_reducible refine Below.alloc ?_ (by first | omega | (simp; omega) | simp) _)
 case round =>
  obtain ⟨k, hk1, hk, rfl, hbw, HQ0, HQ1, c0, c1⟩ := hrel
  have hsz : w.heap.size + 1 < wr.heap.size := HQ1.out.1
  by_cases hlt : k < l.length
  ·obtain ⟨e0, e1⟩ := HC.out k hlt
   have x0 : wr.cell? ⟨b, off + k * 2, none⟩ = some (.int .i64 (pAt l k).1) := (hbw.cell (p := ⟨b, _, none⟩) hb).trans e0
   have x1 : wr.cell? ⟨b, off + k * 2 + 1, none⟩ = some (.int .i64 (pAt l k).2) := (hbw.cell (p := ⟨b, _, none⟩) hb).trans e1
   have zk : (k : Int) < (l.length : Int) := by omega
   have hbr : b < wr.heap.size := Nat.lt_of_lt_of_le hb hbw.size
   have hsn : minU l k = if cmpP (pAt l k) (minU l (k - 1)) < 0 then pAt l k else minU l (k - 1) := by
    obtain ⟨j, rfl⟩ : ∃ j, k = j + 1 := ⟨k - 1, by omega⟩
    rfl
   have HSN := hide hsn
   have HBW := hide hbw
   clear e0 e1 hsn hbw d0 d1
   generalize minU l (k - 1) = m at *
   generalize pAt l k = p at *
   obtain ⟨mx, my⟩ := m
   obtain ⟨px, py⟩ := p
   simp only at x0 x1 c0 c1
   go_upto_region 7 with fail
   refine wp_hab fun hab => ?_
   refine wp_region_above (by kernel_rfl) (by kernel_rfl) ?_
   have HF1 := hide (fun (y : Above wr) => above_of (x := y) (cmpP_any (px, py) (mx, my) y.get))
   obtain ⟨R, hR⟩ : ∃ R, cmpP (px, py) (mx, my) = R := ⟨_, rfl⟩
   rw [hR] at HSN HF1
   simp only at HF1
   clear hR
   repeat (go_big_quiet_step ((go_at_call 40; with_reducible exact HF1.out _)))
   refine wpQuiet_nil ?_
   refine above_ends fun w5 hb5 => ?_
   replace c0 := (hb5.cell (p := ⟨w.heap.size + 1, 0, none⟩) hsz).trans c0
   replace c1 := (hb5.cell (p := ⟨w.heap.size + 1, 1, none⟩) hsz).trans c1
   replace x0 := (hb5.cell (p := ⟨b, _, none⟩) hbr).trans x0
   replace x1 := (hb5.cell (p := ⟨b, _, none⟩) hbr).trans x1
   have HB5 := hide (HBW.out.trans (hb5.mono HBW.out.size))
   have hsz5 : w.heap.size + 1 < w5.heap.size := Nat.lt_of_lt_of_le hsz hb5.size
   have HQ50 := hide (HQ0.out.below hb5)
   have HQ51 := hide (HQ1.out.below hb5)
   have f0 := HQ51.out.2.2.2.1
   have f1 := HQ51.out.2.2.2.2
   clear hab HF1 hb5 HBW
   by_cases hn : R < 0
   ·have HN : Hid (minU l k = (px, py)) := hide (by rw [HSN.out, if_pos hn])
    clear HSN
    go_wp2
    go_roundw
    case rel =>
     refine ⟨k + 1, by omega, by omega, by go_num, ?_, hide (HQ50.out.set _ _), hide (HQ51.out.set _ _), ?_, ?_⟩
     ·exact (HB5.out.setCell (by simp) _).setCell (by simp) _
     ·rw [show k + 1 - 1 = k by omega, HN.out]; simp [go_sem, hsz5, c0, c1]
     ·rw [show k + 1 - 1 = k by omega, HN.out]; simp [go_sem, hsz5, c0, c1]
    case measure => simp [intOf]; omega
   ·have HN : Hid (minU l k = (mx, my)) := hide (by rw [HSN.out, if_neg hn])
    clear HSN
    go_wp2
    go_roundw
    case rel => exact ⟨k + 1, by omega, by omega, by go_num, HB5.out, HQ50, HQ51, by rw [show k + 1 - 1 = k by omega, HN.out]; exact c0, by rw [show k + 1 - 1 = k by omega, HN.out]; exact c1⟩
    case measure => simp [intOf]; omega
  ·have zk : ¬ (k : Int) < (l.length : Int) := by omega
   obtain rfl : k = l.length := by omega
   obtain ⟨m, hmm⟩ : ∃ m, minU l (l.length - 1) = m := ⟨_, rfl⟩
   rw [hmm] at c0 c1
   have HMM := hide hmm
   clear hmm
   have HBW := hide hbw
   have hs0 : w.heap.size < wr.heap.size := by omega
   clear hbw
   obtain ⟨mx, my⟩ := m
   simp only at c0 c1
   obtain ⟨_, ⟨u0, q0⟩, ⟨u1, q1⟩, f0, f1⟩ := HQ0.out
   go_wp2
   refine bodyPost_ret (v := .agg #[.int .i64 mx, .int .i64 my]) (by simp [results, Tryz.results69, go_sem, c0, c1, q0, q1, hs0]) rfl ⟨by rw [HMM.out], ?_⟩
   exact (HBW.out.setCell (Nat.le_refl _) _).setCell (Nat.le_refl _) _
def cmpL : List Pt → List Pt → Int
 | [], [] => 0
 | [], _ :: _ => -1
 | _ :: _, [] => 1
 | a :: s, b :: t => if cmpP a b = 0 then cmpL s t else cmpP a b
theorem drop_at {α : Type} {s : List α} {k : Nat} {a : α} (h : s[k]? = some a) : s.drop k = a :: s.drop (k + 1) := by
 obtain ⟨h1, rfl⟩ := List.getElem?_eq_some_iff.1 h
 exact List.drop_eq_getElem_cons h1
end Go.Proofs.YtdfpbhlnlkjjlaaGreat
