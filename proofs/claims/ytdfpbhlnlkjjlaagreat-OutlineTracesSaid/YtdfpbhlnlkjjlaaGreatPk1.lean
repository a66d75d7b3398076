/- Texts laid together: Kit, Held, MSpan, MRegion, MCuts, MBuild, RegA, Rd, Own, SortE, Range, Values. Lemmas for the statements of this seat; no condition. -/
import Derived.Test.YtdfpbhlnlkjjlaaGreatRows
import Derived.WalkKit
import Derived.WalkSpells
import Derived.WalkLawsBesides
import Derived.Deep.QuietTactic
import Derived.BigQuiet
import Derived.IntWalk
import Derived.Lib.Hide
import Derived.Deep.RegionHeld3
import Derived.Outline
import Derived.OrdersHeld
import Derived.Below
import Derived.Lib.SlicesCompact
import Derived.Deep.AppendLies
import Derived.Laws.OwnMore
import Derived.Maps.AppendAt
import Derived.Shelf.SlSortCmp.NoneTotal
import Derived.Test.YtdfpbhlnlkjjlaaGreatShelf
import Derived.RangeFuncNested
import Derived.RangeFuncLeaves
import Derived.OwnWalkIn
import Derived.TacticsInMore
import Derived.LoopNIn
import Derived.LoopIn
import Derived.StillTailTactics

/- Small words that every walk of this seat uses. -/
namespace Go.Proofs.YtdfpbhlnlkjjlaaGreat
open Go.RowKit
set_option linter.unusedVariables false
set_option linter.unusedSimpArgs false
theorem ret_eq {a b : Value} (h : a = b) : Ending.returned a = .returned b := by rw [h]
theorem int_eq {k : IntKind} {a b : Int} (h : a = b) : Value.int k a = Value.int k b := by rw [h]
theorem bool_eq {a b : Bool} (h : a = b) : Value.bool a = Value.bool b := by rw [h]
theorem hide {p : Prop} (h : p) : Hid p := h
structure Above (w : World) where
 get : World
 keeps : Below w.heap.size w get
instance {w : World} : Nonempty (Above w) := ⟨⟨w, Below.refl _ _⟩⟩
theorem above_cell {w : World} (x : Above w) {b : Nat} (o : Nat) (h : b < w.heap.size) : x.get.cell? ⟨b, o, none⟩ = w.cell? ⟨b, o, none⟩ := x.keeps.cell (p := ⟨b, o, none⟩) h
theorem wp_hab {P : Program} {c : Code} {Q : Exit → Act → World → Prop} {a : Act} {W : World} (h : (∀ (x : Above W) (b o : Nat), b < W.heap.size → x.get.cell? ⟨b, o, none⟩ = W.cell? ⟨b, o, none⟩) → c.wp P Q a W) : c.wp P Q a W :=
 h fun x _ o hb => above_cell x o hb
theorem wp_name {P : Program} {c : Code} {Q : Exit → Act → World → Prop} {a : Act} {W : World} (h : ∀ w, w = W → c.wp P Q a w) : c.wp P Q a W := h W rfl
theorem wp_region_above {P : Program} {id : Nat} {Q : Exit → Act → World → Prop} {a : Act} {w : World} {l : List Oper} (hm : P.follows .mixedOrders = true) (hB : Region.lexB .any l.toArray = true)
  (h : wpQuiet P l.toArray (fun w' => ∃ x : Above w, w' = x.get) (fun a' => ∀ w', (∃ x : Above w, w' = x.get) → Q .normal a' w') l a) : (Code.region id l.toArray true).wp P Q a w :=
 wp_region_quiet (C := fun w' => ∃ x : Above w, w' = x.get) hm hB ⟨⟨w.drew, (Below.refl _ _).drew⟩, rfl⟩ (by simpa using h)
theorem above_ends {w : World} {Q : World → Prop} (h : ∀ w', Below w.heap.size w w' → Q w') : ∀ w', (∃ x : Above w, w' = x.get) → Q w' := fun w' ⟨x, hx⟩ => h w' (hx ▸ x.keeps)
theorem above_of {P : Program} {f : FuncId} {args : Array Value} {w : World} {x : Above w} {v : Value}
  (h : Calls P f args x.get fun e w' => e = .returned v ∧ Below x.get.heap.size x.get w') : Calls P f args x.get fun e w'' => e = .returned v ∧ ∃ y : Above w, w'' = y.get :=
 h.mono fun _ w'' ⟨he, hb⟩ => ⟨he, ⟨w'', x.keeps.trans (hb.mono x.keeps.size)⟩, rfl⟩
end Go.Proofs.YtdfpbhlnlkjjlaaGreat

/- A region that draws its order: reads that stay as they are under a condition S, and a tail in one order. The operation L, which waits for all reads (the store at the end), may break S. -/
namespace Go.Proofs.YtdfpbhlnlkjjlaaGreat
open Go.RowKit
set_option linter.unusedVariables false
set_option linter.unusedSimpArgs false
section
variable {P : Program} {ops : Array Oper} {Q : Exit → Act → World → Prop} {md : Region.Mode} {S : World → Prop}
def wpAnyE (P : Program) (md : Region.Mode) (ops : Array Oper) (Q : Exit → Act → World → Prop) (S : World → Prop) (L : Nat) : Nat → Array Bool → Act → World → Prop
 | 0, listed, a, w => Region.ready md ops listed = [] ∧ Q .normal a w
 | fuel + 1, listed, a, w =>
  (Region.ready md ops listed = [] → Q .normal a w) ∧
  ∀ i ∈ Region.ready md ops listed, wpOp P ops Q i (fun a' w' => (i ≠ L → S w') ∧ wpAnyE P md ops Q S L fuel (listed.setIfInBounds i true) a' w') a w
variable {L : Nat}
theorem wpAny_of_E : ∀ (fuel : Nat) (listed : Array Bool) (a : Act) (w : World), wpAnyE P md ops Q S L fuel listed a w → wpAny P md ops Q fuel listed a w
 | 0, _, _, _, h => h
 | fuel + 1, _, _, _, h => ⟨h.1, fun i hi => wpOp_mono (fun a' w' h' => wpAny_of_E fuel _ a' w' h'.2) (h.2 i hi)⟩
theorem wpAnyE_first {i : Nat} {oi : Oper} {v : Value} (hi : ops[i]? = some oi) (hsel : ∀ (j : Nat) (o : Oper) cs b, ops[j]? = some o → o.op ≠ .select cs b)
  (hQ : ∀ c a w, Q (.panic c) (a.put oi.dst v) w → Q (.panic c) a w) (hL : ∀ o, ops[L]? = some o → ∃ e ∈ o.after, Region.binds md e = true ∧ e.on = i) :
  ∀ (fuel : Nat) (listed : Array Bool) (a : Act) (w : World),
   (∀ j oj, ops[j]? = some oj → j ≠ i → listed.getD j true = false → (∀ e ∈ oj.after, Region.binds md e = true → e.on ≠ i) → oi.apart ops oj = true) →
   i ∈ Region.ready md ops listed → YieldsIf P ops S oi v a → S w →
   wpAnyE P md ops Q S L fuel (listed.setIfInBounds i true) (a.put oi.dst v) w → wpAnyE P md ops Q S L (fuel + 1) listed a w := by
 intro fuel
 induction fuel with
 | zero =>
  intro listed a w _ hr hy hS H
  refine ⟨fun h => (by rw [h] at hr; cases hr), fun j hj => ?_⟩
  by_cases hji : j = i
  ·subst hji; exact hy.wpOp hi hS ⟨fun _ => hS, H⟩
  ·have := ready_mono hj hji
   rw [H.1] at this
   cases this
 | succ fuel ih =>
  intro listed a w hfree hr hy hS H
  refine ⟨fun h => (by rw [h] at hr; cases hr), fun j hj => ?_⟩
  by_cases hji : j = i
  ·subst hji; exact hy.wpOp hi hS ⟨fun _ => hS, H⟩
  ·have h1 := H.2 j (ready_mono hj hji)
   obtain ⟨hjun, oj, hoj, hall⟩ := mem_ready.1 hj
   have hnot : ∀ e ∈ oj.after, Region.binds md e = true → e.on ≠ i := fun e he hb heq => by
    have g1 := hall e he hb
    have g0 := (mem_ready.1 hr).1
    rw [heq] at g1
    rcases Nat.lt_or_ge i listed.size with h' | h'
    ·simp [h'] at g0 g1; rw [g0] at g1; cases g1
    ·simp [Array.getElem?_eq_none h'] at g1
   have hjL : j ≠ L := by
    rintro rfl
    obtain ⟨e, he, hb, hon⟩ := hL oj hoj
    exact hnot e he hb hon
   have h2 := wpOp_putIf hoj (hfree j oj hoj hji hjun hnot) (fun cs b => hsel i oi cs b hi) (fun cs b => hsel j oj cs b hoj) hQ hy h1
   have hfree' : ∀ k ok, ops[k]? = some ok → k ≠ i → (listed.setIfInBounds j true).getD k true = false →
     (∀ e ∈ ok.after, Region.binds md e = true → e.on ≠ i) → oi.apart ops ok = true := fun k ok hk hki hun hno => by
    refine hfree k ok hk hki ?_ hno
    by_cases hjk : j = k
    ·subst hjk; exact hjun
    ·rw [getD_set_ne true hjk] at hun; exact hun
   refine wpOp_mono (fun a' w' h3 => ⟨fun _ => h3.2.1 hjL, ih (listed.setIfInBounds j true) a' w' hfree' (ready_mono hr (Ne.symm hji)) h3.1 (h3.2.1 hjL) ?_⟩) h2
   rw [Array.setIfInBounds_comm _ _ hji]
   exact h3.2.2
def pre (m : Nat) : Nat → Array Bool
 | 0 => Array.replicate m false
 | k + 1 => (pre m k).setIfInBounds k true
def waitsFor (md : Region.Mode) (ops : Array Oper) (L i : Nat) : Bool := match ops[L]? with | some o => o.after.any (fun e => Region.binds md e && e.on == i) | none => true
def heldB (md : Region.Mode) (ops : Array Oper) (n : Nat) : Bool :=
 Region.noSelect ops && decide (n < ops.size) && (List.range n).all (fun i => Region.free md ops (pre ops.size i) i && (Region.ready md ops (pre ops.size i)).contains i && waitsFor md ops (ops.size - 1) i) &&
  (List.range (ops.size - n)).all (fun j => Region.ready md ops (pre ops.size (n + j)) == [n + j]) && (Region.ready md ops (pre ops.size ops.size)).isEmpty
def wpReads (P : Program) (ops : Array Oper) (S : World → Prop) (K : Act → Prop) : List Oper → Act → Prop
 | [], a => K a
 | o :: r, a => ∃ v, YieldsIf P ops S o v a ∧ wpReads P ops S K r (a.put o.dst v)
def wpTail (P : Program) (ops : Array Oper) (S : World → Prop) (Q : Exit → Act → World → Prop) : List Oper → Act → World → Prop
 | [], a, w => Q .normal a w
 | o :: r, a, w => ∀ K : Act → World → Prop, (∀ a' w', (r ≠ [] → S w') → wpTail P ops S Q r a' w' → K a' w') → if Region.wanted o (yielded ops a.tmps) = true then o.wp P a w K Q else K (a.put o.dst undef) w
theorem wpTail_E {n : Nat} {l : List Oper} (hT : ∀ j, j < l.length - n → Region.ready md l.toArray (pre l.length (n + j)) = [n + j]) (hE : Region.ready md l.toArray (pre l.length l.length) = []) :
  ∀ (r : List Oper) (k : Nat) (a : Act) (w : World), n ≤ k → k + r.length = l.length → l.drop k = r → wpTail P l.toArray S Q r a w → wpAnyE P md l.toArray Q S (l.length - 1) r.length (pre l.length k) a w
 | [], k, a, w, hk, hl, hd, h => by
  obtain rfl : k = l.length := by simpa using hl
  exact ⟨hE, h⟩
 | o :: r, k, a, w, hk, hl, hd, h => by
  have hkl : k < l.length := by simp at hl; omega
  have hr := hT (k - n) (by omega)
  rw [show n + (k - n) = k by omega] at hr
  have ho : l.toArray[k]? = some o := by
   have : (l.drop k)[0]? = some o := by rw [hd]; rfl
   simpa using this
  have hd' : l.drop (k + 1) = r := by rw [← List.drop_drop, hd]; rfl
  refine ⟨fun h0 => (by rw [hr] at h0; cases h0), fun i hi => ?_⟩
  rw [hr] at hi
  obtain rfl : i = k := by simpa using hi
  refine wpOp_step ho fun K' hK => h K' fun a' w' hS hT' => hK a' w' ⟨fun hne => hS ?_, ?_⟩
  ·rintro rfl
   simp at hl
   omega
  ·exact wpTail_E hT hE r (i + 1) a' w' (by omega) (by simp at hl; omega) hd' hT'
theorem wpReads_E {n : Nat} {l : List Oper} (hsel : ∀ (j : Nat) (o : Oper) cs b, l.toArray[j]? = some o → o.op ≠ .select cs b) (hQ : ∀ c a a' w, Q (.panic c) a w → Q (.panic c) a' w)
  (hF : ∀ i, i < n → Region.free md l.toArray (pre l.length i) i = true ∧ i ∈ Region.ready md l.toArray (pre l.length i) ∧ waitsFor md l.toArray (l.length - 1) i = true) (hn : n ≤ l.length)
  {w : World} (hS : S w) (K : Act → Prop) (hK : ∀ a, K a → wpAnyE P md l.toArray Q S (l.length - 1) (l.length - n) (pre l.length n) a w) :
  ∀ (r : List Oper) (i : Nat) (a : Act), i + r.length = n → (l.take n).drop i = r → wpReads P l.toArray S K r a → wpAnyE P md l.toArray Q S (l.length - 1) (l.length - i) (pre l.length i) a w
 | [], i, a, hi, hd, h => by
  obtain rfl : i = n := by simpa using hi
  exact hK a h
 | o :: r, i, a, hi, hd, h => by
  have hin : i < n := by simp at hi; omega
  obtain ⟨f1, f2, f3⟩ := hF i hin
  obtain ⟨v, hy, h⟩ := h
  have ho : l.toArray[i]? = some o := by
   have : ((l.take n).drop i)[0]? = some o := by rw [hd]; rfl
   rw [List.getElem?_drop, List.getElem?_take] at this
   simpa [hin] using this
  have hd' : (l.take n).drop (i + 1) = r := by rw [← List.drop_drop, hd]; rfl
  have ih := wpReads_E hsel hQ hF hn hS K hK r (i + 1) (a.put o.dst v) (by simp at hi; omega) hd' h
  have e : l.length - i = (l.length - (i + 1)) + 1 := by omega
  rw [e]
  refine wpAnyE_first ho hsel (fun c a w h => hQ c _ _ w h) ?_ _ _ _ _ (Region.free_spec ho f1) f2 hy hS ih
  intro oL hoL
  unfold waitsFor at f3
  rw [hoL] at f3
  obtain ⟨e, he, h2⟩ := Array.any_eq_true'.1 f3
  simp only [Bool.and_eq_true, beq_iff_eq] at h2
  exact ⟨e, he, h2.1, h2.2⟩
theorem wp_region_reads {id : Nat} {a : Act} {w : World} {l : List Oper} (n : Nat) (S : World → Prop) (hm : P.follows .mixedOrders = true) (hB : heldB .any l.toArray n = true) (hS : S w.drew)
  (h : wpReads P l.toArray S (fun a' => wpTail P l.toArray S (NoPanic Q) (l.drop n) a' w.drew) (l.take n) a) : (Code.region id l.toArray true).wp P Q a w := by
 refine wp_region_noPanic (wp_region_any hm (wpAny_of_E (S := S) (L := l.length - 1) _ _ _ _ ?_))
 simp only [heldB, Bool.and_eq_true, decide_eq_true_eq, List.all_eq_true, List.mem_range, beq_iff_eq, List.isEmpty_iff, List.size_toArray, List.contains_iff_mem] at hB
 obtain ⟨⟨⟨⟨b1, b2⟩, b3⟩, b4⟩, b5⟩ := hB
 have := wpReads_E (Q := NoPanic Q) (S := S) (n := n) (l := l) (w := w.drew) (Region.noSelect_spec b1) (fun _ _ _ _ h => h) (fun i hi => ⟨(b3 i hi).1.1, (b3 i hi).1.2, (b3 i hi).2⟩) (by omega) hS _
  (fun a' h' => by
   have h2 := wpTail_E (S := S) (n := n) b4 b5 (l.drop n) n a' w.drew (Nat.le_refl _) (by simp; omega) rfl h'
   rw [List.length_drop] at h2
   exact h2) (l.take n) 0 a (by simp; omega) rfl h
 simpa [pre] using this
def heldB0 (md : Region.Mode) (ops : Array Oper) (n : Nat) : Bool :=
 Region.noSelect ops && decide (n ≤ ops.size) && (List.range n).all (fun i => Region.free md ops (pre ops.size i) i && (Region.ready md ops (pre ops.size i)).contains i) &&
  (List.range (ops.size - n)).all (fun j => Region.ready md ops (pre ops.size (n + j)) == [n + j]) && (Region.ready md ops (pre ops.size ops.size)).isEmpty
theorem wpTail_E0 {n : Nat} {l : List Oper} (hT : ∀ j, j < l.length - n → Region.ready md l.toArray (pre l.length (n + j)) = [n + j]) (hE : Region.ready md l.toArray (pre l.length l.length) = []) :
  ∀ (r : List Oper) (k : Nat) (a : Act) (w : World), n ≤ k → k + r.length = l.length → l.drop k = r → wpTail P l.toArray (fun _ => True) Q r a w → wpAnyE P md l.toArray Q (fun _ => True) l.length r.length (pre l.length k) a w
 | [], k, a, w, hk, hl, hd, h => by
  obtain rfl : k = l.length := by simpa using hl
  exact ⟨hE, h⟩
 | o :: r, k, a, w, hk, hl, hd, h => by
  have hkl : k < l.length := by simp at hl; omega
  have hr := hT (k - n) (by omega)
  rw [show n + (k - n) = k by omega] at hr
  have ho : l.toArray[k]? = some o := by
   have : (l.drop k)[0]? = some o := by rw [hd]; rfl
   simpa using this
  have hd' : l.drop (k + 1) = r := by rw [← List.drop_drop, hd]; rfl
  refine ⟨fun h0 => (by rw [hr] at h0; cases h0), fun i hi => ?_⟩
  rw [hr] at hi
  obtain rfl : i = k := by simpa using hi
  refine wpOp_step ho fun K' hK => h K' fun a' w' hS hT' => hK a' w' ⟨fun _ => trivial, ?_⟩
  exact wpTail_E0 hT hE r (i + 1) a' w' (by omega) (by simp at hl; omega) hd' hT'
theorem wpReads_E0 {n : Nat} {l : List Oper} (hsel : ∀ (j : Nat) (o : Oper) cs b, l.toArray[j]? = some o → o.op ≠ .select cs b) (hQ : ∀ c a a' w, Q (.panic c) a w → Q (.panic c) a' w)
  (hF : ∀ i, i < n → Region.free md l.toArray (pre l.length i) i = true ∧ i ∈ Region.ready md l.toArray (pre l.length i)) (hn : n ≤ l.length)
  {w : World} (K : Act → Prop) (hK : ∀ a, K a → wpAnyE P md l.toArray Q (fun _ => True) l.length (l.length - n) (pre l.length n) a w) :
  ∀ (r : List Oper) (i : Nat) (a : Act), i + r.length = n → (l.take n).drop i = r → wpReads P l.toArray (fun _ => True) K r a → wpAnyE P md l.toArray Q (fun _ => True) l.length (l.length - i) (pre l.length i) a w
 | [], i, a, hi, hd, h => by
  obtain rfl : i = n := by simpa using hi
  exact hK a h
 | o :: r, i, a, hi, hd, h => by
  have hin : i < n := by simp at hi; omega
  obtain ⟨f1, f2⟩ := hF i hin
  obtain ⟨v, hy, h⟩ := h
  have ho : l.toArray[i]? = some o := by
   have : ((l.take n).drop i)[0]? = some o := by rw [hd]; rfl
   rw [List.getElem?_drop, List.getElem?_take] at this
   simpa [hin] using this
  have hd' : (l.take n).drop (i + 1) = r := by rw [← List.drop_drop, hd]; rfl
  have ih := wpReads_E0 hsel hQ hF hn K hK r (i + 1) (a.put o.dst v) (by simp at hi; omega) hd' h
  have e : l.length - i = (l.length - (i + 1)) + 1 := by omega
  rw [e]
  refine wpAnyE_first ho hsel (fun c a w h => hQ c _ _ w h) ?_ _ _ _ _ (Region.free_spec ho f1) f2 hy trivial ih
  intro oL hoL
  have := (Array.getElem?_eq_some_iff.1 hoL).1
  simp at this
theorem wp_region_reads0 {id : Nat} {a : Act} {w : World} {l : List Oper} (n : Nat) (hm : P.follows .mixedOrders = true) (hB : heldB0 .any l.toArray n = true)
  (h : wpReads P l.toArray (fun _ => True) (fun a' => wpTail P l.toArray (fun _ => True) (NoPanic Q) (l.drop n) a' w.drew) (l.take n) a) : (Code.region id l.toArray true).wp P Q a w := by
 refine wp_region_noPanic (wp_region_any hm (wpAny_of_E (S := fun _ => True) (L := l.length) _ _ _ _ ?_))
 simp only [heldB0, Bool.and_eq_true, decide_eq_true_eq, List.all_eq_true, List.mem_range, beq_iff_eq, List.isEmpty_iff, List.size_toArray, List.contains_iff_mem] at hB
 obtain ⟨⟨⟨⟨b1, b2⟩, b3⟩, b4⟩, b5⟩ := hB
 have := wpReads_E0 (Q := NoPanic Q) (n := n) (l := l) (w := w.drew) (Region.noSelect_spec b1) (fun _ _ _ _ h => h) (fun i hi => ⟨(b3 i hi).1, (b3 i hi).2⟩) (by omega) _
  (fun a' h' => by
   have h2 := wpTail_E0 (n := n) b4 b5 (l.drop n) n a' w.drew (Nat.le_refl _) (by simp; omega) rfl h'
   rw [List.length_drop] at h2
   exact h2) (l.take n) 0 a (by simp; omega) rfl h
 simpa [pre] using this
def opAt (l : List Oper) (i : Nat) : Oper := (l[i]?).getD ⟨none, .move (.const undef), 0, "", #[], none⟩
def mixTB (md : Region.Mode) (ops : Array Oper) : List Nat → Array Bool → Bool
 | [], l => (Region.ready md ops l).isEmpty
 | t :: r, l => (Region.ready md ops l == [t]) && mixTB md ops r (l.setIfInBounds t true)
def mixRB (md : Region.Mode) (ops : Array Oper) (T : List Nat) : List Nat → Array Bool → Bool
 | [], l => mixTB md ops T l
 | i :: r, l => Region.free md ops l i && (Region.ready md ops l).contains i && waitsFor md ops (ops.size - 1) i && mixRB md ops T r (l.setIfInBounds i true)
def mixB (md : Region.Mode) (ops : Array Oper) (R T : List Nat) : Bool := Region.noSelect ops && decide (R.length + T.length = ops.size) && (T.getLast? == some (ops.size - 1)) && mixRB md ops T R (Array.replicate ops.size false)
theorem opAt_some {l : List Oper} {i : Nat} {o : Oper} (h : l[i]? = some o) : opAt l i = o := by simp [opAt, h]
theorem wpTail_mix {l : List Oper} : ∀ (T : List Nat) (listed : Array Bool) (a : Act) (w : World), (∀ t, T.getLast? = some t → t = l.length - 1) → mixTB md l.toArray T listed = true → wpTail P l.toArray S Q (T.map (opAt l)) a w → wpAnyE P md l.toArray Q S (l.length - 1) T.length listed a w
 | [], listed, a, w, _, hT, h => by
  simp only [mixTB, List.isEmpty_iff] at hT
  exact ⟨hT, h⟩
 | t :: r, listed, a, w, hL, hT, h => by
  simp only [mixTB, Bool.and_eq_true, beq_iff_eq] at hT
  refine ⟨fun h0 => (by rw [hT.1] at h0; cases h0), fun i hi => ?_⟩
  obtain ⟨_, o, ho, _⟩ := mem_ready.1 hi
  rw [hT.1] at hi
  obtain rfl : i = t := by simpa using hi
  have ho' : l[i]? = some o := by simpa using ho
  simp only [List.map_cons, opAt_some ho'] at h
  refine wpOp_step ho fun K' hK => h K' fun a' w' hS hT' => hK a' w' ⟨fun hne => hS fun hr => hne ?_, ?_⟩
  ·have : r = [] := by simpa using hr
   subst this
   exact hL i rfl
  ·refine wpTail_mix r _ a' w' (fun q hq => ?_) hT.2 hT'
   cases r with
   | nil => cases hq
   | cons x r => exact hL q (by rw [List.getLast?_cons_cons]; exact hq)
theorem wpReads_mix {l : List Oper} {T : List Nat} (hsel : ∀ (j : Nat) (o : Oper) cs b, l.toArray[j]? = some o → o.op ≠ .select cs b) (hQ : ∀ c a a' w, Q (.panic c) a w → Q (.panic c) a' w) (hL : ∀ t, T.getLast? = some t → t = l.length - 1)
  {w : World} (hS : S w) : ∀ (R : List Nat) (listed : Array Bool) (a : Act), mixRB md l.toArray T R listed = true → wpReads P l.toArray S (fun a' => wpTail P l.toArray S Q (T.map (opAt l)) a' w) (R.map (opAt l)) a →
   wpAnyE P md l.toArray Q S (l.length - 1) (R.length + T.length) listed a w
 | [], listed, a, hR, h => by
  rw [List.length_nil, Nat.zero_add]
  exact wpTail_mix T listed a w hL hR h
 | i :: r, listed, a, hR, h => by
  simp only [mixRB, Bool.and_eq_true, List.contains_iff_mem] at hR
  obtain ⟨⟨⟨f1, f2⟩, f3⟩, f4⟩ := hR
  obtain ⟨_, o, ho, _⟩ := mem_ready.1 f2
  have ho' : l[i]? = some o := by simpa using ho
  simp only [List.map_cons, opAt_some ho'] at h
  obtain ⟨v, hy, h⟩ := h
  have ih := wpReads_mix hsel hQ hL hS r _ _ f4 h
  rw [List.length_cons, Nat.add_right_comm]
  refine wpAnyE_first ho hsel (fun c a w h => hQ c _ _ w h) ?_ _ _ _ _ (Region.free_spec ho f1) f2 hy hS ih
  intro oL hoL
  unfold waitsFor at f3
  simp only [List.size_toArray] at f3
  rw [hoL] at f3
  obtain ⟨e, he, h2⟩ := Array.any_eq_true'.1 f3
  simp only [Bool.and_eq_true, beq_iff_eq] at h2
  exact ⟨e, he, h2.1, h2.2⟩
theorem wp_region_mix {id : Nat} {a : Act} {w : World} {l : List Oper} (R T : List Nat) (S : World → Prop) (hm : P.follows .mixedOrders = true) (hB : mixB .any l.toArray R T = true) (hS : S w.drew)
  (h : wpReads P l.toArray S (fun a' => wpTail P l.toArray S (NoPanic Q) (T.map (opAt l)) a' w.drew) (R.map (opAt l)) a) : (Code.region id l.toArray true).wp P Q a w := by
 refine wp_region_noPanic (wp_region_any hm (wpAny_of_E (S := S) (L := l.length - 1) _ _ _ _ ?_))
 simp only [mixB, Bool.and_eq_true, decide_eq_true_eq, beq_iff_eq, List.size_toArray] at hB
 obtain ⟨⟨⟨b1, b2⟩, b3⟩, b4⟩ := hB
 have := wpReads_mix (Q := NoPanic Q) (S := S) (l := l) (T := T) (w := w.drew) (Region.noSelect_spec b1) (fun _ _ _ _ h => h) (fun t ht => by rw [b3] at ht; injection ht with ht; exact ht.symm) hS R _ a b4 h
 rw [b2] at this
 exact this
end
end Go.Proofs.YtdfpbhlnlkjjlaaGreat

/- Plain law: sets of integers as canonical lists of spans; what the sweep over the ends of spans gives. No Go in sight. -/
namespace Go.Proofs.YtdfpbhlnlkjjlaaGreat
set_option linter.unusedVariables false
set_option linter.unusedSimpArgs false
abbrev Sp := Int × Int
def smem (s : List Sp) (x : Int) : Prop := ∃ p ∈ s, p.1 ≤ x ∧ x < p.2
instance (s : List Sp) (x : Int) : Decidable (smem s x) := by unfold smem; infer_instance
def SCan (s : List Sp) : Prop := (∀ p ∈ s, p.1 < p.2) ∧ s.Pairwise (fun p q => p.2 < q.1)
instance (s : List Sp) : Decidable (SCan s) := by unfold SCan; infer_instance
theorem smem_nil {x : Int} : ¬ smem [] x := by simp [smem]
theorem smem_cons {p : Sp} {s : List Sp} {x : Int} : smem (p :: s) x ↔ (p.1 ≤ x ∧ x < p.2) ∨ smem s x := by simp [smem]
theorem smem_append {s t : List Sp} {x : Int} : smem (s ++ t) x ↔ smem s x ∨ smem t x := by
 simp only [smem, List.mem_append]
 constructor
 ·rintro ⟨p, hp | hp, h⟩
  ·exact .inl ⟨p, hp, h⟩
  ·exact .inr ⟨p, hp, h⟩
 ·rintro (⟨p, hp, h⟩ | ⟨p, hp, h⟩)
  ·exact ⟨p, .inl hp, h⟩
  ·exact ⟨p, .inr hp, h⟩
theorem SCan.nil : SCan [] := by simp [SCan]
theorem SCan.tail {p : Sp} {s : List Sp} (h : SCan (p :: s)) : SCan s := ⟨fun q hq => h.1 q (by simp [hq]), (List.pairwise_cons.1 h.2).2⟩
theorem SCan.head {p : Sp} {s : List Sp} (h : SCan (p :: s)) : p.1 < p.2 := h.1 p (by simp)
theorem SCan.gt {p : Sp} {s : List Sp} {x : Int} (h : SCan (p :: s)) (hx : smem s x) : p.2 < x := by
 obtain ⟨q, hq, h1, h2⟩ := hx
 have := (List.pairwise_cons.1 h.2).1 q hq
 omega
theorem SCan.snoc {s : List Sp} {p : Sp} : SCan (s ++ [p]) ↔ SCan s ∧ p.1 < p.2 ∧ ∀ q ∈ s, q.2 < p.1 := by
 unfold SCan
 rw [List.pairwise_append]
 constructor
 ·rintro ⟨h1, h2, _, h4⟩
  exact ⟨⟨fun q hq => h1 q (by simp [hq]), h2⟩, h1 p (by simp), fun q hq => h4 q hq p (by simp)⟩
 ·rintro ⟨⟨h1, h2⟩, h3, h4⟩
  refine ⟨?_, h2, by simp, ?_⟩
  ·intro q hq
   rcases List.mem_append.1 hq with h | h
   ·exact h1 q h
   ·simp at h; subst h; exact h3
  ·intro a ha b hb
   simp at hb; subst hb; exact h4 a ha
theorem SCan.ext : ∀ {s t : List Sp}, SCan s → SCan t → (∀ x, smem s x ↔ smem t x) → s = t
 | [], [], _, _, _ => rfl
 | [], q :: t, _, ht, h => by
  have := (h q.1).2 (smem_cons.2 (.inl ⟨by omega, ht.head⟩))
  exact (smem_nil this).elim
 | p :: s, [], hs, _, h => by
  have := (h p.1).1 (smem_cons.2 (.inl ⟨by omega, hs.head⟩))
  exact (smem_nil this).elim
 | p :: s, q :: t, hs, ht, h => by
  have ps := hs.head
  have qt := ht.head
  have e1 : p.1 = q.1 := by
   have a := (h p.1).1 (smem_cons.2 (.inl ⟨by omega, ps⟩))
   have b := (h q.1).2 (smem_cons.2 (.inl ⟨by omega, qt⟩))
   rcases smem_cons.1 a with a | a <;> rcases smem_cons.1 b with b | b
   ·omega
   ·have := hs.gt b; omega
   ·have := ht.gt a; omega
   ·have := hs.gt b; have := ht.gt a; omega
  have e2 : p.2 = q.2 := by
   rcases Int.lt_trichotomy p.2 q.2 with hl | hl | hl
   ·have := (h p.2).2 (smem_cons.2 (.inl ⟨by omega, hl⟩))
    rcases smem_cons.1 this with a | a
    ·omega
    ·have := hs.gt a; omega
   ·exact hl
   ·have := (h q.2).1 (smem_cons.2 (.inl ⟨by omega, hl⟩))
    rcases smem_cons.1 this with a | a
    ·omega
    ·have := ht.gt a; omega
  have e : p = q := Prod.ext e1 e2
  subst e
  have : s = t := SCan.ext hs.tail ht.tail fun x => by
   constructor
   ·intro hx
    have g := hs.gt hx
    rcases smem_cons.1 ((h x).1 (smem_cons.2 (.inr hx))) with a | a
    ·omega
    ·exact a
   ·intro hx
    have g := ht.gt hx
    rcases smem_cons.1 ((h x).2 (smem_cons.2 (.inr hx))) with a | a
    ·omega
    ·exact a
  rw [this]
def sext (out : List Sp) (last e : Int) : List Sp :=
 match out.getLast? with
 | some q => if q.2 = last then out.dropLast ++ [(q.1, e)] else out ++ [(last, e)]
 | none => out ++ [(last, e)]
theorem sext_ok {out : List Sp} {last e : Int} (h : SCan out) (hl : ∀ q ∈ out, q.2 ≤ last) (he : last < e) :
  SCan (sext out last e) ∧ (∀ q ∈ sext out last e, q.2 ≤ e) ∧ ∀ x, smem (sext out last e) x ↔ smem out x ∨ (last ≤ x ∧ x < e) := by
 unfold sext
 cases hg : out.getLast? with
 | none =>
  have : out = [] := List.getLast?_eq_none_iff.1 hg
  subst this
  refine ⟨by simp [SCan, he], by simp, fun x => ?_⟩
  simp [smem]
 | some q =>
  obtain ⟨o, rfl⟩ := List.getLast?_eq_some_iff.1 hg
  obtain ⟨h1, h2, h3⟩ := SCan.snoc.1 h
  have hq := hl q (by simp)
  simp only [List.dropLast_concat]
  by_cases hb : q.2 = last
  ·rw [if_pos hb]
   refine ⟨SCan.snoc.2 ⟨h1, by simp; omega, fun r hr => h3 r hr⟩, ?_, fun x => ?_⟩
   ·intro r hr
    rcases List.mem_append.1 hr with hr | hr
    ·have := hl r (by simp [hr]); omega
    ·simp at hr; subst hr; simp
   ·rw [smem_append, smem_append]
    simp only [smem_cons, smem_nil, or_false]
    constructor
    ·rintro (a | a)
     ·exact .inl (.inl a)
     ·by_cases hx : x < q.2
      ·exact .inl (.inr ⟨a.1, hx⟩)
      ·exact .inr ⟨by omega, a.2⟩
    ·rintro ((a | a) | a)
     ·exact .inl a
     ·exact .inr ⟨a.1, by omega⟩
     ·exact .inr ⟨by omega, a.2⟩
  ·rw [if_neg hb]
   refine ⟨SCan.snoc.2 ⟨h, he, fun r hr => ?_⟩, ?_, fun x => ?_⟩
   ·rcases List.mem_append.1 hr with hr' | hr'
    ·have := h3 r hr'; show r.2 < last; omega
    ·simp at hr'; subst hr'; show r.2 < last; omega
   ·intro r hr
    rcases List.mem_append.1 hr with hr | hr
    ·have := hl r hr; omega
    ·simp at hr; subst hr; simp
   ·rw [smem_append (t := [(last, e)])]
    simp only [smem_cons, smem_nil, or_false]
abbrev En := Int × Int × Int
def evs (i : Int) : List Sp → List En
 | [] => []
 | p :: s => (p.1, i, 1) :: (p.2, i, -1) :: evs i s
def cnt (i x : Int) : List En → Int
 | [] => 0
 | e :: r => (if e.2.1 = i ∧ e.1 ≤ x then e.2.2 else 0) + cnt i x r
theorem cnt_append (i x : Int) : ∀ (A B : List En), cnt i x (A ++ B) = cnt i x A + cnt i x B
 | [], B => by simp [cnt]
 | e :: A, B => by simp only [List.cons_append, cnt, cnt_append i x A B]; omega
theorem cnt_perm (i x : Int) {A B : List En} (h : A.Perm B) : cnt i x A = cnt i x B := by
 induction h with
 | nil => rfl
 | cons e _ ih => simp only [cnt, ih]
 | swap a b l => simp only [cnt]; omega
 | trans _ _ h1 h2 => exact h1.trans h2
theorem cnt_far (i x : Int) : ∀ (A : List En), (∀ e ∈ A, x < e.1) → cnt i x A = 0
 | [], _ => rfl
 | e :: A, h => by
  have h1 := h e (by simp)
  simp only [cnt, cnt_far i x A (fun e he => h e (by simp [he]))]
  rw [if_neg (by omega)]; rfl
theorem cnt_near (i x y : Int) (hxy : y ≤ x) : ∀ (A : List En), (∀ e ∈ A, e.1 ≤ y) → cnt i x A = cnt i y A
 | [], _ => rfl
 | e :: A, h => by
  have h1 := h e (by simp)
  simp only [cnt, cnt_near i x y hxy A (fun e he => h e (by simp [he]))]
  by_cases hi : e.2.1 = i
  ·rw [if_pos ⟨hi, by omega⟩, if_pos ⟨hi, h1⟩]
  ·rw [if_neg (fun g => hi g.1), if_neg (fun g => hi g.1)]
theorem cnt_evs_other {i j : Int} (hij : i ≠ j) (x : Int) : ∀ (s : List Sp), cnt j x (evs i s) = 0
 | [] => rfl
 | p :: s => by simp [evs, cnt, hij, cnt_evs_other hij x s]
theorem cnt_evs (i x : Int) : ∀ (s : List Sp), (∀ p ∈ s, p.1 < p.2) → 0 ≤ cnt i x (evs i s) ∧ (0 < cnt i x (evs i s) ↔ smem s x)
 | [], _ => by simp [evs, cnt, smem_nil]
 | p :: s, h => by
  have hp := h p (by simp)
  obtain ⟨h1, h2⟩ := cnt_evs i x s (fun q hq => h q (by simp [hq]))
  simp only [evs, cnt, true_and, smem_cons, ← h2]
  by_cases a : p.1 ≤ x <;> by_cases b : p.2 ≤ x <;> simp [a, b] <;> omega
theorem cnt_evs_end (i x : Int) : ∀ (s : List Sp), (∀ e ∈ evs i s, e.1 ≤ x) → cnt i x (evs i s) = 0
 | [], _ => rfl
 | p :: s, h => by
  have h1 : p.1 ≤ x := h (p.1, i, 1) (by simp [evs])
  have h2 : p.2 ≤ x := h (p.2, i, -1) (by simp [evs])
  have h3 := cnt_evs_end i x s (fun e he => h e (by simp [evs, he]))
  simp [evs, cnt, h1, h2, h3]
structure JS where
 o0 : Int
 o1 : Int
 out : List Sp
 last : Int
 inn : Bool
def js0 : JS := ⟨0, 0, [], 0, false⟩
def jclose (st : JS) (e : Int) : List Sp := if st.inn = true ∧ st.last ≠ e then sext st.out st.last e else st.out
def jstep (h : Bool → Bool → Bool) (st : JS) (e : En) : JS :=
 let o0 := if e.2.1 = 0 then st.o0 + e.2.2 else st.o0
 let o1 := if e.2.1 = 1 then st.o1 + e.2.2 else st.o1
 ⟨o0, o1, jclose st e.1, e.1, h (decide (0 < o0)) (decide (0 < o1))⟩
def jfold (h : Bool → Bool → Bool) (E : List En) : JS := E.foldl (jstep h) js0
def jH (h : Bool → Bool → Bool) (E : List En) (x : Int) : Bool := h (decide (0 < cnt 0 x E)) (decide (0 < cnt 1 x E))
structure JInv (h : Bool → Bool → Bool) (E P : List En) (st : JS) : Prop where
 can : SCan st.out
 ends : ∀ q ∈ st.out, q.2 ≤ st.last
 near : ∀ e ∈ P, e.1 ≤ st.last
 c0 : st.o0 = cnt 0 st.last P
 c1 : st.o1 = cnt 1 st.last P
 inn : st.inn = h (decide (0 < st.o0)) (decide (0 < st.o1))
 mem : ∀ x, smem st.out x ↔ x < st.last ∧ jH h E x = true
theorem jinv_step {h : Bool → Bool → Bool} {E P R : List En} {e : En} {st : JS} (hE : E = P ++ (e :: R)) (hs : E.Pairwise (fun a b => a.1 ≤ b.1)) (hle : st.last ≤ e.1) (hI : JInv h E P st) : JInv h E (P ++ [e]) (jstep h st e) := by
 have hR : ∀ r ∈ e :: R, e.1 ≤ r.1 := by
  rw [hE, List.pairwise_append] at hs
  intro r hr
  rcases List.mem_cons.1 hr with rfl | hr
  ·omega
  ·exact (List.pairwise_cons.1 hs.2.1).1 r hr
 have hmid : ∀ x, st.last ≤ x → x < e.1 → jH h E x = st.inn := by
  intro x h1 h2
  have k : ∀ i, cnt i x E = cnt i st.last P := fun i => by
   rw [hE, cnt_append, cnt_far i x (e :: R) (fun r hr => by have := hR r hr; omega), cnt_near i x st.last h1 P hI.near]; omega
  unfold jH
  rw [k, k, hI.inn, hI.c0, hI.c1]
 have hnear : ∀ r ∈ P ++ [e], r.1 ≤ e.1 := by
  intro r hr
  rcases List.mem_append.1 hr with hr | hr
  ·have := hI.near r hr; omega
  ·simp at hr; subst hr; omega
 have hc : ∀ i, cnt i e.1 (P ++ [e]) = cnt i st.last P + (if e.2.1 = i then e.2.2 else 0) := by
  intro i
  rw [cnt_append, cnt_near i e.1 st.last hle P hI.near]
  simp [cnt]
 have hcl : SCan (jclose st e.1) ∧ (∀ q ∈ jclose st e.1, q.2 ≤ e.1) ∧ ∀ x, smem (jclose st e.1) x ↔ x < e.1 ∧ jH h E x = true := by
  unfold jclose
  by_cases hb : st.inn = true ∧ st.last ≠ e.1
  ·rw [if_pos hb]
   obtain ⟨a1, a2, a3⟩ := sext_ok hI.can hI.ends (show st.last < e.1 by omega)
   refine ⟨a1, a2, fun x => ?_⟩
   rw [a3, hI.mem]
   constructor
   ·rintro (⟨b1, b2⟩ | ⟨b1, b2⟩)
    ·exact ⟨by omega, b2⟩
    ·exact ⟨b2, by rw [hmid x b1 b2]; exact hb.1⟩
   ·rintro ⟨b1, b2⟩
    by_cases b3 : x < st.last
    ·exact .inl ⟨b3, b2⟩
    ·exact .inr ⟨by omega, b1⟩
  ·rw [if_neg hb]
   refine ⟨hI.can, fun q hq => by have := hI.ends q hq; omega, fun x => ?_⟩
   rw [hI.mem]
   constructor
   ·rintro ⟨b1, b2⟩
    exact ⟨by omega, b2⟩
   ·rintro ⟨b1, b2⟩
    refine ⟨?_, b2⟩
    rcases Int.lt_or_le x st.last with b3 | b3
    ·exact b3
    ·exfalso
     rw [hmid x b3 b1] at b2
     exact hb ⟨b2, by omega⟩
 refine ⟨hcl.1, hcl.2.1, hnear, ?_, ?_, rfl, hcl.2.2⟩
 ·show (if e.2.1 = 0 then st.o0 + e.2.2 else st.o0) = cnt 0 e.1 (P ++ [e])
  rw [hc, hI.c0]; split <;> omega
 ·show (if e.2.1 = 1 then st.o1 + e.2.2 else st.o1) = cnt 1 e.1 (P ++ [e])
  rw [hc, hI.c1]; split <;> omega
theorem jinv_first {h : Bool → Bool → Bool} (h0 : h false false = false) {E R : List En} {e : En} (hE : E = e :: R) (hs : E.Pairwise (fun a b => a.1 ≤ b.1)) : JInv h E [e] (jstep h js0 e) := by
 have hR : ∀ r ∈ E, e.1 ≤ r.1 := by
  rw [hE] at hs ⊢
  intro r hr
  rcases List.mem_cons.1 hr with rfl | hr
  ·omega
  ·exact (List.pairwise_cons.1 hs).1 r hr
 refine ⟨?_, ?_, by simp [jstep], ?_, ?_, rfl, fun x => ?_⟩
 ·simp [jstep, jclose, js0, SCan.nil]
 ·simp [jstep, jclose, js0]
 ·simp [jstep, js0, cnt]
 ·simp [jstep, js0, cnt]
 ·simp only [jstep, jclose, js0, Bool.false_eq_true, false_and, if_false]
  constructor
  ·exact fun g => (smem_nil g).elim
  ·rintro ⟨b1, b2⟩
   exfalso
   unfold jH at b2
   rw [cnt_far 0 x E (fun r hr => by have := hR r hr; omega), cnt_far 1 x E (fun r hr => by have := hR r hr; omega)] at b2
   simp [h0] at b2
theorem jinv_all {h : Bool → Bool → Bool} {E : List En} (hs : E.Pairwise (fun a b => a.1 ≤ b.1)) : ∀ (R P : List En) (st : JS), E = P ++ R → P ≠ [] → JInv h E P st → (∃ e, P.getLast? = some e ∧ st.last = e.1) → JInv h E E (R.foldl (jstep h) st)
 | [], P, st, hE, _, hI, _ => by rw [List.append_nil] at hE; subst hE; exact hI
 | e :: R, P, st, hE, hP, hI, hl => by
  have hle : st.last ≤ e.1 := by
   obtain ⟨q, hq, hq'⟩ := hl
   obtain ⟨o, rfl⟩ := List.getLast?_eq_some_iff.1 hq
   rw [hE, List.pairwise_append] at hs
   rw [hq']
   exact hs.2.2 q (by simp) e (by simp)
  exact jinv_all hs R (P ++ [e]) (jstep h st e) (by rw [hE]; simp) (by simp) (jinv_step hE hs hle hI) ⟨e, by simp, rfl⟩
theorem jfold_ok {h : Bool → Bool → Bool} (h0 : h false false = false) {a b : List Sp} (ha : ∀ p ∈ a, p.1 < p.2) (hb : ∀ p ∈ b, p.1 < p.2) {E : List En} (hp : E.Perm (evs 0 a ++ evs 1 b)) (hs : E.Pairwise (fun a b => a.1 ≤ b.1)) :
  SCan (jfold h E).out ∧ ∀ x, smem (jfold h E).out x ↔ h (decide (smem a x)) (decide (smem b x)) = true := by
 have hH : ∀ x, jH h E x = h (decide (smem a x)) (decide (smem b x)) := by
  intro x
  unfold jH
  have e0 : cnt 0 x E = cnt 0 x (evs 0 a) := by rw [cnt_perm 0 x hp, cnt_append, cnt_evs_other (by omega) x b]; omega
  have e1 : cnt 1 x E = cnt 1 x (evs 1 b) := by rw [cnt_perm 1 x hp, cnt_append, cnt_evs_other (by omega) x a]; omega
  rw [e0, e1]
  congr 1
  ·exact decide_eq_decide.2 (cnt_evs 0 x a ha).2
  ·exact decide_eq_decide.2 (cnt_evs 1 x b hb).2
 cases hE : E with
 | nil =>
  refine ⟨SCan.nil, fun x => ?_⟩
  rw [← hH, hE]
  constructor
  ·exact fun g => (smem_nil g).elim
  ·intro g
   simp [jH, cnt, h0] at g
 | cons e R =>
  have hI := jinv_all hs R [e] (jstep h js0 e) (by rw [hE]; rfl) (by simp) (jinv_first h0 hE hs) ⟨e, by simp, rfl⟩
  have hI' : JInv h E E (jfold h E) := by
   have : jfold h E = R.foldl (jstep h) (jstep h js0 e) := by rw [hE]; rfl
   rw [this]; exact hI
  rw [← hE]
  refine ⟨hI'.can, fun x => ?_⟩
  rw [hI'.mem, hH]
  constructor
  ·exact fun g => g.2
  ·intro g
   refine ⟨?_, g⟩
   rcases Int.lt_or_le x (jfold h E).last with hx | hx
   ·exact hx
   ·exfalso
    rw [← hH] at g
    unfold jH at g
    have z : ∀ e ∈ evs 0 a ++ evs 1 b, e.1 ≤ x := fun e he => by have := hI'.near e (hp.mem_iff.2 he); omega
    rw [cnt_perm 0 x hp, cnt_perm 1 x hp, cnt_append, cnt_append, cnt_evs_other (i := 1) (j := 0) (by omega) x b, cnt_evs_other (i := 0) (j := 1) (by omega) x a,
     cnt_evs_end 0 x a (fun e he => z e (by simp [he])), cnt_evs_end 1 x b (fun e he => z e (by simp [he]))] at g
    simp [h0] at g
end Go.Proofs.YtdfpbhlnlkjjlaaGreat

/- Plain law: regions of the plane as canonical lists of rectangles; a canonical list is known by its points; the sweep over cuts. No Go in sight. -/
namespace Go.Proofs.YtdfpbhlnlkjjlaaGreat
set_option linter.unusedVariables false
set_option linter.unusedSimpArgs false
structure R4 where
 x0 : Int
 y0 : Int
 x1 : Int
 y1 : Int
deriving DecidableEq
def rin (r : R4) (x y : Int) : Prop := r.x0 ≤ x ∧ x < r.x1 ∧ r.y0 ≤ y ∧ y < r.y1
instance (r : R4) (x y : Int) : Decidable (rin r x y) := by unfold rin; infer_instance
def pmem (l : List R4) (x y : Int) : Prop := ∃ r ∈ l, rin r x y
instance (l : List R4) (x y : Int) : Decidable (pmem l x y) := by unfold pmem; infer_instance
theorem pmem_nil {x y : Int} : ¬ pmem [] x y := by simp [pmem]
theorem pmem_cons {r : R4} {l : List R4} {x y : Int} : pmem (r :: l) x y ↔ rin r x y ∨ pmem l x y := by simp [pmem]
theorem pmem_append {l m : List R4} {x y : Int} : pmem (l ++ m) x y ↔ pmem l x y ∨ pmem m x y := by
 simp only [pmem, List.mem_append]
 constructor
 ·rintro ⟨p, hp | hp, h⟩
  ·exact .inl ⟨p, hp, h⟩
  ·exact .inr ⟨p, hp, h⟩
 ·rintro (⟨p, hp, h⟩ | ⟨p, hp, h⟩)
  ·exact ⟨p, .inl hp, h⟩
  ·exact ⟨p, .inr hp, h⟩
structure Slab where
 f : Int
 t : Int
 s : List Sp
def Slab.has (a : Slab) (x y : Int) : Prop := a.f ≤ x ∧ x < a.t ∧ smem a.s y
def inS (S : List Slab) (x y : Int) : Prop := ∃ a ∈ S, a.has x y
def flat1 (a : Slab) : List R4 := a.s.map fun p => ⟨a.f, p.1, a.t, p.2⟩
def flat (S : List Slab) : List R4 := S.flatMap flat1
theorem pmem_flat1 {a : Slab} {x y : Int} : pmem (flat1 a) x y ↔ a.has x y := by
 unfold pmem flat1 Slab.has smem rin
 constructor
 ·rintro ⟨r, hr, h1, h2, h3, h4⟩
  obtain ⟨p, hp, rfl⟩ := List.mem_map.1 hr
  exact ⟨h1, h2, p, hp, h3, h4⟩
 ·rintro ⟨h1, h2, p, hp, h3, h4⟩
  exact ⟨_, List.mem_map.2 ⟨p, hp, rfl⟩, h1, h2, h3, h4⟩
theorem pmem_flat {S : List Slab} {x y : Int} : pmem (flat S) x y ↔ inS S x y := by
 induction S with
 | nil => simp [flat, pmem, inS]
 | cons a S ih =>
  have : flat (a :: S) = flat1 a ++ flat S := by simp [flat]
  rw [this, pmem_append, ih, pmem_flat1]
  simp [inS]
def okS (a : Slab) : Prop := a.f < a.t ∧ a.s ≠ [] ∧ SCan a.s
def Rl (a b : Slab) : Prop := a.t ≤ b.f ∧ (a.t = b.f → a.s ≠ b.s)
def SOK : List Slab → Prop
 | [] => True
 | [a] => okS a
 | a :: b :: r => okS a ∧ Rl a b ∧ SOK (b :: r)
theorem SOK.head {a : Slab} : ∀ {S : List Slab}, SOK (a :: S) → okS a
 | [], h => h
 | _ :: _, h => h.1
theorem SOK.tail {a : Slab} : ∀ {S : List Slab}, SOK (a :: S) → SOK S
 | [], _ => trivial
 | _ :: _, h => h.2.2
theorem SOK.after : ∀ {S : List Slab} {a : Slab}, SOK (a :: S) → ∀ b ∈ S, a.t ≤ b.f
 | c :: S, a, h, b, hb => by
  have h1 := h.2.1.1
  rcases List.mem_cons.1 hb with rfl | hb
  ·exact h1
  ·have h2 := SOK.after h.2.2 b hb
   have h3 := h.2.2.head.1
   omega
theorem SOK.all : ∀ {S : List Slab}, SOK S → ∀ a ∈ S, okS a
 | b :: S, h, a, ha => by
  rcases List.mem_cons.1 ha with rfl | ha
  ·exact h.head
  ·exact SOK.all h.tail a ha
theorem SOK.snoc {b : Slab} : ∀ {S : List Slab}, SOK (S ++ [b]) ↔ SOK S ∧ okS b ∧ ∀ a, S.getLast? = some a → Rl a b
 | [] => by simp [SOK]
 | [a] => by
  show SOK [a, b] ↔ _
  simp only [SOK, List.getLast?_singleton, Option.some.injEq]
  constructor
  ·rintro ⟨h1, h2, h3⟩
   exact ⟨h1, h3, fun c hc => hc ▸ h2⟩
  ·rintro ⟨h1, h2, h3⟩
   exact ⟨h1, h3 a rfl, h2⟩
 | a :: c :: S => by
  have ih := @SOK.snoc b (c :: S)
  show (okS a ∧ Rl a c ∧ SOK ((c :: S) ++ [b])) ↔ _
  rw [ih]
  simp only [SOK, List.getLast?_cons_cons]
  constructor
  ·rintro ⟨h1, h2, h3, h4, h5⟩
   exact ⟨⟨h1, h2, h3⟩, h4, h5⟩
  ·rintro ⟨⟨h1, h2, h3⟩, h4, h5⟩
   exact ⟨h1, h2, h3, h4, h5⟩
def cr : List Slab → Int → List Sp
 | [], _ => []
 | a :: S, x => if a.f ≤ x ∧ x < a.t then a.s else cr S x
theorem cr_far : ∀ {S : List Slab} {x : Int}, (∀ a ∈ S, x < a.f ∨ a.t ≤ x) → cr S x = []
 | [], _, _ => rfl
 | a :: S, x, h => by
  have := h a (by simp)
  simp only [cr]
  rw [if_neg (by omega)]
  exact cr_far fun b hb => h b (by simp [hb])
theorem cr_can : ∀ {S : List Slab} (x : Int), SOK S → SCan (cr S x)
 | [], _, _ => SCan.nil
 | a :: S, x, h => by
  simp only [cr]
  split
  ·exact h.head.2.2
  ·exact cr_can x h.tail
theorem inS_cr : ∀ {S : List Slab} {x y : Int}, SOK S → (inS S x y ↔ smem (cr S x) y)
 | [], x, y, _ => by simp [inS, cr, smem]
 | a :: S, x, y, h => by
  have ih := inS_cr (x := x) (y := y) h.tail
  have e : inS (a :: S) x y ↔ a.has x y ∨ inS S x y := by simp [inS]
  rw [e, ih]
  simp only [cr]
  by_cases hx : a.f ≤ x ∧ x < a.t
  ·rw [if_pos hx, cr_far (S := S) (fun b hb => .inl (by have := h.after b hb; omega))]
   simp only [smem_nil, or_false]
   exact ⟨fun g => g.2.2, fun g => ⟨hx.1, hx.2, g⟩⟩
  ·rw [if_neg hx]
   constructor
   ·rintro (g | g)
    ·exact (hx ⟨g.1, g.2.1⟩).elim
    ·exact g
   ·exact .inr
theorem cr_head {a : Slab} {S : List Slab} (h : SOK (a :: S)) {x : Int} (h1 : a.f ≤ x) (h2 : x < a.t) : cr (a :: S) x = a.s := by simp [cr, h1, h2]
theorem cr_before {a : Slab} {S : List Slab} (h : SOK (a :: S)) {x : Int} (h1 : x < a.f) : cr (a :: S) x = [] := by
 refine cr_far fun b hb => .inl ?_
 rcases List.mem_cons.1 hb with rfl | hb
 ·exact h1
 ·have := h.after b hb; have := h.head.1; omega
theorem cr_end {a : Slab} {S : List Slab} (h : SOK (a :: S)) : cr (a :: S) a.t ≠ a.s := by
 intro e
 simp only [cr] at e
 rw [if_neg (by omega)] at e
 cases S with
 | nil => exact h.head.2.1 e.symm
 | cons c S =>
  have hr := h.2.1
  by_cases hc : a.t = c.f
  ·rw [cr_head h.2.2 (by omega) (by have := h.2.2.head.1; omega)] at e
   exact hr.2 hc e.symm
  ·rw [cr_before h.2.2 (by have := hr.1; omega)] at e
   exact h.head.2.1 e.symm
theorem cr_ext : ∀ {S T : List Slab}, SOK S → SOK T → (∀ x, cr S x = cr T x) → S = T
 | [], [], _, _, _ => rfl
 | [], b :: T, _, ht, h => by
  have := h b.f
  rw [cr_head ht (by omega) ht.head.1] at this
  exact (ht.head.2.1 this.symm).elim
 | a :: S, [], hs, _, h => by
  have := h a.f
  rw [cr_head hs (by omega) hs.head.1] at this
  exact (hs.head.2.1 this).elim
 | a :: S, b :: T, hs, ht, h => by
  have hsa := hs.head
  have htb := ht.head
  have e1 : a.f = b.f := by
   rcases Int.lt_trichotomy a.f b.f with g | g | g
   ·have := h a.f
    rw [cr_head hs (by omega) hsa.1, cr_before ht g] at this
    exact (hsa.2.1 this).elim
   ·exact g
   ·have := h b.f
    rw [cr_head ht (by omega) htb.1, cr_before hs g] at this
    exact (htb.2.1 this.symm).elim
  have e2 : a.s = b.s := by
   have := h a.f
   rw [cr_head hs (by omega) hsa.1, cr_head ht (by omega) (by have := htb.1; omega)] at this
   exact this
  have e3 : a.t = b.t := by
   rcases Int.lt_trichotomy a.t b.t with g | g | g
   ·have := h a.t
    rw [cr_head ht (by have := hsa.1; omega) g] at this
    exact (cr_end hs (by rw [this, e2])).elim
   ·exact g
   ·have := h b.t
    rw [cr_head hs (by have := htb.1; omega) g] at this
    exact (cr_end ht (by rw [← this, e2])).elim
  have e : a = b := by
   cases a; cases b
   simp only at e1 e2 e3
   subst e1; subst e2; subst e3
   rfl
  subst e
  have : S = T := cr_ext hs.tail ht.tail fun x => by
   by_cases hx : x < a.t
   ·rw [cr_far (S := S) (fun b hb => .inl (by have := hs.after b hb; omega)), cr_far (S := T) (fun b hb => .inl (by have := ht.after b hb; omega))]
   ·have := h x
    simp only [cr] at this
    rwa [if_neg (by omega), if_neg (by omega)] at this
  rw [this]
def RCan (l : List R4) : Prop := ∃ S, SOK S ∧ l = flat S
theorem RCan.nil : RCan [] := ⟨[], trivial, rfl⟩
theorem RCan.ext {l m : List R4} (hl : RCan l) (hm : RCan m) (h : ∀ x y, pmem l x y ↔ pmem m x y) : l = m := by
 obtain ⟨S, hS, rfl⟩ := hl
 obtain ⟨T, hT, rfl⟩ := hm
 have : S = T := cr_ext hS hT fun x => SCan.ext (cr_can x hS) (cr_can x hT) fun y => by
  rw [← inS_cr hS, ← inS_cr hT, ← pmem_flat, ← pmem_flat]
  exact h x y
 rw [this]
def addS (S : List Slab) (f t : Int) (s : List Sp) : List Slab :=
 if s = [] then S else
 match S.getLast? with
 | some a => if a.t = f ∧ a.s = s then S.dropLast ++ [⟨a.f, t, s⟩] else S ++ [⟨f, t, s⟩]
 | none => [⟨f, t, s⟩]
theorem inS_append {S T : List Slab} {x y : Int} : inS (S ++ T) x y ↔ inS S x y ∨ inS T x y := by
 simp only [inS, List.mem_append]
 constructor
 ·rintro ⟨p, hp | hp, h⟩
  ·exact .inl ⟨p, hp, h⟩
  ·exact .inr ⟨p, hp, h⟩
 ·rintro (⟨p, hp, h⟩ | ⟨p, hp, h⟩)
  ·exact ⟨p, .inl hp, h⟩
  ·exact ⟨p, .inr hp, h⟩
theorem inS_one {a : Slab} {x y : Int} : inS [a] x y ↔ a.has x y := by simp [inS]
theorem addS_ok {S : List Slab} {f t : Int} {s : List Sp} (h : SOK S) (hf : ∀ a ∈ S, a.t ≤ f) (hft : f < t) (hs : SCan s) :
  SOK (addS S f t s) ∧ (∀ a ∈ addS S f t s, a.t ≤ t) ∧ ∀ x y, inS (addS S f t s) x y ↔ inS S x y ∨ (f ≤ x ∧ x < t ∧ smem s y) := by
 unfold addS
 by_cases h0 : s = []
 ·rw [if_pos h0]
  subst h0
  refine ⟨h, fun a ha => by have := hf a ha; omega, fun x y => ?_⟩
  simp [smem_nil]
 rw [if_neg h0]
 cases hg : S.getLast? with
 | none =>
  have : S = [] := List.getLast?_eq_none_iff.1 hg
  subst this
  refine ⟨⟨hft, h0, hs⟩, by simp, fun x y => ?_⟩
  simp only [inS_one, Slab.has]
  simp [inS]
 | some a =>
  obtain ⟨o, rfl⟩ := List.getLast?_eq_some_iff.1 hg
  obtain ⟨h1, h2, h3⟩ := SOK.snoc.1 h
  have ha := hf a (by simp)
  simp only [List.dropLast_concat]
  by_cases hb : a.t = f ∧ a.s = s
  ·rw [if_pos hb]
   obtain ⟨hb1, rfl⟩ := hb
   refine ⟨SOK.snoc.2 ⟨h1, ⟨by have := h2.1; show a.f < t; omega, h2.2.1, h2.2.2⟩, fun c hc => h3 c hc⟩, ?_, fun x y => ?_⟩
   ·intro b hb
    rcases List.mem_append.1 hb with hb | hb
    ·have := hf b (by simp [hb]); omega
    ·simp at hb; subst hb; simp
   ·rw [inS_append, inS_append, inS_one, inS_one]
    simp only [Slab.has]
    constructor
    ·rintro (g | g)
     ·exact .inl (.inl g)
     ·by_cases hx : x < a.t
      ·exact .inl (.inr ⟨g.1, hx, g.2.2⟩)
      ·exact .inr ⟨by omega, g.2.1, g.2.2⟩
    ·rintro ((g | g) | g)
     ·exact .inl g
     ·exact .inr ⟨g.1, by omega, g.2.2⟩
     ·exact .inr ⟨by have := h2.1; omega, g.2.1, g.2.2⟩
  ·rw [if_neg hb]
   refine ⟨SOK.snoc.2 ⟨h, ⟨hft, h0, hs⟩, fun c hc => ?_⟩, ?_, fun x y => ?_⟩
   ·rw [List.getLast?_concat] at hc
    simp only [Option.some.injEq] at hc
    subst hc
    exact ⟨ha, fun e1 e2 => hb ⟨e1, e2⟩⟩
   ·intro b hb
    rcases List.mem_append.1 hb with hb | hb
    ·have := hf b hb; omega
    ·simp at hb; subst hb; simp
   ·rw [inS_append (S := o ++ [a]), inS_one (a := ⟨f, t, s⟩)]
    rfl
def sweep (g : Int → List Sp) : List Slab → List Int → List Slab
 | acc, c :: d :: r => sweep g (addS acc c d (g c)) (d :: r)
 | acc, _ => acc
theorem sweep_from {g : Int → List Sp} {H : Int → Int → Prop} {cs : List Int} (hs : cs.Pairwise (· < ·)) (hg : ∀ c ∈ cs, SCan (g c))
    (hH : ∀ c d x y, c ∈ cs → d ∈ cs → c < d → (∀ e ∈ cs, e ≤ c ∨ d ≤ e) → c ≤ x → x < d → (H x y ↔ smem (g c) y)) (hhi : ∀ x y, (∀ c ∈ cs, c ≤ x) → ¬ H x y) :
    ∀ (r : List Int) (A : List Int) (c : Int) (acc : List Slab), cs = A ++ c :: r → SOK acc → (∀ a ∈ acc, a.t ≤ c) → (∀ x y, inS acc x y ↔ x < c ∧ H x y) →
      SOK (sweep g acc (c :: r)) ∧ ∀ x y, inS (sweep g acc (c :: r)) x y ↔ H x y
  | [], A, c, acc, hcs, h1, h2, h3 => by
    refine ⟨h1, fun x y => ?_⟩
    show inS acc x y ↔ _
    rw [h3]
    constructor
    · exact fun q => q.2
    · intro q
      refine ⟨?_, q⟩
      rcases Int.lt_or_le x c with hx | hx
      · exact hx
      · exfalso
        refine hhi x y (fun e he => ?_) q
        rw [hcs] at he hs
        rcases List.mem_append.1 he with he | he
        · have := (List.pairwise_append.1 hs).2.2 e he c (by simp); omega
        · simp at he; omega
  | d :: r, A, c, acc, hcs, h1, h2, h3 => by
    have hc : c ∈ cs := by rw [hcs]; simp
    have hd : d ∈ cs := by rw [hcs]; simp
    have hs' := hs
    rw [hcs, List.pairwise_append] at hs'
    have hcd : c < d := (List.pairwise_cons.1 hs'.2.1).1 d (by simp)
    have hgap : ∀ e ∈ cs, e ≤ c ∨ d ≤ e := by
      intro e he
      rw [hcs] at he
      rcases List.mem_append.1 he with he | he
      · have := hs'.2.2 e he c (by simp); omega
      · rcases List.mem_cons.1 he with rfl | he
        · omega
        · rcases List.mem_cons.1 he with rfl | he
          · omega
          · have := (List.pairwise_cons.1 (List.pairwise_cons.1 hs'.2.1).2).1 e he; omega
    obtain ⟨a1, a2, a3⟩ := addS_ok h1 h2 hcd (hg c hc)
    refine sweep_from hs hg hH hhi r (A ++ [c]) d _ (by rw [hcs]; simp) a1 a2 fun x y => ?_
    rw [a3, h3]
    constructor
    · rintro (⟨q1, q2⟩ | ⟨q1, q2, q3⟩)
      · exact ⟨by omega, q2⟩
      · exact ⟨q2, (hH c d x y hc hd hcd hgap q1 q2).2 q3⟩
    · rintro ⟨q1, q2⟩
      by_cases hx : x < c
      · exact .inl ⟨hx, q2⟩
      · exact .inr ⟨by omega, q1, (hH c d x y hc hd hcd hgap (by omega) q1).1 q2⟩
theorem sweep_ok {g : Int → List Sp} {H : Int → Int → Prop} {cs : List Int} (hs : cs.Pairwise (· < ·)) (hg : ∀ c ∈ cs, SCan (g c))
    (hH : ∀ c d x y, c ∈ cs → d ∈ cs → c < d → (∀ e ∈ cs, e ≤ c ∨ d ≤ e) → c ≤ x → x < d → (H x y ↔ smem (g c) y)) (hhi : ∀ x y, (∀ c ∈ cs, c ≤ x) → ¬ H x y) (hlo : ∀ x y, (∀ c ∈ cs, x < c) → ¬ H x y) :
    RCan (flat (sweep g [] cs)) ∧ ∀ x y, pmem (flat (sweep g [] cs)) x y ↔ H x y := by
  cases cs with
  | nil =>
    refine ⟨⟨[], trivial, rfl⟩, fun x y => ?_⟩
    have := hhi x y (by simp)
    simp [sweep, flat, pmem, this]
  | cons c r =>
    obtain ⟨h1, h2⟩ := sweep_from hs hg hH hhi r [] c [] rfl trivial (by simp) (fun x y => by
      constructor
      · rintro ⟨a, ha, _⟩
        simp at ha
      · rintro ⟨q1, q2⟩
        exfalso
        refine hlo x y (fun e he => ?_) q2
        rcases List.mem_cons.1 he with rfl | he
        · exact q1
        · have := (List.pairwise_cons.1 hs).1 e he; omega)
    exact ⟨⟨_, h1, rfl⟩, fun x y => by rw [pmem_flat]; exact h2 x y⟩
def crossL (l : List R4) (c : Int) : List Sp := (l.filter fun r => decide (r.x0 ≤ c) && decide (c < r.x1)).map fun r => (r.y0, r.y1)
theorem smem_crossL {l : List R4} {x y : Int} : smem (crossL l x) y ↔ pmem l x y := by
 unfold smem crossL pmem rin
 constructor
 ·rintro ⟨p, hp, h1, h2⟩
  obtain ⟨r, hr, rfl⟩ := List.mem_map.1 hp
  obtain ⟨hr1, hr2⟩ := List.mem_filter.1 hr
  simp at hr2
  exact ⟨r, hr1, hr2.1, hr2.2, h1, h2⟩
 ·rintro ⟨r, hr, h1, h2, h3, h4⟩
  exact ⟨(r.y0, r.y1), List.mem_map.2 ⟨r, List.mem_filter.2 ⟨hr, by simp [h1, h2]⟩, rfl⟩, h3, h4⟩
def wf4 (r : R4) : Prop := r.x0 < r.x1 ∧ r.y0 < r.y1
theorem crossL_wf {l : List R4} (h : ∀ r ∈ l, wf4 r) (c : Int) : ∀ p ∈ crossL l c, p.1 < p.2 := by
 intro p hp
 obtain ⟨r, hr, rfl⟩ := List.mem_map.1 hp
 exact (h r (List.mem_filter.1 hr).1).2
def cutsL (l : List R4) : List Int := l.flatMap fun r => [r.x0, r.x1]
theorem mem_cutsL {l : List R4} {r : R4} (h : r ∈ l) : r.x0 ∈ cutsL l ∧ r.x1 ∈ cutsL l := by
 unfold cutsL
 exact ⟨List.mem_flatMap.2 ⟨r, h, by simp⟩, List.mem_flatMap.2 ⟨r, h, by simp⟩⟩
theorem crossL_same {l : List R4} {cs : List Int} (hcs : ∀ c ∈ cutsL l, c ∈ cs) {c d x : Int} (hgap : ∀ e ∈ cs, e ≤ c ∨ d ≤ e) (h1 : c ≤ x) (h2 : x < d) : crossL l x = crossL l c := by
 unfold crossL
 congr 1
 refine List.filter_congr fun r hr => ?_
 obtain ⟨m0, m1⟩ := mem_cutsL hr
 have g0 := hgap _ (hcs _ m0)
 have g1 := hgap _ (hcs _ m1)
 rw [Bool.eq_iff_iff]
 simp only [Bool.and_eq_true, decide_eq_true_eq]
 omega
theorem crossL_hi {l : List R4} {cs : List Int} (hcs : ∀ c ∈ cutsL l, c ∈ cs) {x y : Int} (h : ∀ c ∈ cs, c ≤ x) : ¬ pmem l x y := by
 rintro ⟨r, hr, h1, h2, _⟩
 have := h _ (hcs _ (mem_cutsL hr).2); omega
theorem crossL_lo {l : List R4} {cs : List Int} (hcs : ∀ c ∈ cutsL l, c ∈ cs) {x y : Int} (h : ∀ c ∈ cs, x < c) : ¬ pmem l x y := by
 rintro ⟨r, hr, h1, h2, _⟩
 have := h _ (hcs _ (mem_cutsL hr).1); omega
theorem sweep_join {h : Bool → Bool → Bool} (h0 : h false false = false) {a b : List R4} {cs : List Int} {g : Int → List Sp} (hs : cs.Pairwise (· < ·))
    (ha : ∀ c ∈ cutsL a, c ∈ cs) (hb : ∀ c ∈ cutsL b, c ∈ cs) (hg : ∀ c ∈ cs, SCan (g c) ∧ ∀ y, smem (g c) y ↔ h (decide (smem (crossL a c) y)) (decide (smem (crossL b c) y)) = true) :
    RCan (flat (sweep g [] cs)) ∧ ∀ x y, pmem (flat (sweep g [] cs)) x y ↔ h (decide (pmem a x y)) (decide (pmem b x y)) = true := by
  refine sweep_ok (H := fun x y => h (decide (pmem a x y)) (decide (pmem b x y)) = true) hs (fun c hc => (hg c hc).1) ?_ ?_ ?_
  · intro c d x y hc hd hcd hgap h1 h2
    rw [(hg c hc).2 y, ← crossL_same ha hgap h1 h2, ← crossL_same hb hgap h1 h2]
    have e1 : decide (pmem a x y) = decide (smem (crossL a x) y) := decide_eq_decide.2 smem_crossL.symm
    have e2 : decide (pmem b x y) = decide (smem (crossL b x) y) := decide_eq_decide.2 smem_crossL.symm
    rw [e1, e2]
  · intro x y hx
    rw [decide_eq_false (crossL_hi ha hx), decide_eq_false (crossL_hi hb hx), h0]
    exact Bool.false_ne_true
  · intro x y hx
    rw [decide_eq_false (crossL_lo ha hx), decide_eq_false (crossL_lo hb hx), h0]
    exact Bool.false_ne_true
def ins (e : En) : List En → List En
 | [] => [e]
 | a :: l => if e.1 ≤ a.1 then e :: a :: l else a :: ins e l
def isort : List En → List En
 | [] => []
 | e :: l => ins e (isort l)
theorem ins_perm (e : En) : ∀ (l : List En), (ins e l).Perm (e :: l)
 | [] => .refl _
 | a :: l => by
  simp only [ins]
  split
  ·exact .refl _
  ·exact ((ins_perm e l).cons a).trans (.swap e a l)
theorem isort_perm : ∀ (l : List En), (isort l).Perm l
 | [] => .refl _
 | e :: l => (ins_perm e _).trans ((isort_perm l).cons e)
theorem ins_sorted (e : En) : ∀ (l : List En), l.Pairwise (fun a b => a.1 ≤ b.1) → (ins e l).Pairwise (fun a b => a.1 ≤ b.1)
 | [], _ => by simp [ins]
 | a :: l, h => by
  obtain ⟨h1, h2⟩ := List.pairwise_cons.1 h
  simp only [ins]
  split
  ·rename_i he
   refine List.pairwise_cons.2 ⟨fun b hb => ?_, h⟩
   rcases List.mem_cons.1 hb with rfl | hb
   ·exact he
   ·have := h1 b hb; omega
  ·rename_i he
   refine List.pairwise_cons.2 ⟨fun b hb => ?_, ins_sorted e l h2⟩
   rcases List.mem_cons.1 ((ins_perm e l).mem_iff.1 hb) with rfl | hb
   ·omega
   ·exact h1 b hb
theorem isort_sorted : ∀ (l : List En), (isort l).Pairwise (fun a b => a.1 ≤ b.1)
 | [] => by simp [isort]
 | e :: l => ins_sorted e _ (isort_sorted l)
def sjoin (h : Bool → Bool → Bool) (a b : List Sp) : List Sp := (jfold h (isort (evs 0 a ++ evs 1 b))).out
theorem sjoin_ok {h : Bool → Bool → Bool} (h0 : h false false = false) {a b : List Sp} (ha : ∀ p ∈ a, p.1 < p.2) (hb : ∀ p ∈ b, p.1 < p.2) :
  SCan (sjoin h a b) ∧ ∀ x, smem (sjoin h a b) x ↔ h (decide (smem a x)) (decide (smem b x)) = true :=
 jfold_ok h0 ha hb (isort_perm _) (isort_sorted _)
theorem sjoin_eq {h : Bool → Bool → Bool} (h0 : h false false = false) {a b s : List Sp} (ha : ∀ p ∈ a, p.1 < p.2) (hb : ∀ p ∈ b, p.1 < p.2) (hs : SCan s) (hm : ∀ x, smem s x ↔ h (decide (smem a x)) (decide (smem b x)) = true) : s = sjoin h a b :=
 hs.ext (sjoin_ok h0 ha hb).1 fun x => by rw [hm, (sjoin_ok h0 ha hb).2]
def insI (c : Int) : List Int → List Int
 | [] => [c]
 | a :: l => if c < a then c :: a :: l else if c = a then a :: l else a :: insI c l
def isortI : List Int → List Int
 | [] => []
 | e :: l => insI e (isortI l)
theorem mem_insI (c x : Int) : ∀ (l : List Int), x ∈ insI c l ↔ x = c ∨ x ∈ l
 | [] => by simp [insI]
 | a :: l => by
  simp only [insI]
  split
  ·simp
  ·split
   ·rename_i h; subst h; simp
   ·simp only [List.mem_cons, mem_insI c x l]
    constructor
    ·rintro (h | h | h)
     ·exact .inr (.inl h)
     ·exact .inl h
     ·exact .inr (.inr h)
    ·rintro (h | h | h)
     ·exact .inr (.inl h)
     ·exact .inl h
     ·exact .inr (.inr h)
theorem mem_isortI (x : Int) : ∀ (l : List Int), x ∈ isortI l ↔ x ∈ l
 | [] => .rfl
 | e :: l => by simp only [isortI, mem_insI, mem_isortI x l, List.mem_cons]
theorem insI_sorted (c : Int) : ∀ (l : List Int), l.Pairwise (· < ·) → (insI c l).Pairwise (· < ·)
  | [], _ => by simp [insI]
  | a :: l, h => by
    obtain ⟨h1, h2⟩ := List.pairwise_cons.1 h
    simp only [insI]
    split
    · rename_i he
      refine List.pairwise_cons.2 ⟨fun b hb => ?_, h⟩
      rcases List.mem_cons.1 hb with rfl | hb
      · exact he
      · have := h1 b hb; omega
    · split
      · exact h
      · refine List.pairwise_cons.2 ⟨fun b hb => ?_, insI_sorted c l h2⟩
        rcases (mem_insI c b l).1 hb with rfl | hb
        · omega
        · exact h1 b hb
theorem isortI_sorted : ∀ (l : List Int), (isortI l).Pairwise (· < ·)
  | [] => by simp [isortI]
  | e :: l => insI_sorted e _ (isortI_sorted l)
def rjoin (h : Bool → Bool → Bool) (a b : List R4) : List R4 := flat (sweep (fun c => sjoin h (crossL a c) (crossL b c)) [] (isortI (cutsL a ++ cutsL b)))
theorem rjoin_ok {h : Bool → Bool → Bool} (h0 : h false false = false) {a b : List R4} (ha : ∀ r ∈ a, wf4 r) (hb : ∀ r ∈ b, wf4 r) :
  RCan (rjoin h a b) ∧ ∀ x y, pmem (rjoin h a b) x y ↔ h (decide (pmem a x y)) (decide (pmem b x y)) = true :=
 sweep_join h0 (isortI_sorted _) (fun c hc => (mem_isortI c _).2 (by simp [hc])) (fun c hc => (mem_isortI c _).2 (by simp [hc]))
  fun c _ => sjoin_ok h0 (crossL_wf ha c) (crossL_wf hb c)
theorem rjoin_eq {h : Bool → Bool → Bool} (h0 : h false false = false) {a b s : List R4} (ha : ∀ r ∈ a, wf4 r) (hb : ∀ r ∈ b, wf4 r) (hs : RCan s) (hm : ∀ x y, pmem s x y ↔ h (decide (pmem a x y)) (decide (pmem b x y)) = true) : s = rjoin h a b :=
 hs.ext (rjoin_ok h0 ha hb).1 fun x y => by rw [hm, (rjoin_ok h0 ha hb).2]
end Go.Proofs.YtdfpbhlnlkjjlaaGreat

/- Plain law: the cuts: sorted, without repetitions; and the pairs of neighbours. -/
namespace Go.Proofs.YtdfpbhlnlkjjlaaGreat
open Go.Lib
set_option linter.unusedVariables false
set_option linter.unusedSimpArgs false
theorem compact_up (d : Array Int) (hd : ∀ i j, i < j → j < d.size → d[i]! ≤ d[j]!) : ∀ m, m ≤ d.size → (compactUpTo d m).Pairwise (· < ·) ∧ (∀ x, x ∈ compactUpTo d m ↔ ∃ j, j < m ∧ d[j]! = x)
  | 0, _ => by simp [compactUpTo]
  | m + 1, hm => by
    obtain ⟨h1, h2⟩ := compact_up d hd m (by omega)
    rw [compactUpTo_succ]
    by_cases hk : keeps d m = true
    · rw [if_pos hk]
      refine ⟨?_, fun x => ?_⟩
      · rw [List.pairwise_append]
        refine ⟨h1, by simp, fun a ha b hb => ?_⟩
        simp at hb; subst hb
        obtain ⟨j, hj, rfl⟩ := (h2 a).1 ha
        simp only [keeps, decide_eq_true_eq] at hk
        rcases hk with hk | hk
        · omega
        · have e1 : d[j]! ≤ d[m - 1]! := by
            by_cases e : j = m - 1
            · rw [e]; exact Int.le_refl _
            · exact hd j (m - 1) (by omega) (by omega)
          have e2 := hd (m - 1) m (by omega) (by omega)
          omega
      · rw [List.mem_append, h2]
        simp only [List.mem_singleton]
        constructor
        · rintro (⟨j, hj, e⟩ | e)
          · exact ⟨j, by omega, e⟩
          · exact ⟨m, by omega, e.symm⟩
        · rintro ⟨j, hj, e⟩
          by_cases hjm : j = m
          · subst hjm; exact .inr e.symm
          · exact .inl ⟨j, by omega, e⟩
    · rw [if_neg hk]
      simp only [List.append_nil]
      refine ⟨h1, fun x => ?_⟩
      rw [h2]
      have hk' : ¬ (m = 0 ∨ d[m]! ≠ d[m - 1]!) := by simpa [keeps] using hk
      have hm0 : m ≠ 0 := fun e => hk' (.inl e)
      have he : d[m]! = d[m - 1]! := Classical.byContradiction fun e => hk' (.inr e)
      constructor
      · rintro ⟨j, hj, e⟩
        exact ⟨j, by omega, e⟩
      · rintro ⟨j, hj, e⟩
        by_cases hjm : j = m
        · subst hjm; exact ⟨j - 1, by omega, by rw [← he]; exact e⟩
        · exact ⟨j, by omega, e⟩
def cutsOf (xs : List Int) : List Int := compact (xs.mergeSort fun x y => decide (x ≤ y))
theorem cutsOf_ok (xs : List Int) : (cutsOf xs).Pairwise (· < ·) ∧ ∀ x, x ∈ cutsOf xs ↔ x ∈ xs := by
  have hs : (xs.mergeSort fun x y => decide (x ≤ y)).Pairwise (fun a b => a ≤ b) := by
    have := List.pairwise_mergeSort (le := fun (x y : Int) => decide (x ≤ y)) (fun a b c h1 h2 => by simp at *; omega) (fun a b => by simp; omega) xs
    simpa using this
  have hm := fun x => (List.mergeSort_perm xs fun x y => decide (x ≤ y)).mem_iff (a := x)
  unfold cutsOf
  generalize xs.mergeSort (fun x y => decide (x ≤ y)) = zs at hs hm
  have hd : ∀ i j, i < j → j < zs.toArray.size → zs.toArray[i]! ≤ zs.toArray[j]! := by
    intro i j hij hj
    have hj' : j < zs.length := by simpa using hj
    have := List.pairwise_iff_getElem.1 hs i j (by omega) hj' hij
    rw [getElem!_pos _ i (by simp; omega), getElem!_pos _ j hj]
    simpa using this
  obtain ⟨h1, h2⟩ := compact_up zs.toArray hd zs.length (by simp)
  refine ⟨h1, fun x => ?_⟩
  rw [← hm, show compact zs = compactUpTo zs.toArray zs.length from rfl, h2]
  constructor
  · rintro ⟨j, hj, rfl⟩
    rw [getElem!_pos _ j (by simpa using hj)]
    simp
  · intro hx
    obtain ⟨j, hj, e⟩ := List.getElem_of_mem hx
    exact ⟨j, hj, by rw [getElem!_pos _ j (by simpa using hj)]; simpa using e⟩
theorem cutsOf_len (xs : List Int) : (cutsOf xs).length ≤ xs.length := by
 unfold cutsOf
 have h1 : (xs.mergeSort fun x y => decide (x ≤ y)).length = xs.length := List.length_mergeSort xs
 generalize xs.mergeSort (fun x y => decide (x ≤ y)) = zs at h1
 have : (compact zs).length ≤ zs.length := by
  unfold compact compactUpTo
  rw [List.length_map]
  refine Nat.le_trans (List.length_filter_le _ _) (by simp)
 omega
def prs : List Int → List (Int × Int)
 | c :: d :: r => (c, d) :: prs (d :: r)
 | _ => []
theorem prs_len : ∀ (l : List Int), (prs l).length = l.length - 1
 | [] => rfl
 | [_] => rfl
 | c :: d :: r => by simp [prs, prs_len (d :: r)]
theorem prs_get : ∀ (l : List Int) (i : Nat) (x y : Int), l[i]? = some x → l[i + 1]? = some y → (prs l)[i]? = some (x, y)
 | [], i, x, y, h, _ => by simp at h
 | [c], i, x, y, _, h => by simp at h
 | c :: d :: r, 0, x, y, h1, h2 => by
  simp at h1 h2
  simp [prs, h1, h2]
 | c :: d :: r, i + 1, x, y, h1, h2 => by
  have := prs_get (d :: r) i x y (by simpa using h1) (by simpa using h2)
  simpa [prs] using this
theorem sweep_prs (g : Int → List Sp) : ∀ (l : List Int) (acc : List Slab), sweep g acc l = (prs l).foldl (fun S p => addS S p.1 p.2 (g p.1)) acc
 | [], acc => rfl
 | [_], acc => rfl
 | c :: d :: r, acc => by
  show sweep g (addS acc c d (g c)) (d :: r) = _
  rw [sweep_prs g (d :: r)]
  rfl
end Go.Proofs.YtdfpbhlnlkjjlaaGreat

/- Plain law: the builder's state beside the list of slabs. -/
namespace Go.Proofs.YtdfpbhlnlkjjlaaGreat
set_option linter.unusedVariables false
set_option linter.unusedSimpArgs false
def BInv (S : List Slab) (last : List Sp) (first : Nat) (e : Int) : Prop :=
 (last = [] ∧ ∀ a, S.getLast? = some a → a.t < e) ∨ (last ≠ [] ∧ ∃ S0 f0, S = S0 ++ [⟨f0, e, last⟩] ∧ first = (flat S0).length)
theorem flat_append (S T : List Slab) : flat (S ++ T) = flat S ++ flat T := by simp [flat]
theorem flat_one (a : Slab) : flat [a] = flat1 a := by simp [flat]
theorem BInv.start : BInv [] [] 0 0 := .inl ⟨rfl, by simp⟩
theorem BInv.join {S : List Slab} {last s : List Sp} {first : Nat} {e f t : Int} (h : BInv S last first e) (hs : s ≠ []) (he : e = f) (hl : last = s) :
  ∃ S0 f0, S = S0 ++ [⟨f0, e, last⟩] ∧ first = (flat S0).length ∧ addS S f t s = S0 ++ [⟨f0, t, s⟩] ∧ BInv (addS S f t s) s first t := by
 subst hl
 rcases h with ⟨h1, _⟩ | ⟨h1, S0, f0, h2, h3⟩
 ·exact absurd h1 hs
 ·have : addS S f t last = S0 ++ [⟨f0, t, last⟩] := by
   unfold addS
   rw [if_neg hs, h2]
   simp [he]
  exact ⟨S0, f0, h2, h3, this, .inr ⟨hs, S0, f0, this, h3⟩⟩
theorem BInv.push {S : List Slab} {last s : List Sp} {first : Nat} {e f t : Int} (h : BInv S last first e) (hef : S = [] ∨ e ≤ f) (hft : f < t) (hn : ¬ (s ≠ [] ∧ e = f ∧ last = s)) :
  flat (addS S f t s) = flat S ++ s.map (fun p => ⟨f, p.1, t, p.2⟩) ∧ BInv (addS S f t s) s (flat S).length t := by
 by_cases hs : s = []
 ·subst hs
  have : addS S f t [] = S := by simp [addS]
  rw [this]
  refine ⟨by simp, .inl ⟨rfl, fun a ha => ?_⟩⟩
  rcases hef with rfl | hef
  ·simp at ha
  ·rcases h with ⟨_, h2⟩ | ⟨_, S0, f0, h2, _⟩
   ·have := h2 a ha; omega
   ·rw [h2] at ha
    simp at ha
    subst ha
    show e < t
    omega
 ·have key : addS S f t s = S ++ [⟨f, t, s⟩] := by
   unfold addS
   rw [if_neg hs]
   cases hg : S.getLast? with
   | none =>
    have : S = [] := List.getLast?_eq_none_iff.1 hg
    subst this; rfl
   | some a =>
    show (if a.t = f ∧ a.s = s then _ else _) = _
    rw [if_neg]
    rintro ⟨g1, g2⟩
    rcases h with ⟨_, h2⟩ | ⟨_, S0, f0, h2, _⟩
    ·have := h2 a hg
     rcases hef with rfl | hef
     ·simp at hg
     ·omega
    ·rw [h2] at hg
     simp at hg
     subst hg
     exact hn ⟨hs, g1, g2⟩
  refine ⟨by rw [key, flat_append, flat_one]; rfl, .inr ⟨hs, S, f, key, rfl⟩⟩
end Go.Proofs.YtdfpbhlnlkjjlaaGreat

/- The walks of region's small functions. -/
namespace Go.Proofs.YtdfpbhlnlkjjlaaGreat
open Go.RowKit
set_option linter.unusedVariables false
set_option linter.unusedSimpArgs false
def encR (r : R4) : List Value := [.int .i64 r.x0, .int .i64 r.y0, .int .i64 r.x1, .int .i64 r.y1]
def encS (p : Sp) : List Value := [.int .i64 p.1, .int .i64 p.2]
def encE (e : En) : List Value := [.int .i64 e.1, .int .i64 e.2.1, .int .i64 e.2.2]
def fineP (x : Int) : Prop := -1000000 ≤ x ∧ x ≤ 1000000
def valid4 (r : R4) : Prop := r.x0 < r.x1 ∧ r.y0 < r.y1 ∧ fineP r.x0 ∧ fineP r.x1 ∧ fineP r.y0 ∧ fineP r.y1
instance (r : R4) : Decidable (valid4 r) := by unfold valid4 fineP; infer_instance
def validS (p : Sp) : Prop := p.1 < p.2 ∧ -1000000 ≤ p.1 ∧ p.2 ≤ 1000000
instance (p : Sp) : Decidable (validS p) := by unfold validS; infer_instance
set_option maxHeartbeats 1000000 in
theorem valid_any (r : R4) (w : World) :
  Calls Tryz.prog 56 #[.agg (encR r).toArray] w fun e w' => e = .returned (.bool (decide (valid4 r))) ∧ Below w.heap.size w w' := by
 obtain ⟨a, b, c, d⟩ := r
 show Calls Tryz.prog 56 #[.agg #[.int .i64 a, .int .i64 b, .int .i64 c, .int .i64 d]] w _
 go_enter Tryz.func56, Tryz.ntmps56
 go_wp2
 all_goals
  go_ret
  refine ⟨ret_eq (bool_eq ?_), (Below.refl _ _).alloc (Nat.le_refl _) _⟩
  first
   | exact (decide_eq_false (by simp only [valid4, fineP]; omega)).symm
   | exact (decide_eq_true (by simp only [valid4, fineP]; omega)).symm
   | exact decide_eq_decide.2 (by simp only [valid4, fineP]; omega)
set_option maxHeartbeats 1000000 in
theorem validS_any (p : Sp) (w : World) :
  Calls Tryz.prog 112 #[.agg (encS p).toArray] w fun e w' => e = .returned (.bool (decide (validS p))) ∧ Below w.heap.size w w' := by
 obtain ⟨a, b⟩ := p
 show Calls Tryz.prog 112 #[.agg #[.int .i64 a, .int .i64 b]] w _
 go_enter Tryz.func112, Tryz.ntmps112
 go_wp2
 all_goals
  go_ret
  refine ⟨ret_eq (bool_eq ?_), (Below.refl _ _).alloc (Nat.le_refl _) _⟩
  first
   | exact (decide_eq_false (by simp only [validS]; omega)).symm
   | exact (decide_eq_true (by simp only [validS]; omega)).symm
   | exact decide_eq_decide.2 (by simp only [validS]; omega)
end Go.Proofs.YtdfpbhlnlkjjlaaGreat

/- A slice that reads as a list of structs (or of integers), nil let in. -/
namespace Go.Proofs.YtdfpbhlnlkjjlaaGreat
open Go.RowKit
set_option linter.unusedVariables false
set_option linter.unusedSimpArgs false
def idxI {α : Type} (p : α → Bool) (l : List α) : Int := if l.any p then ((l.findIdx p : Nat) : Int) else -1
def RdK {α : Type} (enc : α → List Value) (k : Nat) (w : World) (B : Nat) (v : Value) (l : List α) : Prop :=
 ∃ A c, v = .slice A l.length c ∧ (l ≠ [] → ∃ b off, A = some ⟨b, off, none⟩ ∧ b < B ∧ ∀ j x, l[j]? = some x → ∀ i u, (enc x)[i]? = some u → w.cell? ⟨b, off + j * k + i, none⟩ = some u)
section
variable {α : Type} {enc : α → List Value} {k : Nat} {w w' : World} {B B' : Nat} {v : Value} {l : List α}
theorem RdK.keep (h : RdK enc k w B v l) (hk : ∀ b o, b < B → w'.cell? ⟨b, o, none⟩ = w.cell? ⟨b, o, none⟩) : RdK enc k w' B v l := by
 obtain ⟨A, c, hv, h⟩ := h
 refine ⟨A, c, hv, fun hl => ?_⟩
 obtain ⟨b, off, hA, hb, hc⟩ := h hl
 exact ⟨b, off, hA, hb, fun j x hx i u hu => (hk b _ hb).trans (hc j x hx i u hu)⟩
theorem RdK.mono (h : RdK enc k w B v l) (hB : B ≤ B') : RdK enc k w B' v l := by
 obtain ⟨A, c, hv, h⟩ := h
 refine ⟨A, c, hv, fun hl => ?_⟩
 obtain ⟨b, off, hA, hb, hc⟩ := h hl
 exact ⟨b, off, hA, by omega, hc⟩
theorem RdK.below (h : RdK enc k w B v l) (hb : Below B w w') : RdK enc k w' B v l := h.keep fun b o hlt => hb.cell (p := ⟨b, o, none⟩) hlt
theorem RdK.nil (A : Option Addr) (c : Nat) : RdK enc k w B (.slice A 0 c) ([] : List α) := ⟨A, c, rfl, fun h => absurd rfl h⟩
end
end Go.Proofs.YtdfpbhlnlkjjlaaGreat

/- Rows of the call's own (append), read as lists of structs; and what slices.SortFunc leaves of them. -/
namespace Go.Proofs.YtdfpbhlnlkjjlaaGreat
open Go.RowKit Go.Sort
set_option linter.unusedVariables false
set_option linter.unusedSimpArgs false
theorem addr_add (g j : Nat) : (⟨g, 0, none⟩ : Addr).add j = ⟨g, j, none⟩ := by unfold Addr.add; split <;> simp_all
theorem news_new (w : World) (cs : List Value) (t : TypeId) (B : Nat) (hB : w.heap.size = B) : ∀ j u, cs[j]? = some u → (w.alloc (.cells cs.toArray t)).cell? ((⟨B, 0, none⟩ : Addr).add j) = some u := by
 subst hB
 exact fun j u hu => World.news_of_block (heap_alloc_new w _) j u (by simpa using hu)
def isInt : Value → Bool | .int _ _ => true | _ => false
theorem ints_one {l : List Value} (h : l.all isInt = true) : ∀ u ∈ l, u.oneCell' = true := fun u hu => by
 have := List.all_eq_true.1 h u hu
 cases u <;> first | rfl | cases this
theorem flat_get {α : Type} {enc : α → List Value} {k : Nat} (hk : ∀ x, (enc x).length = k) : ∀ (l : List α) (j : Nat) (x : α) (i : Nat) (u : Value), l[j]? = some x → (enc x)[i]? = some u → (l.flatMap enc)[j * k + i]? = some u
 | [], j, x, i, u, h, _ => by simp at h
 | y :: l, 0, x, i, u, h, hu => by
  simp at h; subst h
  have hi : i < (enc y).length := (List.getElem?_eq_some_iff.1 hu).1
  rw [List.flatMap_cons, Nat.zero_mul, Nat.zero_add, List.getElem?_append_left hi, hu]
 | y :: l, j + 1, x, i, u, h, hu => by
  have := flat_get hk l j x i u (by simpa using h) hu
  rw [List.flatMap_cons, List.getElem?_append_right (by rw [hk, Nat.add_mul]; omega), ← this]
  congr 1
  rw [hk, Nat.add_mul]; omega
theorem flat_len {α : Type} {enc : α → List Value} {k : Nat} (hk : ∀ x, (enc x).length = k) (l : List α) : (l.flatMap enc).length = l.length * k := by
 induction l with
 | nil => simp
 | cons y l ih => rw [List.flatMap_cons, List.length_append, ih, hk, List.length_cons, Nat.add_mul]; omega
theorem own_len {α : Type} {enc : α → List Value} {w : World} {base k : Nat} {e : TypeId} {v : Value} {n : Nat} {l : List α} (h : w.ownsRow base e k v n (l.flatMap enc)) (hk : ∀ x, (enc x).length = k) (k0 : 0 < k) : n = l.length := by
 have := h.1
 rw [flat_len hk] at this
 exact (Nat.eq_of_mul_eq_mul_right k0 this).symm
theorem own_rd {α : Type} {enc : α → List Value} {w : World} {base k : Nat} {e : TypeId} {v : Value} {l : List α} (h : w.ownsRow base e k v l.length (l.flatMap enc)) (hk : ∀ x, (enc x).length = k) : RdK enc k w w.heap.size v l := by
 rcases h.2 with ⟨rfl, h0⟩ | ⟨g, cap, cur, rfl, hb, hg, hnc, hcm, hcs, ht⟩
 ·exact ⟨none, 0, by rw [h0], fun hl => absurd (List.eq_nil_of_length_eq_zero h0) hl⟩
 ·refine ⟨some ⟨g, 0, none⟩, cap, rfl, fun hl => ⟨g, 0, rfl, (Array.getElem?_eq_some_iff.1 hg).1, fun j x hj i u hu => ?_⟩⟩
  have := (h.cells (g := g) rfl) _ _ (flat_get hk l j x i u hj hu)
  rw [addr_add] at this
  rwa [Nat.zero_add]
theorem flatK_toList {α : Type} [Inhabited α] {enc : α → List Value} {k : Nat} (hk : ∀ x, (enc x).length = k) (l : List α) : (flatK enc k l.toArray).toList = l.flatMap enc := by
  apply List.ext_getElem?
  intro t
  by_cases ht : t < l.length * k
  · have k0 : 0 < k := by rcases Nat.eq_zero_or_pos k with h | h; · subst h; simp at ht
                          · exact h
    have hj : t / k < l.length := (Nat.div_lt_iff_lt_mul k0).2 ht
    have hi : t % k < k := Nat.mod_lt _ k0
    have e : t = t / k * k + t % k := by rw [Nat.mul_comm]; exact (Nat.div_add_mod t k).symm
    have g := get_flatK enc k l.toArray t (by simpa using ht)
    rw [getElem!_pos _ t (by simpa using ht), getElem!_pos _ (t / k) (by simpa using hj), getElem!_pos _ (t % k) (by rw [hk]; exact hi)] at g
    rw [Array.getElem?_toList, Array.getElem?_eq_getElem (by simpa using ht), g]
    conv => rhs; rw [e]
    rw [flat_get hk l (t / k) (l[t / k]) (t % k) _ (List.getElem?_eq_getElem hj) (List.getElem?_eq_getElem (by rw [hk]; exact hi))]
    simp
  · rw [List.getElem?_eq_none (by simpa using Nat.le_of_not_lt ht), List.getElem?_eq_none (by rw [flat_len hk]; omega)]
theorem own_holds {α : Type} [Inhabited α] {enc : α → List Value} {w : World} {base k : Nat} {e : TypeId} {g n cap : Nat} {l : List α} (hk : ∀ x, (enc x).length = k) (h : w.ownsRow base e k (.slice (some ⟨g, 0, none⟩) n cap) n (l.flatMap enc)) : HoldsK enc k w g 0 l.toArray := by
 intro j hj
 have hj' : j < (l.flatMap enc).length := by rw [flat_len hk]; simpa using hj
 have e1 : (flatK enc k l.toArray)[j]! = (l.flatMap enc)[j] := by
  rw [getElem!_pos _ j hj]
  have := flatK_toList (enc := enc) hk l
  rw [← Array.getElem_toList]
  exact List.getElem_of_eq this (by simpa using hj)
 refine ⟨?_, h.frozenAt _⟩
 have := (h.cells (g := g) rfl) j _ (List.getElem?_eq_getElem hj')
 rw [addr_add] at this
 rw [e1, Nat.zero_add]
 exact this
theorem own_sorted {α : Type} [Inhabited α] {enc : α → List Value} {w : World} {base k : Nat} {e : TypeId} {g cap n : Nat} {l l' : List α} (hk : ∀ x, (enc x).length = k) (os : Array Obj)
  (h : w.ownsRow base e k (.slice (some ⟨g, 0, none⟩) l.length cap) l.length (l.flatMap enc)) (hl : l'.length = l.length) :
  (sortWorldK enc k w g 0 n l'.toArray os).ownsRow base e k (.slice (some ⟨g, 0, none⟩) l'.length cap) l'.length (l'.flatMap enc) ∧ w.grownBy (sortWorldK enc k w g 0 n l'.toArray os) (some g) := by
 rcases h.2 with ⟨e0, _⟩ | ⟨g', cap', cur, e0, hb, hg, hn, hm, hs, ht⟩
 ·cases e0
 ·injection e0 with e1 _ e3
  injection e1 with e1
  injection e1 with e1
  subst e1; subst e3
  have hlt : g < w.heap.size := (Array.getElem?_eq_some_iff.1 hg).1
  have hrow : ∀ b, (sortWorldK enc k w g 0 n l'.toArray os).heap[b]? = if b < w.heap.size then (putRow id w g 0 (flatK enc k l'.toArray)).heap[b]? else os[b - w.heap.size]? := by
   intro b
   show ((putRow id w g 0 (flatK enc k l'.toArray)).heap ++ os)[b]? = _
   rw [Array.getElem?_append]
   simp
  refine ⟨⟨flat_len hk l', .inr ⟨g, cap, putCells id 0 (flatK enc k l'.toArray) cur, rfl, hb, ?_, by omega, hm, by simpa [putCells] using hs, ?_⟩⟩, ⟨rfl, rfl, rfl, ?_, fun b hb' hne => ?_⟩⟩
  ·rw [hrow, if_pos hlt]
   simp [putRow, mapBlock, Array.getElem?_modify, hg, onCells]
  ·rw [← flatK_toList hk l']
   apply List.ext_getElem?
   intro j
   have hle : l'.length * k ≤ cap * k := Nat.mul_le_mul_right k (by omega)
   rw [List.getElem?_take, Array.getElem?_toList, Array.getElem?_toList]
   by_cases hj : j < l'.length * k
   ·have hjc : j < cur.size := by omega
    simp only [if_pos hj, putCells, Array.getElem?_mapIdx, Array.getElem?_eq_getElem hjc, Option.map_some]
    rw [if_pos (by simp; omega), Array.getElem?_eq_getElem (by simpa using hj)]
    simp [getElem!_pos, hj]
   ·rw [if_neg hj, Array.getElem?_eq_none (by simpa using Nat.le_of_not_lt hj)]
  ·show w.heap.size ≤ ((putRow id w g 0 (flatK enc k l'.toArray)).heap ++ os).size
   simp
  ·rw [hrow, if_pos hb']
   have : g ≠ b := fun e => hne (by rw [e])
   simp [putRow, mapBlock, Array.getElem?_modify, this]
theorem own_base {w : World} {base B : Nat} {e : TypeId} {size : Nat} {v : Value} {n : Nat} {xs : List Value} (h : w.ownsRow B e size v n xs) (hb : base ≤ B) : w.ownsRow base e size v n xs := by
 refine ⟨h.1, ?_⟩
 rcases h.2 with hn | ⟨g, cap, cur, hv, hg, r⟩
 ·exact .inl hn
 ·exact .inr ⟨g, cap, cur, hv, by omega, r⟩
theorem own_n {w : World} {B : Nat} {e : TypeId} {size : Nat} {v : Value} {n n' : Nat} {xs : List Value} (h : w.ownsRow B e size v n xs) (hn : n = n') : w.ownsRow B e size v n' xs := hn ▸ h
end Go.Proofs.YtdfpbhlnlkjjlaaGreat

/- slices.SortFunc at span.end, by its closure. -/
namespace Go.Proofs.YtdfpbhlnlkjjlaaGreat
open Go.RowKit Go.Sort
set_option linter.unusedVariables false
set_option linter.unusedSimpArgs false
abbrev BE := { e : En // -1000000 ≤ e.1 ∧ e.1 ≤ 1000000 }
instance : Inhabited BE := ⟨⟨(0, 0, 0), by decide⟩⟩
def encB (e : BE) : List Value := encE e.1
def cfE (x y : BE) : Int := x.1.1 - y.1.1
theorem lift_be : ∀ (E : List En), (∀ e ∈ E, -1000000 ≤ e.1 ∧ e.1 ≤ 1000000) → ∃ L : List BE, L.map (·.1) = E
 | [], _ => ⟨[], rfl⟩
 | e :: E, h => by
  obtain ⟨L, hL⟩ := lift_be E fun x hx => h x (by simp [hx])
  exact ⟨⟨e, h e (by simp)⟩ :: L, by simp [hL]⟩
theorem flat_be (L : List BE) : L.flatMap encB = (L.map (·.1)).flatMap encE := by
 rw [List.flatMap_map]; rfl
theorem swoE : SWO (ltOf cfE) where
 irrefl x := by simp [ltOf, cfE]
 trans x y z h1 h2 := by
  unfold ltOf cfE at *
  have a := of_decide_eq_true h1
  have b := of_decide_eq_true h2
  exact decide_eq_true (by omega)
 ntrans x y z h1 h2 := by
  unfold ltOf cfE at *
  have a := of_decide_eq_false h1
  have b := of_decide_eq_false h2
  exact decide_eq_false (by omega)
set_option maxHeartbeats 1000000 in
theorem cmpE_any (x y : BE) (W : World) : Calls Tryz.prog 151 #[.agg (encB x).toArray, .agg (encB y).toArray] W fun e w' => e = .returned (.int .i64 (cfE x y)) ∧ ∃ q os', w' = grow (W.drewN q) os' := by
 obtain ⟨⟨a, b, c⟩, hx⟩ := x
 obtain ⟨⟨d, e, f⟩, hy⟩ := y
 show Calls Tryz.prog 151 #[.agg #[.int .i64 a, .int .i64 b, .int .i64 c], .agg #[.int .i64 d, .int .i64 e, .int .i64 f]] W fun r w' => r = .returned (.int .i64 (a - d)) ∧ ∃ q os', w' = grow (W.drewN q) os'
 simp only at hx hy
 obtain ⟨x1, x2⟩ := hx
 obtain ⟨y1, y2⟩ := hy
 go_enter Tryz.func151, Tryz.ntmps151
 go_wp2
 go_ret
 exact ⟨rfl, 0, _, by rw [alloc_eq_grow, alloc_eq_grow, grow_grow]; rfl⟩
theorem sortE_any (base : Nat) (v : Value) (E : List En) (hB : ∀ e ∈ E, -1000000 ≤ e.1 ∧ e.1 ≤ 1000000) (w : World) (hown : w.ownsRow base 189 3 v E.length (E.flatMap encE)) (hsz : E.length < 4611686018427387904) :
  Calls Tryz.prog 150 #[v, .func (.func 151) #[] #[]] w fun e w' => e = .returned (.tuple #[]) ∧
   ∃ E' : List En, E'.Perm E ∧ E'.Pairwise (fun a b => a.1 ≤ b.1) ∧ w'.ownsRow base 189 3 v E'.length (E'.flatMap encE) ∧ w.grownBy w' v.ownBlock := by
 by_cases h0 : E = []
 ·subst h0
  obtain ⟨p, cap, hv⟩ : ∃ p cap, v = .slice p 0 cap := by
   rcases hown.2 with ⟨rfl, _⟩ | ⟨g, cap, cur, rfl, _⟩
   ·exact ⟨_, _, rfl⟩
   ·exact ⟨_, _, rfl⟩
  subst hv
  have h := AnyF.slices_SortFunc_none Tryz.sortEnd p cap (.func (.func 151) #[] #[]) w
  change Calls Tryz.prog 150 _ _ _ at h
  refine h.mono ?_
  rintro e w' ⟨rfl, rfl⟩
  exact ⟨rfl, [], .refl _, .nil, hown, ⟨rfl, rfl, rfl, Nat.le_refl _, fun _ _ _ => rfl⟩⟩
 ·obtain ⟨L, hL⟩ := lift_be E hB
  have hlen : L.length = E.length := by rw [← hL]; simp
  have hown0 := hown
  rw [← hL, ← flat_be, List.length_map] at hown
  obtain ⟨g, cap, rfl, hbg, hg⟩ := hown.form (by rw [hlen]; exact List.length_pos_iff.2 h0)
  have hk : ∀ x : BE, (encB x).length = 3 := fun _ => rfl
  have hcon := AnyQ.slices_SortFunc Tryz.sortEnd 3 Tryz.isAgg189 Tryz.sizeOf189 encB hk (fun x v hv => by simp [encB, encE] at hv; rcases hv with rfl | rfl | rfl <;> rfl) cfE swoE 151 #[] g 0 cap L.toArray w
   (enters_of Tryz.func151 (by kernel_rfl) rfl) (fun _ _ _ _ x y => cmpE_any x y _) (own_holds hk hown) hg (by simpa [hlen] using hsz)
  change Calls Tryz.prog 150 _ _ _ at hcon
  rw [List.size_toArray] at hcon
  refine hcon.mono ?_
  rintro e w' ⟨rfl, d', n, os, hp, hs, rfl⟩
  obtain ⟨hp1, _, hp3⟩ := hp
  have hsz' : d'.toList.length = L.length := by simpa using hp1
  have hperm : d'.toList.Perm L := by
   have e1 : (d'.extract 0 L.length).toList = d'.toList := by
    rw [Array.toList_extract, List.extract_eq_take_drop, List.drop_zero, Nat.sub_zero, ← hsz', List.take_length]
   have e2 : (L.toArray.extract 0 L.length).toList = L := by
    simp [List.extract]
   rw [e1, e2] at hp3
   exact hp3
  obtain ⟨o1, o2⟩ := own_sorted (n := n) (l' := d'.toList) hk os hown hsz'
  have eW : d'.toList.toArray = d' := by simp
  rw [eW] at o1 o2
  refine ⟨rfl, d'.toList.map (·.1), ?_, ?_, ?_, o2⟩
  ·rw [← hL]; exact hperm.map _
  ·rw [List.pairwise_map, List.pairwise_iff_getElem]
   intro i j hi hj hij
   have := hs i j (Nat.zero_le _) hij (by rw [← hsz']; exact hj)
   have hi' : i < d'.size := by simpa using hi
   have hj' : j < d'.size := by simpa using hj
   rw [getElem!_pos d' i hi', getElem!_pos d' j hj'] at this
   unfold ltOf cfE at this
   have := of_decide_eq_false this
   rw [Array.getElem_toList, Array.getElem_toList]
   omega
  ·rw [List.length_map, ← flat_be, ← hsz']
   rw [hsz'] at o1 ⊢
   exact o1
end Go.Proofs.YtdfpbhlnlkjjlaaGreat

/- A range over a function, at the wide fence: the iterator has a contract over a list of items, the caller an invariant and one walk of its body. And: a region that draws its order, inside a round. -/
namespace Go.Proofs.YtdfpbhlnlkjjlaaGreat
open Go.RowKit
set_option linter.unusedVariables false
set_option linter.unusedSimpArgs false
theorem below_putObj {B : Nat} {w W : World} (h : Below B w W) {l : Nat} (hl : B ≤ l) (o : Obj) : Below B w (W.putObj l o) :=
 ⟨h.os, h.tape, h.output, by simpa using h.size, fun k hk => (World.putObj_heap_other (by omega)).trans (h.block k hk)⟩
theorem cell_putObj {A : World} {l : Nat} {o o' : Obj} (h : A.heap[l]? = some o) (ho : o.isCells = false) (ho' : o'.isCells = false) (p : Addr) : (A.putObj l o').cell? p = A.cell? p ∧ (A.putObj l o').frozen? p = A.frozen? p := by
 by_cases hp : p.block = l
 ·have h1 : (A.putObj l o').heap[p.block]? = some o' := by rw [hp]; exact World.putObj_heap_same (Array.getElem?_eq_some_iff.1 h).1
  have h2 : A.heap[p.block]? = some o := by rw [hp]; exact h
  constructor
  ·unfold World.cell?
   rw [h1, h2]
   cases o <;> cases o' <;> simp_all [Obj.isCells]
  ·unfold World.frozen?
   rw [h1, h2]
   cases o <;> cases o' <;> simp_all [Obj.isCells]
 ·exact ⟨World.cell?_of_block (World.putObj_heap_other hp), World.frozen?_of_block (World.putObj_heap_other hp)⟩
theorem lt_of_cell {w : World} {b o : Nat} {v : Value} (h : w.cell? ⟨b, o, none⟩ = some v) : b < w.heap.size := by
 obtain ⟨ob, ho, _⟩ := cells_of_cell h
 exact (Array.getElem?_eq_some_iff.1 ho).1
def Iter (P : Program) (gf : Nat) (lb : Array Value) {α : Type} (xs : List α) (Ok : α → Array Value → World → Prop) (Kp : World → World → Prop) (w0 : World) : Prop :=
 ∀ (l : Nat) (J Jx : List α → World → Prop) (W : World), Below w0.heap.size w0 W →
  (∀ pre A B, J pre A → Below A.heap.size A B → J pre B) →
  (∀ pre x args A, J pre A → (∃ post, xs = pre ++ x :: post) → Ok x args A → YieldAt Fence.wide 0 P l args A fun e B => (e = .returned (.bool true) ∧ J (pre ++ [x]) B ∧ Kp A B) ∨ (e = .returned (.bool false) ∧ Jx (pre ++ [x]) B)) →
  J [] W →
  CallsIn Fence.wide 0 P gf (#[.func (.yield l) #[] #[]] ++ lb) W fun e B => (∃ v, e = .returned v) ∧ (J xs B ∨ ∃ pre, Jx pre B)
def roundEnd {α : Type} (B : Nat) (Kp : World → World → Prop) (I Ix : List α → World → Prop) (xs : List α) (A : World) : Exit → Act → World → Prop
 | .normal, _, W => KeepsFrom B A W ∧ Kp A W ∧ I xs W
 | .ret, _, W => KeepsFrom B A W ∧ Ix xs W
 | _, _, _ => False
def roundMid {α : Type} (P : Program) (B l : Nat) (Kp : World → World → Prop) (body : Code) (I Ix : List α → World → Prop) (xs : List α) (A : World) (a1 : Act) (A1 : World) : Prop :=
 KeepsFrom B A A1 ∧ Kp A A1 ∧ ∀ A2, A1.grownBy A2 (some l) → A2.heap.size = A1.heap.size → (∀ p, A2.cell? p = A1.cell? p) → (∀ p, A2.frozen? p = A1.frozen? p) →
  body.wpIn (Fence.wide.inRound l) 0 P (roundEnd B Kp I Ix xs A2) a1 A2
theorem wp_range {P : Program} {α : Type} {g : Operand} {ps : Array Tmp} {assign body : Code} {Q : Exit → Act → World → Prop} {a : Act} {w : World} {gf : Nat} {lb : Array Value}
  (hg : a.eval g = .func (.func gf) #[] lb) (eg : ∀ args w, (callFunc gf args).run P w = .ok (.enter gf args) w)
  {xs : List α} {Ok : α → Array Value → World → Prop} {Kp : World → World → Prop} {w0 : World} (hit : Iter P gf lb xs Ok Kp w0) (hb0 : Below w0.heap.size w0 w)
  (hps : ∀ x args A, Ok x args A → args.size = ps.size)
  (hKt : ∀ {A B C : World}, Kp A B → Kp B C → Kp A C) (hKb : ∀ (A : World) (l : Nat) (o o' : Obj), w.heap.size ≤ l → A.heap[l]? = some o → o.isCells = false → o'.isCells = false → Kp A (A.putObj l o'))
  (I Ix : List α → World → Prop)
  (hI : ∀ pre A B, I pre A → Below A.heap.size A B → I pre B)
  (hIp : ∀ pre A l o o', I pre A → w.heap.size ≤ l → A.heap[l]? = some o → o.isCells = false → o'.isCells = false → I pre (A.putObj l o'))
  (hIxp : ∀ pre A l o o', Ix pre A → w.heap.size ≤ l → A.heap[l]? = some o → o.isCells = false → o'.isCells = false → Ix pre (A.putObj l o'))
  (h0 : I [] w)
  (hround : ∀ l pre x args A, I pre A → (∃ post, xs = pre ++ x :: post) → Ok x args A → w.heap.size < l → (∃ o, A.heap[l]? = some o ∧ o.isCells = false) →
   assign.wpIn (Fence.wide.inRound l) 0 P (Exit.then (roundMid P w.heap.size l Kp body I Ix (pre ++ [x]) A) (fun _ _ _ => False)) { tmps := (ps.zip args).foldl (fun t (p, v) => t.setIfInBounds p v) a.tmps, defers := [] } A)
  (hdone : ∀ D W, w.heap.size ≤ D → I xs W → W.heap[D]? = some (.deferred (some [])) → Q .normal { a with defers := { target := .collected D, args := #[] } :: a.defers } W)
  (hstop : ∀ D pre W, w.heap.size ≤ D → Ix pre W → W.heap[D]? = some (.deferred (some [])) → Q .ret { a with defers := { target := .collected D, args := #[] } :: a.defers } W) :
  (Code.rangeFunc g ps assign body).wpIn Fence.wide 0 P Q a w := by
 refine wpIn_rangeFunc ?_
 intro fn _
 obtain ⟨rec, hrec⟩ : ∃ rec : LoopState → Option Code → Loop, rec = fun st pe => { state := st, pending := pe, fn, tmps := a.tmps, params := ps, assign, body, defers := w.heap.size } := ⟨_, rfl⟩
 obtain ⟨W1, hW1⟩ : ∃ W1, (w.alloc (.deferred (some []))).alloc (.loop (rec .ready none)) = W1 := ⟨_, rfl⟩
 have hL1 : W1.heap[w.heap.size + 1]? = some (.loop (rec .ready none)) := by
  rw [← hW1]; have := World.alloc_heap_new (w.alloc (.deferred (some []))) (.loop (rec .ready none)); rwa [World.size_alloc] at this
 have hK1 : W1.heap[w.heap.size]? = some (.deferred (some [])) := by
  rw [← hW1]; exact (Below.heap_alloc _ _ _ (by simp)).trans (World.alloc_heap_new w _)
 have hbw : Below w.heap.size w W1 := by rw [← hW1]; exact ((Below.refl _ w).alloc (Nat.le_refl _) _).alloc (by simp) _
 have hI1 : I [] W1 := hI _ _ _ h0 hbw
 refine ⟨w.heap.size + 1, [{ target := .collected w.heap.size, args := #[] }], W1, { target := .fn (.func gf) lb, args := #[.func (.yield (w.heap.size + 1)) #[] #[]] }, W1, gf,
  #[.func (.yield (w.heap.size + 1)) #[] #[]] ++ lb, W1, ?_, ?_, fun _ _ => trivial, ?_, (fun h => by cases h), ?_⟩
 ·rw [← hW1, hrec]; exact run_enterLoop_outer _ _ _ _ _
 ·simp only [resolve, hg]
  simp [go_sem]
 ·simp [invoke, go_sem, eg]
 ·refine (hit (w.heap.size + 1)
   (fun pre W => I pre W ∧ W.heap[w.heap.size + 1]? = some (.loop (rec .ready none)) ∧ W.heap[w.heap.size]? = some (.deferred (some [])))
   (fun pre W => Ix pre W ∧ W.heap[w.heap.size + 1]? = some (.loop (rec .done (some .ret))) ∧ W.heap[w.heap.size]? = some (.deferred (some [])))
   W1 (hb0.trans (hbw.mono hb0.size)) ?_ ?_ ⟨hI1, hL1, hK1⟩).mono ?_
  ·rintro pre A B ⟨i1, i2, i3⟩ hb
   exact ⟨hI _ _ _ i1 hb, (hb.block _ (Array.getElem?_eq_some_iff.1 i2).1).trans i2, (hb.block _ (Array.getElem?_eq_some_iff.1 i3).1).trans i3⟩
  ·rintro pre x args W ⟨hi, hl, hk⟩ hpost hok
   have hy := run_yield (P := P) (args := args) hl (by rw [hrec]; exact hps x args W hok)
   rw [hrec] at hy
   refine ⟨fn, _, assign, body, hy, roundIn_of_wpIn trivial (wpIn_mono (hround (w.heap.size + 1) pre x args W hi hpost hok (by omega) ⟨_, hl, rfl⟩) ?_)⟩
   clear hy
   rintro ex a1 A1 hp
   cases ex with
   | normal =>
    obtain ⟨k1, k2, k3⟩ := hp
    replace hl := k1.same _ _ (by omega) hl rfl
    replace hk := k1.same _ _ (Nat.le_refl _) hk rfl
    have hlt : w.heap.size + 1 < A1.heap.size := (Array.getElem?_eq_some_iff.1 hl).1
    refine ⟨_, run_beginRound hl (by rw [hrec]), ?_⟩
    have hl2 : (A1.putObj (w.heap.size + 1) (.loop { rec .ready none with state := .busy })).heap[w.heap.size + 1]? = some (.loop { rec .ready none with state := .busy }) := World.putObj_heap_same hlt
    have hk2 : (A1.putObj (w.heap.size + 1) (.loop { rec .ready none with state := .busy })).heap[w.heap.size]? = some (.deferred (some [])) := (World.putObj_heap_other (by omega)).trans hk
    have hc2 := cell_putObj (o' := .loop { rec .ready none with state := .busy }) hl rfl rfl
    have hw2 : Kp A1 (A1.putObj (w.heap.size + 1) (.loop { rec .ready none with state := .busy })) := hKb _ _ _ _ (by omega) hl rfl rfl
    refine wpIn_mono (k3 _ (grownBy_putObj' _ _ _) (by simp) (fun p => (hc2 p).1) (fun p => (hc2 p).2)) ?_
    rintro e a3 W3 hp
    cases e with
    | normal =>
     obtain ⟨hk3, hkp3, hi3⟩ := hp
     have hl3 := hk3.same _ _ (by omega) hl2 rfl
     have hk3' := hk3.same _ _ (Nat.le_refl _) hk2 rfl
     have hlt3 := (Array.getElem?_eq_some_iff.1 hl3).1
     refine ⟨_, _, run_endRound (P := P) none hl3, .inl ⟨rfl, ⟨hIp _ _ _ _ _ hi3 (by omega) hl3 rfl rfl, ?_, (World.putObj_heap_other (by omega)).trans hk3'⟩, ?_⟩⟩
     ·rw [World.putObj_heap_same hlt3, hrec]; rfl
     ·exact hKt k2 (hKt hw2 (hKt hkp3 (hKb _ _ _ _ (by omega) hl3 rfl rfl)))
    | ret =>
     obtain ⟨hk3, hi3⟩ := hp
     have hl3 := hk3.same _ _ (by omega) hl2 rfl
     have hk3' := hk3.same _ _ (Nat.le_refl _) hk2 rfl
     have hlt3 := (Array.getElem?_eq_some_iff.1 hl3).1
     refine ⟨_, _, run_endRound (P := P) (some .ret) hl3, .inr ⟨rfl, hIxp _ _ _ _ _ hi3 (by omega) hl3 rfl rfl, ?_, (World.putObj_heap_other (by omega)).trans hk3'⟩⟩
     rw [World.putObj_heap_same hlt3, hrec]; rfl
    | exit id => exact hp.elim
    | goto t => exact hp.elim
    | panic c => exact hp.elim
    | outgrown => exact hp.elim
   | exit id => exact hp.elim
   | goto t => exact hp.elim
   | ret => exact hp.elim
   | panic c => exact hp.elim
   | outgrown => exact hp.elim
  ·rintro e W2 ⟨⟨v, rfl⟩, (⟨hi, hl, hk⟩ | ⟨pre, hi, hl, hk⟩)⟩
   ·refine ⟨none, _, ?_, hdone _ _ (Nat.le_refl _) (hIp _ _ (w.heap.size + 1) _ (.loop { rec .ready none with state := .exhausted }) hi (by omega) hl rfl rfl) ((World.putObj_heap_other (by omega)).trans hk)⟩
    have := run_endLoop (P := P) hl (by rw [hrec]; simp)
    exact this.trans (by rw [hrec])
   ·refine ⟨some .ret, _, ?_, wpIn_ret (hstop _ pre _ (Nat.le_refl _) (hIxp _ _ (w.heap.size + 1) _ (.loop { rec .done (some .ret) with state := .exhausted }) hi (by omega) hl rfl rfl) ((World.putObj_heap_other (by omega)).trans hk))⟩
    have := run_endLoop (P := P) hl (by rw [hrec]; simp)
    exact this.trans (by rw [hrec])
theorem oper_round {P : Program} {o : Oper} {a : Act} {w : World} {K K' : Act → World → Prop} {Q : Exit → Act → World → Prop} {l n : Nat} (hnd : ∀ c, o.op ≠ .defer c) (hK : ∀ a w, K a w → K' a w) (h : o.wp P a w K Q) :
  o.wpIn (Fence.wide.inRound l) n P a w K' Q := by
 refine ⟨fun _ _ => trivial, ?_⟩
 have hs : o.semAt (Fence.wide.inRound l).round a.eval = execOp a.eval o := Oper.semAt_some l _ _ hnd
 rw [hs]
 unfold Oper.wp at h
 generalize (execOp a.eval o).run P w = r at *
 cases r with
 | ok x w' =>
  cases x <;> simp only [Oper.upon] at h <;> simp only [Oper.uponIn]
  case value v => exact hK _ _ h
  case skip => exact hK _ _ h
  case defer d => exact hK _ _ h
  case enter f args =>
   refine ⟨(fun h => by cases h), ?_⟩
   refine CallsIn.inRound l (callsIn_wide.2 (Calls.mono h fun e w'' he => ?_))
   cases e <;> first | exact hK _ _ he | exact he
  case row row args =>
   refine ⟨(fun h => by cases h), fun c cs _ => ?_⟩
   obtain ⟨v, w'', hv, hst⟩ := h c cs
   exact ⟨v, w'', hK _ _ hv, stepsIn_wide.2 hst⟩
 | halt x w' => cases x <;> simp only [Oper.upon] at h <;> simp only [Oper.uponIn] <;> exact h
theorem wpAny_round {P : Program} {ops : Array Oper} {md : Region.Mode} {Q : Exit → Act → World → Prop} {l n : Nat} (hnd : ∀ (i : Nat) (o : Oper), ops[i]? = some o → ∀ c, o.op ≠ .defer c) (hout : ∀ a w, ¬ Q .outgrown a w) :
  ∀ (fuel : Nat) (listed : Array Bool) (a : Act) (w : World), wpAny P md ops Q fuel listed a w → wpAnyIn (Fence.wide.inRound l) n P md ops Q fuel listed a w
 | 0, _, _, _, h => h
 | fuel + 1, listed, a, w, h => by
  refine ⟨h.1, fun i hi => ?_⟩
  have h2 := h.2 i hi
  unfold wpOp at h2
  unfold wpOpIn
  cases ho : ops[i]? with
  | none =>
   simp only [ho] at h2 ⊢
   exact wpAny_round hnd hout fuel _ a w h2
  | some o =>
   simp only [ho] at h2 ⊢
   by_cases hw : Region.wanted o (yielded ops a.tmps) = true
   ·simp only [hw, if_true] at h2 ⊢
    rcases h2 with h2 | ⟨_, a0, w0, hq⟩
    ·exact oper_round (hnd i o ho) (fun a' w' h' => wpAny_round hnd hout fuel _ a' w' h') h2
    ·exact (hout _ _ hq).elim
   ·simp only [hw] at h2 ⊢
    exact ⟨fun _ _ => trivial, wpAny_round hnd hout fuel _ _ w h2⟩
def noDefer (ops : List Oper) : Bool := ops.all fun o => match o.op with | .defer _ => false | _ => true
theorem noDefer_spec {ops : List Oper} (h : noDefer ops = true) : ∀ (i : Nat) (o : Oper), ops.toArray[i]? = some o → ∀ c, o.op ≠ .defer c := by
 intro i o ho c hc
 have hm : o ∈ ops := by
  have := Array.mem_of_getElem? ho
  simpa using this
 have := List.all_eq_true.1 h o hm
 rw [hc] at this
 cases this
theorem wpIn_region_tail_round {P : Program} {id : Nat} {Q : Exit → Act → World → Prop} {a : Act} {w : World} {l : List Oper} {r m : Nat} (n : Nat) (hm : P.follows .mixedOrders = true) (hB : Region.lexTailB .any l.toArray n = true) (hnd : noDefer l = true) (hout : ∀ a w, ¬ Q .outgrown a w)
  (h : wpStill P l.toArray { w with drawn := w.drawn + 1 } (fun a' => wpList P l.toArray Q (l.drop n) a' { w with drawn := w.drawn + 1 }) (l.take n) a) : (Code.region id l.toArray true).wpIn (Fence.wide.inRound r) m P Q a w := by
 simp only [Region.lexTailB, Bool.and_eq_true, decide_eq_true_eq] at hB
 obtain ⟨⟨⟨⟨hsel, hn⟩, hs⟩, hc⟩, hlex⟩ := hB
 have hn' : n < l.length := by simpa using hn
 have htl : (l.take n).length = n := by simp; omega
 have hdl : (l.drop n).length = l.toArray.size - n := by simp
 have inv0 : HeadInv .any l.toArray n (Array.replicate l.toArray.size false) :=
  ⟨by simp, fun j oj _ hl => (by rw [getD_replicate_false] at hl; cases hl), fun t _ ht => getD_in (by simpa using ht) (getD_replicate_false _ _)⟩
 have H := wpAnyL_lex (md := .any) (g := l.toArray.size - n) hsel hs hc hn (l.take n) 0 _ a (fun j hj => by
  have hj' : j < n := by rw [htl] at hj; exact hj
  simp [hj']) (by simpa using htl) inv0 (by rw [htl]; exact hlex) h
 refine wpIn_region_any hm (wpAny_round (noDefer_spec hnd) hout _ _ _ _ ?_)
 have := wpAny_of_head (Q' := Q) (g := l.toArray.size - n) (fun listed a' hL => by
  obtain ⟨h1, h2⟩ := hL
  have := wpAny_of_seq (md := .any) (Q' := Q) (l.drop n) n listed a' { w with drawn := w.drawn + 1 } (fun j => by simp) (by rw [hdl]; exact h1) h2
  rw [hdl] at this
  exact this) (l.take n).length (Array.replicate l.toArray.size false) a H
 rw [htl] at this
 rwa [show n + (l.toArray.size - n) = l.toArray.size by have : n < l.toArray.size := hn; omega] at this
theorem wpIn_region_tail_named {P : Program} {id : Nat} {Q : Exit → Act → World → Prop} {a : Act} {w : World} {l : List Oper} {r m : Nat} (n : Nat) (hm : P.follows .mixedOrders = true) (hB : Region.lexTailB .any l.toArray n = true) (hnd : noDefer l = true) (hout : ∀ a w, ¬ Q .outgrown a w)
  (h : ∀ w', w' = w.drew → wpStill P l.toArray w' (fun a' => wpList P l.toArray Q (l.drop n) a' w') (l.take n) a) : (Code.region id l.toArray true).wpIn (Fence.wide.inRound r) m P Q a w :=
 wpIn_region_tail_round n hm hB hnd hout (h _ rfl)
theorem KeepsFrom.of_below {B : Nat} {A W : World} (h : Below A.heap.size A W) : KeepsFrom B A W :=
 ⟨h.size, fun k o _ hk _ => (h.block k (Array.getElem?_eq_some_iff.1 hk).1).trans hk⟩
theorem own_putObj {w : World} {B : Nat} {e : TypeId} {size : Nat} {v : Value} {n : Nat} {xs : List Value} (h : w.ownsRow B e size v n xs) {l : Nat} {o o' : Obj} (hl : w.heap[l]? = some o) (ho : o.isCells = false) : (w.putObj l o').ownsRow B e size v n xs := by
 refine ⟨h.1, ?_⟩
 rcases h.2 with hn | ⟨g, cap, cur, hv, hg, hh, r⟩
 ·exact .inl hn
 ·exact .inr ⟨g, cap, cur, hv, hg, (World.putObj_heap_other (fun e => by subst e; rw [hl] at hh; injection hh with hh; subst hh; cases ho)).trans hh, r⟩
end Go.Proofs.YtdfpbhlnlkjjlaaGreat

/- slices.Values at span.end: the library's iterator over a slice, by its contract. -/
namespace Go.Proofs.YtdfpbhlnlkjjlaaGreat
open Go.RowKit
set_option linter.unusedVariables false
set_option linter.unusedSimpArgs false
attribute [local go_sem] Oper.semAt_some
def KpB (b : Nat) (A B : World) : Prop := ∀ o, B.cell? ⟨b, o, none⟩ = A.cell? ⟨b, o, none⟩
theorem KpB.trans {b : Nat} {A B C : World} (h : KpB b A B) (k : KpB b B C) : KpB b A C := fun o => (k o).trans (h o)
set_option maxHeartbeats 1000000 in
theorem values1_iter (Bx b off c : Nat) (xs : List En) (w0 : World) (hn : xs.length ≤ 1000000000) (A : Option Addr) (hBx : Bx < w0.heap.size) (hbox : w0.cell? ⟨Bx, 0, none⟩ = some (.slice A xs.length c))
  (hA : xs ≠ [] → A = some ⟨b, off, none⟩ ∧ b < w0.heap.size ∧ ∀ j x, xs[j]? = some x → ∀ i u, (encE x)[i]? = some u → w0.cell? ⟨b, off + j * 3 + i, none⟩ = some u) :
  Iter Tryz.prog 158 #[.pointer (some ⟨Bx, 0, none⟩)] xs (fun x args _ => args = #[.agg (encE x).toArray]) (KpB b) w0 := by
 intro l J Jx W hW hJ hY h0
 have hboxW : W.cell? ⟨Bx, 0, none⟩ = some (.slice A xs.length c) := (hW.cell (p := ⟨Bx, 0, none⟩) hBx).trans hbox
 refine callsIn_of_wp Tryz.func158 rfl trivial ?_
 simp only [Tryz.ntmps158, List.size_toArray, List.length_cons, List.length_nil, Nat.reduceAdd, Nat.reduceSub, Array.replicate_succ, Array.replicate_zero, List.push_toArray, List.append_toArray, List.nil_append, List.cons_append]
 clear hbox
 gi_wp2
 gi_loopw [4, 7] (fun _ p wr => ∃ k : Nat, k ≤ xs.length ∧ p = .int .i64 k ∧ Hid (J (xs.take k) wr) ∧ Hid (xs ≠ [] → ∀ o, wr.cell? ⟨b, o, none⟩ = w0.cell? ⟨b, o, none⟩)) (fun _ p _ => xs.length - (intOf p).toNat)
 case atStart => exact ⟨0, Nat.zero_le _, rfl, hide (by simpa using h0), hide fun hx o => hW.cell (p := ⟨b, o, none⟩) (hA hx).2.1⟩
 case round =>
  obtain ⟨k, hk, rfl, HJ, HC⟩ := hrel
  by_cases hlt : k < xs.length
  ·have hltz : (k : Int) < (xs.length : Int) := by omega
   have hne : xs ≠ [] := by intro e; rw [e] at hlt; simp at hlt
   obtain ⟨rfl, hb, hcell⟩ := hA hne
   have hx : xs[k]? = some xs[k] := List.getElem?_eq_getElem hlt
   obtain ⟨x, hxe⟩ : ∃ x, xs[k] = x := ⟨_, rfl⟩
   rw [hxe] at hx
   have c0 : wr.cell? ⟨b, off + k * 3, none⟩ = some (.int .i64 x.1) := (HC.out hne _).trans (hcell k x hx 0 _ rfl)
   have c1 : wr.cell? ⟨b, off + k * 3 + 1, none⟩ = some (.int .i64 x.2.1) := (HC.out hne _).trans (hcell k x hx 1 _ rfl)
   have c2 : wr.cell? ⟨b, off + k * 3 + 2, none⟩ = some (.int .i64 x.2.2) := (HC.out hne _).trans (hcell k x hx 2 _ rfl)
   have hfi : xs.take (k + 1) = xs.take k ++ [x] := by rw [List.take_succ_eq_append_getElem hlt, hxe]
   have hpost : ∃ post, xs = xs.take k ++ x :: post := ⟨xs.drop (k + 1), by rw [← hxe, ← List.drop_eq_getElem_cons hlt, List.take_append_drop]⟩
   have hJ2 := hJ _ _ (wr.alloc (.cells #[.int .i64 x.1, .int .i64 x.2.1, .int .i64 x.2.2] 189)) HJ.out ((Below.refl _ _).alloc (Nat.le_refl _) _)
   have hkp : ∀ o, (wr.alloc (.cells #[.int .i64 x.1, .int .i64 x.2.1, .int .i64 x.2.2] 189)).cell? ⟨b, o, none⟩ = wr.cell? ⟨b, o, none⟩ := fun o => World.cell?_alloc_lt wr _ ⟨b, o, none⟩ (lt_of_cell c0)
   obtain ⟨fn, tmps, assign, body, hy, hR⟩ := hY (xs.take k) x #[.agg #[.int .i64 x.1, .int .i64 x.2.1, .int .i64 x.2.2]] _ hJ2 hpost rfl
   have FI := hide hfi
   have HKP := hide hkp
   clear hx hxe hfi hcell hpost hJ hY h0 hA hkp
   gi_wp2
   refine ⟨rfl, hR.mono ?_⟩
   rintro e W3 (⟨rfl, hJ3, hk3⟩ | ⟨rfl, hJx3⟩)
   ·gi_wp2
    go_roundw
    case rel =>
     exact ⟨k + 1, by omega, by go_num, hide (by rw [FI.out]; exact hJ3), hide fun hx o => ((hk3 o).trans (HKP.out o)).trans (HC.out hx o)⟩
    case measure => simp [intOf]; omega
   ·gi_wp2
    refine bodyPost_ret (results_none rfl _ _ _) rfl ?_
    exact ⟨⟨_, rfl⟩, .inr ⟨_, hJx3⟩⟩
  ·have hltz : ¬ (k : Int) < (xs.length : Int) := by omega
   have hk' : xs.take k = xs := List.take_of_length_le (by omega)
   have HK := hide hk'
   clear hk' hJ hY h0 hA
   gi_wp2
   go_end0
   exact ⟨⟨_, rfl⟩, .inl (by have := HJ.out; rw [HK.out] at this; exact this)⟩
set_option maxHeartbeats 400000 in
theorem values_any (v : Value) (w : World) (hv : v.oneCell' = true) :
  Calls Tryz.prog 152 #[v] w fun e w' => e = .returned (.func (.func 158) #[] #[.pointer (some ⟨w.heap.size, 0, none⟩)]) ∧ w.alloc (.cells #[v] 200) = w' := by
 go_enter Tryz.func152, Tryz.ntmps152
 go_wp2
 go_ret
 exact ⟨rfl, rfl⟩
end Go.Proofs.YtdfpbhlnlkjjlaaGreat
