/- A region that draws its order: reads that stay as they are under a condition S, and a tail in one order. The operation L, which waits for all reads (the store at the end), may break S. -/
import Derived.Test.YtamnaojheecopaaKit
import Derived.OrdersHeld
import Derived.Deep.RegionHeld3
namespace Go.Proofs.Ytamnaojheecopaa
open Go.RowKit
set_option linter.unusedVariables false
set_option linter.unusedSimpArgs false

section
variable {P : Program} {ops : Array Oper} {Q : Exit → Act → World → Prop} {md : Region.Mode} {S : World → Prop}

/-- Whatever order is picked from here on, and S holds behind each operation but L. -/
def wpAnyE (P : Program) (md : Region.Mode) (ops : Array Oper) (Q : Exit → Act → World → Prop) (S : World → Prop) (L : Nat) : Nat → Array Bool → Act → World → Prop
  | 0, listed, a, w => Region.ready md ops listed = [] ∧ Q .normal a w
  | fuel + 1, listed, a, w =>
    (Region.ready md ops listed = [] → Q .normal a w) ∧
    ∀ i ∈ Region.ready md ops listed, wpOp P ops Q i (fun a' w' => (i ≠ L → S w') ∧ wpAnyE P md ops Q S L fuel (listed.setIfInBounds i true) a' w') a w

variable {L : Nat}
theorem wpAny_of_E : ∀ (fuel : Nat) (listed : Array Bool) (a : Act) (w : World), wpAnyE P md ops Q S L fuel listed a w → wpAny P md ops Q fuel listed a w
  | 0, _, _, _, h => h
  | fuel + 1, _, _, _, h => ⟨h.1, fun i hi => wpOp_mono (fun a' w' h' => wpAny_of_E fuel _ a' w' h'.2) (h.2 i hi)⟩

theorem wpAnyE_first {i : Nat} {oi : Oper} {v : Value} (hi : ops[i]? = some oi) (hsel : ∀ (j : Nat) (o : Oper) cs b, ops[j]? = some o → o.op ≠ .select cs b)
    (hQ : ∀ c a w, Q (.panic c) (a.put oi.dst v) w → Q (.panic c) a w) (hL : ∀ o, ops[L]? = some o → ∃ e ∈ o.after, Region.binds md e = true ∧ e.on = i) :
    ∀ (fuel : Nat) (listed : Array Bool) (a : Act) (w : World),
      (∀ j oj, ops[j]? = some oj → j ≠ i → listed.getD j true = false → (∀ e ∈ oj.after, Region.binds md e = true → e.on ≠ i) → oi.apart ops oj = true) →
      i ∈ Region.ready md ops listed → YieldsIf P ops S oi v a → S w →
      wpAnyE P md ops Q S L fuel (listed.setIfInBounds i true) (a.put oi.dst v) w → wpAnyE P md ops Q S L (fuel + 1) listed a w := by
  intro fuel
  induction fuel with
  | zero =>
    intro listed a w _ hr hy hS H
    refine ⟨fun h => (by rw [h] at hr; cases hr), fun j hj => ?_⟩
    by_cases hji : j = i
    · subst hji; exact hy.wpOp hi hS ⟨fun _ => hS, H⟩
    · have := ready_mono hj hji
      rw [H.1] at this
      cases this
  | succ fuel ih =>
    intro listed a w hfree hr hy hS H
    refine ⟨fun h => (by rw [h] at hr; cases hr), fun j hj => ?_⟩
    by_cases hji : j = i
    · subst hji; exact hy.wpOp hi hS ⟨fun _ => hS, H⟩
    · have h1 := H.2 j (ready_mono hj hji)
      obtain ⟨hjun, oj, hoj, hall⟩ := mem_ready.1 hj
      have hnot : ∀ e ∈ oj.after, Region.binds md e = true → e.on ≠ i := fun e he hb heq => by
        have g1 := hall e he hb
        have g0 := (mem_ready.1 hr).1
        rw [heq] at g1
        rcases Nat.lt_or_ge i listed.size with h' | h'
        · simp [h'] at g0 g1; rw [g0] at g1; cases g1
        · simp [Array.getElem?_eq_none h'] at g1
      have hjL : j ≠ L := by
        rintro rfl
        obtain ⟨e, he, hb, hon⟩ := hL oj hoj
        exact hnot e he hb hon
      have h2 := wpOp_putIf hoj (hfree j oj hoj hji hjun hnot) (fun cs b => hsel i oi cs b hi) (fun cs b => hsel j oj cs b hoj) hQ hy h1
      have hfree' : ∀ k ok, ops[k]? = some ok → k ≠ i → (listed.setIfInBounds j true).getD k true = false →
          (∀ e ∈ ok.after, Region.binds md e = true → e.on ≠ i) → oi.apart ops ok = true := fun k ok hk hki hun hno => by
        refine hfree k ok hk hki ?_ hno
        by_cases hjk : j = k
        · subst hjk; exact hjun
        · rw [getD_set_ne true hjk] at hun; exact hun
      refine wpOp_mono (fun a' w' h3 => ⟨fun _ => h3.2.1 hjL, ih (listed.setIfInBounds j true) a' w' hfree' (ready_mono hr (Ne.symm hji)) h3.1 (h3.2.1 hjL) ?_⟩) h2
      rw [Array.setIfInBounds_comm _ _ hji]
      exact h3.2.2

/-! ### One law for the whole region: n reads, in the order of the text, then a tail in one order -/
def pre (m : Nat) : Nat → Array Bool
  | 0 => Array.replicate m false
  | k + 1 => (pre m k).setIfInBounds k true
def waitsFor (md : Region.Mode) (ops : Array Oper) (L i : Nat) : Bool := match ops[L]? with | some o => o.after.any (fun e => Region.binds md e && e.on == i) | none => true
def heldB (md : Region.Mode) (ops : Array Oper) (n : Nat) : Bool :=
  Region.noSelect ops && decide (n < ops.size) && (List.range n).all (fun i => Region.free md ops (pre ops.size i) i && (Region.ready md ops (pre ops.size i)).contains i && waitsFor md ops (ops.size - 1) i) &&
    (List.range (ops.size - n)).all (fun j => Region.ready md ops (pre ops.size (n + j)) == [n + j]) && (Region.ready md ops (pre ops.size ops.size)).isEmpty

/-- The reads, one behind the other: each yields its value in every world that meets S. -/
def wpReads (P : Program) (ops : Array Oper) (S : World → Prop) (K : Act → Prop) : List Oper → Act → Prop
  | [], a => K a
  | o :: r, a => ∃ v, YieldsIf P ops S o v a ∧ wpReads P ops S K r (a.put o.dst v)
/-- The tail, one operation behind the other; behind each but the last S is shown anew. -/
def wpTail (P : Program) (ops : Array Oper) (S : World → Prop) (Q : Exit → Act → World → Prop) : List Oper → Act → World → Prop
  | [], a, w => Q .normal a w
  | o :: r, a, w => ∀ K : Act → World → Prop, (∀ a' w', (r ≠ [] → S w') → wpTail P ops S Q r a' w' → K a' w') → if Region.wanted o (yielded ops a.tmps) = true then o.wp P a w K Q else K (a.put o.dst undef) w
theorem wpTail_E {n : Nat} {l : List Oper} (hT : ∀ j, j < l.length - n → Region.ready md l.toArray (pre l.length (n + j)) = [n + j]) (hE : Region.ready md l.toArray (pre l.length l.length) = []) :
    ∀ (r : List Oper) (k : Nat) (a : Act) (w : World), n ≤ k → k + r.length = l.length → l.drop k = r → wpTail P l.toArray S Q r a w → wpAnyE P md l.toArray Q S (l.length - 1) r.length (pre l.length k) a w
  | [], k, a, w, hk, hl, hd, h => by
    obtain rfl : k = l.length := by simpa using hl
    exact ⟨hE, h⟩
  | o :: r, k, a, w, hk, hl, hd, h => by
    have hkl : k < l.length := by simp at hl; omega
    have hr := hT (k - n) (by omega)
    rw [show n + (k - n) = k by omega] at hr
    have ho : l.toArray[k]? = some o := by
      have : (l.drop k)[0]? = some o := by rw [hd]; rfl
      simpa using this
    have hd' : l.drop (k + 1) = r := by rw [← List.drop_drop, hd]; rfl
    refine ⟨fun h0 => (by rw [hr] at h0; cases h0), fun i hi => ?_⟩
    rw [hr] at hi
    obtain rfl : i = k := by simpa using hi
    refine wpOp_step ho fun K' hK => h K' fun a' w' hS hT' => hK a' w' ⟨fun hne => hS ?_, ?_⟩
    · rintro rfl
      simp at hl
      omega
    · exact wpTail_E hT hE r (i + 1) a' w' (by omega) (by simp at hl; omega) hd' hT'
theorem wpReads_E {n : Nat} {l : List Oper} (hsel : ∀ (j : Nat) (o : Oper) cs b, l.toArray[j]? = some o → o.op ≠ .select cs b) (hQ : ∀ c a a' w, Q (.panic c) a w → Q (.panic c) a' w)
    (hF : ∀ i, i < n → Region.free md l.toArray (pre l.length i) i = true ∧ i ∈ Region.ready md l.toArray (pre l.length i) ∧ waitsFor md l.toArray (l.length - 1) i = true) (hn : n ≤ l.length)
    {w : World} (hS : S w) (K : Act → Prop) (hK : ∀ a, K a → wpAnyE P md l.toArray Q S (l.length - 1) (l.length - n) (pre l.length n) a w) :
    ∀ (r : List Oper) (i : Nat) (a : Act), i + r.length = n → (l.take n).drop i = r → wpReads P l.toArray S K r a → wpAnyE P md l.toArray Q S (l.length - 1) (l.length - i) (pre l.length i) a w
  | [], i, a, hi, hd, h => by
    obtain rfl : i = n := by simpa using hi
    exact hK a h
  | o :: r, i, a, hi, hd, h => by
    have hin : i < n := by simp at hi; omega
    obtain ⟨f1, f2, f3⟩ := hF i hin
    obtain ⟨v, hy, h⟩ := h
    have ho : l.toArray[i]? = some o := by
      have : ((l.take n).drop i)[0]? = some o := by rw [hd]; rfl
      rw [List.getElem?_drop, List.getElem?_take] at this
      simpa [hin] using this
    have hd' : (l.take n).drop (i + 1) = r := by rw [← List.drop_drop, hd]; rfl
    have ih := wpReads_E hsel hQ hF hn hS K hK r (i + 1) (a.put o.dst v) (by simp at hi; omega) hd' h
    have e : l.length - i = (l.length - (i + 1)) + 1 := by omega
    rw [e]
    refine wpAnyE_first ho hsel (fun c a w h => hQ c _ _ w h) ?_ _ _ _ _ (Region.free_spec ho f1) f2 hy hS ih
    intro oL hoL
    unfold waitsFor at f3
    rw [hoL] at f3
    obtain ⟨e, he, h2⟩ := Array.any_eq_true'.1 f3
    simp only [Bool.and_eq_true, beq_iff_eq] at h2
    exact ⟨e, he, h2.1, h2.2⟩
/-- **The law.** -/
theorem wp_region_reads {id : Nat} {a : Act} {w : World} {l : List Oper} (n : Nat) (S : World → Prop) (hm : P.follows .mixedOrders = true) (hB : heldB .any l.toArray n = true) (hS : S w.drew)
    (h : wpReads P l.toArray S (fun a' => wpTail P l.toArray S (NoPanic Q) (l.drop n) a' w.drew) (l.take n) a) : (Code.region id l.toArray true).wp P Q a w := by
  refine wp_region_noPanic (wp_region_any hm (wpAny_of_E (S := S) (L := l.length - 1) _ _ _ _ ?_))
  simp only [heldB, Bool.and_eq_true, decide_eq_true_eq, List.all_eq_true, List.mem_range, beq_iff_eq, List.isEmpty_iff, List.size_toArray, List.contains_iff_mem] at hB
  obtain ⟨⟨⟨⟨b1, b2⟩, b3⟩, b4⟩, b5⟩ := hB
  have := wpReads_E (Q := NoPanic Q) (S := S) (n := n) (l := l) (w := w.drew) (Region.noSelect_spec b1) (fun _ _ _ _ h => h) (fun i hi => ⟨(b3 i hi).1.1, (b3 i hi).1.2, (b3 i hi).2⟩) (by omega) hS _
    (fun a' h' => by
      have h2 := wpTail_E (S := S) (n := n) b4 b5 (l.drop n) n a' w.drew (Nat.le_refl _) (by simp; omega) rfl h'
      rw [List.length_drop] at h2
      exact h2) (l.take n) 0 a (by simp; omega) rfl h
  simpa [pre] using this

/-! ### The same, where the reads hang on no cell: nothing is to be kept -/
def heldB0 (md : Region.Mode) (ops : Array Oper) (n : Nat) : Bool :=
  Region.noSelect ops && decide (n ≤ ops.size) && (List.range n).all (fun i => Region.free md ops (pre ops.size i) i && (Region.ready md ops (pre ops.size i)).contains i) &&
    (List.range (ops.size - n)).all (fun j => Region.ready md ops (pre ops.size (n + j)) == [n + j]) && (Region.ready md ops (pre ops.size ops.size)).isEmpty
theorem wpTail_E0 {n : Nat} {l : List Oper} (hT : ∀ j, j < l.length - n → Region.ready md l.toArray (pre l.length (n + j)) = [n + j]) (hE : Region.ready md l.toArray (pre l.length l.length) = []) :
    ∀ (r : List Oper) (k : Nat) (a : Act) (w : World), n ≤ k → k + r.length = l.length → l.drop k = r → wpTail P l.toArray (fun _ => True) Q r a w → wpAnyE P md l.toArray Q (fun _ => True) l.length r.length (pre l.length k) a w
  | [], k, a, w, hk, hl, hd, h => by
    obtain rfl : k = l.length := by simpa using hl
    exact ⟨hE, h⟩
  | o :: r, k, a, w, hk, hl, hd, h => by
    have hkl : k < l.length := by simp at hl; omega
    have hr := hT (k - n) (by omega)
    rw [show n + (k - n) = k by omega] at hr
    have ho : l.toArray[k]? = some o := by
      have : (l.drop k)[0]? = some o := by rw [hd]; rfl
      simpa using this
    have hd' : l.drop (k + 1) = r := by rw [← List.drop_drop, hd]; rfl
    refine ⟨fun h0 => (by rw [hr] at h0; cases h0), fun i hi => ?_⟩
    rw [hr] at hi
    obtain rfl : i = k := by simpa using hi
    refine wpOp_step ho fun K' hK => h K' fun a' w' hS hT' => hK a' w' ⟨fun _ => trivial, ?_⟩
    exact wpTail_E0 hT hE r (i + 1) a' w' (by omega) (by simp at hl; omega) hd' hT'
theorem wpReads_E0 {n : Nat} {l : List Oper} (hsel : ∀ (j : Nat) (o : Oper) cs b, l.toArray[j]? = some o → o.op ≠ .select cs b) (hQ : ∀ c a a' w, Q (.panic c) a w → Q (.panic c) a' w)
    (hF : ∀ i, i < n → Region.free md l.toArray (pre l.length i) i = true ∧ i ∈ Region.ready md l.toArray (pre l.length i)) (hn : n ≤ l.length)
    {w : World} (K : Act → Prop) (hK : ∀ a, K a → wpAnyE P md l.toArray Q (fun _ => True) l.length (l.length - n) (pre l.length n) a w) :
    ∀ (r : List Oper) (i : Nat) (a : Act), i + r.length = n → (l.take n).drop i = r → wpReads P l.toArray (fun _ => True) K r a → wpAnyE P md l.toArray Q (fun _ => True) l.length (l.length - i) (pre l.length i) a w
  | [], i, a, hi, hd, h => by
    obtain rfl : i = n := by simpa using hi
    exact hK a h
  | o :: r, i, a, hi, hd, h => by
    have hin : i < n := by simp at hi; omega
    obtain ⟨f1, f2⟩ := hF i hin
    obtain ⟨v, hy, h⟩ := h
    have ho : l.toArray[i]? = some o := by
      have : ((l.take n).drop i)[0]? = some o := by rw [hd]; rfl
      rw [List.getElem?_drop, List.getElem?_take] at this
      simpa [hin] using this
    have hd' : (l.take n).drop (i + 1) = r := by rw [← List.drop_drop, hd]; rfl
    have ih := wpReads_E0 hsel hQ hF hn K hK r (i + 1) (a.put o.dst v) (by simp at hi; omega) hd' h
    have e : l.length - i = (l.length - (i + 1)) + 1 := by omega
    rw [e]
    refine wpAnyE_first ho hsel (fun c a w h => hQ c _ _ w h) ?_ _ _ _ _ (Region.free_spec ho f1) f2 hy trivial ih
    intro oL hoL
    have := (Array.getElem?_eq_some_iff.1 hoL).1
    simp at this
/-- **The law without a condition.** -/
theorem wp_region_reads0 {id : Nat} {a : Act} {w : World} {l : List Oper} (n : Nat) (hm : P.follows .mixedOrders = true) (hB : heldB0 .any l.toArray n = true)
    (h : wpReads P l.toArray (fun _ => True) (fun a' => wpTail P l.toArray (fun _ => True) (NoPanic Q) (l.drop n) a' w.drew) (l.take n) a) : (Code.region id l.toArray true).wp P Q a w := by
  refine wp_region_noPanic (wp_region_any hm (wpAny_of_E (S := fun _ => True) (L := l.length) _ _ _ _ ?_))
  simp only [heldB0, Bool.and_eq_true, decide_eq_true_eq, List.all_eq_true, List.mem_range, beq_iff_eq, List.isEmpty_iff, List.size_toArray, List.contains_iff_mem] at hB
  obtain ⟨⟨⟨⟨b1, b2⟩, b3⟩, b4⟩, b5⟩ := hB
  have := wpReads_E0 (Q := NoPanic Q) (n := n) (l := l) (w := w.drew) (Region.noSelect_spec b1) (fun _ _ _ _ h => h) (fun i hi => ⟨(b3 i hi).1, (b3 i hi).2⟩) (by omega) _
    (fun a' h' => by
      have h2 := wpTail_E0 (n := n) b4 b5 (l.drop n) n a' w.drew (Nat.le_refl _) (by simp; omega) rfl h'
      rw [List.length_drop] at h2
      exact h2) (l.take n) 0 a (by simp; omega) rfl h
  simpa [pre] using this

/-! ### Reads that stand between calls: R, the reads, in an order in which they may come up; T, all else, in the one order that it has -/
def opAt (l : List Oper) (i : Nat) : Oper := (l[i]?).getD ⟨none, .move (.const undef), 0, "", #[], none⟩
def mixTB (md : Region.Mode) (ops : Array Oper) : List Nat → Array Bool → Bool
  | [], l => (Region.ready md ops l).isEmpty
  | t :: r, l => (Region.ready md ops l == [t]) && mixTB md ops r (l.setIfInBounds t true)
def mixRB (md : Region.Mode) (ops : Array Oper) (T : List Nat) : List Nat → Array Bool → Bool
  | [], l => mixTB md ops T l
  | i :: r, l => Region.free md ops l i && (Region.ready md ops l).contains i && waitsFor md ops (ops.size - 1) i && mixRB md ops T r (l.setIfInBounds i true)
def mixB (md : Region.Mode) (ops : Array Oper) (R T : List Nat) : Bool := Region.noSelect ops && decide (R.length + T.length = ops.size) && (T.getLast? == some (ops.size - 1)) && mixRB md ops T R (Array.replicate ops.size false)
theorem opAt_some {l : List Oper} {i : Nat} {o : Oper} (h : l[i]? = some o) : opAt l i = o := by simp [opAt, h]
theorem wpTail_mix {l : List Oper} : ∀ (T : List Nat) (listed : Array Bool) (a : Act) (w : World), (∀ t, T.getLast? = some t → t = l.length - 1) → mixTB md l.toArray T listed = true → wpTail P l.toArray S Q (T.map (opAt l)) a w → wpAnyE P md l.toArray Q S (l.length - 1) T.length listed a w
  | [], listed, a, w, _, hT, h => by
    simp only [mixTB, List.isEmpty_iff] at hT
    exact ⟨hT, h⟩
  | t :: r, listed, a, w, hL, hT, h => by
    simp only [mixTB, Bool.and_eq_true, beq_iff_eq] at hT
    refine ⟨fun h0 => (by rw [hT.1] at h0; cases h0), fun i hi => ?_⟩
    obtain ⟨_, o, ho, _⟩ := mem_ready.1 hi
    rw [hT.1] at hi
    obtain rfl : i = t := by simpa using hi
    have ho' : l[i]? = some o := by simpa using ho
    simp only [List.map_cons, opAt_some ho'] at h
    refine wpOp_step ho fun K' hK => h K' fun a' w' hS hT' => hK a' w' ⟨fun hne => hS fun hr => hne ?_, ?_⟩
    · have : r = [] := by simpa using hr
      subst this
      exact hL i rfl
    · refine wpTail_mix r _ a' w' (fun q hq => ?_) hT.2 hT'
      cases r with
      | nil => cases hq
      | cons x r => exact hL q (by rw [List.getLast?_cons_cons]; exact hq)
theorem wpReads_mix {l : List Oper} {T : List Nat} (hsel : ∀ (j : Nat) (o : Oper) cs b, l.toArray[j]? = some o → o.op ≠ .select cs b) (hQ : ∀ c a a' w, Q (.panic c) a w → Q (.panic c) a' w) (hL : ∀ t, T.getLast? = some t → t = l.length - 1)
    {w : World} (hS : S w) : ∀ (R : List Nat) (listed : Array Bool) (a : Act), mixRB md l.toArray T R listed = true → wpReads P l.toArray S (fun a' => wpTail P l.toArray S Q (T.map (opAt l)) a' w) (R.map (opAt l)) a →
      wpAnyE P md l.toArray Q S (l.length - 1) (R.length + T.length) listed a w
  | [], listed, a, hR, h => by
    rw [List.length_nil, Nat.zero_add]
    exact wpTail_mix T listed a w hL hR h
  | i :: r, listed, a, hR, h => by
    simp only [mixRB, Bool.and_eq_true, List.contains_iff_mem] at hR
    obtain ⟨⟨⟨f1, f2⟩, f3⟩, f4⟩ := hR
    obtain ⟨_, o, ho, _⟩ := mem_ready.1 f2
    have ho' : l[i]? = some o := by simpa using ho
    simp only [List.map_cons, opAt_some ho'] at h
    obtain ⟨v, hy, h⟩ := h
    have ih := wpReads_mix hsel hQ hL hS r _ _ f4 h
    rw [List.length_cons, Nat.add_right_comm]
    refine wpAnyE_first ho hsel (fun c a w h => hQ c _ _ w h) ?_ _ _ _ _ (Region.free_spec ho f1) f2 hy hS ih
    intro oL hoL
    unfold waitsFor at f3
    simp only [List.size_toArray] at f3
    rw [hoL] at f3
    obtain ⟨e, he, h2⟩ := Array.any_eq_true'.1 f3
    simp only [Bool.and_eq_true, beq_iff_eq] at h2
    exact ⟨e, he, h2.1, h2.2⟩
/-- **The law.** -/
theorem wp_region_mix {id : Nat} {a : Act} {w : World} {l : List Oper} (R T : List Nat) (S : World → Prop) (hm : P.follows .mixedOrders = true) (hB : mixB .any l.toArray R T = true) (hS : S w.drew)
    (h : wpReads P l.toArray S (fun a' => wpTail P l.toArray S (NoPanic Q) (T.map (opAt l)) a' w.drew) (R.map (opAt l)) a) : (Code.region id l.toArray true).wp P Q a w := by
  refine wp_region_noPanic (wp_region_any hm (wpAny_of_E (S := S) (L := l.length - 1) _ _ _ _ ?_))
  simp only [mixB, Bool.and_eq_true, decide_eq_true_eq, beq_iff_eq, List.size_toArray] at hB
  obtain ⟨⟨⟨b1, b2⟩, b3⟩, b4⟩ := hB
  have := wpReads_mix (Q := NoPanic Q) (S := S) (l := l) (T := T) (w := w.drew) (Region.noSelect_spec b1) (fun _ _ _ _ h => h) (fun t ht => by rw [b3] at ht; injection ht with ht; exact ht.symm) hS R _ a b4 h
  rw [b2] at this
  exact this
end
end Go.Proofs.Ytamnaojheecopaa
