/- Texts laid together: MLook, MixTwo, JoinR, JoinU, TouchA, TouchB, MParts, MCount, RowSet, MLabel, TouchC, MArea. Lemmas for the statements of this seat; no condition. -/
import Derived.Test.YtmnhlcbmoibahaaGreatPk9
import Derived.Test.YtmnhlcbmoibahaaGreatPk3
import Derived.Test.YtmnhlcbmoibahaaGreatPk2
import Derived.Test.YtmnhlcbmoibahaaGreatPk1

/- Plain law: cross-sections of a canonical region; hulls; moved regions. -/
namespace Go.Proofs.YtmnhlcbmoibahaaGreat
set_option linter.unusedVariables false
set_option linter.unusedSimpArgs false

theorem crossL_append (a b : List R4) (x : Int) : crossL (a ++ b) x = crossL a x ++ crossL b x := by simp [crossL]
theorem crossL_flat1 (a : Slab) (x : Int) : crossL (flat1 a) x = if a.f ≤ x ∧ x < a.t then a.s else [] := by
  unfold crossL flat1
  rw [List.filter_map, List.map_map]
  by_cases hx : a.f ≤ x ∧ x < a.t
  · rw [if_pos hx]
    have : (fun p : Sp => decide (a.f ≤ x) && decide (x < a.t)) = fun _ => true := by funext p; simp [hx.1, hx.2]
    show List.map _ (List.filter (fun p : Sp => decide (a.f ≤ x) && decide (x < a.t)) a.s) = _
    rw [this, List.filter_eq_self.2 (fun _ _ => rfl)]
    show List.map (fun p : Sp => (p.1, p.2)) a.s = a.s
    simp
  · rw [if_neg hx]
    have : (fun p : Sp => decide (a.f ≤ x) && decide (x < a.t)) = fun _ => false := by
      funext p
      by_cases h1 : a.f ≤ x
      · have h2 : ¬ x < a.t := fun h => hx ⟨h1, h⟩
        simp [h2]
      · simp [h1]
    show List.map _ (List.filter (fun p : Sp => decide (a.f ≤ x) && decide (x < a.t)) a.s) = _
    rw [this, List.filter_eq_nil_iff.2 (by simp)]
    rfl
theorem crossL_flat : ∀ {S : List Slab} (x : Int), SOK S → crossL (flat S) x = cr S x
  | [], x, _ => rfl
  | a :: S, x, h => by
    have e : flat (a :: S) = flat1 a ++ flat S := by simp [flat]
    rw [e, crossL_append, crossL_flat1, crossL_flat x h.tail]
    simp only [cr]
    by_cases hx : a.f ≤ x ∧ x < a.t
    · rw [if_pos hx, if_pos hx, cr_far (S := S) (fun b hb => .inl (by have := h.after b hb; omega)), List.append_nil]
    · rw [if_neg hx, if_neg hx, List.nil_append]
theorem check_rcan {l : List R4} (h : checkF l = 0) : RCan l := by
  obtain ⟨h1, h2, h3⟩ := checkF_ok h
  have hr : rjoin hFst l [] = l := by
    unfold madeF at h3
    split at h3
    · simp at h3
    · exact (Prod.mk.inj h3).1
  rw [← hr]
  exact (rjoin_ok (h := hFst) rfl (fun r hr => ⟨(h2 r hr).1, (h2 r hr).2.1⟩) (by simp)).1
theorem crossL_can {l : List R4} (h : RCan l) (x : Int) : SCan (crossL l x) := by
  obtain ⟨S, hS, rfl⟩ := h
  rw [crossL_flat x hS]
  exact cr_can x hS
/-- The reference's cross-section of a canonical region. -/
theorem ref_cross {l : List R4} (h : RCan l) (x : Int) {ys : List Int} (hs : ys.Pairwise (· < ·)) (hy : ∀ c ∈ cutsY l, c ∈ ys) : canF ys (ys.map fun y => decide (pmem l x y)) = crossL l x := by
  obtain ⟨h1, h2⟩ := refG_ok (h := hFst) rfl hs hy (b := []) (by simp [cutsY]) x
  refine h1.ext (crossL_can h x) fun y => ?_
  rw [smem_crossL]
  exact (h2 y).trans (by simp [hFst])

/-! ### Hulls -/
def hullS (h r : R4) : R4 := ⟨min h.x0 r.x0, min h.y0 r.y0, max h.x1 r.x1, max h.y1 r.y1⟩
def hullL : List R4 → R4
  | [] => ⟨0, 0, 0, 0⟩
  | r :: l => (r :: l).foldl hullS r
/-- h is the hull of the rectangles. -/
structure IsHull (l : List R4) (h : R4) : Prop where
  a0 : ∃ r ∈ l, r.x0 = h.x0
  a1 : ∃ r ∈ l, r.y0 = h.y0
  a2 : ∃ r ∈ l, r.x1 = h.x1
  a3 : ∃ r ∈ l, r.y1 = h.y1
  b : ∀ r ∈ l, h.x0 ≤ r.x0 ∧ h.y0 ≤ r.y0 ∧ r.x1 ≤ h.x1 ∧ r.y1 ≤ h.y1
theorem IsHull.step {l : List R4} {h r : R4} (hh : IsHull l h) : IsHull (l ++ [r]) (hullS h r) := by
  obtain ⟨⟨p0, q0, e0⟩, ⟨p1, q1, e1⟩, ⟨p2, q2, e2⟩, ⟨p3, q3, e3⟩, hb⟩ := hh
  refine ⟨?_, ?_, ?_, ?_, ?_⟩
  · by_cases c : h.x0 ≤ r.x0
    · exact ⟨p0, by simp [q0], by simp only [hullS]; omega⟩
    · exact ⟨r, by simp, by simp only [hullS]; omega⟩
  · by_cases c : h.y0 ≤ r.y0
    · exact ⟨p1, by simp [q1], by simp only [hullS]; omega⟩
    · exact ⟨r, by simp, by simp only [hullS]; omega⟩
  · by_cases c : r.x1 ≤ h.x1
    · exact ⟨p2, by simp [q2], by simp only [hullS]; omega⟩
    · exact ⟨r, by simp, by simp only [hullS]; omega⟩
  · by_cases c : r.y1 ≤ h.y1
    · exact ⟨p3, by simp [q3], by simp only [hullS]; omega⟩
    · exact ⟨r, by simp, by simp only [hullS]; omega⟩
  · intro q hq
    rcases List.mem_append.1 hq with hq | hq
    · have := hb q hq
      simp only [hullS]; omega
    · rw [List.mem_singleton] at hq
      subst hq
      simp only [hullS]; omega
theorem IsHull.one (r : R4) : IsHull [r] r := ⟨⟨r, by simp, rfl⟩, ⟨r, by simp, rfl⟩, ⟨r, by simp, rfl⟩, ⟨r, by simp, rfl⟩, by simp⟩
theorem hullS_self (r : R4) : hullS r r = r := by simp [hullS]
theorem hull_from : ∀ (l pre : List R4) (h : R4), IsHull pre h → IsHull (pre ++ l) (l.foldl hullS h)
  | [], pre, h, hh => by simpa using hh
  | r :: l, pre, h, hh => by
    have := hull_from l (pre ++ [r]) (hullS h r) hh.step
    simpa using this
theorem hullL_ok {l : List R4} (h : l ≠ []) : IsHull l (hullL l) := by
  cases l with
  | nil => exact absurd rfl h
  | cons r l =>
    show IsHull _ (l.foldl hullS (hullS r r))
    rw [hullS_self]
    exact hull_from l [r] r (IsHull.one r)
/-- Behind m rectangles; ahead of all, the first one. -/
def hullP (l : List R4) (m : Nat) : R4 := (l.take m).foldl hullS (l.headD ⟨0, 0, 0, 0⟩)
theorem hullP_step {l : List R4} {m : Nat} {r : R4} (h : l[m]? = some r) : hullP l (m + 1) = hullS (hullP l m) r := by
  obtain ⟨hm, hp⟩ := List.getElem?_eq_some_iff.1 h
  unfold hullP
  rw [List.take_succ_eq_append_getElem hm, hp, List.foldl_append]
  rfl
theorem hullP_all {l : List R4} {m : Nat} (hm : l.length ≤ m) : hullP l m = hullL l := by
  unfold hullP
  rw [List.take_of_length_le hm]
  cases l <;> rfl
def hullF (l : List R4) : R4 × Int := if checkF l = 0 then (if l = [] then (⟨0, 0, 0, 0⟩, 6) else (hullL l, 0)) else (⟨0, 0, 0, 0⟩, checkF l)
/-- The least and the greatest cut. -/
theorem srt_ends {l : List Int} {a b : Int} (ha : a ∈ l) (hb : b ∈ l) (h : ∀ x ∈ l, a ≤ x ∧ x ≤ b) : (srt l)[0]? = some a ∧ (srt l)[(srt l).length - 1]? = some b ∧ 0 < (srt l).length := by
  obtain ⟨h1, h2⟩ := srt_ok l
  have ha' := (h2 a).2 ha
  have hb' := (h2 b).2 hb
  have hm : ∀ x ∈ srt l, a ≤ x ∧ x ≤ b := fun x hx => h x ((h2 x).1 hx)
  generalize srt l = s at *
  have hl : 0 < s.length := List.length_pos_of_mem ha'
  have key : ∀ i (hi : i < s.length), (i = 0 → s[i] = a) ∧ (i = s.length - 1 → s[i] = b) := by
    intro i hi
    have hmi := hm s[i] (List.getElem_mem hi)
    obtain ⟨j, hj, ej⟩ := List.getElem_of_mem ha'
    obtain ⟨k, hk, ek⟩ := List.getElem_of_mem hb'
    constructor
    · intro h0
      rcases Nat.lt_trichotomy i j with g | g | g
      · have := List.pairwise_iff_getElem.1 h1 i j hi hj g; omega
      · subst g; exact ej
      · omega
    · intro h0
      rcases Nat.lt_trichotomy i k with g | g | g
      · omega
      · subst g; exact ek
      · have := List.pairwise_iff_getElem.1 h1 k i hk hi g; omega
  exact ⟨by rw [List.getElem?_eq_getElem hl, (key 0 hl).1 rfl], by rw [List.getElem?_eq_getElem (by omega), (key _ (by omega)).2 rfl], hl⟩
theorem hull_cuts {l : List R4} (hne : l ≠ []) (hw : ∀ r ∈ l, wf4 r) : ((srt (cutsL l ++ cutsL []))[0]? = some (hullL l).x0 ∧ (srt (cutsL l ++ cutsL []))[(srt (cutsL l ++ cutsL [])).length - 1]? = some (hullL l).x1 ∧ 0 < (srt (cutsL l ++ cutsL [])).length) ∧
    ((srt (cutsY l ++ cutsY []))[0]? = some (hullL l).y0 ∧ (srt (cutsY l ++ cutsY []))[(srt (cutsY l ++ cutsY [])).length - 1]? = some (hullL l).y1 ∧ 0 < (srt (cutsY l ++ cutsY [])).length) := by
  obtain ⟨⟨p0, q0, e0⟩, ⟨p1, q1, e1⟩, ⟨p2, q2, e2⟩, ⟨p3, q3, e3⟩, hb⟩ := hullL_ok hne
  have hx : cutsL l ++ cutsL [] = cutsL l := by simp [cutsL]
  have hy : cutsY l ++ cutsY [] = cutsY l := by simp [cutsY]
  rw [hx, hy]
  refine ⟨srt_ends (by rw [← e0]; exact (mem_cutsL q0).1) (by rw [← e2]; exact (mem_cutsL q2).2) fun x hx => ?_, srt_ends (by rw [← e1]; exact (mem_cutsY q1).1) (by rw [← e3]; exact (mem_cutsY q3).2) fun x hx => ?_⟩
  · obtain ⟨r, hr, hx⟩ := List.mem_flatMap.1 hx
    have h1 := hb r hr
    have h2 := hw r hr
    unfold wf4 at h2
    simp only [List.mem_cons, List.not_mem_nil, or_false] at hx
    rcases hx with rfl | rfl <;> omega
  · obtain ⟨r, hr, hx⟩ := List.mem_flatMap.1 hx
    have h1 := hb r hr
    have h2 := hw r hr
    unfold wf4 at h2
    simp only [List.mem_cons, List.not_mem_nil, or_false] at hx
    rcases hx with rfl | rfl <;> omega
theorem mv_in {x y : Int} {r : R4} (h : valid4 r) (hm : valid4 (mv x y r)) : inMv x ∧ inMv y := by
  obtain ⟨h1, h2, ⟨a, b⟩, ⟨c, d⟩, ⟨e, f⟩, ⟨g, i⟩⟩ := h
  obtain ⟨h1', h2', ⟨a', b'⟩, ⟨c', d'⟩, ⟨e', f'⟩, ⟨g', i'⟩⟩ := hm
  simp only [mv] at a' b' c' d' e' f' g' i'
  unfold inMv
  omega
theorem flip_make {l : List R4} (h : checkF l = 0) : makeF (l.map flip4) = flipF l := by
  obtain ⟨h1, h2, _⟩ := checkF_ok h
  have hf : flipF l = madeF (l.map flip4) := if_pos h
  rw [hf]
  unfold makeF
  rw [if_neg (by simp; omega)]
  have : (l.map flip4).any (fun r => !decide (valid4 r)) = false := by
    rw [List.any_eq_false]
    intro r hr
    obtain ⟨q, hq, rfl⟩ := List.mem_map.1 hr
    simp [flip_valid (h2 q hq)]
  rw [this]
  rfl
end Go.Proofs.YtmnhlcbmoibahaaGreat

/- A region that draws its order: reads, a chain (a call) that keeps their condition, reads of slots in any order, and a last operation. The law, in a round and outside of one. -/
namespace Go.Proofs.YtmnhlcbmoibahaaGreat
open Go.RowKit
set_option linter.unusedVariables false
set_option linter.unusedSimpArgs false

section
variable {P : Program} {Q : Exit → Act → World → Prop} {md : Region.Mode} {S : World → Prop}

def mixCB (md : Region.Mode) (ops : Array Oper) (R2 T2 : List Nat) : List Nat → Array Bool → Bool
  | [], l => mixRB md ops T2 R2 l
  | t :: r, l => (Region.ready md ops l == [t]) && mixCB md ops R2 T2 r (l.setIfInBounds t true)
def mixHB (md : Region.Mode) (ops : Array Oper) (T R2 T2 : List Nat) : List Nat → Array Bool → Bool
  | [], l => mixCB md ops R2 T2 T l
  | i :: r, l => Region.free md ops l i && (Region.ready md ops l).contains i && waitsFor md ops (ops.size - 1) i && mixHB md ops T R2 T2 r (l.setIfInBounds i true)
def mixTwoB (md : Region.Mode) (ops : Array Oper) (R T R2 T2 : List Nat) : Bool := Region.noSelect ops && decide (R.length + (T.length + (R2.length + T2.length)) = ops.size) && (T2.getLast? == some (ops.size - 1)) && mixHB md ops T R2 T2 R (Array.replicate ops.size false)

/-- One operation behind the other; behind each, S is shown anew. -/
def wpChain (P : Program) (ops : Array Oper) (S : World → Prop) (Q : Exit → Act → World → Prop) (K : Act → World → Prop) : List Oper → Act → World → Prop
  | [], a, w => K a w
  | o :: r, a, w => ∀ K' : Act → World → Prop, (∀ a' w', S w' → wpChain P ops S Q K r a' w' → K' a' w') → if Region.wanted o (yielded ops a.tmps) = true then o.wp P a w K' Q else K' (a.put o.dst undef) w

theorem wpChain_mix {l : List Oper} {R2 T2 : List Nat} (hsel : ∀ (j : Nat) (o : Oper) cs b, l.toArray[j]? = some o → o.op ≠ .select cs b) (hQ : ∀ c a a' w, Q (.panic c) a w → Q (.panic c) a' w) (hL : ∀ t, T2.getLast? = some t → t = l.length - 1) :
    ∀ (T : List Nat) (listed : Array Bool) (a : Act) (w : World), S w → mixCB md l.toArray R2 T2 T listed = true →
      wpChain P l.toArray S Q (fun a w => wpReads P l.toArray S (fun a' => wpTail P l.toArray S Q (T2.map (opAt l)) a' w) (R2.map (opAt l)) a) (T.map (opAt l)) a w →
      wpAnyE P md l.toArray Q S (l.length - 1) (T.length + (R2.length + T2.length)) listed a w
  | [], listed, a, w, hS, hT, h => by
    rw [List.length_nil, Nat.zero_add]
    exact wpReads_mix hsel hQ hL hS R2 listed a hT h
  | t :: r, listed, a, w, hS, hT, h => by
    simp only [mixCB, Bool.and_eq_true, beq_iff_eq] at hT
    rw [List.length_cons, Nat.add_right_comm]
    refine ⟨fun h0 => (by rw [hT.1] at h0; cases h0), fun i hi => ?_⟩
    obtain ⟨_, o, ho, _⟩ := mem_ready.1 hi
    rw [hT.1] at hi
    obtain rfl : i = t := by simpa using hi
    have ho' : l[i]? = some o := by simpa using ho
    simp only [List.map_cons, opAt_some ho'] at h
    refine wpOp_step ho fun K' hK => h K' fun a' w' hS' hT' => hK a' w' ⟨fun _ => hS', ?_⟩
    exact wpChain_mix hsel hQ hL r _ a' w' hS' hT.2 hT'
theorem wpHead_mix {l : List Oper} {T R2 T2 : List Nat} (hsel : ∀ (j : Nat) (o : Oper) cs b, l.toArray[j]? = some o → o.op ≠ .select cs b) (hQ : ∀ c a a' w, Q (.panic c) a w → Q (.panic c) a' w) (hL : ∀ t, T2.getLast? = some t → t = l.length - 1)
    {w : World} (hS : S w) : ∀ (R : List Nat) (listed : Array Bool) (a : Act), mixHB md l.toArray T R2 T2 R listed = true →
      wpReads P l.toArray S (fun a' => wpChain P l.toArray S Q (fun a w => wpReads P l.toArray S (fun a' => wpTail P l.toArray S Q (T2.map (opAt l)) a' w) (R2.map (opAt l)) a) (T.map (opAt l)) a' w) (R.map (opAt l)) a →
      wpAnyE P md l.toArray Q S (l.length - 1) (R.length + (T.length + (R2.length + T2.length))) listed a w
  | [], listed, a, hR, h => by
    rw [List.length_nil, Nat.zero_add]
    exact wpChain_mix hsel hQ hL T listed a w hS hR h
  | i :: r, listed, a, hR, h => by
    simp only [mixHB, Bool.and_eq_true, List.contains_iff_mem] at hR
    obtain ⟨⟨⟨f1, f2⟩, f3⟩, f4⟩ := hR
    obtain ⟨_, o, ho, _⟩ := mem_ready.1 f2
    have ho' : l[i]? = some o := by simpa using ho
    simp only [List.map_cons, opAt_some ho'] at h
    obtain ⟨v, hy, h⟩ := h
    have ih := wpHead_mix hsel hQ hL hS r _ _ f4 h
    rw [List.length_cons, Nat.add_right_comm]
    refine wpAnyE_first ho hsel (fun c a w h => hQ c _ _ w h) ?_ _ _ _ _ (Region.free_spec ho f1) f2 hy hS ih
    intro oL hoL
    unfold waitsFor at f3
    simp only [List.size_toArray] at f3
    rw [hoL] at f3
    obtain ⟨e, he, h2⟩ := Array.any_eq_true'.1 f3
    simp only [Bool.and_eq_true, beq_iff_eq] at h2
    exact ⟨e, he, h2.1, h2.2⟩
theorem wpAny_two {a : Act} {w : World} {l : List Oper} (R T R2 T2 : List Nat) (hB : mixTwoB .any l.toArray R T R2 T2 = true) (hS : S w)
    (h : wpReads P l.toArray S (fun a' => wpChain P l.toArray S (NoPanic Q) (fun a w => wpReads P l.toArray S (fun a' => wpTail P l.toArray S (NoPanic Q) (T2.map (opAt l)) a' w) (R2.map (opAt l)) a) (T.map (opAt l)) a' w) (R.map (opAt l)) a) :
    wpAny P .any l.toArray (NoPanic Q) l.toArray.size (Array.replicate l.toArray.size false) a w := by
  refine wpAny_of_E (S := S) (L := l.length - 1) _ _ _ _ ?_
  simp only [mixTwoB, Bool.and_eq_true, decide_eq_true_eq, beq_iff_eq, List.size_toArray] at hB
  obtain ⟨⟨⟨b1, b2⟩, b3⟩, b4⟩ := hB
  have := wpHead_mix (Q := NoPanic Q) (S := S) (l := l) (T := T) (R2 := R2) (T2 := T2) (w := w) (Region.noSelect_spec b1) (fun _ _ _ _ h => h) (fun t ht => by rw [b3] at ht; injection ht with ht; exact ht.symm) hS R _ a b4 h
  rw [b2] at this
  exact this
theorem wp_region_two {id : Nat} {a : Act} {w : World} {l : List Oper} (R T R2 T2 : List Nat) (S : World → Prop) (hm : P.follows .mixedOrders = true) (hB : mixTwoB .any l.toArray R T R2 T2 = true) (hS : S w.drew)
    (h : wpReads P l.toArray S (fun a' => wpChain P l.toArray S (NoPanic Q) (fun a w => wpReads P l.toArray S (fun a' => wpTail P l.toArray S (NoPanic Q) (T2.map (opAt l)) a' w) (R2.map (opAt l)) a) (T.map (opAt l)) a' w.drew) (R.map (opAt l)) a) :
    (Code.region id l.toArray true).wp P Q a w :=
  wp_region_noPanic (wp_region_any hm (wpAny_two R T R2 T2 hB hS h))
theorem wpIn_region_two {id r m : Nat} {a : Act} {w : World} {l : List Oper} (R T R2 T2 : List Nat) (S : World → Prop) (hm : P.follows .mixedOrders = true) (hB : mixTwoB .any l.toArray R T R2 T2 = true) (hnd : noDefer l = true) (hout : ∀ a w, ¬ Q .outgrown a w) (hS : S w.drew)
    (h : wpReads P l.toArray S (fun a' => wpChain P l.toArray S (NoPanic Q) (fun a w => wpReads P l.toArray S (fun a' => wpTail P l.toArray S (NoPanic Q) (T2.map (opAt l)) a' w) (R2.map (opAt l)) a) (T.map (opAt l)) a' w.drew) (R.map (opAt l)) a) :
    (Code.region id l.toArray true).wpIn (Fence.wide.inRound r) m P Q a w :=
  Code.wpIn_mono NoPanic.imp (wpIn_region_any hm (wpAny_round (noDefer_spec hnd) (fun a w h => hout a w (NoPanic.imp _ _ _ h)) _ _ _ _ (wpAny_two R T R2 T2 hB hS h)))
end
end Go.Proofs.YtmnhlcbmoibahaaGreat

/- region.joined: two regions joined, slab by slab. -/
namespace Go.Proofs.YtmnhlcbmoibahaaGreat
open Go.RowKit
set_option linter.unusedVariables false
set_option linter.unusedSimpArgs false
attribute [local go_sem] Oper.semAt_some

/-- A slab with too many spans is a region with too many rectangles. -/
theorem slab_many {h : Bool → Bool → Bool} (h0 : h false false = false) {a b : List R4} (ha : ∀ r ∈ a, wf4 r) (hb : ∀ r ∈ b, wf4 r) (c : Int) : (sjoin h (crossL a c) (crossL b c)).length ≤ (rjoin h a b).length := by
  obtain ⟨r1, r2⟩ := rjoin_ok h0 ha hb
  obtain ⟨s1, s2⟩ := sjoin_ok h0 (crossL_wf ha c) (crossL_wf hb c)
  have e : crossL (rjoin h a b) c = sjoin h (crossL a c) (crossL b c) := (crossL_can r1 c).ext s1 fun y => by
    rw [smem_crossL, r2, s2, decide_eq_decide.2 (smem_crossL (l := a)), decide_eq_decide.2 (smem_crossL (l := b))]
  rw [← e]
  exact crossL_len _ _
theorem crossL_valid {l : List R4} (h : ∀ r ∈ l, valid4 r) (c : Int) : ∀ p ∈ crossL l c, validS p := by
  intro p hp
  obtain ⟨r, hr, rfl⟩ := List.mem_map.1 hp
  have hvr := h r (List.mem_filter.1 hr).1
  exact ⟨hvr.2.1, hvr.2.2.2.2.1.1, hvr.2.2.2.2.2.2⟩

theorem keepsFrom_set {n : Nat} {A B : World} (h : KeepsFrom n A B) {p : Addr} (hp : p.block < n) (v : Value) : KeepsFrom n A (B.setCell p v) := by
  refine ⟨Nat.le_trans h.1 (by simp), fun k o hk h1 h2 => ?_⟩
  have := h.2 k o hk h1 h2
  exact (Below.heap_setCell _ _ _ _ (by omega)).trans this
set_option maxRecDepth 100000 in
set_option maxHeartbeats 4000000 in
theorem joined_any {h : Bool → Bool → Bool} (h0 : h false false = false) {f : Nat} (hf : SpJoin f h) (ef : ∀ args w, (callFunc f args).run Tryz.prog w = .ok (.enter f args) w) {a b : List R4} {va vb : Value} {w : World} (ra : RdK encR 4 w w.heap.size va a) (rb : RdK encR 4 w w.heap.size vb b) (na : a.length ≤ 100000000) (nb : b.length ≤ 100000000) :
    Calls Tryz.prog 58 #[va, vb, .func (.func f) #[] #[]] w fun e w' => RegRet w.heap.size (joinF h a b) e w' ∧ Below w.heap.size w w' := by
  have hbo := fun (W : World) (hW : Below w.heap.size w W) => both_any (w := W) ((ra.below hW).mono hW.size) ((rb.below hW).mono hW.size) na nb
  have HBO := hide hbo
  have RA := hide ra
  have RB := hide rb
  obtain ⟨A1, c1, hva, _⟩ := id ra
  obtain ⟨A2, c2, hvb, _⟩ := id rb
  subst hva; subst hvb
  clear hbo ra rb
  have HSP := hide hf
  have HEF := hide ef
  have k3 : Below w.heap.size w (((w.alloc (.cells #[.func (.func f) #[] #[]] 111)).alloc (.cells #[.slice none 0 0] 27)).alloc (.cells #[.int .i64 0] 30)) := (((Below.refl _ _).alloc (Nat.le_refl _) _).alloc (by simp) _).alloc (by simp; omega) _
  have K3 := hide k3
  clear k3 hf ef
  by_cases hb0 : bothF a b = 0
  · obtain ⟨ca, cb⟩ := bothF_ok hb0
    have HWA := hide (check_wf ca)
    have HWB := hide (check_wf cb)
    obtain ⟨la, va4, _⟩ := checkF_ok ca
    obtain ⟨lb, vb4, _⟩ := checkF_ok cb
    have HVA := hide va4
    have HVB := hide vb4
    have HCA := hide (check_rcan ca)
    have HCB := hide (check_rcan cb)
    have hcl : (List.flatMap cutsL [a, b]).length ≤ 100000000 := by simp [cutsL_len]; omega
    have hcs := cutsOf_ok (List.flatMap cutsL [a, b])
    have hl2 : (List.flatMap cutsL [a, b]).length = 2 * a.length + 2 * b.length := by simp [cutsL_len]
    have hcn : (cutsOf (List.flatMap cutsL [a, b])).length ≤ 1600 := by
      have h1 := cutsOf_len (List.flatMap cutsL [a, b])
      omega
    clear hl2
    have hfin := swp_join h0 HWA.out HWB.out hcs.1 (fun c hc => (hcs.2 c).2 (by simp [hc])) (fun c hc => (hcs.2 c).2 (by simp [hc]))
    have hgl : ∀ c, (sjoin h (crossL a c) (crossL b c)).length ≤ 1600 := by
      intro c
      have h1 := sjoin_len h (crossL a c) (crossL b c)
      have h2 := crossL_len a c
      have h3 := crossL_len b c
      omega
    have hjl := rjoin_len2 h a b la lb
    have hslab : ∀ (W : World) (L : Nat), L < W.heap.size → (∃ v, W.cell? ⟨L, 0, none⟩ = some v ∧ RdK encR 4 W W.heap.size v a) → (∃ v, W.cell? ⟨L, 1, none⟩ = some v ∧ RdK encR 4 W W.heap.size v b) → _ := fun W L h1 h2 h3 =>
      slabsB_any [a, b] L 2 W h1 (fun k l' hk => by
        match k, hk with
        | 0, hk => simp at hk; subst hk; exact h2
        | 1, hk => simp at hk; subst hk; exact h3
        | k + 2, hk => simp at hk) hcl (by simp)
    simp only [List.length_cons, List.length_nil, Nat.zero_add, Nat.reduceAdd] at hslab
    have hJF : joinF h a b = if 400 < (rjoin h a b).length then ([], 4) else (rjoin h a b, 0) := if_pos hb0
    rw [hb0] at HBO
    have HMANY := hide (fun c => slab_many h0 HWA.out HWB.out c)
    generalize hcsd : cutsOf (List.flatMap cutsL [a, b]) = cs at *
    clear hcsd
    have HS := hide hslab
    have HF := hide hfin
    have HG := hide hgl
    have HC := hide hcs
    have HJF := hide hJF
    clear hslab hfin hgl hcs hJF ca cb hb0 va4 vb4
    refine (callsIn_wide (n := 0)).1 ?_
    refine callsIn_of_wp_marks Tryz.func58 rfl trivial ?_
    simp only [Tryz.ntmps58, List.size_toArray, List.length_cons, List.length_nil, Nat.reduceAdd, Nat.reduceSub, Array.replicate_succ, Array.replicate_zero, List.push_toArray, List.append_toArray, List.nil_append, List.cons_append]
    refine wpIn_wide.2 ?_
    go_wp2_with (fail)
    refine (HBO.out _ K3.out).mono ?_
    rintro e w1 ⟨rfl, hb1⟩
    have hs1 := hb1.size
    simp at hs1
    have c5 : w1.cell? ⟨w.heap.size, 0, none⟩ = some (.func (.func f) #[] #[]) := (hb1.cell (p := ⟨w.heap.size, 0, none⟩) (by simp; omega)).trans (by simp [go_sem])
    have k6 : w1.cell? ⟨w.heap.size + 1, 0, none⟩ = some (.slice none 0 0) := (hb1.cell (p := ⟨w.heap.size + 1, 0, none⟩) (by simp)).trans (by simp [go_sem])
    have k7 : w1.cell? ⟨w.heap.size + 1 + 1, 0, none⟩ = some (.int .i64 0) := (hb1.cell (p := ⟨w.heap.size + 1 + 1, 0, none⟩) (by simp)).trans (by simp [go_sem])
    have f6 : w1.frozen? ⟨w.heap.size + 1, 0, none⟩ = false := (hb1.frozen (p := ⟨w.heap.size + 1, 0, none⟩) (by simp)).trans (by simp [go_sem])
    have f7 : w1.frozen? ⟨w.heap.size + 1 + 1, 0, none⟩ = false := (hb1.frozen (p := ⟨w.heap.size + 1 + 1, 0, none⟩) (by simp)).trans (by simp [go_sem])
    have KB := hide (K3.out.trans (hb1.mono (by simp; omega)))
    have HBX := hide (And.intro c5 (And.intro (And.intro k6 k7) (And.intro f6 f7)))
    clear hb1 c5 k6 k7 f6 f7 HBO
    go_wp2_with (fail)
    have hb2 : Below w1.heap.size w1 ((w1.alloc (.cells #[.slice none 0 0, .slice none 0 0, .int .i64 0, .int .i64 0] 146)).alloc (.cells #[.slice A1 a.length c1, .slice A2 b.length c2] 27)) := ((Below.refl _ _).alloc (Nat.le_refl _) _).alloc (by simp) _
    have hL1 : ((w1.alloc (.cells #[.slice none 0 0, .slice none 0 0, .int .i64 0, .int .i64 0] 146)).alloc (.cells #[.slice A1 a.length c1, .slice A2 b.length c2] 27)).cell? ⟨w1.heap.size + 1, 0, none⟩ = some (.slice A1 a.length c1) := by simp [go_sem]
    have hL2 : ((w1.alloc (.cells #[.slice none 0 0, .slice none 0 0, .int .i64 0, .int .i64 0] 146)).alloc (.cells #[.slice A1 a.length c1, .slice A2 b.length c2] 27)).cell? ⟨w1.heap.size + 1, 1, none⟩ = some (.slice A2 b.length c2) := by simp [go_sem]
    have hs := HS.out ((w1.alloc (.cells #[.slice none 0 0, .slice none 0 0, .int .i64 0, .int .i64 0] 146)).alloc (.cells #[.slice A1 a.length c1, .slice A2 b.length c2] 27)) (w1.heap.size + 1) (by simp)
      ⟨_, hL1, (((RA.out.below KB.out).mono KB.out.size).below hb2).mono hb2.size⟩ ⟨_, hL2, (((RB.out.below KB.out).mono KB.out.size).below hb2).mono hb2.size⟩
    simp only [World.size_alloc, Nat.add_assoc, Nat.reduceAdd] at hs
    have hbc : ∀ j u, (#[Value.slice none 0 0, .slice none 0 0, .int .i64 0, .int .i64 0] : Array Value)[j]? = some u → ((w1.alloc (.cells #[.slice none 0 0, .slice none 0 0, .int .i64 0, .int .i64 0] 146)).alloc (.cells #[.slice A1 a.length c1, .slice A2 b.length c2] 27)).cell? ⟨w1.heap.size, j, none⟩ = some u := by
      intro j u hj
      refine (World.cell?_alloc_lt (w1.alloc _) _ ⟨w1.heap.size, j, none⟩ (by simp)).trans ?_
      have := news_new w1 [Value.slice none 0 0, .slice none 0 0, .int .i64 0, .int .i64 0] 146 w1.heap.size rfl j u (by simpa using hj)
      rwa [addr_add] at this
    refine hs.mono ?_
    clear hs
    rintro e wS ⟨vc, rfl, hbl, hbc2, hown, hbS⟩
    have hsz1 : ((w1.alloc (.cells #[.slice none 0 0, .slice none 0 0, .int .i64 0, .int .i64 0] 146)).alloc (.cells #[.slice A1 a.length c1, .slice A2 b.length c2] 27)).heap.size = w1.heap.size + 2 := by simp
    have hz1 : ∀ j, ((w1.alloc (.cells #[.slice none 0 0, .slice none 0 0, .int .i64 0, .int .i64 0] 146)).alloc (.cells #[.slice A1 a.length c1, .slice A2 b.length c2] 27)).frozen? ⟨w1.heap.size, j, none⟩ = false := fun j => by simp [go_sem]
    go_wp2_with (fail)
    obtain ⟨w2, hw2⟩ : ∃ w2, (w1.alloc (.cells #[.slice none 0 0, .slice none 0 0, .int .i64 0, .int .i64 0] 146)).alloc (.cells #[.slice A1 a.length c1, .slice A2 b.length c2] 27) = w2 := ⟨_, rfl⟩
    rw [hw2] at hb2 hL1 hL2 hbc hbS hsz1 hz1
    clear hw2
    have hcsz := hbS.size
    obtain ⟨Ac, cc, hvc⟩ := own_form hown
    subst hvc
    have hbS2 : Below (w1.heap.size + 2) w2 wS := hbS.mono (by omega)
    have hlow : Below w1.heap.size w1 wS := hb2.trans (hbS.mono (by omega))
    have kS : ∀ j, wS.cell? ⟨w1.heap.size, j, none⟩ = w2.cell? ⟨w1.heap.size, j, none⟩ := fun j => hbS2.cell (p := ⟨w1.heap.size, j, none⟩) (by show w1.heap.size < _; omega)
    have zS : ∀ j, wS.frozen? ⟨w1.heap.size, j, none⟩ = w2.frozen? ⟨w1.heap.size, j, none⟩ := fun j => hbS2.frozen (p := ⟨w1.heap.size, j, none⟩) (by show w1.heap.size < _; omega)
    have hbw0 : BW w1.heap.size wS.heap.size (swp (fun c => sjoin h (crossL a c) (crossL b c)) []) [] 0 0 wS :=
      ⟨by omega, Nat.le_refl _, ⟨_, (kS 0).trans (hbc 0 _ rfl), World.ownsRow_nil _ _ _ _⟩, ⟨_, (kS 1).trans (hbc 1 _ rfl), World.ownsRow_nil _ _ _ _⟩, (kS 2).trans (hbc 2 _ rfl), (kS 3).trans (hbc 3 _ rfl), fun j => (zS j).trans (hz1 j), BInv.start⟩
    have hL1S := (hbS2.cell (p := ⟨w1.heap.size + 1, 0, none⟩) (by show w1.heap.size + 1 < _; omega)).trans hL1
    have hL2S := (hbS2.cell (p := ⟨w1.heap.size + 1, 1, none⟩) (by show w1.heap.size + 1 < _; omega)).trans hL2
    have hit := slabsItB [a, b] cs (w1.heap.size + 3) (w1.heap.size + 2) (w1.heap.size + 1) 2 cc w1.heap.size (w1.heap.size + 4) Ac wS (lt_of_cell hbl) (lt_of_cell hbc2) (by omega) (by omega) (by omega) (by omega) (by omega) (by omega)
      hbl hbc2 hown (fun k l' hk => by
        match k, hk with
        | 0, hk => simp at hk; subst hk; exact ⟨by omega, _, hL1S, ((RA.out.below KB.out).mono KB.out.size).below hlow⟩
        | 1, hk => simp at hk; subst hk; exact ⟨by omega, _, hL2S, ((RB.out.below KB.out).mono KB.out.size).below hlow⟩
        | k + 2, hk => simp at hk) (by simp) (by omega)
    have hws : w1.heap.size + 4 ≤ wS.heap.size := lt_of_cell hbc2
    have hI0 : MI w1.heap.size wS.heap.size (fun c => sjoin h (crossL a c) (crossL b c)) 1600 w1 [] wS := ⟨⟨[], 0, 0, hbw0, by simp, .inl rfl⟩, hlow⟩
    clear hb2 hL1 hL2 hbc hbS hsz1 hz1 hcsz hbS2 hlow kS zS hbw0 hL1S hL2S hbl hbc2 hown
    refine (wpIn_wide (n := 0)).1 ?_
    refine wp_range rfl (enters_of Tryz.func130 (by kernel_rfl) rfl) hit (Below.refl _ _) (fun x args A hx => by obtain ⟨Rw, rfl, _⟩ := hx; rfl) KpX.trans ?_
      (MI w1.heap.size wS.heap.size (fun c => sjoin h (crossL a c) (crossL b c)) 1600 w1) (fun _ W => 400 < (rjoin h a b).length ∧ W.cell? ⟨w.heap.size + 1, 0, none⟩ = some (.slice none 0 0) ∧ W.cell? ⟨w.heap.size + 1 + 1, 0, none⟩ = some (.int .i64 4) ∧ Below w.heap.size w W)
      (fun pre A B h hb => h.below hb) (fun pre A l o o' h hw hl ho ho' => h.putObj (by omega) hl ho ho') (fun pre A l o o' h hw hl ho ho' => ⟨h.1, (cell_putObj hl ho ho' _).1.trans h.2.1, (cell_putObj hl ho ho' _).1.trans h.2.2.1, below_putObj h.2.2.2 (by have := KB.out.size; omega) _⟩) hI0 ?_ ?_ ?_
    · intro A l o o' _ h1 h2 h3
      exact ⟨by simp, fun b off _ _ => (cell_putObj h1 h2 h3 _).1⟩
    · rintro l2 pre ⟨c, d⟩ args A hMI ⟨post, hpost⟩ ⟨Rw, rfl, hRw, hrows⟩ hl1 ⟨ol, hl2, hl3⟩
      have hll : l2 < A.heap.size := (Array.getElem?_eq_some_iff.1 hl2).1
      obtain ⟨vx, hx1, hx2⟩ := hrows 0 a rfl
      obtain ⟨vy, hy1, hy2⟩ := hrows 1 b rfl
      have hlo := hMI.low.size
      have hBoA : wS.heap.size ≤ A.heap.size := by obtain ⟨_, _, _, h1, _⟩ := hMI.bw; exact h1.size
      have hM := hide hMI
      have HX1 := hide hx1
      have HX2 := hide hx2
      have HY1 := hide hy1
      have HY2 := hide hy2
      have HL2 := hide hl2
      have HP := hide hpost
      clear hMI hrows hx1 hx2 hy1 hy2 hit hI0 hl2 hpost
      gi_wp2
      refine ⟨KeepsFrom.of_below' ((Below.refl _ _).alloc (Nat.le_refl _) _), KpX.below hBoA ((Below.refl _ _).alloc (Nat.le_refl _) _), ?_⟩
      intro A2 g2 s2 e2 f2
      have c20 : A2.cell? ⟨A.heap.size, 0, none⟩ = some (.int .i64 c) := (e2 _).trans (by simp [go_sem])
      have c21 : A2.cell? ⟨A.heap.size, 1, none⟩ = some (.int .i64 d) := (e2 _).trans (by simp [go_sem])
      have c22 : A2.cell? ⟨A.heap.size, 2, none⟩ = some (.slice (some ⟨Rw, 0, none⟩) 2 2) := (e2 _).trans (by simp [go_sem])
      have s3 : A2.heap.size = A.heap.size + 1 := by rw [s2]; simp
      have cR0 : A2.cell? ⟨Rw, 0, none⟩ = some vx := (e2 _).trans ((World.cell?_alloc_lt A _ ⟨Rw, 0, none⟩ hRw).trans HX1.out)
      have cR1 : A2.cell? ⟨Rw, 1, none⟩ = some vy := (e2 _).trans ((World.cell?_alloc_lt A _ ⟨Rw, 1, none⟩ hRw).trans HY1.out)
      have rd0 : RdK encS 2 A2 A2.heap.size vx (crossL a c) := (HX2.out.keep fun b o hb => (e2 _).trans (World.cell?_alloc_lt A _ ⟨b, o, none⟩ hb)).mono (by omega)
      have rd1 : RdK encS 2 A2 A2.heap.size vy (crossL b c) := (HY2.out.keep fun b o hb => (e2 _).trans (World.cell?_alloc_lt A _ ⟨b, o, none⟩ hb)).mono (by omega)
      have M2 := (hM.out.below ((Below.refl _ _).alloc (Nat.le_refl _) (.cells #[.int .i64 c, .int .i64 d, .slice (some ⟨Rw, 0, none⟩) 2 2] 151))).grown (by omega) g2 ((Below.heap_alloc _ _ _ hll).trans HL2.out) hl3
      have c5 : A2.cell? ⟨w.heap.size, 0, none⟩ = some (.func (.func f) #[] #[]) := (M2.low.cell (p := ⟨w.heap.size, 0, none⟩) (by show w.heap.size < _; omega)).trans HBX.out.1
      have k6 : A2.cell? ⟨w.heap.size + 1, 0, none⟩ = some (.slice none 0 0) := (M2.low.cell (p := ⟨w.heap.size + 1, 0, none⟩) (by show w.heap.size + 1 < _; omega)).trans HBX.out.2.1.1
      have k7 : A2.cell? ⟨w.heap.size + 1 + 1, 0, none⟩ = some (.int .i64 0) := (M2.low.cell (p := ⟨w.heap.size + 1 + 1, 0, none⟩) (by show w.heap.size + 1 + 1 < _; omega)).trans HBX.out.2.1.2
      have f6 : A2.frozen? ⟨w.heap.size + 1, 0, none⟩ = false := (M2.low.frozen (p := ⟨w.heap.size + 1, 0, none⟩) (by show w.heap.size + 1 < _; omega)).trans HBX.out.2.2.1
      have f7 : A2.frozen? ⟨w.heap.size + 1 + 1, 0, none⟩ = false := (M2.low.frozen (p := ⟨w.heap.size + 1 + 1, 0, none⟩) (by show w.heap.size + 1 + 1 < _; omega)).trans HBX.out.2.2.2
      obtain ⟨av, cv, hvx, _⟩ := id rd0
      obtain ⟨aw, cw, hvy, _⟩ := id rd1
      subst hvx; subst hvy
      have hcall := fun (W : World) (hW : Below A2.heap.size A2 W) => HSP.out (crossL a c) (crossL b c) _ _ W ((rd0.below hW).mono hW.size) ((rd1.below hW).mono hW.size) (Nat.le_trans (crossL_len a c) la) (Nat.le_trans (crossL_len b c) lb) (crossL_can HCA.out c) (crossL_can HCB.out c) (crossL_valid HVA.out c) (crossL_valid HVB.out c)
      have HCALL := hide hcall
      obtain ⟨last, first, e, B2, q1, q2⟩ := M2.bw
      have hprs := HP.out
      have hlt := prs_lt cs HC.out.1 (c, d) (by rw [hprs]; simp)
      have hnx := prs_next cs pre (c, d) post hprs
      have hplen : pre.length ≤ 1600 := by
        have h1 := prs_len cs
        rw [hprs] at h1
        simp at h1
        omega
      have hfl := swp_len (fun c => sjoin h (crossL a c) (crossL b c)) 1600 HG.out pre
      have hfl2 : (flat (swp (fun c => sjoin h (crossL a c) (crossL b c)) pre)).length ≤ 100000000 := by have := Nat.mul_le_mul_right 1600 hplen; omega
      have hsl := HG.out c
      have hef : swp (fun c => sjoin h (crossL a c) (crossL b c)) pre = [] ∨ e ≤ c := by
        rcases q2 with rfl | ⟨p, hp, rfl⟩
        · exact .inl rfl
        · exact .inr (by rw [hnx p hp]; exact Int.le_refl _)
      have hadd : ∀ (A3 : World) (Am : Option Addr) (cm : Nat), Below A2.heap.size A2 A3 → A3.ownsRow wS.heap.size 143 2 (.slice Am (sjoin h (crossL a c) (crossL b c)).length cm) (sjoin h (crossL a c) (crossL b c)).length ((sjoin h (crossL a c) (crossL b c)).flatMap encS) → _ := fun A3 Am cm hb ho =>
        add_any (s := sjoin h (crossL a c) (crossL b c)) (f := c) (t := d) (B2.below hb) ho hfl2 (Nat.le_trans hsl (by omega)) (by omega) hef hlt.1
      have HA := hide hadd
      have HM2 := hide M2.low
      have HMC := hide (HMANY.out c)
      have hsj : sjF h (crossL a c) (crossL b c) = if 400 < (sjoin h (crossL a c) (crossL b c)).length then ([], 4) else (sjoin h (crossL a c) (crossL b c), 0) := rfl
      have HSJ := hide hsj
      have HBLT := hide (show w.heap.size + 3 ≤ A2.heap.size by omega)
      have hRw2 : Rw < A2.heap.size := by omega
      have hws2 : wS.heap.size ≤ A2.heap.size := by omega
      clear g2 s2 e2 f2 M2 B2 hadd hlt hnx hef hprs q2 hcall rd0 rd1 hsj hfl hfl2
      gi_wp2_with (refine ⟨trivial, rfl, ?_⟩)
      refine wpIn_region_two [0, 1, 2, 3, 4, 5, 6, 7, 8] [9, 10] [11, 12, 13] [14] (fun w' => (w'.cell? ⟨w.heap.size, 0, none⟩ = some (.func (.func f) #[] #[]) ∧ w'.cell? ⟨A.heap.size, 2, none⟩ = some (.slice (some ⟨Rw, 0, none⟩) 2 2)) ∧ w'.cell? ⟨Rw, 0, none⟩ = some (.slice av (crossL a c).length cv) ∧ w'.cell? ⟨Rw, 1, none⟩ = some (.slice aw (crossL b c).length cw)) (by kernel_rfl) (by kernel_rfl) rfl (fun a w h => h) ⟨⟨c5, c22⟩, cR0, cR1⟩ ?_
      simp only [List.map_cons, List.map_nil, opAt, List.getElem?_cons_succ, List.getElem?_cons_zero, Option.getD_some]
      iterate 9
        refine ⟨?_, Or.inl ⟨by rfl, ?_⟩, ?_⟩
        rotate_left 1
        · intro w' hSw
          obtain ⟨⟨z0, z1⟩, z2, z3⟩ := hSw
          go_simp
          first | done | with_reducible rfl
        simp only [Act.put, List.setIfInBounds_toArray, List.set_cons_zero, List.set_cons_succ]
      simp only [wpReads, wpChain]
      intro K hK
      simp only [Act.put, List.setIfInBounds_toArray, List.set_cons_zero, List.set_cons_succ] at hK ⊢
      go_simp
      rw [HEF.out]
      have hcd := HCALL.out A2.drew (Below.refl _ _).drew
      rw [HSJ.out] at hcd
      refine hcd.mono ?_
      clear hcd
      rintro e' A4 ⟨⟨Am, cm, rfl, ho4⟩, hb4'⟩
      have hb4 : Below A2.heap.size A2 A4 := (Below.refl _ _).drew.trans hb4'
      have hkc : ∀ p : Addr, p.block < A2.heap.size → A4.cell? p = A2.cell? p := fun p hp => hb4.cell hp
      have hkf : ∀ p : Addr, p.block < A2.heap.size → A4.frozen? p = A2.frozen? p := fun p hp => hb4.frozen hp
      have n5 := (hkc ⟨w.heap.size, 0, none⟩ (by show w.heap.size < _; omega)).trans c5
      have n6 := (hkc ⟨w.heap.size + 1, 0, none⟩ (by show w.heap.size + 1 < _; omega)).trans k6
      have n7 := (hkc ⟨w.heap.size + 1 + 1, 0, none⟩ (by show w.heap.size + 1 + 1 < _; omega)).trans k7
      have m6 := (hkf ⟨w.heap.size + 1, 0, none⟩ (by show w.heap.size + 1 < _; omega)).trans f6
      have m7 := (hkf ⟨w.heap.size + 1 + 1, 0, none⟩ (by show w.heap.size + 1 + 1 < _; omega)).trans f7
      have n20 := (hkc ⟨A.heap.size, 0, none⟩ (by show A.heap.size < _; omega)).trans c20
      have n21 := (hkc ⟨A.heap.size, 1, none⟩ (by show A.heap.size < _; omega)).trans c21
      have n22 := (hkc ⟨A.heap.size, 2, none⟩ (by show A.heap.size < _; omega)).trans c22
      have nR0 := (hkc ⟨Rw, 0, none⟩ (by show Rw < _; omega)).trans cR0
      have nR1 := (hkc ⟨Rw, 1, none⟩ (by show Rw < _; omega)).trans cR1
      have HB4 := hide hb4
      have HO4 := hide ho4
      clear hkc hkf c5 k6 k7 f6 f7 c20 c21 c22 cR0 cR1 hb4 hb4' ho4
      refine hK _ _ ⟨⟨n5, n22⟩, nR0, nR1⟩ ?_
      clear hK K
      intro K hK
      simp only [Act.put, List.setIfInBounds_toArray, List.set_cons_zero, List.set_cons_succ] at hK ⊢
      go_simp
      refine hK _ _ ⟨⟨n5, n22⟩, nR0, nR1⟩ ?_
      clear hK K n5 n22 nR0 nR1
      iterate 3
        refine ⟨?_, Or.inl ⟨by rfl, ?_⟩, ?_⟩
        rotate_left 1
        · intro w' hSw
          clear hSw
          go_simp
          first | done | with_reducible rfl
        try simp only [Act.put, List.setIfInBounds_toArray, List.set_cons_zero, List.set_cons_succ]
      intro K hK
      simp only [Act.put, List.setIfInBounds_toArray, List.set_cons_zero, List.set_cons_succ] at hK ⊢
      go_simp
      refine hK _ _ (fun h => absurd rfl h) ?_
      clear hK K
      refine NoPanic.normal ?_
      by_cases h4 : 400 < (sjoin h (crossL a c) (crossL b c)).length
      · have HO5 := HO4.out
        simp only [if_pos h4] at HO5 ⊢
        have hmany := Nat.lt_of_lt_of_le h4 HMC.out
        gi_wp2_with (fail)
        have hb4 := HB4.out
        refine ⟨keepsFrom_set (keepsFrom_set (KeepsFrom.of_below' hb4) (by show w.heap.size + 1 < _; omega) _) (by show w.heap.size + 1 + 1 < _; omega) _, hmany, by simp [go_sem, n6, n7, m6, m7], by simp [go_sem, n6, n7, m6, m7], ?_⟩
        exact (((KB.out.trans (HM2.out.mono (by omega))).trans (hb4.mono (by omega))).setCell (p := ⟨w.heap.size + 1, 0, none⟩) (Nat.le_succ _) _).setCell (p := ⟨w.heap.size + 1 + 1, 0, none⟩) (by show w.heap.size ≤ w.heap.size + 1 + 1; omega) _
      · have HO5 := HO4.out
        simp only [if_neg h4] at HO5 ⊢
        have hadd := HA.out A4 Am cm HB4.out (own_base HO5 (by show wS.heap.size ≤ A2.heap.size; omega))
        gi_wp2_with (first
          | (refine ⟨trivial, rfl, ?_⟩)
          | (gi_at_call 98; refine (CallsIn.inRound l2 (callsIn_wide.2 hadd)).mono ?_; rintro e' A5 ⟨rfl, first', hbw5, hb5, hblk5, hk5⟩))
        have hb4 := HB4.out
        refine ⟨(KeepsFrom.of_below' hb4).trans (hk5.from _), (KpX.below (by omega) hb4).trans ⟨hk5.size, fun b o h1 h2 => World.cell?_of_block (w := A4) (hblk5 b h1 h2)⟩, ⟨_, first', d, by rw [swp_snoc]; exact hbw5, hsl, .inr ⟨(c, d), by simp, rfl⟩⟩, ?_⟩
        exact (HM2.out.trans (hb4.mono (by omega))).trans hb5
    · rintro D W hD hMI hK
      obtain ⟨last, first, e, hB, _, _⟩ := hMI.bw
      have hplen : (prs cs).length ≤ 1600 := by
        have h1 := prs_len cs
        omega
      have hfl := swp_len (fun c => sjoin h (crossL a c) (crossL b c)) 1600 HG.out (prs cs)
      have hfl2 := Nat.mul_le_mul_right 1600 hplen
      have hres := result_any hB (by omega)
      rw [HF.out] at hres
      have hws2 := hB.size
      have HM := hide hMI.low
      have HK := hide hK
      have hD2 : D < W.heap.size := (Array.getElem?_eq_some_iff.1 hK).1
      have hlw : w1.heap.size ≤ W.heap.size := hMI.low.size
      have k6 : W.cell? ⟨w.heap.size + 1, 0, none⟩ = some (.slice none 0 0) := (HM.out.cell (p := ⟨w.heap.size + 1, 0, none⟩) (by show w.heap.size + 1 < _; omega)).trans HBX.out.2.1.1
      have k7 : W.cell? ⟨w.heap.size + 1 + 1, 0, none⟩ = some (.int .i64 0) := (HM.out.cell (p := ⟨w.heap.size + 1 + 1, 0, none⟩) (by show w.heap.size + 1 + 1 < _; omega)).trans HBX.out.2.1.2
      have f6 : W.frozen? ⟨w.heap.size + 1, 0, none⟩ = false := (HM.out.frozen (p := ⟨w.heap.size + 1, 0, none⟩) (by show w.heap.size + 1 < _; omega)).trans HBX.out.2.2.1
      have f7 : W.frozen? ⟨w.heap.size + 1 + 1, 0, none⟩ = false := (HM.out.frozen (p := ⟨w.heap.size + 1 + 1, 0, none⟩) (by show w.heap.size + 1 + 1 < _; omega)).trans HBX.out.2.2.2
      clear hB hMI hfl hfl2 hit hI0 hK
      simp only [Exit.inBlock, Exit.then]
      by_cases h4 : 400 < (rjoin h a b).length
      · have HMF : Hid (joinF h a b = ([], 4)) := hide (HJF.out.trans (if_pos h4))
        go_wp2_with (go_at_call 99; refine hres.mono ?_; rintro e' w' ⟨rfl, hq⟩; obtain rfl : e' = .returned (.tuple #[.slice none 0 0, .int .i64 4]) := hq.elim (fun q => q.2) (fun q => absurd q.1 (by omega)); clear hq)
        have c6 : ((W.setCell ⟨w.heap.size + 1, 0, none⟩ (.slice none 0 0)).setCell ⟨w.heap.size + 1 + 1, 0, none⟩ (.int .i64 4)).cell? ⟨w.heap.size + 1, 0, none⟩ = some (.slice none 0 0) := by simp [go_sem, k6, k7, f6, f7]
        have c7 : ((W.setCell ⟨w.heap.size + 1, 0, none⟩ (.slice none 0 0)).setCell ⟨w.heap.size + 1 + 1, 0, none⟩ (.int .i64 4)).cell? ⟨w.heap.size + 1 + 1, 0, none⟩ = some (.int .i64 4) := by simp [go_sem, k6, k7, f6, f7]
        have cD : ((W.setCell ⟨w.heap.size + 1, 0, none⟩ (.slice none 0 0)).setCell ⟨w.heap.size + 1 + 1, 0, none⟩ (.int .i64 4)).heap[D]? = some (.deferred (some [])) := (Below.heap_setCell _ _ _ _ (by show D ≠ w.heap.size + 1 + 1; omega)).trans ((Below.heap_setCell _ _ _ _ (by show D ≠ w.heap.size + 1; omega)).trans HK.out)
        have hbL : Below w.heap.size w ((W.setCell ⟨w.heap.size + 1, 0, none⟩ (.slice none 0 0)).setCell ⟨w.heap.size + 1 + 1, 0, none⟩ (.int .i64 4)) := ((KB.out.trans (HM.out.mono (by omega))).setCell (p := ⟨w.heap.size + 1, 0, none⟩) (Nat.le_succ _) _).setCell (p := ⟨w.heap.size + 1 + 1, 0, none⟩) (by show w.heap.size ≤ w.heap.size + 1 + 1; omega) _
        obtain ⟨W3, hW3⟩ : ∃ W3, (W.setCell ⟨w.heap.size + 1, 0, none⟩ (.slice none 0 0)).setCell ⟨w.heap.size + 1 + 1, 0, none⟩ (.int .i64 4) = W3 := ⟨_, rfl⟩
        rw [hW3] at c6 c7 cD hbL
        rw [hW3]
        clear hW3 k6 k7 f6 f7
        refine ⟨by simp, .inl ⟨_, _, rfl, run_takeDeferred cD, ?_⟩⟩
        have e6 := (cell_putObj (o' := .deferred none) cD rfl rfl ⟨w.heap.size + 1, 0, none⟩).1.trans c6
        have e7 := (cell_putObj (o' := .deferred none) cD rfl rfl ⟨w.heap.size + 1 + 1, 0, none⟩).1.trans c7
        refine ⟨.tuple #[(.slice none 0 0), .int .i64 4], by simp [results, Tryz.results58, go_sem, e6, e7], ⟨none, 0, by rw [HMF.out]; rfl, by rw [HMF.out]; exact World.ownsRow_nil _ _ _ _⟩, below_putObj hbL (by omega) _⟩
      · have HMF : Hid (joinF h a b = (rjoin h a b, 0)) := hide (HJF.out.trans (if_neg h4))
        generalize rjoin h a b = R at *
        go_wp2_with (go_at_call 99; refine hres.mono ?_; rintro e' w' ⟨rfl, hq⟩; obtain ⟨Ar, cr, rfl, hor⟩ := hq.elim (fun q => absurd q.1 h4) (fun q => q.2); have HOR := hide hor; clear hq hor)
        have c6 : ((W.setCell ⟨w.heap.size + 1, 0, none⟩ (.slice Ar R.length cr)).setCell ⟨w.heap.size + 1 + 1, 0, none⟩ (.int .i64 0)).cell? ⟨w.heap.size + 1, 0, none⟩ = some (.slice Ar R.length cr) := by simp [go_sem, k6, k7, f6, f7]
        have c7 : ((W.setCell ⟨w.heap.size + 1, 0, none⟩ (.slice Ar R.length cr)).setCell ⟨w.heap.size + 1 + 1, 0, none⟩ (.int .i64 0)).cell? ⟨w.heap.size + 1 + 1, 0, none⟩ = some (.int .i64 0) := by simp [go_sem, k6, k7, f6, f7]
        have cD : ((W.setCell ⟨w.heap.size + 1, 0, none⟩ (.slice Ar R.length cr)).setCell ⟨w.heap.size + 1 + 1, 0, none⟩ (.int .i64 0)).heap[D]? = some (.deferred (some [])) := (Below.heap_setCell _ _ _ _ (by show D ≠ w.heap.size + 1 + 1; omega)).trans ((Below.heap_setCell _ _ _ _ (by show D ≠ w.heap.size + 1; omega)).trans HK.out)
        have hbL : Below w.heap.size w ((W.setCell ⟨w.heap.size + 1, 0, none⟩ (.slice Ar R.length cr)).setCell ⟨w.heap.size + 1 + 1, 0, none⟩ (.int .i64 0)) := ((KB.out.trans (HM.out.mono (by omega))).setCell (p := ⟨w.heap.size + 1, 0, none⟩) (Nat.le_succ _) _).setCell (p := ⟨w.heap.size + 1 + 1, 0, none⟩) (by show w.heap.size ≤ w.heap.size + 1 + 1; omega) _
        have hoL : ((W.setCell ⟨w.heap.size + 1, 0, none⟩ (.slice Ar R.length cr)).setCell ⟨w.heap.size + 1 + 1, 0, none⟩ (.int .i64 0)).ownsRow wS.heap.size 65 4 (.slice Ar R.length cr) R.length (R.flatMap encR) := ownsRow_setCell_below (ownsRow_setCell_below HOR.out (by show w.heap.size + 1 < _; omega) _) (by show w.heap.size + 1 + 1 < _; omega) _
        obtain ⟨W3, hW3⟩ : ∃ W3, (W.setCell ⟨w.heap.size + 1, 0, none⟩ (.slice Ar R.length cr)).setCell ⟨w.heap.size + 1 + 1, 0, none⟩ (.int .i64 0) = W3 := ⟨_, rfl⟩
        rw [hW3] at c6 c7 cD hbL hoL
        rw [hW3]
        clear hW3 k6 k7 f6 f7
        refine ⟨by simp, .inl ⟨_, _, rfl, run_takeDeferred cD, ?_⟩⟩
        have e6 := (cell_putObj (o' := .deferred none) cD rfl rfl ⟨w.heap.size + 1, 0, none⟩).1.trans c6
        have e7 := (cell_putObj (o' := .deferred none) cD rfl rfl ⟨w.heap.size + 1 + 1, 0, none⟩).1.trans c7
        refine ⟨.tuple #[(.slice Ar R.length cr), .int .i64 0], by simp [results, Tryz.results58, go_sem, e6, e7], ⟨Ar, cr, by rw [HMF.out], by rw [HMF.out]; exact own_base (own_putObj hoL cD rfl) (by omega)⟩, below_putObj hbL (by omega) _⟩
    · rintro D pre W hD ⟨hmany, hc6, hc7, hlowW⟩ hK
      have HMF : Hid (joinF h a b = ([], 4)) := hide (HJF.out.trans (if_pos hmany))
      have HK := hide hK
      have hD2 : D < W.heap.size := (Array.getElem?_eq_some_iff.1 hK).1
      clear hit hI0 hK
      simp only [Exit.inBlock, Exit.then]
      refine ⟨by simp, .inl ⟨_, _, rfl, run_takeDeferred HK.out, ?_⟩⟩
      have e6 := (cell_putObj (o' := .deferred none) HK.out rfl rfl ⟨w.heap.size + 1, 0, none⟩).1.trans hc6
      have e7 := (cell_putObj (o' := .deferred none) HK.out rfl rfl ⟨w.heap.size + 1 + 1, 0, none⟩).1.trans hc7
      refine ⟨.tuple #[.slice none 0 0, .int .i64 4], by simp [results, Tryz.results58, go_sem, e6, e7], ⟨none, 0, by rw [HMF.out]; rfl, by rw [HMF.out]; exact World.ownsRow_nil _ _ _ _⟩, below_putObj hlowW (by omega) _⟩
  · have HF : Hid (joinF h a b = ([], bothF a b)) := hide (if_neg hb0)
    generalize bothF a b = ck at *
    have hne : (ck != 0) = true := by simpa using hb0
    clear hb0
    refine (callsIn_wide (n := 0)).1 ?_
    refine callsIn_of_wp_marks Tryz.func58 rfl trivial ?_
    simp only [Tryz.ntmps58, List.size_toArray, List.length_cons, List.length_nil, Nat.reduceAdd, Nat.reduceSub, Array.replicate_succ, Array.replicate_zero, List.push_toArray, List.append_toArray, List.nil_append, List.cons_append]
    refine wpIn_wide.2 ?_
    go_wp2_with (fail)
    refine (HBO.out _ K3.out).mono ?_
    rintro e w1 ⟨rfl, hb1⟩
    have hs1 := hb1.size
    simp at hs1
    have k6 : w1.cell? ⟨w.heap.size + 1, 0, none⟩ = some (.slice none 0 0) := (hb1.cell (p := ⟨w.heap.size + 1, 0, none⟩) (by simp)).trans (by simp [go_sem])
    have k7 : w1.cell? ⟨w.heap.size + 1 + 1, 0, none⟩ = some (.int .i64 0) := (hb1.cell (p := ⟨w.heap.size + 1 + 1, 0, none⟩) (by simp)).trans (by simp [go_sem])
    have f6 : w1.frozen? ⟨w.heap.size + 1, 0, none⟩ = false := (hb1.frozen (p := ⟨w.heap.size + 1, 0, none⟩) (by simp)).trans (by simp [go_sem])
    have f7 : w1.frozen? ⟨w.heap.size + 1 + 1, 0, none⟩ = false := (hb1.frozen (p := ⟨w.heap.size + 1 + 1, 0, none⟩) (by simp)).trans (by simp [go_sem])
    have KB := hide (K3.out.trans (hb1.mono (by simp; omega)))
    clear hb1
    go_wp2_with (fail)
    refine ⟨.tuple #[.slice none 0 0, .int .i64 ck], by simp [results, Tryz.results58, go_sem, k6, k7], ⟨none, 0, by rw [HF.out]; rfl, by rw [HF.out]; exact World.ownsRow_nil _ _ _ _⟩, ?_⟩
    exact (KB.out.setCell (p := ⟨w.heap.size + 1, 0, none⟩) (Nat.le_succ _) _).setCell (p := ⟨w.heap.size + 1 + 1, 0, none⟩) (by show w.heap.size ≤ w.heap.size + 1 + 1; omega) _
end Go.Proofs.YtmnhlcbmoibahaaGreat

/- region.Union, Meet and Minus. -/
namespace Go.Proofs.YtmnhlcbmoibahaaGreat
open Go.RowKit
set_option linter.unusedVariables false
set_option linter.unusedSimpArgs false

theorem hk_or : hk 2 = hOr := by funext p q; cases p <;> cases q <;> rfl
theorem hk_and : hk 1 = hAnd := by funext p q; cases p <;> cases q <;> rfl
theorem hk_sub : hk 3 = hSub := by funext p q; cases p <;> cases q <;> rfl
theorem joinF_len (h : Bool → Bool → Bool) (a b : List R4) : (joinF h a b).1.length ≤ 400 := by
  unfold joinF
  split
  · split
    · simp
    · simp only; omega
  · simp
set_option maxHeartbeats 1000000 in
theorem union_any {a b : List R4} {va vb : Value} {w : World} (ra : RdK encR 4 w w.heap.size va a) (rb : RdK encR 4 w w.heap.size vb b) (na : a.length ≤ 100000000) (nb : b.length ≤ 100000000) :
    Calls Tryz.prog 26 #[va, vb] w fun e w' => RegRet w.heap.size (joinF hOr a b) e w' ∧ Below w.heap.size w w' := by
  have hc := joined_any (h := hOr) rfl spOr_any enter_spOr ra rb na nb
  obtain ⟨A1, c1, hva, _⟩ := ra
  obtain ⟨A2, c2, hvb, _⟩ := rb
  subst hva; subst hvb
  have HC := hide hc
  clear hc
  generalize joinF hOr a b = R at *
  obtain ⟨R1, R2⟩ := R
  go_enter Tryz.func26, Tryz.ntmps26
  go_wp2_with (fail)
  refine HC.out.mono ?_
  rintro e w1 ⟨⟨A3, c3, rfl, ho⟩, hb⟩
  have HO := hide ho
  clear ho
  go_wp2_with (fail)
  go_ret2
  exact ⟨⟨A3, c3, rfl, HO.out⟩, hb⟩
set_option maxHeartbeats 1000000 in
theorem meet_any {a b : List R4} {va vb : Value} {w : World} (ra : RdK encR 4 w w.heap.size va a) (rb : RdK encR 4 w w.heap.size vb b) (na : a.length ≤ 100000000) (nb : b.length ≤ 100000000) :
    Calls Tryz.prog 25 #[va, vb] w fun e w' => RegRet w.heap.size (joinF hAnd a b) e w' ∧ Below w.heap.size w w' := by
  have hc := joined_any (h := hAnd) rfl spAnd_any enter_spAnd ra rb na nb
  obtain ⟨A1, c1, hva, _⟩ := ra
  obtain ⟨A2, c2, hvb, _⟩ := rb
  subst hva; subst hvb
  have HC := hide hc
  clear hc
  generalize joinF hAnd a b = R at *
  obtain ⟨R1, R2⟩ := R
  go_enter Tryz.func25, Tryz.ntmps25
  go_wp2_with (fail)
  refine HC.out.mono ?_
  rintro e w1 ⟨⟨A3, c3, rfl, ho⟩, hb⟩
  have HO := hide ho
  clear ho
  go_wp2_with (fail)
  go_ret2
  exact ⟨⟨A3, c3, rfl, HO.out⟩, hb⟩
set_option maxHeartbeats 1000000 in
theorem minus_any {a b : List R4} {va vb : Value} {w : World} (ra : RdK encR 4 w w.heap.size va a) (rb : RdK encR 4 w w.heap.size vb b) (na : a.length ≤ 100000000) (nb : b.length ≤ 100000000) :
    Calls Tryz.prog 28 #[va, vb] w fun e w' => RegRet w.heap.size (joinF hSub a b) e w' ∧ Below w.heap.size w w' := by
  have hc := joined_any (h := hSub) rfl spSub_any enter_spSub ra rb na nb
  obtain ⟨A1, c1, hva, _⟩ := ra
  obtain ⟨A2, c2, hvb, _⟩ := rb
  subst hva; subst hvb
  have HC := hide hc
  clear hc
  generalize joinF hSub a b = R at *
  obtain ⟨R1, R2⟩ := R
  go_enter Tryz.func28, Tryz.ntmps28
  go_wp2_with (fail)
  refine HC.out.mono ?_
  rintro e w1 ⟨⟨A3, c3, rfl, ho⟩, hb⟩
  have HO := hide ho
  clear ho
  go_wp2_with (fail)
  go_ret2
  exact ⟨⟨A3, c3, rfl, HO.out⟩, hb⟩
end Go.Proofs.YtmnhlcbmoibahaaGreat

/- Rectangles side by side: region.beside, and the reference's near and common. -/
namespace Go.Proofs.YtmnhlcbmoibahaaGreat
open Go.RowKit
set_option linter.unusedVariables false
set_option linter.unusedSimpArgs false

def cmn (a b : R4) : Bool := decide (a.x0 < b.x1) && decide (b.x0 < a.x1) && decide (a.y0 < b.y1) && decide (b.y0 < a.y1)
def nearF (a b : R4) : Bool := cmn ⟨a.x0 - 1, a.y0, a.x1 + 1, a.y1⟩ b || cmn ⟨a.x0, a.y0 - 1, a.x1, a.y1 + 1⟩ b
def bsd (a b : R4) : Bool := (decide (min a.x1 b.x1 - max a.x0 b.x0 = 0) && decide (0 < min a.y1 b.y1 - max a.y0 b.y0)) || (decide (0 < min a.x1 b.x1 - max a.x0 b.x0) && decide (min a.y1 b.y1 - max a.y0 b.y0 = 0))
/-- Of rectangles with points and without a common one, both say the same. -/
theorem bsd_near {a b : R4} (ha : wf4 a) (hb : wf4 b) (h : cmn a b = false) : nearF a b = bsd a b := by
  obtain ⟨a0, a1, a2, a3⟩ := a
  obtain ⟨b0, b1, b2, b3⟩ := b
  obtain ⟨p, q⟩ := ha
  obtain ⟨r, s⟩ := hb
  simp only at p q r s
  rw [Bool.eq_iff_iff]
  simp only [cmn, nearF, bsd, Bool.and_eq_true, Bool.or_eq_true, decide_eq_true_eq, ← Bool.not_eq_true] at h ⊢
  omega
theorem cmn_symm (a b : R4) : cmn a b = cmn b a := by
  rw [Bool.eq_iff_iff]
  simp only [cmn, Bool.and_eq_true, decide_eq_true_eq]
  omega
theorem bsd_symm (a b : R4) : bsd a b = bsd b a := by
  unfold bsd
  rw [Int.min_comm a.x1, Int.max_comm a.x0, Int.min_comm a.y1, Int.max_comm a.y0]

set_option maxHeartbeats 1000000 in
theorem common_any (r s : R4) (w : World) :
    Calls Tryz.prog 120 #[.agg (encR r).toArray, .agg (encR s).toArray] w fun e w' => e = .returned (.bool (cmn r s)) ∧ Below w.heap.size w w' := by
  obtain ⟨a0, a1, a2, a3⟩ := r
  obtain ⟨b0, b1, b2, b3⟩ := s
  show Calls Tryz.prog 120 #[.agg #[.int .i64 a0, .int .i64 a1, .int .i64 a2, .int .i64 a3], .agg #[.int .i64 b0, .int .i64 b1, .int .i64 b2, .int .i64 b3]] w _
  have hF : cmn ⟨a0, a1, a2, a3⟩ ⟨b0, b1, b2, b3⟩ = (decide (a0 < b2) && decide (b0 < a2) && decide (a1 < b3) && decide (b1 < a3)) := rfl
  rw [hF]
  have fin : Below w.heap.size w ((w.alloc (.cells #[.int .i64 a0, .int .i64 a1, .int .i64 a2, .int .i64 a3] 65)).alloc (.cells #[.int .i64 b0, .int .i64 b1, .int .i64 b2, .int .i64 b3] 65)) := ((Below.refl _ _).alloc (Nat.le_refl _) _).alloc (by simp) _
  have FIN := hide fin
  clear fin hF
  by_cases t1 : a0 < b2
  · by_cases t2 : b0 < a2
    · by_cases t3 : a1 < b3
      · go_enter Tryz.func120, Tryz.ntmps120
        go_wp2_with (fail)
        go_ret
        exact ⟨ret_eq (bool_eq (by simp [t1, t2, t3])), FIN.out⟩
      · go_enter Tryz.func120, Tryz.ntmps120
        go_wp2_with (fail)
        go_ret
        exact ⟨ret_eq (bool_eq (by simp; omega)), FIN.out⟩
    · go_enter Tryz.func120, Tryz.ntmps120
      go_wp2_with (fail)
      go_ret
      exact ⟨ret_eq (bool_eq (by simp; omega)), FIN.out⟩
  · go_enter Tryz.func120, Tryz.ntmps120
    go_wp2_with (fail)
    go_ret
    exact ⟨ret_eq (bool_eq (by simp; omega)), FIN.out⟩
def mid4 (r : R4) : Prop := (-1000000 ≤ r.x0 ∧ r.x0 ≤ 1000000) ∧ (-1000000 ≤ r.y0 ∧ r.y0 ≤ 1000000) ∧ (-1000000 ≤ r.x1 ∧ r.x1 ≤ 1000000) ∧ (-1000000 ≤ r.y1 ∧ r.y1 ≤ 1000000)
set_option maxHeartbeats 1000000 in
theorem beside_any (r s : R4) (hr : mid4 r) (hs : mid4 s) (w : World) :
    Calls Tryz.prog 65 #[.agg (encR r).toArray, .agg (encR s).toArray] w fun e w' => e = .returned (.bool (bsd r s)) ∧ Below w.heap.size w w' := by
  obtain ⟨a0, a1, a2, a3⟩ := r
  obtain ⟨b0, b1, b2, b3⟩ := s
  obtain ⟨⟨p0, p0'⟩, ⟨p1, p1'⟩, ⟨p2, p2'⟩, p3, p3'⟩ := hr
  obtain ⟨⟨q0, q0'⟩, ⟨q1, q1'⟩, ⟨q2, q2'⟩, q3, q3'⟩ := hs
  simp only at p0 p0' p1 p1' p2 p2' p3 p3' q0 q0' q1 q1' q2 q2' q3 q3'
  show Calls Tryz.prog 65 #[.agg #[.int .i64 a0, .int .i64 a1, .int .i64 a2, .int .i64 a3], .agg #[.int .i64 b0, .int .i64 b1, .int .i64 b2, .int .i64 b3]] w _
  have wx : wrap64 (min a2 b2 - max a0 b0) = min a2 b2 - max a0 b0 := by unfold wrap64; omega
  have wy : wrap64 (min a3 b3 - max a1 b1) = min a3 b3 - max a1 b1 := by unfold wrap64; omega
  have hF : bsd ⟨a0, a1, a2, a3⟩ ⟨b0, b1, b2, b3⟩ = ((decide (min a2 b2 - max a0 b0 = 0) && decide (0 < min a3 b3 - max a1 b1)) || (decide (0 < min a2 b2 - max a0 b0) && decide (min a3 b3 - max a1 b1 = 0))) := rfl
  rw [hF]
  have fin : Below w.heap.size w ((w.alloc (.cells #[.int .i64 a0, .int .i64 a1, .int .i64 a2, .int .i64 a3] 65)).alloc (.cells #[.int .i64 b0, .int .i64 b1, .int .i64 b2, .int .i64 b3] 65)) := ((Below.refl _ _).alloc (Nat.le_refl _) _).alloc (by simp) _
  have FIN := hide fin
  clear fin hF p0 p0' p1 p1' p2 p2' p3 p3' q0 q0' q1 q1' q2 q2' q3 q3'
  go_enter Tryz.func65, Tryz.ntmps65
  go_wp2_with (fail)
  all_goals go_ret
  all_goals refine ⟨ret_eq (bool_eq ?_), FIN.out⟩
  all_goals first
    | rfl
    | (rw [Bool.eq_iff_iff]; simp only [Bool.or_eq_true, Bool.and_eq_true, decide_eq_true_eq, Bool.false_eq_true, true_iff, iff_true, false_iff, iff_false, beq_iff_eq]; omega)
set_option maxHeartbeats 1000000 in
theorem near_any (r s : R4) (hr : mid4 r) (hs : mid4 s) (w : World) :
    Calls Tryz.prog 83 #[.agg (encR r).toArray, .agg (encR s).toArray] w fun e w' => e = .returned (.bool (nearF r s)) ∧ Below w.heap.size w w' := by
  have hc1 := fun W => common_any ⟨r.x0 - 1, r.y0, r.x1 + 1, r.y1⟩ s W
  have hc2 := fun W => common_any ⟨r.x0, r.y0 - 1, r.x1, r.y1 + 1⟩ s W
  obtain ⟨a0, a1, a2, a3⟩ := r
  obtain ⟨b0, b1, b2, b3⟩ := s
  obtain ⟨⟨p0, p0'⟩, ⟨p1, p1'⟩, ⟨p2, p2'⟩, p3, p3'⟩ := hr
  simp only at p0 p0' p1 p1' p2 p2' p3 p3'
  show Calls Tryz.prog 83 #[.agg #[.int .i64 a0, .int .i64 a1, .int .i64 a2, .int .i64 a3], .agg #[.int .i64 b0, .int .i64 b1, .int .i64 b2, .int .i64 b3]] w _
  have w0 : wrap64 (a0 - 1) = a0 - 1 := by unfold wrap64; omega
  have w1 : wrap64 (a1 - 1) = a1 - 1 := by unfold wrap64; omega
  have w2 : wrap64 (a2 + 1) = a2 + 1 := by unfold wrap64; omega
  have w3 : wrap64 (a3 + 1) = a3 + 1 := by unfold wrap64; omega
  have hF : nearF ⟨a0, a1, a2, a3⟩ ⟨b0, b1, b2, b3⟩ = (cmn ⟨a0 - 1, a1, a2 + 1, a3⟩ ⟨b0, b1, b2, b3⟩ || cmn ⟨a0, a1 - 1, a2, a3 + 1⟩ ⟨b0, b1, b2, b3⟩) := rfl
  rw [hF]
  simp only [encR] at hc1 hc2
  generalize cmn ⟨a0 - 1, a1, a2 + 1, a3⟩ ⟨b0, b1, b2, b3⟩ = c1 at *
  generalize cmn ⟨a0, a1 - 1, a2, a3 + 1⟩ ⟨b0, b1, b2, b3⟩ = c2 at *
  have H1 := hide hc1
  have H2 := hide hc2
  have nb : Below w.heap.size w ((((w.alloc (.cells #[.int .i64 a0, .int .i64 a1, .int .i64 a2, .int .i64 a3] 65)).alloc (.cells #[.int .i64 b0, .int .i64 b1, .int .i64 b2, .int .i64 b3] 65)).alloc (.cells #[.int .i64 (a0 - 1), .int .i64 a1, .int .i64 (a2 + 1), .int .i64 a3] 65)).alloc (.cells #[.int .i64 a0, .int .i64 (a1 - 1), .int .i64 a2, .int .i64 (a3 + 1)] 65)) := ((((Below.refl _ _).alloc (Nat.le_refl _) _).alloc (by simp) _).alloc (by simp; omega) _).alloc (by simp; omega) _
  have NB := hide nb
  clear nb
  clear hc1 hc2 hF hs p0 p0' p1 p1' p2 p2' p3 p3'
  cases c1 with
  | true =>
    go_enter Tryz.func83, Tryz.ntmps83
    go_wp2_with (fail)
    refine (H1.out _).mono ?_
    rintro e wa ⟨rfl, hb⟩
    have hb2 := NB.out.trans (hb.mono (by simp; omega))
    clear hb
    go_wp2_with (fail)
    go_ret
    exact ⟨rfl, hb2⟩
  | false =>
    go_enter Tryz.func83, Tryz.ntmps83
    go_wp2_with (fail)
    refine (H1.out _).mono ?_
    rintro e wa ⟨rfl, hb⟩
    have hb2 := NB.out.trans (hb.mono (by simp; omega))
    have x0 := (hb.cell (p := ⟨w.heap.size + 1, 0, none⟩) (by simp)).trans (by simp [go_sem] : _ = some (.int .i64 b0))
    have x1 := (hb.cell (p := ⟨w.heap.size + 1, 1, none⟩) (by simp)).trans (by simp [go_sem] : _ = some (.int .i64 b1))
    have x2 := (hb.cell (p := ⟨w.heap.size + 1, 2, none⟩) (by simp)).trans (by simp [go_sem] : _ = some (.int .i64 b2))
    have x3 := (hb.cell (p := ⟨w.heap.size + 1, 3, none⟩) (by simp)).trans (by simp [go_sem] : _ = some (.int .i64 b3))
    have y0 := (hb.cell (p := ⟨w.heap.size + 1 + 1 + 1, 0, none⟩) (by simp)).trans (by simp [go_sem] : _ = some (.int .i64 a0))
    have y1 := (hb.cell (p := ⟨w.heap.size + 1 + 1 + 1, 1, none⟩) (by simp)).trans (by simp [go_sem] : _ = some (.int .i64 (a1 - 1)))
    have y2 := (hb.cell (p := ⟨w.heap.size + 1 + 1 + 1, 2, none⟩) (by simp)).trans (by simp [go_sem] : _ = some (.int .i64 a2))
    have y3 := (hb.cell (p := ⟨w.heap.size + 1 + 1 + 1, 3, none⟩) (by simp)).trans (by simp [go_sem] : _ = some (.int .i64 (a3 + 1)))
    have HB2 := hide hb2
    clear hb hb2
    go_wp2_with (fail)
    refine (H2.out _).mono ?_
    rintro e wb ⟨rfl, hb⟩
    have hb3 := HB2.out.trans (hb.mono HB2.out.size)
    clear hb
    go_wp2_with (fail)
    go_ret
    exact ⟨rfl, hb3⟩
end Go.Proofs.YtmnhlcbmoibahaaGreat

/- region.Touch. -/
namespace Go.Proofs.YtmnhlcbmoibahaaGreat
open Go.RowKit
set_option linter.unusedVariables false
set_option linter.unusedSimpArgs false

def ovl (a b : List R4) : Bool := a.any fun x => b.any fun y => cmn x y
def sid (a b : List R4) : Bool := a.any fun x => b.any fun y => bsd x y
def touchF (a b : List R4) : Bool × Int := if bothF a b = 0 then (!ovl a b && sid a b, 0) else (false, bothF a b)
theorem any_take {α : Type} {l : List α} {m : Nat} {x : α} (h : l[m]? = some x) (f : α → Bool) : (l.take (m + 1)).any f = ((l.take m).any f || f x) := by
  obtain ⟨h1, h2⟩ := List.getElem?_eq_some_iff.1 h
  rw [List.take_succ_eq_append_getElem h1, h2]
  simp
theorem any_of_at {α : Type} {l : List α} {m : Nat} {x : α} (h : l[m]? = some x) {f : α → Bool} (hf : f x = true) : l.any f = true :=
  List.any_eq_true.2 ⟨x, List.mem_of_getElem? h, hf⟩
theorem cmn_min {a b : R4} : cmn a b = (decide (max a.x0 b.x0 < min a.x1 b.x1) && decide (max a.y0 b.y0 < min a.y1 b.y1)) ∨ ¬ (wf4 a ∧ wf4 b) := by
  by_cases h : wf4 a ∧ wf4 b
  · left
    obtain ⟨⟨p, q⟩, r, s⟩ := h
    rw [Bool.eq_iff_iff]
    simp only [cmn, Bool.and_eq_true, decide_eq_true_eq]
    omega
  · exact .inr h
theorem valid_mid {r : R4} (h : valid4 r) : mid4 r := by
  obtain ⟨_, _, h1, h2, h3, h4⟩ := h
  unfold fineP at h1 h2 h3 h4
  unfold mid4
  omega

set_option maxRecDepth 100000 in
set_option maxHeartbeats 4000000 in
theorem touch_any {w : World} {va vb : Value} {a b : List R4} (ra : RdK encR 4 w w.heap.size va a) (rb : RdK encR 4 w w.heap.size vb b) (na : a.length ≤ 100000000) (nb : b.length ≤ 100000000) :
    Calls Tryz.prog 34 #[va, vb] w fun e w' => e = .returned (.tuple #[.bool (touchF a b).1, .int .i64 (touchF a b).2]) ∧ Below w.heap.size w w' := by
  have hbo := both_any ra rb na nb
  obtain ⟨A1, c1, hva, hra⟩ := id ra
  obtain ⟨A2, c2, hvb, hrb⟩ := id rb
  subst hva; subst hvb
  have HBO := hide hbo
  have RA := hide hra
  have RB := hide hrb
  clear hbo ra rb hra hrb
  by_cases h0 : bothF a b = 0
  · obtain ⟨ca, cb⟩ := bothF_ok h0
    have HVA := hide (checkF_ok ca).2.1
    have HVB := hide (checkF_ok cb).2.1
    have HF : Hid (touchF a b = (!ovl a b && sid a b, 0)) := hide (if_pos h0)
    rw [h0] at HBO
    clear ca cb h0
    go_enter Tryz.func34, Tryz.ntmps34
    go_wp2_with (fail)
    refine HBO.out.mono ?_
    rintro e w1 ⟨rfl, hb1⟩
    have HB1 := hide hb1
    clear hb1
    go_wp2_with (fail)
    go_loopw [7, 20] (fun v q wr => ∃ m : Nat, m ≤ a.length ∧ q = .int .i64 m ∧ ∃ t : Bool, v = .bool t ∧ Hid (t = sid (a.take m) b) ∧ Hid (ovl (a.take m) b = false) ∧ Hid (Below w.heap.size w wr)) (fun _ q _ => a.length - (intOf q).toNat)
    case atStart => exact ⟨0, Nat.zero_le _, rfl, _, rfl, hide rfl, hide rfl, HB1⟩
    case round =>
      clear HB1
      obtain ⟨m, hm, rfl, t, rfl, HT, HO, HB⟩ := hrel
      by_cases hlt : m < a.length
      · obtain ⟨⟨p0, p1, p2, p3⟩, hp⟩ : ∃ p, a[m]? = some p := ⟨_, List.getElem?_eq_getElem hlt⟩
        obtain ⟨g, o, rfl, hbl, k⟩ := RA.out (by intro e; rw [e] at hlt; simp at hlt)
        have d0 : wr.cell? ⟨g, o + m * 4, none⟩ = some (.int .i64 p0) := (HB.out.cell (p := ⟨g, _, none⟩) hbl).trans (k m _ hp 0 _ rfl)
        have d1 : wr.cell? ⟨g, o + m * 4 + 1, none⟩ = some (.int .i64 p1) := (HB.out.cell (p := ⟨g, _, none⟩) hbl).trans (k m _ hp 1 _ rfl)
        have d2 : wr.cell? ⟨g, o + m * 4 + 2, none⟩ = some (.int .i64 p2) := (HB.out.cell (p := ⟨g, _, none⟩) hbl).trans (k m _ hp 2 _ rfl)
        have d3 : wr.cell? ⟨g, o + m * 4 + 3, none⟩ = some (.int .i64 p3) := (HB.out.cell (p := ⟨g, _, none⟩) hbl).trans (k m _ hp 3 _ rfl)
        have mz : (m : Int) < (a.length : Int) := by omega
        have HP := hide hp
        have hsz := HB.out.size
        have KR := hide k
        clear k hp
        go_wp2
        have hbX := HB.out.alloc hsz (.cells #[.int .i64 p0, .int .i64 p1, .int .i64 p2, .int .i64 p3] 65)
        have HBX := hide hbX
        have B0 : Hid ((wr.alloc (.cells #[.int .i64 p0, .int .i64 p1, .int .i64 p2, .int .i64 p3] 65)).cell? ⟨wr.heap.size, 0, none⟩ = some (.int .i64 p0)) := hide (by simp [go_sem])
        have B1 : Hid ((wr.alloc (.cells #[.int .i64 p0, .int .i64 p1, .int .i64 p2, .int .i64 p3] 65)).cell? ⟨wr.heap.size, 1, none⟩ = some (.int .i64 p1)) := hide (by simp [go_sem])
        have B2 : Hid ((wr.alloc (.cells #[.int .i64 p0, .int .i64 p1, .int .i64 p2, .int .i64 p3] 65)).cell? ⟨wr.heap.size, 2, none⟩ = some (.int .i64 p2)) := hide (by simp [go_sem])
        have B3 : Hid ((wr.alloc (.cells #[.int .i64 p0, .int .i64 p1, .int .i64 p2, .int .i64 p3] 65)).cell? ⟨wr.heap.size, 3, none⟩ = some (.int .i64 p3)) := hide (by simp [go_sem])
        have hz : wr.heap.size < (wr.alloc (.cells #[.int .i64 p0, .int .i64 p1, .int .i64 p2, .int .i64 p3] 65)).heap.size := by simp
        have HZ := hide hz
        clear hz hbX d0 d1 d2 d3
        generalize wr.alloc (.cells #[.int .i64 p0, .int .i64 p1, .int .i64 p2, .int .i64 p3] 65) = wx at *
        generalize wr.heap.size = Hx at *
        clear hsz
        go_loopw [7, 26] (fun v q wr => ∃ n : Nat, n ≤ b.length ∧ q = .int .i64 n ∧ ∃ u : Bool, v = .bool u ∧ Hid (u = (t || (b.take n).any (bsd ⟨p0, p1, p2, p3⟩))) ∧ Hid ((b.take n).any (cmn ⟨p0, p1, p2, p3⟩) = false) ∧ Hid (Below wx.heap.size wx wr)) (fun _ q _ => b.length - (intOf q).toNat)
        case atStart => exact ⟨0, Nat.zero_le _, rfl, _, rfl, hide (by simp), hide rfl, hide (Below.refl _ _)⟩
        case round =>
          obtain ⟨n, hn, rfl, u, rfl, HU, HV, HC⟩ := hrel
          by_cases hln : n < b.length
          · obtain ⟨⟨q0, q1, q2, q3⟩, hq⟩ : ∃ p, b[n]? = some p := ⟨_, List.getElem?_eq_getElem hln⟩
            obtain ⟨g2, o2, rfl, hbl2, k2⟩ := RB.out (by intro e; rw [e] at hln; simp at hln)
            have hbW := HBX.out.trans (HC.out.mono HBX.out.size)
            have e0 : wr.cell? ⟨g2, o2 + n * 4, none⟩ = some (.int .i64 q0) := (hbW.cell (p := ⟨g2, _, none⟩) hbl2).trans (k2 n _ hq 0 _ rfl)
            have e1 : wr.cell? ⟨g2, o2 + n * 4 + 1, none⟩ = some (.int .i64 q1) := (hbW.cell (p := ⟨g2, _, none⟩) hbl2).trans (k2 n _ hq 1 _ rfl)
            have e2 : wr.cell? ⟨g2, o2 + n * 4 + 2, none⟩ = some (.int .i64 q2) := (hbW.cell (p := ⟨g2, _, none⟩) hbl2).trans (k2 n _ hq 2 _ rfl)
            have e3 : wr.cell? ⟨g2, o2 + n * 4 + 3, none⟩ = some (.int .i64 q3) := (hbW.cell (p := ⟨g2, _, none⟩) hbl2).trans (k2 n _ hq 3 _ rfl)
            have z0 := (HC.out.cell (p := ⟨Hx, 0, none⟩) HZ.out).trans B0.out
            have z1 := (HC.out.cell (p := ⟨Hx, 1, none⟩) HZ.out).trans B1.out
            have z2 := (HC.out.cell (p := ⟨Hx, 2, none⟩) HZ.out).trans B2.out
            have z3 := (HC.out.cell (p := ⟨Hx, 3, none⟩) HZ.out).trans B3.out
            have nz : (n : Int) < (b.length : Int) := by omega
            have zw : Hx < wr.heap.size := Nat.lt_of_lt_of_le HZ.out HC.out.size
            have HQ := hide hq
            have HBW := hide hbW
            have hcm : cmn ⟨p0, p1, p2, p3⟩ ⟨q0, q1, q2, q3⟩ = (decide (max p0 q0 < min p2 q2) && decide (max p1 q1 < min p3 q3)) :=
              (cmn_min (a := ⟨p0, p1, p2, p3⟩) (b := ⟨q0, q1, q2, q3⟩)).elim id (fun h => absurd ⟨(HVA.out _ (List.mem_of_getElem? HP.out)).1, (HVA.out _ (List.mem_of_getElem? HP.out)).2.1⟩ (fun h1 => h ⟨h1, (HVB.out _ (List.mem_of_getElem? hq)).1, (HVB.out _ (List.mem_of_getElem? hq)).2.1⟩))
            have HCM0 := hide hcm
            have hbs := fun W => beside_any ⟨p0, p1, p2, p3⟩ ⟨q0, q1, q2, q3⟩ (valid_mid (HVA.out _ (List.mem_of_getElem? HP.out))) (valid_mid (HVB.out _ (List.mem_of_getElem? hq))) W
            have HBS := hide hbs
            clear k2 hq hbW hcm hbs
            by_cases t1 : max p0 q0 < min p2 q2 ∧ max p1 q1 < min p3 q3
            · have HOV : Hid (ovl a b = true) := hide (any_of_at HP.out (any_of_at HQ.out (by rw [HCM0.out]; simp [t1.1, t1.2])))
              obtain ⟨t1, t2⟩ := t1
              go_wp2
              go_ret2
              refine ⟨?_, HBW.out.alloc HBW.out.size _⟩
              rw [HF.out, HOV.out]
              rfl
            · have HCM : Hid (cmn ⟨p0, p1, p2, p3⟩ ⟨q0, q1, q2, q3⟩ = false) := hide (by rw [HCM0.out, ← Bool.not_eq_true]; simpa using t1)
              by_cases tA : max p0 q0 < min p2 q2
              · have tB : ¬ max p1 q1 < min p3 q3 := fun h => t1 ⟨tA, h⟩
                clear t1
                cases u with
                | true =>
                  go_wp2
                  go_roundw
                  case rel => exact ⟨n + 1, by omega, by go_num, _, rfl, hide (by rw [any_take HQ.out, ← Bool.or_assoc, ← HU.out]; rfl), hide (by rw [any_take HQ.out, HV.out, HCM.out]; rfl), hide (HC.out.alloc HC.out.size _)⟩
                  case measure => simp [intOf]; omega
                | false =>
                  go_wp2_with (fail)
                  refine (HBS.out _).mono ?_
                  rintro e wz ⟨rfl, hb⟩
                  have HZ2 := hide ((HC.out.alloc HC.out.size (.cells #[.int .i64 q0, .int .i64 q1, .int .i64 q2, .int .i64 q3] 65)).trans (hb.mono (by have := HC.out.size; simp; omega)))
                  clear hb
                  go_wp2_with (fail)
                  go_roundw
                  case rel => exact ⟨n + 1, by omega, by go_num, _, rfl, hide (by rw [any_take HQ.out, ← Bool.or_assoc, ← HU.out]; rfl), hide (by rw [any_take HQ.out, HV.out, HCM.out]; rfl), HZ2⟩
                  case measure => simp [intOf]; omega
              · skip
                clear t1
                cases u with
                | true =>
                  go_wp2
                  go_roundw
                  case rel => exact ⟨n + 1, by omega, by go_num, _, rfl, hide (by rw [any_take HQ.out, ← Bool.or_assoc, ← HU.out]; rfl), hide (by rw [any_take HQ.out, HV.out, HCM.out]; rfl), hide (HC.out.alloc HC.out.size _)⟩
                  case measure => simp [intOf]; omega
                | false =>
                  go_wp2_with (fail)
                  refine (HBS.out _).mono ?_
                  rintro e wz ⟨rfl, hb⟩
                  have HZ2 := hide ((HC.out.alloc HC.out.size (.cells #[.int .i64 q0, .int .i64 q1, .int .i64 q2, .int .i64 q3] 65)).trans (hb.mono (by have := HC.out.size; simp; omega)))
                  clear hb
                  go_wp2_with (fail)
                  go_roundw
                  case rel => exact ⟨n + 1, by omega, by go_num, _, rfl, hide (by rw [any_take HQ.out, ← Bool.or_assoc, ← HU.out]; rfl), hide (by rw [any_take HQ.out, HV.out, HCM.out]; rfl), HZ2⟩
                  case measure => simp [intOf]; omega
          · have nz : ¬ (n : Int) < (b.length : Int) := by omega
            have ht : b.take n = b := List.take_of_length_le (by omega)
            rw [ht] at HU HV
            clear ht
            go_wp2
            go_roundw
            case rel => exact ⟨m + 1, by omega, by go_num, _, rfl, hide (by rw [HU.out, HT.out]; exact (any_take HP.out _).symm), hide (by show (a.take (m + 1)).any _ = false; rw [any_take HP.out]; show (ovl (a.take m) b || _) = false; rw [HO.out]; exact HV.out), hide (HBX.out.trans (HC.out.mono HBX.out.size))⟩
            case measure => simp [intOf]; omega
      · have mz : ¬ (m : Int) < (a.length : Int) := by omega
        have ht : a.take m = a := List.take_of_length_le (by omega)
        rw [ht] at HT HO
        clear ht
        go_wp2
        go_ret2
        refine ⟨?_, HB.out⟩
        rw [HF.out]
        simp [HO.out, HT.out]
  · have HF : Hid (touchF a b = (false, bothF a b)) := hide (if_neg h0)
    generalize bothF a b = ck at *
    have hne : (ck != 0) = true := by simpa using h0
    clear h0
    go_enter Tryz.func34, Tryz.ntmps34
    go_wp2_with (fail)
    refine HBO.out.mono ?_
    rintro e w1 ⟨rfl, hb1⟩
    have HB1 := hide hb1
    clear hb1
    go_wp2_with (fail)
    go_ret2
    exact ⟨by rw [HF.out]; rfl, HB1.out⟩
end Go.Proofs.YtmnhlcbmoibahaaGreat

/- Plain law: components of a list of rectangles, each named by its least index. -/
namespace Go.Proofs.YtmnhlcbmoibahaaGreat
set_option linter.unusedVariables false
set_option linter.unusedSimpArgs false

/-- Rectangles i and j lie side by side. -/
def adj (l : List R4) (i j : Nat) : Prop := ∃ x y, l[i]? = some x ∧ l[j]? = some y ∧ bsd x y = true
theorem adj.symm {l : List R4} {i j : Nat} (h : adj l i j) : adj l j i := by
  obtain ⟨x, y, h1, h2, h3⟩ := h
  exact ⟨y, x, h2, h1, by rw [bsd_symm]; exact h3⟩
inductive Conn (l : List R4) (i : Nat) : Nat → Prop where
  | refl : Conn l i i
  | step {j k : Nat} : Conn l i j → adj l j k → Conn l i k
theorem Conn.trans {l : List R4} {i j k : Nat} (h : Conn l i j) (g : Conn l j k) : Conn l i k := by
  induction g with
  | refl => exact h
  | step _ a ih => exact ih.step a
theorem Conn.symm {l : List R4} {i j : Nat} (h : Conn l i j) : Conn l j i := by
  induction h with
  | refl => exact .refl
  | step _ a ih => exact (Conn.refl.step a.symm).trans ih
theorem Conn.lt {l : List R4} {i j : Nat} (h : Conn l i j) (hi : i < l.length) : j < l.length := by
  cases h with
  | refl => exact hi
  | step _ a =>
    obtain ⟨x, y, _, h2, _⟩ := a
    exact (List.getElem?_eq_some_iff.1 h2).1
theorem least (p : Nat → Prop) : ∀ n, p n → ∃ m, p m ∧ ∀ k, p k → m ≤ k := by
  intro n
  induction n using Nat.strongRecOn with
  | _ n ih =>
    intro h
    by_cases hk : ∃ k, k < n ∧ p k
    · obtain ⟨k, h1, h2⟩ := hk
      exact ih k h1 h2
    · refine ⟨n, h, fun k hp => ?_⟩
      by_cases hkn : k < n
      · exact absurd ⟨k, hkn, hp⟩ hk
      · omega
/-- The least index of a component. -/
noncomputable def mn (l : List R4) (i : Nat) : Nat := Classical.choose (least (Conn l i) i .refl)
theorem mn_conn (l : List R4) (i : Nat) : Conn l i (mn l i) := (Classical.choose_spec (least (Conn l i) i .refl)).1
theorem mn_least {l : List R4} {i k : Nat} (h : Conn l i k) : mn l i ≤ k := (Classical.choose_spec (least (Conn l i) i .refl)).2 k h
theorem mn_le (l : List R4) (i : Nat) : mn l i ≤ i := mn_least .refl
theorem mn_eq {l : List R4} {i j : Nat} (h : Conn l i j) : mn l i = mn l j := by
  have h1 := mn_least (h.trans (mn_conn l j))
  have h2 := mn_least (h.symm.trans (mn_conn l i))
  omega
theorem mn_mn (l : List R4) (i : Nat) : mn l (mn l i) = mn l i := (mn_eq (mn_conn l i)).symm
theorem conn_of_mn {l : List R4} {i j : Nat} (h : mn l i = mn l j) : Conn l i j := by
  have h1 := mn_conn l i
  rw [h] at h1
  exact h1.trans (mn_conn l j).symm
/-- Labels that do not go down any more are the least indices. -/
theorem labels_mn {l : List R4} {f : Nat → Nat} (h1 : ∀ i, i < l.length → Conn l i (f i) ∧ f i ≤ i) (h2 : ∀ i k, adj l i k → f i ≤ f k) : ∀ i, i < l.length → f i = mn l i := by
  have key : ∀ i k, Conn l i k → f i = f k := by
    intro i k h
    induction h with
    | refl => rfl
    | step _ a ih => have := h2 _ _ a; have := h2 _ _ a.symm; omega
  intro i hi
  have a1 := mn_least (h1 i hi).1
  have a2 := (h1 _ ((mn_conn l i).lt hi)).2
  have a3 := key _ _ (mn_conn l i)
  omega
open Classical in
/-- The rectangles of the component whose least index is i, in their order. -/
noncomputable def compL (l : List R4) (i : Nat) : List R4 := ((List.range l.length).filter fun j => decide (mn l j = i)).filterMap fun j => l[j]?
open Classical in
noncomputable def partsF (l : List R4) : List (List R4) := ((List.range l.length).filter fun i => decide (mn l i = i)).map fun i => rjoin hFst (compL l i) []
theorem mem_compL {l : List R4} {i : Nat} {r : R4} : r ∈ compL l i ↔ ∃ j, mn l j = i ∧ l[j]? = some r := by
  unfold compL
  simp only [List.mem_filterMap, List.mem_filter, List.mem_range, decide_eq_true_eq]
  constructor
  · rintro ⟨j, ⟨_, h2⟩, h3⟩
    exact ⟨j, h2, h3⟩
  · rintro ⟨j, h2, h3⟩
    exact ⟨j, ⟨(List.getElem?_eq_some_iff.1 h3).1, h2⟩, h3⟩
/-- The region of a list hangs on its rectangles' set alone. -/
theorem rjoin_set {a b : List R4} (ha : ∀ r ∈ a, wf4 r) (hb : ∀ r ∈ b, wf4 r) (h : ∀ r, r ∈ a ↔ r ∈ b) : rjoin hFst a [] = rjoin hFst b [] := by
  obtain ⟨c1, p1⟩ := rjoin_ok (h := hFst) rfl ha (b := []) (by simp)
  obtain ⟨c2, p2⟩ := rjoin_ok (h := hFst) rfl hb (b := []) (by simp)
  refine c1.ext c2 fun x y => ?_
  rw [p1, p2]
  have : decide (pmem a x y) = decide (pmem b x y) := decide_eq_decide.2 (by
    unfold pmem
    constructor
    · rintro ⟨r, h1, h2⟩
      exact ⟨r, (h r).1 h1, h2⟩
    · rintro ⟨r, h1, h2⟩
      exact ⟨r, (h r).2 h1, h2⟩)
  rw [this]
end Go.Proofs.YtmnhlcbmoibahaaGreat

/- Plain law: a part of a canonical region, made a region, has no more rectangles than the part. -/
namespace Go.Proofs.YtmnhlcbmoibahaaGreat
set_option linter.unusedVariables false
set_option linter.unusedSimpArgs false

theorem swp_sum_from (g : Int → List Sp) : ∀ (ps : List (Int × Int)) (S : List Slab), (flat (ps.foldl (fun S p => addS S p.1 p.2 (g p.1)) S)).length ≤ (flat S).length + (ps.map fun p => (g p.1).length).sum
  | [], S => by simp
  | p :: ps, S => by
    have h1 := swp_sum_from g ps (addS S p.1 p.2 (g p.1))
    have h2 := addS_len S p.1 p.2 (g p.1)
    simp only [List.foldl_cons, List.map_cons, List.sum_cons]
    omega
theorem prs_sum (f : Int → Nat) : ∀ cs : List Int, ((prs cs).map fun p => f p.1).sum ≤ (cs.map f).sum
  | [] => by simp [prs]
  | [c] => by simp [prs]
  | c :: d :: r => by
    have := prs_sum f (d :: r)
    simp only [prs, List.map_cons, List.sum_cons] at this ⊢
    omega
theorem crossL_cons_len (r : R4) (C : List R4) (c : Int) : (crossL (r :: C) c).length = (if r.x0 ≤ c ∧ c < r.x1 then 1 else 0) + (crossL C c).length := by
  unfold crossL
  by_cases h : r.x0 ≤ c ∧ c < r.x1
  · rw [List.filter_cons_of_pos (by simp [h.1, h.2]), if_pos h]
    simp; omega
  · rw [List.filter_cons_of_neg (by simpa using h), if_neg h]
    simp
theorem sum_add {α : Type} (f g : α → Nat) : ∀ l : List α, (l.map fun x => f x + g x).sum = (l.map f).sum + (l.map g).sum
  | [] => rfl
  | a :: l => by have := sum_add f g l; simp only [List.map_cons, List.sum_cons, this]; omega
theorem one_cut {r : R4} : ∀ {cs : List Int}, cs.Pairwise (· < ·) → (∀ c ∈ cs, r.x0 ≤ c → c < r.x1 → r.x0 = c) → (cs.map fun c => if r.x0 ≤ c ∧ c < r.x1 then 1 else 0).sum ≤ 1
  | [], _, _ => by simp
  | c :: cs, hs, h => by
    have ih := one_cut (r := r) (List.pairwise_cons.1 hs).2 (fun c hc => h c (List.mem_cons_of_mem _ hc))
    simp only [List.map_cons, List.sum_cons]
    by_cases hc : r.x0 ≤ c ∧ c < r.x1
    · have e := h c (List.mem_cons_self) hc.1 hc.2
      have hz : (cs.map fun c => if r.x0 ≤ c ∧ c < r.x1 then 1 else 0).sum = 0 := by
        rw [List.sum_eq_zero_iff_forall_eq_nat]
        intro n hn
        obtain ⟨d, hd, rfl⟩ := List.mem_map.1 hn
        have h1 := (List.pairwise_cons.1 hs).1 d hd
        rw [if_neg]
        rintro ⟨h2, h3⟩
        have := h d (List.mem_cons_of_mem _ hd) h2 h3
        omega
      rw [if_pos hc, hz]
      omega
    · rw [if_neg hc]
      omega
theorem sum_cross {cs : List Int} (hs : cs.Pairwise (· < ·)) : ∀ {C : List R4}, (∀ r ∈ C, ∀ c ∈ cs, r.x0 ≤ c → c < r.x1 → r.x0 = c) → (cs.map fun c => (crossL C c).length).sum ≤ C.length
  | [], _ => by
    have : (cs.map fun c => (crossL [] c).length).sum = 0 := by
      rw [List.sum_eq_zero_iff_forall_eq_nat]
      intro n hn
      obtain ⟨d, _, rfl⟩ := List.mem_map.1 hn
      rfl
    omega
  | r :: C, h => by
    have ih := sum_cross hs (C := C) (fun r hr => h r (List.mem_cons_of_mem _ hr))
    have h1 := one_cut hs (h r (List.mem_cons_self))
    simp only [crossL_cons_len]
    rw [sum_add]
    simp only [List.length_cons]
    omega
theorem SOK.apart : ∀ {S : List Slab}, SOK S → ∀ a ∈ S, ∀ b ∈ S, a = b ∨ a.t ≤ b.f ∨ b.t ≤ a.f
  | [], _, a, ha, _, _ => by cases ha
  | c :: S, h, a, ha, b, hb => by
    rcases List.mem_cons.1 ha with e1 | ha'
    · rcases List.mem_cons.1 hb with e2 | hb'
      · exact .inl (e1.trans e2.symm)
      · exact .inr (.inl (e1 ▸ h.after b hb'))
    · rcases List.mem_cons.1 hb with e2 | hb'
      · exact .inr (.inr (e2 ▸ h.after a ha'))
      · exact SOK.apart h.tail a ha' b hb'
theorem SOK.wide : ∀ {S : List Slab}, SOK S → ∀ a ∈ S, a.f < a.t
  | [], _, a, ha => by cases ha
  | c :: S, h, a, ha => by
    rcases List.mem_cons.1 ha with rfl | ha
    · exact h.head.1
    · exact SOK.wide h.tail a ha
theorem mem_flat {S : List Slab} {r : R4} (h : r ∈ flat S) : ∃ a ∈ S, r.x0 = a.f ∧ r.x1 = a.t := by
  obtain ⟨a, ha, h⟩ := List.mem_flatMap.1 h
  obtain ⟨p, hp, rfl⟩ := List.mem_map.1 h
  exact ⟨a, ha, rfl, rfl⟩
theorem can_cut {l : List R4} (h : RCan l) {r s : R4} (hr : r ∈ l) (hs : s ∈ l) {c : Int} (hc : c = s.x0 ∨ c = s.x1) (h1 : r.x0 ≤ c) (h2 : c < r.x1) : r.x0 = c := by
  obtain ⟨S, hS, rfl⟩ := h
  obtain ⟨a, ha, a1, a2⟩ := mem_flat hr
  obtain ⟨b, hb, b1, b2⟩ := mem_flat hs
  have w1 := hS.wide a ha
  have w2 := hS.wide b hb
  rcases hS.apart a ha b hb with rfl | h3 | h3 <;> rcases hc with rfl | rfl <;> omega
theorem sub_count {l C : List R4} (h : RCan l) (hw : ∀ r ∈ l, wf4 r) (hC : C.Sublist l) : (rjoin hFst C []).length ≤ C.length := by
  have hcs := cutsOf_ok (cutsL C)
  have hwC : ∀ r ∈ C, wf4 r := fun r hr => hw r (hC.subset hr)
  have hg : ∀ c, sjoin hFst (crossL C c) (crossL [] c) = crossL C c := fun c => by
    refine (sjoin_eq (h := hFst) rfl (crossL_wf hwC c) (by simp [crossL]) ⟨crossL_wf hwC c, (crossL_can h c).2.sublist ((hC.filter _).map _)⟩ fun x => by simp [hFst]).symm
  rw [← swp_join (h := hFst) rfl hwC (b := []) (by simp) hcs.1 (fun c hc => (hcs.2 c).2 hc) (by simp [cutsL])]
  have h1 := swp_sum_from (fun c => sjoin hFst (crossL C c) (crossL [] c)) (prs (cutsOf (cutsL C))) []
  simp only [hg] at h1
  have h2 := prs_sum (fun c => (crossL C c).length) (cutsOf (cutsL C))
  have h3 := sum_cross hcs.1 (C := C) (fun r hr c hc q1 q2 => by
    have hc2 := (hcs.2 c).1 hc
    obtain ⟨s, hs, he⟩ : ∃ s ∈ C, c = s.x0 ∨ c = s.x1 := by simpa [cutsL] using hc2
    exact can_cut h (hC.subset hr) (hC.subset hs) he q1 q2)
  have h4 : (flat ([] : List Slab)).length = 0 := rfl
  unfold swp
  simp only [hg]
  omega
theorem filterMap_at {α : Type} : ∀ l : List α, (List.range l.length).filterMap (fun j => l[j]?) = l
  | [] => rfl
  | a :: l => by
    have ih := filterMap_at l
    rw [List.length_cons, List.range_succ_eq_map, List.filterMap_cons_some (by rfl : (a :: l)[0]? = some a), List.filterMap_map]
    show a :: List.filterMap (fun j => l[j]?) (List.range l.length) = a :: l
    rw [ih]
theorem compL_sub (l : List R4) (i : Nat) : (compL l i).Sublist l := by
  have h := filterMap_at l
  have h2 : (compL l i).Sublist ((List.range l.length).filterMap (fun j => l[j]?)) := (List.filter_sublist).filterMap _
  rwa [h] at h2
end Go.Proofs.YtmnhlcbmoibahaaGreat

/- A store into a row of the call's own; the sum of a row of numbers, read off the world. -/
namespace Go.Proofs.YtmnhlcbmoibahaaGreat
open Go.RowKit
set_option linter.unusedVariables false
set_option linter.unusedSimpArgs false

theorem heap_set_same {w : World} {g j : Nat} {cur : Array Value} {e : TypeId} (h : w.heap[g]? = some (.cells cur e (0, 0))) (u : Value) : (w.setCell ⟨g, j, none⟩ u).heap[g]? = some (.cells (cur.setIfInBounds j u) e (0, 0)) := by
  simp only [World.setCell, Array.getElem?_modify, h]
  simp
theorem own_set {w : World} {base g n cap j : Nat} {e : TypeId} {xs : List Value} (h : w.ownsRow base e 1 (.slice (some ⟨g, 0, none⟩) n cap) n xs) (u : Value) : (w.setCell ⟨g, j, none⟩ u).ownsRow base e 1 (.slice (some ⟨g, 0, none⟩) n cap) n (xs.set j u) := by
  refine ⟨by rw [List.length_set]; exact h.1, ?_⟩
  rcases h.2 with ⟨hv, _⟩ | ⟨g', cap', cur, hv, hb, hg, hnc, hcm, hcs, ht⟩
  · cases hv
  · injection hv with e1 _ e3
    injection e1 with e1
    injection e1 with e1
    subst e1; subst e3
    refine .inr ⟨g, cap, cur.setIfInBounds j u, rfl, hb, heap_set_same hg u, hnc, hcm, by simpa using hcs, ?_⟩
    rw [Array.toList_setIfInBounds, List.take_set, ht]
/-- The sum of n numbers of a row. -/
def cellSum (w : World) (v : Value) (n : Nat) : Nat :=
  match v with
  | .slice (some p) _ _ => ((List.range n).map fun j => match w.cell? ⟨p.block, p.off + j, none⟩ with | some (.int _ x) => x.toNat | _ => 0).sum
  | _ => 0
theorem cellSum_own {w : World} {base : Nat} {e : TypeId} {v : Value} {l : List Int} (h : w.ownsRow base e 1 v l.length (l.map iv)) : cellSum w v l.length = (l.map Int.toNat).sum := by
  rcases h.2 with ⟨rfl, h0⟩ | ⟨g, cap, cur, rfl, hb, hg, _⟩
  · have := List.eq_nil_of_length_eq_zero h0
    subst this
    rfl
  · unfold cellSum
    show (List.map _ (List.range l.length)).sum = _
    refine congrArg List.sum ?_
    apply List.ext_getElem?
    intro k
    rw [List.getElem?_map, List.getElem?_map]
    by_cases hk : k < l.length
    · rw [List.getElem?_range hk, List.getElem?_eq_getElem hk]
      have := (h.cells (g := g) rfl) k (iv l[k]) (by simp [hk])
      rw [addr_add] at this
      simp only [Option.map_some, Nat.zero_add] at this ⊢
      rw [this]
    · rw [List.getElem?_eq_none (by simpa using hk), List.getElem?_eq_none (by omega)]
      rfl
end Go.Proofs.YtmnhlcbmoibahaaGreat

/- Plain law: labels that go down along neighbours, step by step. -/
namespace Go.Proofs.YtmnhlcbmoibahaaGreat
set_option linter.unusedVariables false
set_option linter.unusedSimpArgs false

/-- Each label names a rectangle of the component, not behind its own. -/
def Lb (l : List R4) (L : List Int) : Prop := L.length = l.length ∧ ∀ (i : Nat) x, L[i]? = some x → ∃ j : Nat, x = (j : Int) ∧ Conn l i j ∧ j ≤ i
def sumN (L : List Int) : Nat := (L.map Int.toNat).sum
/-- No label is below a neighbour's, as far as the pairs have been seen: rows before m, and row m before j. -/
def Seen (l : List R4) (L : List Int) (m j : Nat) : Prop := ∀ i k x y, adj l i k → L[i]? = some x → L[k]? = some y → (i < m ∨ (i = m ∧ k < j)) → x ≤ y
/-- Inside one pass over all pairs: something went down, or nothing yet. -/
def Pass (l : List R4) (L0 L : List Int) (mb : Bool) (m j : Nat) : Prop := Lb l L ∧ ((mb = true ∧ sumN L < sumN L0) ∨ (mb = false ∧ L = L0 ∧ Seen l L m j))
theorem sumN_set : ∀ {L : List Int} {i : Nat} {x y : Int}, L[i]? = some x → sumN (L.set i y) + x.toNat = sumN L + y.toNat
  | [], i, x, y, h => by simp at h
  | a :: L, 0, x, y, h => by
    simp at h
    subst h
    simp [sumN]; omega
  | a :: L, i + 1, x, y, h => by
    have := sumN_set (L := L) (i := i) (y := y) (by simpa using h)
    simp [sumN] at this ⊢
    omega
theorem Lb.start (l : List R4) : Lb l ((List.range l.length).map fun i : Nat => (i : Int)) := by
  refine ⟨by simp, fun i x h => ?_⟩
  rw [List.getElem?_map] at h
  obtain ⟨j, hj, rfl⟩ := Option.map_eq_some_iff.1 h
  obtain ⟨h1, h2⟩ := List.getElem?_eq_some_iff.1 hj
  simp at h2
  subst h2
  exact ⟨i, rfl, .refl, Nat.le_refl _⟩
/-- The step of a pair whose second label is smaller. -/
theorem Pass.down {l : List R4} {L0 L : List Int} {mb : Bool} {m j : Nat} {x y : Int} (h : Pass l L0 L mb m j) (ha : adj l m j) (hx : L[m]? = some x) (hy : L[j]? = some y) (hlt : y < x) : Pass l L0 (L.set m y) true m (j + 1) := by
  obtain ⟨⟨h1, h2⟩, h3⟩ := h
  obtain ⟨jy, ey, cy, _⟩ := h2 j y hy
  obtain ⟨jx, ex, cx, lx⟩ := h2 m x hx
  refine ⟨⟨by simpa using h1, fun i z hz => ?_⟩, .inl ⟨rfl, ?_⟩⟩
  · by_cases hi : m = i
    · subst hi
      have hm : m < L.length := (List.getElem?_eq_some_iff.1 hx).1
      rw [List.getElem?_set_self hm] at hz
      injection hz with hz
      subst hz
      exact ⟨jy, ey, (Conn.refl.step ha).trans cy, by omega⟩
    · rw [List.getElem?_set_ne hi] at hz
      exact h2 i z hz
  · have := sumN_set (y := y) hx
    rcases h3 with ⟨_, h3⟩ | ⟨_, rfl, _⟩ <;> omega
theorem Pass.stay {l : List R4} {L0 L : List Int} {mb : Bool} {m j : Nat} (h : Pass l L0 L mb m j) (hn : ∀ x y, adj l m j → L[m]? = some x → L[j]? = some y → x ≤ y) : Pass l L0 L mb m (j + 1) := by
  refine ⟨h.1, h.2.imp id fun ⟨a, b, c⟩ => ⟨a, b, fun i k x y ha hx hy hs => ?_⟩⟩
  by_cases e : i = m ∧ k = j
  · obtain ⟨rfl, rfl⟩ := e
    exact hn x y ha hx hy
  · exact c i k x y ha hx hy (by omega)
theorem Pass.row {l : List R4} {L0 L : List Int} {mb : Bool} {m j : Nat} (h : Pass l L0 L mb m j) (hj : l.length ≤ j) : Pass l L0 L mb (m + 1) 0 := by
  refine ⟨h.1, h.2.imp id fun ⟨a, b, c⟩ => ⟨a, b, fun i k x y ha hx hy hs => ?_⟩⟩
  have hk : k < L.length := (List.getElem?_eq_some_iff.1 hy).1
  have := h.1.1
  exact c i k x y ha hx hy (by omega)
/-- Labels of a pass that changed nothing are the least indices. -/
theorem Pass.done {l : List R4} {L0 L : List Int} {m j : Nat} (h : Pass l L0 L false m j) (hm : l.length ≤ m) : L = (List.range l.length).map fun i => ((mn l i : Nat) : Int) := by
  obtain ⟨⟨h1, h2⟩, h3⟩ := h
  obtain ⟨_, _, hs⟩ := h3.resolve_left (fun q => by cases q.1)
  have key := labels_mn (l := l) (f := fun i => ((L[i]?).getD 0).toNat) (fun i hi => by
    obtain ⟨x, hx⟩ : ∃ x, L[i]? = some x := ⟨_, List.getElem?_eq_getElem (by omega)⟩
    obtain ⟨j, rfl, c, le⟩ := h2 i x hx
    simp only [hx, Option.getD_some, Int.toNat_natCast]
    exact ⟨c, le⟩) (fun i k ha => by
    obtain ⟨x0, y0, g1, g2, _⟩ := id ha
    have hi := (List.getElem?_eq_some_iff.1 g1).1
    have hk := (List.getElem?_eq_some_iff.1 g2).1
    obtain ⟨x, hx⟩ : ∃ x, L[i]? = some x := ⟨_, List.getElem?_eq_getElem (by omega)⟩
    obtain ⟨y, hy⟩ : ∃ y, L[k]? = some y := ⟨_, List.getElem?_eq_getElem (by omega)⟩
    have := hs i k x y ha hx hy (.inl (by omega))
    simp only [hx, hy, Option.getD_some]
    omega)
  apply List.ext_getElem?
  intro i
  by_cases hi : i < l.length
  · obtain ⟨x, hx⟩ : ∃ x, L[i]? = some x := ⟨_, List.getElem?_eq_getElem (by omega)⟩
    obtain ⟨j, rfl, c, le⟩ := h2 i x hx
    have := key i hi
    simp only [hx, Option.getD_some, Int.toNat_natCast] at this
    rw [hx, List.getElem?_map, List.getElem?_range hi]
    simp [this]
  · rw [List.getElem?_eq_none (by omega), List.getElem?_eq_none (by simpa using hi)]
end Go.Proofs.YtmnhlcbmoibahaaGreat

/- The reference's Touch. -/
namespace Go.Proofs.YtmnhlcbmoibahaaGreat
open Go.RowKit
set_option linter.unusedVariables false
set_option linter.unusedSimpArgs false

end Go.Proofs.YtmnhlcbmoibahaaGreat

/- Plain law: sums over the lattice; how many points of it a list of rectangles has. -/
namespace Go.Proofs.YtmnhlcbmoibahaaGreat
set_option linter.unusedVariables false
set_option linter.unusedSimpArgs false

/-- The sum of f over lo ≤ i < lo + n. -/
def sumZ (f : Int → Int) (lo : Int) : Nat → Int
  | 0 => 0
  | n + 1 => sumZ f lo n + f (lo + n)
theorem sumZ_congr {f g : Int → Int} {lo : Int} : ∀ {n : Nat}, (∀ i, lo ≤ i → i < lo + n → f i = g i) → sumZ f lo n = sumZ g lo n
  | 0, _ => rfl
  | n + 1, h => by
    have h1 := sumZ_congr (f := f) (g := g) (lo := lo) (n := n) (fun i a b => h i a (by omega))
    have h2 := h (lo + n) (by omega) (by omega)
    simp only [sumZ, h1, h2]
theorem sumZ_add (f g : Int → Int) (lo : Int) : ∀ n : Nat, sumZ (fun i => f i + g i) lo n = sumZ f lo n + sumZ g lo n
  | 0 => rfl
  | n + 1 => by simp only [sumZ, sumZ_add f g lo n]; omega
theorem sumZ_sub (f g : Int → Int) (lo : Int) : ∀ n : Nat, sumZ (fun i => f i - g i) lo n = sumZ f lo n - sumZ g lo n
  | 0 => rfl
  | n + 1 => by simp only [sumZ, sumZ_sub f g lo n]; omega
theorem sumZ_zero (lo : Int) : ∀ n : Nat, sumZ (fun _ => 0) lo n = 0
  | 0 => rfl
  | n + 1 => by simp only [sumZ, sumZ_zero lo n]; omega
theorem sumZ_mul (c : Int) (f : Int → Int) (lo : Int) : ∀ n : Nat, sumZ (fun i => c * f i) lo n = c * sumZ f lo n
  | 0 => by simp [sumZ]
  | n + 1 => by simp only [sumZ, sumZ_mul c f lo n, Int.mul_add]
theorem sumZ_const (c : Int) (lo : Int) : ∀ n : Nat, sumZ (fun _ => c) lo n = n * c
  | 0 => by simp [sumZ]
  | n + 1 => by simp only [sumZ, sumZ_const c lo n]; rw [Int.natCast_succ, Int.add_mul]; omega
theorem sumZ_split (f : Int → Int) (lo : Int) (n : Nat) : ∀ m : Nat, sumZ f lo (n + m) = sumZ f lo n + sumZ f (lo + n) m
  | 0 => by simp [sumZ]
  | m + 1 => by
    have h := sumZ_split f lo n m
    have e : lo + ((n + m : Nat) : Int) = lo + n + m := by omega
    rw [← Nat.add_assoc]
    simp only [sumZ, h, e]
    omega
theorem sumZ_shift (f : Int → Int) (d lo : Int) : ∀ n : Nat, sumZ (fun i => f (i + d)) lo n = sumZ f (lo + d) n
  | 0 => rfl
  | n + 1 => by
    have e : lo + n + d = lo + d + n := by omega
    simp only [sumZ, sumZ_shift f d lo n, e]
theorem sumZ_le {f g : Int → Int} {lo : Int} : ∀ {n : Nat}, (∀ i, lo ≤ i → i < lo + n → f i ≤ g i) → sumZ f lo n ≤ sumZ g lo n
  | 0, _ => Int.le_refl _
  | n + 1, h => by
    have h1 := sumZ_le (f := f) (g := g) (lo := lo) (n := n) (fun i a b => h i a (by omega))
    have h2 := h (lo + n) (by omega) (by omega)
    simp only [sumZ]; omega
theorem sumZ_nonneg {f : Int → Int} {lo : Int} {n : Nat} (h : ∀ i, lo ≤ i → i < lo + n → 0 ≤ f i) : 0 ≤ sumZ f lo n := by
  have := sumZ_le (f := fun _ => 0) (g := f) (lo := lo) (n := n) h
  rwa [sumZ_zero] at this
/-- Nothing but an interval counts. -/
theorem sumZ_in (f : Int → Int) {lo a b : Int} {n : Nat} (h1 : lo ≤ a) (h2 : a ≤ b) (h3 : b ≤ lo + n) (h : ∀ i, lo ≤ i → i < lo + n → ¬ (a ≤ i ∧ i < b) → f i = 0) : sumZ f lo n = sumZ f a (b - a).toNat := by
  have e : n = (a - lo).toNat + ((b - a).toNat + (lo + n - b).toNat) := by omega
  rw [e, sumZ_split, sumZ_split]
  have e1 : lo + ((a - lo).toNat : Int) = a := by omega
  have e2 : a + ((b - a).toNat : Int) = b := by omega
  rw [e1, e2]
  have z1 : sumZ f lo (a - lo).toNat = 0 := by
    rw [← sumZ_zero lo (a - lo).toNat]
    exact sumZ_congr fun i q1 q2 => h i q1 (by omega) (by omega)
  have z2 : sumZ f b (lo + n - b).toNat = 0 := by
    rw [← sumZ_zero b (lo + n - b).toNat]
    exact sumZ_congr fun i q1 q2 => h i (by omega) (by omega) (by omega)
  omega
theorem sumZ_comm (f : Int → Int → Int) (lo mo : Int) (n : Nat) : ∀ m : Nat, sumZ (fun i => sumZ (fun j => f i j) mo m) lo n = sumZ (fun j => sumZ (fun i => f i j) lo n) mo m
  | 0 => by simp only [sumZ]; exact sumZ_zero lo n
  | m + 1 => by
    simp only [sumZ]
    rw [sumZ_add, sumZ_comm f lo mo n m]

/-- 1 where it holds. -/
def ind (p : Prop) [Decidable p] : Int := if p then 1 else 0
theorem ind_01 (p : Prop) [Decidable p] : ind p = 0 ∨ ind p = 1 := by unfold ind; split <;> simp
theorem ind_t {p : Prop} [Decidable p] (h : p) : ind p = 1 := if_pos h
theorem ind_f {p : Prop} [Decidable p] (h : ¬ p) : ind p = 0 := if_neg h
theorem ind_and (p q : Prop) [Decidable p] [Decidable q] : ind (p ∧ q) = ind p * ind q := by
  unfold ind
  by_cases hp : p <;> by_cases hq : q <;> simp [hp, hq]
theorem ind_iff {p q : Prop} [Decidable p] [Decidable q] (h : p ↔ q) : ind p = ind q := by
  unfold ind
  by_cases hp : p
  · rw [if_pos hp, if_pos (h.1 hp)]
  · rw [if_neg hp, if_neg (fun x => hp (h.2 x))]
/-- An interval's points. -/
theorem sumZ_ival {lo a b : Int} {n : Nat} (h1 : lo ≤ a) (h3 : b ≤ lo + n) : sumZ (fun i => ind (a ≤ i ∧ i < b)) lo n = max 0 (b - a) := by
  by_cases hab : a ≤ b
  · rw [sumZ_in _ h1 hab h3 (fun i _ _ h => ind_f h)]
    rw [sumZ_congr (g := fun _ => 1) (fun i q1 q2 => ind_t ⟨q1, by omega⟩), sumZ_const]
    omega
  · rw [sumZ_congr (g := fun _ => 0) (fun i q1 q2 => ind_f (by omega)), sumZ_zero]
    omega

/-- The sum over the square of the lattice from -m to m. -/
def vol (m : Nat) (f : Int → Int → Int) : Int := sumZ (fun x => sumZ (fun y => f x y) (-m) (2 * m)) (-m) (2 * m)
theorem vol_congr {m : Nat} {f g : Int → Int → Int} (h : ∀ x y, -(m : Int) ≤ x → x < m → -(m : Int) ≤ y → y < m → f x y = g x y) : vol m f = vol m g :=
  sumZ_congr fun x a b => sumZ_congr fun y c d => h x y a (by omega) c (by omega)
theorem vol_add (m : Nat) (f g : Int → Int → Int) : vol m (fun x y => f x y + g x y) = vol m f + vol m g := by
  unfold vol
  rw [← sumZ_add]
  exact sumZ_congr fun x _ _ => sumZ_add _ _ _ _
theorem vol_sub (m : Nat) (f g : Int → Int → Int) : vol m (fun x y => f x y - g x y) = vol m f - vol m g := by
  unfold vol
  rw [← sumZ_sub]
  exact sumZ_congr fun x _ _ => sumZ_sub _ _ _ _
theorem vol_zero (m : Nat) : vol m (fun _ _ => 0) = 0 := by
  unfold vol
  rw [sumZ_congr (g := fun _ => 0) (fun x _ _ => sumZ_zero _ _), sumZ_zero]
theorem vol_le {m : Nat} {f g : Int → Int → Int} (h : ∀ x y, f x y ≤ g x y) : vol m f ≤ vol m g := sumZ_le fun x _ _ => sumZ_le fun y _ _ => h x y
theorem vol_nonneg {m : Nat} {f : Int → Int → Int} (h : ∀ x y, 0 ≤ f x y) : 0 ≤ vol m f := by
  have := vol_le (m := m) (f := fun _ _ => 0) (g := f) h
  rwa [vol_zero] at this
theorem vol_one (m : Nat) : vol m (fun _ _ => 1) = (2 * m) * (2 * m) := by
  unfold vol
  rw [sumZ_congr (g := fun _ => ((2 * m : Nat) : Int)) (fun x _ _ => by rw [sumZ_const]; omega), sumZ_const]
  simp
theorem vol_bd {m : Nat} {f : Int → Int → Int} (h0 : ∀ x y, 0 ≤ f x y) (h : ∀ x y, f x y ≤ 1) : 0 ≤ vol m f ∧ vol m f ≤ (2 * m) * (2 * m) :=
  ⟨vol_nonneg h0, by rw [← vol_one]; exact vol_le h⟩
/-- What is 0 outside of a frame counts alike when it is moved inside of it. -/
theorem vol_move {m : Nat} {f : Int → Int → Int} {k : Nat} (hk : k ≤ m) (a b : Int) (ha : -(k : Int) ≤ a ∧ a ≤ k) (hb : -(k : Int) ≤ b ∧ b ≤ k)
    (h0 : ∀ x y, ¬ (-((m - k : Nat) : Int) ≤ x ∧ x < ((m - k : Nat) : Int) ∧ -((m - k : Nat) : Int) ≤ y ∧ y < ((m - k : Nat) : Int)) → f x y = 0) : vol m (fun x y => f (x + a) (y + b)) = vol m f := by
  unfold vol
  have hy : ∀ x, sumZ (fun y => f x (y + b)) (-m) (2 * m) = sumZ (fun y => f x y) (-m) (2 * m) := fun x => by
    rw [sumZ_shift (fun y => f x y) b, sumZ_in (fun y => f x y) (lo := -m) (a := -((m - k : Nat) : Int)) (b := ((m - k : Nat) : Int)) (by omega) (by omega) (by omega) (fun y _ _ h => h0 x y (by omega)),
      sumZ_in (fun y => f x y) (lo := -m + b) (a := -((m - k : Nat) : Int)) (b := ((m - k : Nat) : Int)) (by omega) (by omega) (by omega) (fun y _ _ h => h0 x y (by omega))]
  have hx : ∀ x, ¬ (-((m - k : Nat) : Int) ≤ x ∧ x < ((m - k : Nat) : Int)) → sumZ (fun y => f x y) (-m) (2 * m) = 0 := fun x h => by
    rw [sumZ_congr (g := fun _ => 0) (fun y _ _ => h0 x y (by omega)), sumZ_zero]
  rw [sumZ_congr (g := fun x => sumZ (fun y => f (x + a) y) (-m) (2 * m)) (fun x _ _ => hy (x + a)), sumZ_shift (fun x => sumZ (fun y => f x y) (-m) (2 * m)) a,
    sumZ_in (fun x => sumZ (fun y => f x y) (-m) (2 * m)) (lo := -m) (a := -((m - k : Nat) : Int)) (b := ((m - k : Nat) : Int)) (by omega) (by omega) (by omega) (fun x _ _ h => hx x h),
    sumZ_in (fun x => sumZ (fun y => f x y) (-m) (2 * m)) (lo := -m + a) (a := -((m - k : Nat) : Int)) (b := ((m - k : Nat) : Int)) (by omega) (by omega) (by omega) (fun x _ _ h => hx x h)]

/-- A rectangle's points: of any four numbers. -/
def box (r : R4) : Int := max 0 (r.x1 - r.x0) * max 0 (r.y1 - r.y0)
theorem rin_ind (r : R4) (x y : Int) : ind (rin r x y) = ind (r.x0 ≤ x ∧ x < r.x1) * ind (r.y0 ≤ y ∧ y < r.y1) := by
  rw [← ind_and]
  exact ind_iff ⟨fun h => ⟨⟨h.1, h.2.1⟩, h.2.2⟩, fun h => ⟨h.1.1, h.1.2, h.2⟩⟩
theorem vol_rect {m : Nat} {r : R4} (h1 : -(m : Int) ≤ r.x0) (h2 : r.x1 ≤ m) (h3 : -(m : Int) ≤ r.y0) (h4 : r.y1 ≤ m) : vol m (fun x y => ind (rin r x y)) = box r := by
  unfold vol
  have e : ∀ x, sumZ (fun y => ind (rin r x y)) (-m) (2 * m) = max 0 (r.y1 - r.y0) * ind (r.x0 ≤ x ∧ x < r.x1) := fun x => by
    rw [sumZ_congr (g := fun y => ind (r.x0 ≤ x ∧ x < r.x1) * ind (r.y0 ≤ y ∧ y < r.y1)) (fun y _ _ => rin_ind r x y), sumZ_mul, sumZ_ival h3 (by omega), Int.mul_comm]
  rw [sumZ_congr (fun x _ _ => e x), sumZ_mul, sumZ_ival h1 (by omega)]
  unfold box
  rw [Int.mul_comm]
/-- The common part of two rectangles, any numbers. -/
def meet4 (p q : R4) : R4 := ⟨max p.x0 q.x0, max p.y0 q.y0, min p.x1 q.x1, min p.y1 q.y1⟩
theorem rin_meet (p q : R4) (x y : Int) : rin (meet4 p q) x y ↔ rin p x y ∧ rin q x y := by
  simp only [rin, meet4]; omega
theorem ind_meet (p q : R4) (x y : Int) : ind (rin (meet4 p q) x y) = ind (rin p x y) * ind (rin q x y) := by
  rw [← ind_and]; exact ind_iff (rin_meet p q x y)
/-- How many rectangles of a list have a point. -/
def cntP (l : List R4) (x y : Int) : Int := (l.map fun r => ind (rin r x y)).sum
theorem cntP_nil (x y : Int) : cntP [] x y = 0 := rfl
theorem cntP_cons (r : R4) (l : List R4) (x y : Int) : cntP (r :: l) x y = ind (rin r x y) + cntP l x y := by simp [cntP]
theorem cntP_append (a b : List R4) (x y : Int) : cntP (a ++ b) x y = cntP a x y + cntP b x y := by simp [cntP, List.sum_append]
theorem cntP_nonneg (l : List R4) (x y : Int) : 0 ≤ cntP l x y := by
  induction l with
  | nil => simp [cntP_nil]
  | cons r l ih => rw [cntP_cons]; have := ind_01 (rin r x y); omega
/-- No two rectangles have a common point. -/
def apart4 (a b : R4) : Prop := ∀ x y, ¬ (rin a x y ∧ rin b x y)
theorem cntP_ind {l : List R4} (h : l.Pairwise apart4) (x y : Int) : cntP l x y = ind (pmem l x y) := by
  induction l with
  | nil => rw [cntP_nil, ind_f pmem_nil]
  | cons r l ih =>
    obtain ⟨h1, h2⟩ := List.pairwise_cons.1 h
    rw [cntP_cons, ih h2]
    by_cases hr : rin r x y
    · have hn : ¬ pmem l x y := fun ⟨s, hs, hx⟩ => h1 s hs x y ⟨hr, hx⟩
      rw [ind_t hr, ind_f hn, ind_t (pmem_cons.2 (.inl hr))]; rfl
    · rw [ind_f hr, Int.zero_add]
      exact ind_iff ⟨fun h => pmem_cons.2 (.inr h), fun h => (pmem_cons.1 h).resolve_left hr⟩
/-- 1 at the points of a list. -/
def one (a : List R4) (x y : Int) : Int := ind (pmem a x y)
theorem one_01 (a : List R4) (x y : Int) : one a x y = 0 ∨ one a x y = 1 := ind_01 _
/-- The rectangles of a list within a frame. -/
def inFr (m : Nat) (r : R4) : Prop := -(m : Int) ≤ r.x0 ∧ r.x1 ≤ m ∧ -(m : Int) ≤ r.y0 ∧ r.y1 ≤ m
theorem vol_cntP {m : Nat} {l : List R4} (h : ∀ r ∈ l, inFr m r) : vol m (cntP l) = (l.map box).sum := by
  induction l with
  | nil => exact vol_zero m
  | cons r l ih =>
    have e : cntP (r :: l) = fun x y => ind (rin r x y) + cntP l x y := by funext x y; exact cntP_cons r l x y
    obtain ⟨a, b, c, d⟩ := h r (by simp)
    rw [e, vol_add, ih (fun s hs => h s (by simp [hs])), vol_rect a b c d]
    simp
/-- The points that a rectangle has in common with those of a list. -/
theorem vol_rect_cnt {m : Nat} {p : R4} {b : List R4} (hp : inFr m p) : vol m (fun x y => ind (rin p x y) * cntP b x y) = (b.map fun q => box (meet4 p q)).sum := by
  induction b with
  | nil => simp only [cntP_nil, Int.mul_zero, List.map_nil, List.sum_nil]; exact vol_zero m
  | cons q b ih =>
    have e : (fun x y => ind (rin p x y) * cntP (q :: b) x y) = fun x y => ind (rin (meet4 p q) x y) + ind (rin p x y) * cntP b x y := by
      funext x y; rw [cntP_cons, Int.mul_add, ind_meet]
    obtain ⟨h1, h2, h3, h4⟩ := hp
    rw [e, vol_add, ih, vol_rect (by simp only [meet4]; omega) (by simp only [meet4]; omega) (by simp only [meet4]; omega) (by simp only [meet4]; omega)]
    simp
theorem vol_cnt_cnt {m : Nat} {a b : List R4} (ha : ∀ r ∈ a, inFr m r) : vol m (fun x y => cntP a x y * cntP b x y) = (a.map fun p => (b.map fun q => box (meet4 p q)).sum).sum := by
  induction a with
  | nil => simp only [cntP_nil, Int.zero_mul, List.map_nil, List.sum_nil]; exact vol_zero m
  | cons p a ih =>
    have e : (fun x y => cntP (p :: a) x y * cntP b x y) = fun x y => ind (rin p x y) * cntP b x y + cntP a x y * cntP b x y := by
      funext x y; rw [cntP_cons, Int.add_mul]
    rw [e, vol_add, ih (fun s hs => ha s (by simp [hs])), vol_rect_cnt (ha p (by simp))]
    simp
/-- A canonical list has each point in one rectangle. -/
theorem SCan.apart {s : List Sp} (h : SCan s) : s.Pairwise fun p q => p.2 ≤ q.1 := h.2.imp fun h => by omega
theorem flat_apart : ∀ {S : List Slab}, SOK S → (flat S).Pairwise apart4
  | [], _ => List.Pairwise.nil
  | a :: S, h => by
    have ih := flat_apart h.tail
    have e : flat (a :: S) = flat1 a ++ flat S := by simp [flat]
    rw [e, List.pairwise_append]
    refine ⟨?_, ih, fun r hr s hs x y ⟨h1, h2⟩ => ?_⟩
    · unfold flat1
      rw [List.pairwise_map]
      exact h.head.2.2.apart.imp fun {p q} hpq x y ⟨h1, h2⟩ => by
        simp only [rin] at h1 h2; omega
    · obtain ⟨p, hp, rfl⟩ := List.mem_map.1 hr
      obtain ⟨b, hb, hs⟩ := List.mem_flatMap.1 hs
      obtain ⟨q, hq, rfl⟩ := List.mem_map.1 hs
      have := h.after b hb
      simp only [rin] at h1 h2; omega
theorem RCan.apart {l : List R4} (h : RCan l) : l.Pairwise apart4 := by
  obtain ⟨S, hS, rfl⟩ := h
  exact flat_apart hS
end Go.Proofs.YtmnhlcbmoibahaaGreat
