/- Plain law: cross-sections of a canonical region; hulls; moved regions. -/
import Derived.Test.YtamnaojheecopaaRefK
import Derived.Test.YtamnaojheecopaaLookA
namespace Go.Proofs.Ytamnaojheecopaa
set_option linter.unusedVariables false
set_option linter.unusedSimpArgs false

theorem crossL_append (a b : List R4) (x : Int) : crossL (a ++ b) x = crossL a x ++ crossL b x := by simp [crossL]
theorem crossL_flat1 (a : Slab) (x : Int) : crossL (flat1 a) x = if a.f ≤ x ∧ x < a.t then a.s else [] := by
  unfold crossL flat1
  rw [List.filter_map, List.map_map]
  by_cases hx : a.f ≤ x ∧ x < a.t
  · rw [if_pos hx]
    have : (fun p : Sp => decide (a.f ≤ x) && decide (x < a.t)) = fun _ => true := by funext p; simp [hx.1, hx.2]
    show List.map _ (List.filter (fun p : Sp => decide (a.f ≤ x) && decide (x < a.t)) a.s) = _
    rw [this, List.filter_eq_self.2 (fun _ _ => rfl)]
    show List.map (fun p : Sp => (p.1, p.2)) a.s = a.s
    simp
  · rw [if_neg hx]
    have : (fun p : Sp => decide (a.f ≤ x) && decide (x < a.t)) = fun _ => false := by
      funext p
      by_cases h1 : a.f ≤ x
      · have h2 : ¬ x < a.t := fun h => hx ⟨h1, h⟩
        simp [h2]
      · simp [h1]
    show List.map _ (List.filter (fun p : Sp => decide (a.f ≤ x) && decide (x < a.t)) a.s) = _
    rw [this, List.filter_eq_nil_iff.2 (by simp)]
    rfl
theorem crossL_flat : ∀ {S : List Slab} (x : Int), SOK S → crossL (flat S) x = cr S x
  | [], x, _ => rfl
  | a :: S, x, h => by
    have e : flat (a :: S) = flat1 a ++ flat S := by simp [flat]
    rw [e, crossL_append, crossL_flat1, crossL_flat x h.tail]
    simp only [cr]
    by_cases hx : a.f ≤ x ∧ x < a.t
    · rw [if_pos hx, if_pos hx, cr_far (S := S) (fun b hb => .inl (by have := h.after b hb; omega)), List.append_nil]
    · rw [if_neg hx, if_neg hx, List.nil_append]
theorem check_rcan {l : List R4} (h : checkF l = 0) : RCan l := by
  obtain ⟨h1, h2, h3⟩ := checkF_ok h
  have hr : rjoin hFst l [] = l := by
    unfold madeF at h3
    split at h3
    · simp at h3
    · exact (Prod.mk.inj h3).1
  rw [← hr]
  exact (rjoin_ok (h := hFst) rfl (fun r hr => ⟨(h2 r hr).1, (h2 r hr).2.1⟩) (by simp)).1
theorem crossL_can {l : List R4} (h : RCan l) (x : Int) : SCan (crossL l x) := by
  obtain ⟨S, hS, rfl⟩ := h
  rw [crossL_flat x hS]
  exact cr_can x hS
/-- The reference's cross-section of a canonical region. -/
theorem ref_cross {l : List R4} (h : RCan l) (x : Int) {ys : List Int} (hs : ys.Pairwise (· < ·)) (hy : ∀ c ∈ cutsY l, c ∈ ys) : canF ys (ys.map fun y => decide (pmem l x y)) = crossL l x := by
  obtain ⟨h1, h2⟩ := refG_ok (h := hFst) rfl hs hy (b := []) (by simp [cutsY]) x
  refine h1.ext (crossL_can h x) fun y => ?_
  rw [smem_crossL]
  exact (h2 y).trans (by simp [hFst])

/-! ### Hulls -/
def hullS (h r : R4) : R4 := ⟨min h.x0 r.x0, min h.y0 r.y0, max h.x1 r.x1, max h.y1 r.y1⟩
def hullL : List R4 → R4
  | [] => ⟨0, 0, 0, 0⟩
  | r :: l => (r :: l).foldl hullS r
/-- h is the hull of the rectangles. -/
structure IsHull (l : List R4) (h : R4) : Prop where
  a0 : ∃ r ∈ l, r.x0 = h.x0
  a1 : ∃ r ∈ l, r.y0 = h.y0
  a2 : ∃ r ∈ l, r.x1 = h.x1
  a3 : ∃ r ∈ l, r.y1 = h.y1
  b : ∀ r ∈ l, h.x0 ≤ r.x0 ∧ h.y0 ≤ r.y0 ∧ r.x1 ≤ h.x1 ∧ r.y1 ≤ h.y1
theorem IsHull.step {l : List R4} {h r : R4} (hh : IsHull l h) : IsHull (l ++ [r]) (hullS h r) := by
  obtain ⟨⟨p0, q0, e0⟩, ⟨p1, q1, e1⟩, ⟨p2, q2, e2⟩, ⟨p3, q3, e3⟩, hb⟩ := hh
  refine ⟨?_, ?_, ?_, ?_, ?_⟩
  · by_cases c : h.x0 ≤ r.x0
    · exact ⟨p0, by simp [q0], by simp only [hullS]; omega⟩
    · exact ⟨r, by simp, by simp only [hullS]; omega⟩
  · by_cases c : h.y0 ≤ r.y0
    · exact ⟨p1, by simp [q1], by simp only [hullS]; omega⟩
    · exact ⟨r, by simp, by simp only [hullS]; omega⟩
  · by_cases c : r.x1 ≤ h.x1
    · exact ⟨p2, by simp [q2], by simp only [hullS]; omega⟩
    · exact ⟨r, by simp, by simp only [hullS]; omega⟩
  · by_cases c : r.y1 ≤ h.y1
    · exact ⟨p3, by simp [q3], by simp only [hullS]; omega⟩
    · exact ⟨r, by simp, by simp only [hullS]; omega⟩
  · intro q hq
    rcases List.mem_append.1 hq with hq | hq
    · have := hb q hq
      simp only [hullS]; omega
    · rw [List.mem_singleton] at hq
      subst hq
      simp only [hullS]; omega
theorem IsHull.one (r : R4) : IsHull [r] r := ⟨⟨r, by simp, rfl⟩, ⟨r, by simp, rfl⟩, ⟨r, by simp, rfl⟩, ⟨r, by simp, rfl⟩, by simp⟩
theorem hullS_self (r : R4) : hullS r r = r := by simp [hullS]
theorem hull_from : ∀ (l pre : List R4) (h : R4), IsHull pre h → IsHull (pre ++ l) (l.foldl hullS h)
  | [], pre, h, hh => by simpa using hh
  | r :: l, pre, h, hh => by
    have := hull_from l (pre ++ [r]) (hullS h r) hh.step
    simpa using this
theorem hullL_ok {l : List R4} (h : l ≠ []) : IsHull l (hullL l) := by
  cases l with
  | nil => exact absurd rfl h
  | cons r l =>
    show IsHull _ (l.foldl hullS (hullS r r))
    rw [hullS_self]
    exact hull_from l [r] r (IsHull.one r)
/-- Behind m rectangles; ahead of all, the first one. -/
def hullP (l : List R4) (m : Nat) : R4 := (l.take m).foldl hullS (l.headD ⟨0, 0, 0, 0⟩)
theorem hullP_step {l : List R4} {m : Nat} {r : R4} (h : l[m]? = some r) : hullP l (m + 1) = hullS (hullP l m) r := by
  obtain ⟨hm, hp⟩ := List.getElem?_eq_some_iff.1 h
  unfold hullP
  rw [List.take_succ_eq_append_getElem hm, hp, List.foldl_append]
  rfl
theorem hullP_all {l : List R4} {m : Nat} (hm : l.length ≤ m) : hullP l m = hullL l := by
  unfold hullP
  rw [List.take_of_length_le hm]
  cases l <;> rfl
def hullF (l : List R4) : R4 × Int := if checkF l = 0 then (if l = [] then (⟨0, 0, 0, 0⟩, 6) else (hullL l, 0)) else (⟨0, 0, 0, 0⟩, checkF l)
/-- The least and the greatest cut. -/
theorem srt_ends {l : List Int} {a b : Int} (ha : a ∈ l) (hb : b ∈ l) (h : ∀ x ∈ l, a ≤ x ∧ x ≤ b) : (srt l)[0]? = some a ∧ (srt l)[(srt l).length - 1]? = some b ∧ 0 < (srt l).length := by
  obtain ⟨h1, h2⟩ := srt_ok l
  have ha' := (h2 a).2 ha
  have hb' := (h2 b).2 hb
  have hm : ∀ x ∈ srt l, a ≤ x ∧ x ≤ b := fun x hx => h x ((h2 x).1 hx)
  generalize srt l = s at *
  have hl : 0 < s.length := List.length_pos_of_mem ha'
  have key : ∀ i (hi : i < s.length), (i = 0 → s[i] = a) ∧ (i = s.length - 1 → s[i] = b) := by
    intro i hi
    have hmi := hm s[i] (List.getElem_mem hi)
    obtain ⟨j, hj, ej⟩ := List.getElem_of_mem ha'
    obtain ⟨k, hk, ek⟩ := List.getElem_of_mem hb'
    constructor
    · intro h0
      rcases Nat.lt_trichotomy i j with g | g | g
      · have := List.pairwise_iff_getElem.1 h1 i j hi hj g; omega
      · subst g; exact ej
      · omega
    · intro h0
      rcases Nat.lt_trichotomy i k with g | g | g
      · omega
      · subst g; exact ek
      · have := List.pairwise_iff_getElem.1 h1 k i hk hi g; omega
  exact ⟨by rw [List.getElem?_eq_getElem hl, (key 0 hl).1 rfl], by rw [List.getElem?_eq_getElem (by omega), (key _ (by omega)).2 rfl], hl⟩
theorem hull_cuts {l : List R4} (hne : l ≠ []) (hw : ∀ r ∈ l, wf4 r) : ((srt (cutsL l ++ cutsL []))[0]? = some (hullL l).x0 ∧ (srt (cutsL l ++ cutsL []))[(srt (cutsL l ++ cutsL [])).length - 1]? = some (hullL l).x1 ∧ 0 < (srt (cutsL l ++ cutsL [])).length) ∧
    ((srt (cutsY l ++ cutsY []))[0]? = some (hullL l).y0 ∧ (srt (cutsY l ++ cutsY []))[(srt (cutsY l ++ cutsY [])).length - 1]? = some (hullL l).y1 ∧ 0 < (srt (cutsY l ++ cutsY [])).length) := by
  obtain ⟨⟨p0, q0, e0⟩, ⟨p1, q1, e1⟩, ⟨p2, q2, e2⟩, ⟨p3, q3, e3⟩, hb⟩ := hullL_ok hne
  have hx : cutsL l ++ cutsL [] = cutsL l := by simp [cutsL]
  have hy : cutsY l ++ cutsY [] = cutsY l := by simp [cutsY]
  rw [hx, hy]
  refine ⟨srt_ends (by rw [← e0]; exact (mem_cutsL q0).1) (by rw [← e2]; exact (mem_cutsL q2).2) fun x hx => ?_, srt_ends (by rw [← e1]; exact (mem_cutsY q1).1) (by rw [← e3]; exact (mem_cutsY q3).2) fun x hx => ?_⟩
  · obtain ⟨r, hr, hx⟩ := List.mem_flatMap.1 hx
    have h1 := hb r hr
    have h2 := hw r hr
    unfold wf4 at h2
    simp only [List.mem_cons, List.not_mem_nil, or_false] at hx
    rcases hx with rfl | rfl <;> omega
  · obtain ⟨r, hr, hx⟩ := List.mem_flatMap.1 hx
    have h1 := hb r hr
    have h2 := hw r hr
    unfold wf4 at h2
    simp only [List.mem_cons, List.not_mem_nil, or_false] at hx
    rcases hx with rfl | rfl <;> omega
theorem mv_in {x y : Int} {r : R4} (h : valid4 r) (hm : valid4 (mv x y r)) : inMv x ∧ inMv y := by
  obtain ⟨h1, h2, ⟨a, b⟩, ⟨c, d⟩, ⟨e, f⟩, ⟨g, i⟩⟩ := h
  obtain ⟨h1', h2', ⟨a', b'⟩, ⟨c', d'⟩, ⟨e', f'⟩, ⟨g', i'⟩⟩ := hm
  simp only [mv] at a' b' c' d' e' f' g' i'
  unfold inMv
  omega
theorem flip_make {l : List R4} (h : checkF l = 0) : makeF (l.map flip4) = flipF l := by
  obtain ⟨h1, h2, _⟩ := checkF_ok h
  have hf : flipF l = madeF (l.map flip4) := if_pos h
  rw [hf]
  unfold makeF
  rw [if_neg (by simp; omega)]
  have : (l.map flip4).any (fun r => !decide (valid4 r)) = false := by
    rw [List.any_eq_false]
    intro r hr
    obtain ⟨q, hq, rfl⟩ := List.mem_map.1 hr
    simp [flip_valid (h2 q hq)]
  rw [this]
  rfl
end Go.Proofs.Ytamnaojheecopaa
