/- Plain law: components are disjoint, do not touch, cannot be divided, and are the region together. -/
import Derived.Test.YtmnhlcbmoibahaaGreatMJoinK
import Derived.Test.YtmnhlcbmoibahaaGreatPk10
import Derived.Test.YtmnhlcbmoibahaaGreatPk11
namespace Go.Proofs.YtmnhlcbmoibahaaGreat
set_option linter.unusedVariables false
set_option linter.unusedSimpArgs false

/-- Two points differ by 1 in one coordinate alone. -/
def nb (x y u v : Int) : Prop := (u = x + 1 ∧ v = y) ∨ (u = x - 1 ∧ v = y) ∨ (u = x ∧ v = y + 1) ∨ (u = x ∧ v = y - 1)
/-- A way from point to point within a set. -/
inductive PW (S : Int → Int → Prop) (x y : Int) : Int → Int → Prop where
  | refl : PW S x y x y
  | step {u v u' v' : Int} : PW S x y u v → S u' v' → nb u v u' v' → PW S x y u' v'
theorem PW.trans {S : Int → Int → Prop} {x y u v a b : Int} (h : PW S x y u v) (g : PW S u v a b) : PW S x y a b := by
  induction g with
  | refl => exact h
  | step _ s n ih => exact ih.step s n
/-- Within a rectangle each point is reached. -/
theorem rect_way {S : Int → Int → Prop} {r : R4} (hS : ∀ x y, rin r x y → S x y) {x y : Int} (h1 : rin r x y) : ∀ (n : Nat) (u v : Int), rin r u v → (u - x).natAbs + (v - y).natAbs = n → PW S x y u v := by
  intro n
  induction n with
  | zero =>
    intro u v h2 he
    have e1 : u = x := by omega
    have e2 : v = y := by omega
    subst e1; subst e2
    exact .refl
  | succ n ih =>
    intro u v h2 he
    simp only [rin] at h1 h2
    by_cases c1 : x < u
    · exact (ih (u - 1) v (by simp only [rin]; omega) (by omega)).step (hS u v (by simp only [rin]; omega)) (.inl ⟨by omega, rfl⟩)
    by_cases c2 : u < x
    · exact (ih (u + 1) v (by simp only [rin]; omega) (by omega)).step (hS u v (by simp only [rin]; omega)) (.inr (.inl ⟨by omega, rfl⟩))
    by_cases c3 : y < v
    · exact (ih u (v - 1) (by simp only [rin]; omega) (by omega)).step (hS u v (by simp only [rin]; omega)) (.inr (.inr (.inl ⟨rfl, by omega⟩)))
    · exact (ih u (v + 1) (by simp only [rin]; omega) (by omega)).step (hS u v (by simp only [rin]; omega)) (.inr (.inr (.inr ⟨rfl, by omega⟩)))
theorem bsd_iff {a b : R4} : bsd a b = true ↔ (min a.x1 b.x1 - max a.x0 b.x0 = 0 ∧ 0 < min a.y1 b.y1 - max a.y0 b.y0) ∨ (0 < min a.x1 b.x1 - max a.x0 b.x0 ∧ min a.y1 b.y1 - max a.y0 b.y0 = 0) := by
  unfold bsd
  simp only [Bool.or_eq_true, Bool.and_eq_true, decide_eq_true_eq]
/-- Rectangles side by side have points side by side. -/
theorem bsd_points {a b : R4} (ha : wf4 a) (hb : wf4 b) (h : bsd a b = true) : ∃ x y u v, rin a x y ∧ rin b u v ∧ nb x y u v := by
  rw [bsd_iff] at h
  obtain ⟨a1, a2⟩ := ha
  obtain ⟨b1, b2⟩ := hb
  rcases h with ⟨h1, h2⟩ | ⟨h1, h2⟩
  · by_cases c : a.x1 = b.x0
    · exact ⟨a.x1 - 1, max a.y0 b.y0, b.x0, max a.y0 b.y0, by simp only [rin]; omega, by simp only [rin]; omega, .inl ⟨by omega, rfl⟩⟩
    · exact ⟨a.x0, max a.y0 b.y0, b.x1 - 1, max a.y0 b.y0, by simp only [rin]; omega, by simp only [rin]; omega, .inr (.inl ⟨by omega, rfl⟩)⟩
  · by_cases c : a.y1 = b.y0
    · exact ⟨max a.x0 b.x0, a.y1 - 1, max a.x0 b.x0, b.y0, by simp only [rin]; omega, by simp only [rin]; omega, .inr (.inr (.inl ⟨rfl, by omega⟩))⟩
    · exact ⟨max a.x0 b.x0, a.y0, max a.x0 b.x0, b.y1 - 1, by simp only [rin]; omega, by simp only [rin]; omega, .inr (.inr (.inr ⟨rfl, by omega⟩))⟩
theorem nb_bsd {a b : R4} (hab : apart4 a b) {x y u v : Int} (h1 : rin a x y) (h2 : rin b u v) (hn : nb x y u v) : bsd a b = true := by
  rw [bsd_iff]
  have k := hab (max a.x0 b.x0) (max a.y0 b.y0)
  simp only [rin] at h1 h2 k
  unfold nb at hn
  rcases hn with hn | hn | hn | hn
  · left; omega
  · left; omega
  · right; omega
  · right; omega
theorem apart_at {l : List R4} (h : l.Pairwise apart4) {i j : Nat} {a b : R4} (hi : l[i]? = some a) (hj : l[j]? = some b) (hne : i ≠ j) : apart4 a b := by
  obtain ⟨h1, e1⟩ := List.getElem?_eq_some_iff.1 hi
  obtain ⟨h2, e2⟩ := List.getElem?_eq_some_iff.1 hj
  have P := List.pairwise_iff_getElem.1 h
  rcases Nat.lt_or_gt_of_ne hne with hlt | hlt
  · have := P i j h1 h2 hlt; rwa [e1, e2] at this
  · have := P j i h2 h1 hlt
    rw [e1, e2] at this
    exact fun x y ⟨p, q⟩ => this x y ⟨q, p⟩
theorem nb_conn {l : List R4} (h : l.Pairwise apart4) {i j : Nat} {a b : R4} (hi : l[i]? = some a) (hj : l[j]? = some b) {x y u v : Int} (h1 : rin a x y) (h2 : rin b u v) (hn : nb x y u v) : Conn l i j := by
  by_cases e : i = j
  · subst e; exact .refl
  · exact Conn.refl.step ⟨a, b, hi, hj, nb_bsd (apart_at h hi hj e) h1 h2 hn⟩
/-- A way of points gives a way of rectangles. -/
theorem way_conn {l : List R4} (h : l.Pairwise apart4) {x y u v : Int} (hw : PW (pmem l) x y u v) {i : Nat} {a : R4} (hi : l[i]? = some a) (h1 : rin a x y) : ∀ {j : Nat} {b : R4}, l[j]? = some b → rin b u v → Conn l i j := by
  have hsame : ∀ {p q : Nat} {s t : R4} {c d : Int}, l[p]? = some s → l[q]? = some t → rin s c d → rin t c d → p = q := fun hp hq hs ht => by
    by_cases e : ∀ p q : Nat, False
    · exact (e 0 0).elim
    · rename_i p q s t c d
      by_cases e : p = q
      · exact e
      · exact absurd ⟨hs, ht⟩ (apart_at h hp hq e c d)
  induction hw with
  | refl =>
    intro j b hj hb
    have := hsame hi hj h1 hb
    subst this
    exact .refl
  | step _ s n ih =>
    intro j b hj hb
    rename_i c d c' d' hw2
    have hcd : pmem l c d := by
      cases hw2 with
      | refl => exact ⟨a, List.mem_of_getElem? hi, h1⟩
      | step _ s2 _ => exact s2
    obtain ⟨t, ht, hr⟩ := hcd
    obtain ⟨k, hk, ek⟩ := List.getElem_of_mem ht
    have hk2 : l[k]? = some t := by rw [← ek]; exact List.getElem?_eq_getElem hk
    exact (ih hk2 hr).trans (nb_conn h hk2 hj hr hb n)
/-- The points of the component of i. -/
def CS (l : List R4) (i : Nat) (x y : Int) : Prop := ∃ k s, Conn l i k ∧ l[k]? = some s ∧ rin s x y
theorem conn_way {l : List R4} (hw : ∀ r ∈ l, wf4 r) {i0 : Nat} {i j : Nat} (h0 : Conn l i0 i) (h : Conn l i j) : ∀ {a b : R4} {x y u v : Int}, l[i]? = some a → l[j]? = some b → rin a x y → rin b u v → PW (CS l i0) x y u v := by
  induction h with
  | refl =>
    intro a b x y u v h1 h2 h3 h4
    rw [h1] at h2
    injection h2 with h2
    subst h2
    exact rect_way (fun p q hp => ⟨_, _, h0, h1, hp⟩) h3 _ u v h4 rfl
  | step hc ha ih =>
    intro a b x y u v h1 h2 h3 h4
    obtain ⟨s, t, g1, g2, g3⟩ := ha
    rw [h2] at g2
    injection g2 with g2
    subst g2
    obtain ⟨p, q, p', q', k1, k2, k3⟩ := bsd_points (hw _ (List.mem_of_getElem? g1)) (hw _ (List.mem_of_getElem? h2)) g3
    have hcj := h0.trans (hc.step ⟨_, _, g1, h2, g3⟩)
    exact ((ih h1 g1 h3 k1).step ⟨_, _, hcj, h2, k2⟩ k3).trans (rect_way (fun c d hp => ⟨_, _, hcj, h2, hp⟩) k2 _ u v h4 rfl)
/-! ### the parts -/
noncomputable def partJ (l : List R4) (m : Nat) : List R4 := rjoin hFst (compL l m) []
/-- A list of rectangles of a region, made a region. -/
theorem sub_check {l C : List R4} (h : checkF l = 0) (hC : C.Sublist l) : checkF (rjoin hFst C []) = 0 ∧ ∀ x y, pmem (rjoin hFst C []) x y ↔ pmem C x y := by
  have hw : ∀ r ∈ C, wf4 r := fun r hr => check_wf h r (hC.subset hr)
  obtain ⟨h1, h2⟩ := rjoin_ok (h := hFst) rfl hw (b := []) (by simp)
  have h3 : ∀ x y, pmem (rjoin hFst C []) x y ↔ pmem C x y := fun x y => by rw [h2]; simp [hFst]
  refine ⟨can_check h1 (sub_valid (can_wf h1) (fun r hr => (checkF_ok h).2.1 r (hC.subset hr)) fun x y => (h3 x y).1) ?_, h3⟩
  have := sub_count (check_rcan h) (check_wf h) hC
  have := hC.length_le
  have := (checkF_ok h).1
  omega
theorem partJ_pts {l : List R4} (h : checkF l = 0) (m : Nat) (x y : Int) : pmem (partJ l m) x y ↔ ∃ j s, mn l j = m ∧ l[j]? = some s ∧ rin s x y := by
  unfold partJ
  rw [(sub_check h (compL_sub l m)).2]
  unfold pmem
  constructor
  · rintro ⟨r, hr, hx⟩
    obtain ⟨j, h1, h2⟩ := mem_compL.1 hr
    exact ⟨j, r, h1, h2, hx⟩
  · rintro ⟨j, s, h1, h2, hx⟩
    exact ⟨s, mem_compL.2 ⟨j, h1, h2⟩, hx⟩
theorem partJ_check {l : List R4} (h : checkF l = 0) (m : Nat) : checkF (partJ l m) = 0 := (sub_check h (compL_sub l m)).1
theorem partJ_ne {l : List R4} (h : checkF l = 0) {m : Nat} (hm : mn l m = m) (hlt : m < l.length) : partJ l m ≠ [] := by
  intro e
  obtain ⟨w1, w2⟩ := check_wf h _ (List.getElem_mem hlt)
  have : pmem (partJ l m) l[m].x0 l[m].y0 := (partJ_pts h m _ _).2 ⟨m, l[m], hm, List.getElem?_eq_getElem hlt, by simp only [rin]; omega⟩
  rw [e] at this
  exact pmem_nil this
theorem partJ_one {l : List R4} (h : checkF l = 0) {m : Nat} (hm : mn l m = m) (hlt : m < l.length) : (partsE (partJ l m)).2 = 0 ∧ (partsE (partJ l m)).1.length = 1 := by
  have hck := partJ_check h m
  have hall : ∀ i j, i < (partJ l m).length → j < (partJ l m).length → Conn (partJ l m) i j := fun i j hi hj => by
    have w1 := check_wf hck _ (List.getElem_mem hi)
    have w2 := check_wf hck _ (List.getElem_mem hj)
    have p1 : rin (partJ l m)[i] (partJ l m)[i].x0 (partJ l m)[i].y0 := by simp only [rin]; unfold wf4 at w1; omega
    have p2 : rin (partJ l m)[j] (partJ l m)[j].x0 (partJ l m)[j].y0 := by simp only [rin]; unfold wf4 at w2; omega
    obtain ⟨i', s, a1, a2, a3⟩ := (partJ_pts h m _ _).1 ⟨_, List.getElem_mem hi, p1⟩
    obtain ⟨j', t, b1, b2, b3⟩ := (partJ_pts h m _ _).1 ⟨_, List.getElem_mem hj, p2⟩
    have c1 : Conn l m i' := conn_of_mn (by rw [hm, a1])
    have c2 : Conn l i' j' := conn_of_mn (by rw [a1, b1])
    have hw := conn_way (check_wf h) c1 c2 a2 b2 a3 b3
    have hS : ∀ x y, CS l m x y → pmem (partJ l m) x y := fun x y ⟨k, s, k1, k2, k3⟩ => (partJ_pts h m x y).2 ⟨k, s, by rw [← mn_eq k1, hm], k2, k3⟩
    have hw2 : PW (pmem (partJ l m)) (partJ l m)[i].x0 (partJ l m)[i].y0 (partJ l m)[j].x0 (partJ l m)[j].y0 := by
      have key : ∀ {x y u v : Int}, PW (CS l m) x y u v → PW (pmem (partJ l m)) x y u v := fun hp => by
        induction hp with
        | refl => exact .refl
        | step _ s n ih => exact ih.step (hS _ _ s) n
      exact key hw
    exact way_conn (check_rcan hck).apart hw2 (List.getElem?_eq_getElem hi) p1 (List.getElem?_eq_getElem hj) p2
  have hne := partJ_ne h hm hlt
  have hpos : 0 < (partJ l m).length := List.length_pos_iff.2 hne
  unfold partsE
  rw [if_pos hck]
  refine ⟨rfl, ?_⟩
  show (partsF (partJ l m)).length = 1
  generalize partJ l m = J at *
  have hmn : ∀ i, i < J.length → mn J i = 0 := fun i hi => by have := mn_least (hall i 0 hi hpos); omega
  unfold partsF
  rw [List.length_map]
  have e : (List.range J.length).filter (fun i => decide (mn J i = i)) = [0] := by
    obtain ⟨n, hn⟩ : ∃ n, J.length = n + 1 := ⟨J.length - 1, by omega⟩
    rw [hn, List.range_succ_eq_map, List.filter_cons_of_pos (by simpa using hmn 0 hpos)]
    congr 1
    rw [List.filter_eq_nil_iff]
    intro i hi
    obtain ⟨k, hk, rfl⟩ := List.mem_map.1 hi
    have := hmn (k + 1) (by have := List.mem_range.1 hk; omega)
    show ¬ decide (mn J (k + 1) = k + 1) = true
    rw [this]
    simp
  rw [e]
  rfl
/-- Points of two parts are no neighbours, and none is in both. -/
theorem parts_far {l : List R4} (h : checkF l = 0) {k i : Nat} (hne : k ≠ i) {x y u v : Int} (h1 : pmem (partJ l k) x y) (h2 : pmem (partJ l i) u v) : ¬ nb x y u v ∧ ¬ (x = u ∧ y = v) := by
  obtain ⟨a, s, a1, a2, a3⟩ := (partJ_pts h k x y).1 h1
  obtain ⟨b, t, b1, b2, b3⟩ := (partJ_pts h i u v).1 h2
  have hap := (check_rcan h).apart
  refine ⟨fun hn => ?_, fun he => ?_⟩
  · have := mn_eq (nb_conn hap a2 b2 a3 b3 hn)
    omega
  · obtain ⟨rfl, rfl⟩ := he
    by_cases e : a = b
    · subst e; omega
    · exact apart_at hap a2 b2 e _ _ ⟨a3, b3⟩
theorem parts_touch {l : List R4} (h : checkF l = 0) {k i : Nat} (hne : k ≠ i) : touchF (partJ l k) (partJ l i) = (false, 0) := by
  have c1 := partJ_check h k
  have c2 := partJ_check h i
  unfold touchF
  have hb : bothF (partJ l k) (partJ l i) = 0 := by unfold bothF; rw [if_pos c1]; exact c2
  rw [if_pos hb]
  have hs : sid (partJ l k) (partJ l i) = false := by
    cases hs : sid (partJ l k) (partJ l i)
    · rfl
    · exfalso
      unfold sid at hs
      obtain ⟨p, hp, hs⟩ := List.any_eq_true.1 hs
      obtain ⟨q, hq, hs⟩ := List.any_eq_true.1 hs
      obtain ⟨x, y, u, v, g1, g2, g3⟩ := bsd_points (check_wf c1 p hp) (check_wf c2 q hq) hs
      exact (parts_far h hne ⟨p, hp, g1⟩ ⟨q, hq, g2⟩).1 g3
  rw [hs, Bool.and_false]
theorem parts_meet {l : List R4} (h : checkF l = 0) {k i : Nat} (hne : k ≠ i) : joinF hAnd (partJ l k) (partJ l i) = ([], 0) :=
  join_is rfl (partJ_check h k) (partJ_check h i) check_nil fun x y => by
    have := fun h1 h2 => (parts_far h hne (x := x) (y := y) (u := x) (v := y) h1 h2).2 ⟨rfl, rfl⟩
    by_cases h1 : pmem (partJ l k) x y <;> by_cases h2 : pmem (partJ l i) x y <;> simp [hAnd, h1, h2, pmem_nil]
    exact this h1 h2
/-- The first parts together: those of an index below n. -/
noncomputable def subU (l : List R4) (n : Nat) : List R4 := ((List.range l.length).filter fun j => decide (mn l j < n)).filterMap fun j => l[j]?
noncomputable def partU (l : List R4) (n : Nat) : List R4 := rjoin hFst (subU l n) []
theorem subU_sub (l : List R4) (n : Nat) : (subU l n).Sublist l := by
  have h := filterMap_at l
  have h2 : (subU l n).Sublist ((List.range l.length).filterMap (fun j => l[j]?)) := (List.filter_sublist).filterMap _
  rwa [h] at h2
theorem partU_check {l : List R4} (h : checkF l = 0) (n : Nat) : checkF (partU l n) = 0 := (sub_check h (subU_sub l n)).1
theorem partU_pts {l : List R4} (h : checkF l = 0) (n : Nat) (x y : Int) : pmem (partU l n) x y ↔ ∃ j s, mn l j < n ∧ l[j]? = some s ∧ rin s x y := by
  unfold partU
  rw [(sub_check h (subU_sub l n)).2]
  unfold pmem subU
  constructor
  · rintro ⟨r, hr, hx⟩
    obtain ⟨j, h1, h2⟩ := List.mem_filterMap.1 hr
    obtain ⟨_, h1⟩ := List.mem_filter.1 h1
    exact ⟨j, r, of_decide_eq_true h1, h2, hx⟩
  · rintro ⟨j, s, h1, h2, hx⟩
    exact ⟨s, List.mem_filterMap.2 ⟨j, List.mem_filter.2 ⟨List.mem_range.2 (List.getElem?_eq_some_iff.1 h2).1, decide_eq_true h1⟩, h2⟩, hx⟩
theorem partU_step {l : List R4} (h : checkF l = 0) {n m : Nat} (hn : n ≤ m) (hm : ∀ j, n ≤ j → j < m → mn l j ≠ j) : joinF hOr (partU l n) (partJ l m) = (partU l (m + 1), 0) :=
  join_is rfl (partU_check h n) (partJ_check h m) (partU_check h (m + 1)) fun x y => by
    rw [partU_pts h]
    have e : hOr (decide (pmem (partU l n) x y)) (decide (pmem (partJ l m) x y)) = true ↔ pmem (partU l n) x y ∨ pmem (partJ l m) x y := by simp [hOr]
    rw [e, partU_pts h, partJ_pts h]
    constructor
    · rintro ⟨j, s, h1, h2, h3⟩
      by_cases c : mn l j < n
      · exact .inl ⟨j, s, c, h2, h3⟩
      · by_cases c2 : mn l j = m
        · exact .inr ⟨j, s, c2, h2, h3⟩
        · exact absurd (mn_mn l j) (hm (mn l j) (by omega) (by omega))
    · rintro (⟨j, s, h1, h2, h3⟩ | ⟨j, s, h1, h2, h3⟩)
      · exact ⟨j, s, by omega, h2, h3⟩
      · exact ⟨j, s, by omega, h2, h3⟩
theorem partU_all {l : List R4} (h : checkF l = 0) {n : Nat} (hn : ∀ j, n ≤ j → j < l.length → mn l j ≠ j) : partU l n = l := by
  refine can_eq (partU_check h n) h fun x y => ?_
  rw [partU_pts h]
  unfold pmem
  constructor
  · rintro ⟨j, s, _, h2, h3⟩
    exact ⟨s, List.mem_of_getElem? h2, h3⟩
  · rintro ⟨s, hs, h3⟩
    obtain ⟨j, hj, e⟩ := List.getElem_of_mem hs
    refine ⟨j, s, ?_, by rw [← e]; exact List.getElem?_eq_getElem hj, h3⟩
    apply Classical.byContradiction
    intro c
    exact hn (mn l j) (by omega) (by have := mn_le l j; omega) (mn_mn l j)
theorem partU_zero {l : List R4} (h : checkF l = 0) : partU l 0 = [] := by
  refine can_eq (partU_check h 0) check_nil fun x y => ?_
  rw [partU_pts h]
  constructor
  · rintro ⟨_, _, h1, _⟩; omega
  · intro h1; exact absurd h1 pmem_nil
/-- The indexes of the parts. -/
noncomputable def ids (l : List R4) : List Nat := (List.range l.length).filter fun i => decide (mn l i = i)
theorem ids_parts (l : List R4) : partsF l = (ids l).map (partJ l) := rfl
theorem ids_sorted (l : List R4) : (ids l).Pairwise (· < ·) := List.Pairwise.sublist List.filter_sublist List.pairwise_lt_range
theorem mem_ids {l : List R4} {m : Nat} : m ∈ ids l ↔ m < l.length ∧ mn l m = m := by
  unfold ids
  rw [List.mem_filter, List.mem_range, decide_eq_true_eq]
/-- One more than the index of the part before, where the k-th one begins. -/
noncomputable def low (l : List R4) (k : Nat) : Nat := match (ids l)[k - 1]?, k with | some m, _ + 1 => m + 1 | _, _ => 0
/-- The first i parts are those below n. -/
def Cut (l : List R4) (i n : Nat) : Prop := (∀ a ∈ (ids l).take i, a < n) ∧ ∀ a ∈ (ids l).drop i, n ≤ a
theorem Cut.start (l : List R4) : Cut l 0 0 := ⟨by simp, fun a _ => Nat.zero_le a⟩
theorem Cut.next {l : List R4} {i n m : Nat} (h : Cut l i n) (hm : (ids l)[i]? = some m) : n ≤ m ∧ (∀ j, n ≤ j → j < m → mn l j ≠ j) ∧ Cut l (i + 1) (m + 1) := by
  obtain ⟨hi, e⟩ := List.getElem?_eq_some_iff.1 hm
  have hd : m ∈ (ids l).drop i := by
    rw [List.drop_eq_getElem_cons hi, e]
    exact List.mem_cons_self
  have hs := List.pairwise_iff_getElem.1 (ids_sorted l)
  have hmi : m ∈ ids l := by rw [← e]; exact List.getElem_mem hi
  have hnm := h.2 m hd
  refine ⟨hnm, fun j h1 h2 hj => ?_, fun a ha => ?_, fun a ha => ?_⟩
  · have hjm : j ∈ ids l := mem_ids.2 ⟨by have := (mem_ids.1 hmi).1; omega, hj⟩
    obtain ⟨k, hk, ek⟩ := List.getElem_of_mem hjm
    by_cases hki : k < i
    · have : j ∈ (ids l).take i := by
        rw [List.mem_take_iff_getElem]
        exact ⟨k, by omega, ek⟩
      have := h.1 j this
      omega
    · by_cases hki2 : k = i
      · subst hki2; omega
      · have := hs i k hi hk (by omega)
        omega
  · rw [List.take_succ_eq_append_getElem hi, List.mem_append] at ha
    rcases ha with ha | ha
    · have := h.1 a ha; omega
    · rw [List.mem_singleton, e] at ha; omega
  · obtain ⟨k, hk, ek⟩ := List.getElem_of_mem ha
    rw [List.getElem_drop] at ek
    have := hs i (i + 1 + k) hi (by rw [List.length_drop] at hk; omega) (by omega)
    omega
theorem Cut.done {l : List R4} {n : Nat} (h : Cut l (ids l).length n) : ∀ j, n ≤ j → j < l.length → mn l j ≠ j := fun j h1 h2 hj => by
  have := h.1 j (by rw [List.take_length]; exact mem_ids.2 ⟨h2, hj⟩)
  omega
end Go.Proofs.YtmnhlcbmoibahaaGreat
