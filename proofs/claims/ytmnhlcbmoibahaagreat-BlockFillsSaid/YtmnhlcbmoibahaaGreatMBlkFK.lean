/- Plain: the blocks of a piece of land and the streets on it: disjoint, and the land together. -/
import Derived.Test.YtmnhlcbmoibahaaGreatMWholeK
import Derived.Test.YtmnhlcbmoibahaaGreatPk13
import Derived.Test.YtmnhlcbmoibahaaGreatPk2
import Derived.Test.YtmnhlcbmoibahaaGreatPk11
namespace Go.Proofs.YtmnhlcbmoibahaaGreat
open Go.RowKit
set_option linter.unusedVariables false
set_option linter.unusedSimpArgs false

theorem area_pos {l : List R4} (h : checkF l = 0) (hne : l ≠ []) : 1 ≤ areaS l := by
  cases l with
  | nil => exact absurd rfl hne
  | cons r t =>
    have hv := (checkF_ok h).2.1
    have h1 := hv r (by simp)
    have h2 := (areaS_bd (l := t) fun q hq => hv q (by simp [hq])).1
    have h3 : 1 ≤ (r.x1 - r.x0) * (r.y1 - r.y0) := by
      obtain ⟨a, b, _⟩ := h1
      have e1 : 1 ≤ r.x1 - r.x0 := by omega
      have e2 : 1 ≤ r.y1 - r.y0 := by omega
      exact Int.le_trans e1 (by have := Int.mul_le_mul_of_nonneg_left e2 (show 0 ≤ r.x1 - r.x0 by omega); rwa [Int.mul_one] at this)
    have e : areaS (r :: t) = (r.x1 - r.x0) * (r.y1 - r.y0) + areaS t := by simp [areaS, area4]
    rw [e]
    omega
/-- What has been laid together: the streets' part and the first parts of the rest. -/
structure FillI (O R A : List R4) (n : Nat) : Prop where
  chk : checkF A = 0
  pts : ∀ x y, pmem A x y ↔ pmem O x y ∨ pmem (partU R n) x y
/-- The land, the streets, what they share, what is left. -/
structure FillH (P S O R : List R4) : Prop where
  p : checkF P = 0
  s : checkF S = 0
  o : joinF hAnd P S = (O, 0)
  r : joinF hSub P S = (R, 0)
section
variable {P S O R A : List R4} {n q : Nat}
theorem FillH.ochk (h : FillH P S O R) : checkF O = 0 := (joinZero rfl h.p h.s h.o).1
theorem FillH.rchk (h : FillH P S O R) : checkF R = 0 := (joinZero rfl h.p h.s h.r).1
theorem FillH.opts (h : FillH P S O R) (x y : Int) : pmem O x y ↔ pmem P x y ∧ pmem S x y := ((joinZero rfl h.p h.s h.o).2.2 x y).trans andP
theorem FillH.rpts (h : FillH P S O R) (x y : Int) : pmem R x y ↔ pmem P x y ∧ ¬ pmem S x y := ((joinZero rfl h.p h.s h.r).2.2 x y).trans subP
theorem FillH.start (h : FillH P S O R) : FillI O R O 0 := ⟨h.ochk, fun x y => by rw [partU_zero h.rchk]; simp [pmem_nil]⟩
theorem part_in (h : FillH P S O R) {x y : Int} (hp : pmem (partJ R q) x y) : pmem R x y := by
  obtain ⟨j, s, _, h2, h3⟩ := (partJ_pts h.rchk q x y).1 hp
  exact ⟨s, List.mem_of_getElem? h2, h3⟩
theorem FillH.meet (h : FillH P S O R) : joinF hAnd (partJ R q) S = ([], 0) := join_is rfl (partJ_check h.rchk q) h.s check_nil fun x y => by
  rw [andP]
  constructor
  · intro e; exact absurd e pmem_nil
  · rintro ⟨h1, h2⟩
    exact absurd h2 ((h.rpts x y).1 (part_in h h1)).2
theorem FillI.next (h : FillH P S O R) (hA : FillI O R A n) (hn : n ≤ q) (hb : ∀ j, n ≤ j → j < q → mn R j ≠ j) :
    joinF hOr A (partJ R q) = ([], 4) ∨ ∃ A', joinF hOr A (partJ R q) = (A', 0) ∧ FillI O R A' (q + 1) ∧ areaS A' = areaS A + areaS (partJ R q) := by
  have kj := partJ_check h.rchk q
  rcases joinTwo (h := hOr) rfl hA.chk kj with e | ⟨A', e, k, _, hp⟩
  · exact .inl e
  · have hp2 : ∀ x y, pmem A' x y ↔ pmem A x y ∨ pmem (partJ R q) x y := fun x y => (hp x y).trans orP
    refine .inr ⟨A', e, ⟨k, fun x y => ?_⟩, ?_⟩
    · have hs := (joinZero rfl (partU_check h.rchk n) kj (partU_step h.rchk hn hb)).2.2 x y
      rw [hp2, hA.pts, hs, orP, or_assoc]
    · have hsum := area_sum hA.chk kj k check_nil hp2 (fun x y => by
        constructor
        · intro e; exact absurd e pmem_nil
        · rintro ⟨h1, h2⟩
          exfalso
          rcases (hA.pts x y).1 h1 with h1 | h1
          · exact ((h.rpts x y).1 (part_in h h2)).2 ((h.opts x y).1 h1).2
          · obtain ⟨j, s, a1, a2, a3⟩ := (partU_pts h.rchk n x y).1 h1
            obtain ⟨i, t, b1, b2, b3⟩ := (partJ_pts h.rchk q x y).1 h2
            by_cases e : j = i
            · subst e; omega
            · exact apart_at (check_rcan h.rchk).apart a2 b2 e x y ⟨a3, b3⟩)
      have h0 : areaS [] = 0 := rfl
      omega
theorem FillI.done (h : FillH P S O R) (hA : FillI O R A n) (hn : ∀ j, n ≤ j → j < R.length → mn R j ≠ j) : A = P := by
  refine can_eq hA.chk h.p fun x y => ?_
  rw [hA.pts, partU_all h.rchk hn, h.opts, h.rpts]
  by_cases hs : pmem S x y <;> simp [hs]
end
/-- The streets of a few segments. -/
theorem node_near {l : List Sg} (hv : ∀ s ∈ l, okSg s) (h : ∀ s ∈ l, near35 s) {p : Pt} (hp : p ∈ nodesF l) : (-100 ≤ p.1 ∧ p.1 ≤ 100) ∧ -100 ≤ p.2 ∧ p.2 ≤ 100 := by
  obtain ⟨x, y⟩ := p
  obtain ⟨h1, h2, _⟩ := node_in hv ((nodesF_ok hv).2 _ |>.1 hp)
  unfold xsOf at h1
  unfold ysOf at h2
  obtain ⟨s, hs, h1⟩ := List.mem_flatMap.1 h1
  obtain ⟨t, ht, h2⟩ := List.mem_flatMap.1 h2
  obtain ⟨_, a1, a2, a3, a4⟩ := h s hs
  obtain ⟨_, b1, b2, b3, b4⟩ := h t ht
  simp only [List.mem_cons, List.not_mem_nil, or_false] at h1 h2
  simp only
  constructor
  · rcases h1 with rfl | rfl <;> omega
  · rcases h2 with rfl | rfl <;> omega
theorem str_made {l : List Sg} (h : ∀ s ∈ l, near35 s) (h12 : l.length ≤ 12) {d : Int} (d1 : 1 ≤ d) (d2 : d ≤ 1000) : ∃ S, strF (nodesF l) (edI (edgesF l)) d = (S, 0) ∧ checkF S = 0 ∧ ∀ x y, pmem S x y ↔ pmem (l.map (thickS d)) x y := by
  have hv := near_ok h
  have hf := few35 hv h12
  have hck := made_chk hv (by omega)
  have he := edges_len (htB l) (vtB l) (nodesF l)
  have he2 : (edI (edgesF l)).length ≤ 336 := by
    unfold edI
    rw [List.length_map]
    show (edgesG (htB l) (vtB l) (nodesF l)).length ≤ 336
    omega
  have hbd : ∀ s ∈ segsI (nodesF l) (edI (edgesF l)), (-100 ≤ s.ax ∧ s.ax ≤ 100) ∧ (-100 ≤ s.ay ∧ s.ay ≤ 100) ∧ (-100 ≤ s.cx ∧ s.cx ≤ 100) ∧ (-100 ≤ s.cy ∧ s.cy ≤ 100) := fun s hs => by
    rw [segs_drawn] at hs
    obtain ⟨e, he, rfl⟩ := List.mem_map.1 hs
    obtain ⟨e1, e2, _⟩ := (net_ok hv).edge_two he
    have n1 := node_near hv h (nd_mem (N := nodesF l) (i := e.1) (by omega))
    have n2 := node_near hv h (nd_mem (N := nodesF l) (i := e.2) e2)
    unfold sgOf
    simp only
    exact ⟨n1.1, n1.2, n2.1, n2.2⟩
  have hfit : ∀ s ∈ segsI (nodesF l) (edI (edgesF l)), fitR (thickS d s) := fun s hs => by
    have := hbd s hs
    unfold fitR thickS
    simp only
    omega
  have hval : ∀ r ∈ (segsI (nodesF l) (edI (edgesF l))).map (thickS d), valid4 r := fun r hr => by
    obtain ⟨s, hs, rfl⟩ := List.mem_map.1 hr
    have := hbd s hs
    unfold thickS valid4 fineP
    simp only
    omega
  have hE : strF (nodesF l) (edI (edgesF l)) d = makeF ((segsI (nodesF l) (edI (edgesF l))).map (thickS d)) := by
    unfold strF
    rw [if_neg (fun x => x hck), if_neg (by omega), if_neg (by omega), if_neg (fun x => x hfit)]
  obtain ⟨c1, c2⟩ := rjoin_ok (h := hFst) rfl (a := (segsI (nodesF l) (edI (edgesF l))).map (thickS d)) (fun r hr => ⟨(hval r hr).1, (hval r hr).2.1⟩) (b := []) (by simp)
  have hp : ∀ x y, pmem (rjoin hFst ((segsI (nodesF l) (edI (edgesF l))).map (thickS d)) []) x y ↔ pmem (l.map (thickS d)) x y := fun x y => by
    rw [c2]
    have e0 : hFst (decide (pmem ((segsI (nodesF l) (edI (edgesF l))).map (thickS d)) x y)) (decide (pmem [] x y)) = true ↔ pmem ((segsI (nodesF l) (edI (edgesF l))).map (thickS d)) x y := by simp [hFst]
    rw [e0, segs_drawn]
    exact str_drawn hv d1 x y
  have hcnt := can_count_of c1 hp
  rw [List.length_map] at hcnt
  have h288 : 2 * l.length * l.length ≤ 2 * 12 * 12 := Nat.mul_le_mul (by omega) h12
  refine ⟨_, ?_, can_check c1 (sub_valid (can_wf c1) hval fun x y hx => by rw [c2] at hx; simpa [hFst] using hx) (by omega), hp⟩
  have hsl : ((segsI (nodesF l) (edI (edgesF l))).map (thickS d)).length ≤ 336 := by
    unfold segsI
    rw [List.length_map, List.length_map]
    exact he2
  have hany : ((segsI (nodesF l) (edI (edgesF l))).map (thickS d)).any (fun r => !decide (valid4 r)) = false := by
    rw [List.any_eq_false]
    intro r hr
    simp [hval r hr]
  rw [hE]
  unfold makeF
  rw [if_neg (by omega), if_neg (by rw [hany]; simp)]
  unfold madeF
  rw [if_neg (by omega)]
end Go.Proofs.YtmnhlcbmoibahaaGreat
