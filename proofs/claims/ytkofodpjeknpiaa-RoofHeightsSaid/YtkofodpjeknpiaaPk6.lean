/- Texts laid together: MAlg, MLots, MRoof, RoofA, RoofB, RdLit, RoofC, RoofD, Row, Open. Lemmas for the statements of this seat; no condition. -/
import Derived.Test.YtkofodpjeknpiaaPk5
import Derived.Test.YtkofodpjeknpiaaPk1
import Derived.Test.YtkofodpjeknpiaaPk3
import Derived.Test.YtkofodpjeknpiaaPk2
import Derived.Shelf.SlSorted.Search
import Derived.ProofKit
import Derived.Lib.SmallJoins
import Derived.Deep.Slices
import Derived.Deep.Fields
import Derived.ChangeSame

/- Plain law: what makes a list a region; joins of regions are regions; areas count points. -/
namespace Go.Proofs.Ytkofodpjeknpiaa
set_option linter.unusedVariables false
set_option linter.unusedSimpArgs false

theorem can_wf {l : List R4} (h : RCan l) : ∀ r ∈ l, wf4 r := by
  obtain ⟨S, hS, rfl⟩ := h
  intro r hr
  obtain ⟨a, ha, hr⟩ := List.mem_flatMap.1 hr
  obtain ⟨p, hp, rfl⟩ := List.mem_map.1 hr
  have := hS.all a ha
  exact ⟨this.1, this.2.2.1 p hp⟩
/-- A list whose points belong to valid rectangles has valid rectangles. -/
theorem sub_valid {l m : List R4} (hl : ∀ r ∈ l, wf4 r) (hm : ∀ r ∈ m, valid4 r) (h : ∀ x y, pmem l x y → pmem m x y) : ∀ r ∈ l, valid4 r := by
  intro r hr
  obtain ⟨w1, w2⟩ := hl r hr
  obtain ⟨s, hs, h1⟩ := h r.x0 r.y0 ⟨r, hr, by simp only [rin]; omega⟩
  obtain ⟨t, ht, h2⟩ := h (r.x1 - 1) (r.y1 - 1) ⟨r, hr, by simp only [rin]; omega⟩
  have v1 := hm s hs
  have v2 := hm t ht
  simp only [rin, valid4, fineP] at h1 h2 v1 v2 ⊢
  omega
theorem made_self {l : List R4} (hc : RCan l) : rjoin hFst l [] = l :=
  (rjoin_eq (h := hFst) rfl (can_wf hc) (by simp) hc fun x y => by simp [hFst]).symm
theorem can_check {l : List R4} (hc : RCan l) (hv : ∀ r ∈ l, valid4 r) (hn : l.length ≤ 400) : checkF l = 0 := by
  have ha : l.any (fun r => !decide (valid4 r)) = false := by
    rw [List.any_eq_false]
    intro r hr
    simp [hv r hr]
  rw [checkF_valid (by omega) ha, if_pos (made_self hc)]
theorem check_frame {l : List R4} (h : checkF l = 0) {m : Nat} (hm : 1000000 ≤ m) : ∀ r ∈ l, inFr m r := fun r hr => by
  have := (checkF_ok h).2.1 r hr
  simp only [valid4, fineP, inFr] at this ⊢
  omega
theorem join_pts {h : Bool → Bool → Bool} (h0 : h false false = false) {a b : List R4} (ha : checkF a = 0) (hb : checkF b = 0) (x y : Int) : pmem (rjoin h a b) x y ↔ h (decide (pmem a x y)) (decide (pmem b x y)) = true :=
  (rjoin_ok h0 (check_wf ha) (check_wf hb)).2 x y
theorem join_check {h : Bool → Bool → Bool} (h0 : h false false = false) {a b : List R4} (ha : checkF a = 0) (hb : checkF b = 0) (hn : (rjoin h a b).length ≤ 400) : checkF (rjoin h a b) = 0 := by
  have hc := (rjoin_ok h0 (check_wf ha) (check_wf hb)).1
  refine can_check hc (sub_valid (m := a ++ b) (can_wf hc) (fun r hr => ?_) fun x y hx => ?_) hn
  · rcases List.mem_append.1 hr with hr | hr
    · exact (checkF_ok ha).2.1 r hr
    · exact (checkF_ok hb).2.1 r hr
  · rw [join_pts h0 ha hb] at hx
    rw [pmem_append]
    by_cases p1 : pmem a x y
    · exact .inl p1
    · by_cases p2 : pmem b x y
      · exact .inr p2
      · rw [decide_eq_false p1, decide_eq_false p2, h0] at hx; cases hx
theorem joinF_ok {h : Bool → Bool → Bool} {a b : List R4} (ha : checkF a = 0) (hb : checkF b = 0) : joinF h a b = if 400 < (rjoin h a b).length then ([], 4) else (rjoin h a b, 0) := by
  have : bothF a b = 0 := by unfold bothF; rw [if_pos ha]; exact hb
  unfold joinF
  rw [if_pos this]
theorem can_eq {a b : List R4} (ha : checkF a = 0) (hb : checkF b = 0) (h : ∀ x y, pmem a x y ↔ pmem b x y) : a = b := (check_rcan ha).ext (check_rcan hb) h
theorem area_vol {l : List R4} (h : checkF l = 0) {m : Nat} (hm : 1000000 ≤ m) : areaS l = vol m (one l) := by
  have e : vol m (one l) = vol m (cntP l) := vol_congr fun x y _ _ _ _ => (cntP_ind (check_rcan h).apart x y).symm
  rw [e, vol_cntP (check_frame h hm)]
  unfold areaS
  congr 1
  refine List.map_congr_left fun r hr => ?_
  obtain ⟨w1, w2⟩ := check_wf h r hr
  unfold area4 box
  rw [Int.max_eq_right (by omega), Int.max_eq_right (by omega)]
/-- The areas of the union and of the common part. -/
theorem area_sum {a b u c : List R4} (ha : checkF a = 0) (hb : checkF b = 0) (hu : checkF u = 0) (hc : checkF c = 0) (pu : ∀ x y, pmem u x y ↔ pmem a x y ∨ pmem b x y) (pc : ∀ x y, pmem c x y ↔ pmem a x y ∧ pmem b x y) : areaS u + areaS c = areaS a + areaS b := by
  obtain ⟨m, hm⟩ : ∃ m : Nat, m = 1000000 := ⟨_, rfl⟩
  rw [area_vol ha (m := m) (by omega), area_vol hb (m := m) (by omega), area_vol hu (m := m) (by omega), area_vol hc (m := m) (by omega), ← vol_add, ← vol_add]
  refine vol_congr fun x y _ _ _ _ => ?_
  unfold one
  rw [ind_iff (pu x y), ind_iff (pc x y)]
  unfold ind
  by_cases h1 : pmem a x y <;> by_cases h2 : pmem b x y <;> simp [h1, h2]
end Go.Proofs.Ytkofodpjeknpiaa

/- Plain: how many points of a rectangle a canonical region has; the front of a rectangle; what is reached. -/
namespace Go.Proofs.Ytkofodpjeknpiaa
open Go.RowKit
set_option linter.unusedVariables false
set_option linter.unusedSimpArgs false

/-- The points next to a side. -/
def besF (r : R4) (i : Nat) : R4 := match i with
  | 0 => ⟨r.x0 - 1, r.y0, r.x0, r.y1⟩
  | 1 => ⟨r.x1, r.y0, r.x1 + 1, r.y1⟩
  | 2 => ⟨r.x0, r.y0 - 1, r.x1, r.y0⟩
  | _ => ⟨r.x0, r.y1, r.x1, r.y1 + 1⟩
def onQ (r q : R4) : Int := if 0 < min r.x1 q.x1 - max r.x0 q.x0 ∧ 0 < min r.y1 q.y1 - max r.y0 q.y0 then (min r.x1 q.x1 - max r.x0 q.x0) * (min r.y1 q.y1 - max r.y0 q.y0) else 0
def onF (r : R4) (s : List R4) : Int := (s.map (onQ r)).sum
def arQ (r : R4) : Int := (r.x1 - r.x0) * (r.y1 - r.y0)
def bitF (r : R4) (s : List R4) (i : Nat) : Bool := decide (onF (besF r i) s = arQ (besF r i))
def frF (r : R4) (s : List R4) : Int := (if bitF r s 0 = true then 1 else 0) + (if bitF r s 1 = true then 2 else 0) + (if bitF r s 2 = true then 4 else 0) + (if bitF r s 3 = true then 8 else 0)
theorem onQ_box (r q : R4) : onQ r q = box (meet4 r q) := by
  unfold onQ box meet4
  simp only
  by_cases h : 0 < min r.x1 q.x1 - max r.x0 q.x0 ∧ 0 < min r.y1 q.y1 - max r.y0 q.y0
  · rw [if_pos h, show max 0 (min r.x1 q.x1 - max r.x0 q.x0) = min r.x1 q.x1 - max r.x0 q.x0 by omega, show max 0 (min r.y1 q.y1 - max r.y0 q.y0) = min r.y1 q.y1 - max r.y0 q.y0 by omega]
  · rw [if_neg h]
    by_cases h1 : 0 < min r.x1 q.x1 - max r.x0 q.x0
    · rw [show max 0 (min r.y1 q.y1 - max r.y0 q.y0) = 0 by omega, Int.mul_zero]
    · rw [show max 0 (min r.x1 q.x1 - max r.x0 q.x0) = 0 by omega, Int.zero_mul]
theorem bes_wf {r : R4} (h : wf4 r) (i : Nat) : wf4 (besF r i) := by
  obtain ⟨h1, h2⟩ := h
  unfold besF wf4
  split <;> (simp only; omega)
theorem bes_fr {m : Nat} {r : R4} (h : inFr m r) (i : Nat) (hw : wf4 r) : inFr (m + 1) (besF r i) := by
  obtain ⟨h1, h2⟩ := hw
  unfold besF inFr at *
  split <;> (simp only; omega)
theorem onF_vol {m : Nat} {r : R4} {s : List R4} (hr : inFr m r) (hs : s.Pairwise apart4) : onF r s = vol m (fun x y => ind (rin r x y) * one s x y) := by
  have e : onF r s = (s.map fun q => box (meet4 r q)).sum := by
    unfold onF
    congr 1
    exact List.map_congr_left fun q _ => onQ_box r q
  rw [e, ← vol_rect_cnt hr]
  exact vol_congr fun x y _ _ _ _ => by rw [cntP_ind hs]; rfl
theorem arQ_box {r : R4} (h : wf4 r) : arQ r = box r := by
  unfold arQ box
  obtain ⟨h1, h2⟩ := h
  rw [Int.max_eq_right (by omega), Int.max_eq_right (by omega)]
theorem arQ_vol {m : Nat} {r : R4} (hr : inFr m r) (h : wf4 r) : arQ r = vol m (fun x y => ind (rin r x y)) := by
  obtain ⟨h1, h2, h3, h4⟩ := hr
  rw [arQ_box h, vol_rect h1 h2 h3 h4]
/-- What the reference counts. -/
theorem on_ref {m : Nat} {r : R4} {s : List R4} (hr : inFr m r) (hw : wf4 r) (hs : RCan s) (hf : ∀ q ∈ s, inFr m q) : ((rjoin hAnd [r] s).map arQ).sum = onF r s := by
  have h1 : ∀ q ∈ [r], wf4 q := fun q hq => by rw [List.mem_singleton] at hq; subst hq; exact hw
  obtain ⟨hc, hp⟩ := rjoin_ok (h := hAnd) rfl h1 (can_wf hs)
  have hin : ∀ q ∈ rjoin hAnd [r] s, inFr m q := fun q hq => by
    have hq' := can_wf hc q hq
    have a1 : pmem (rjoin hAnd [r] s) q.x0 q.y0 := ⟨q, hq, by unfold rin; unfold wf4 at hq'; omega⟩
    have a2 : pmem (rjoin hAnd [r] s) (q.x1 - 1) (q.y1 - 1) := ⟨q, hq, by unfold rin; unfold wf4 at hq'; omega⟩
    rw [hp] at a1 a2
    simp only [hAnd, Bool.and_eq_true, decide_eq_true_eq] at a1 a2
    obtain ⟨⟨p, hp1, hp2⟩, _⟩ := a1
    obtain ⟨⟨p', hp1', hp2'⟩, _⟩ := a2
    rw [List.mem_singleton] at hp1 hp1'
    subst hp1; subst hp1'
    unfold rin at hp2 hp2'
    unfold inFr at hr ⊢
    omega
  have e : ((rjoin hAnd [r] s).map arQ).sum = ((rjoin hAnd [r] s).map box).sum := by
    congr 1
    exact List.map_congr_left fun q hq => arQ_box (can_wf hc q hq)
  rw [e, ← vol_cntP hin, onF_vol hr hs.apart]
  refine vol_congr fun x y _ _ _ _ => ?_
  rw [cntP_ind hc.apart]
  unfold one
  rw [← ind_and]
  refine ind_iff ?_
  rw [hp]
  simp [hAnd, pmem]
  intro _
  exact decide_eq_true_iff
theorem sumZ_all {f : Int → Int} {lo : Int} : ∀ {n : Nat}, (∀ i, lo ≤ i → i < lo + n → 0 ≤ f i) → sumZ f lo n = 0 → ∀ i, lo ≤ i → i < lo + n → f i = 0
  | 0, _, _, i, a, b => by omega
  | n + 1, h, e, i, a, b => by
    have h0 := sumZ_nonneg (f := f) (lo := lo) (n := n) fun i a b => h i a (by omega)
    have h1 := h (lo + n) (by omega) (by omega)
    have e' : sumZ f lo n + f (lo + n) = 0 := e
    by_cases hi : i < lo + n
    · exact sumZ_all (fun i a b => h i a (by omega)) (by omega) i a hi
    · have : i = lo + n := by omega
      subst this
      omega
theorem vol_all {m : Nat} {f : Int → Int → Int} (h : ∀ x y, 0 ≤ f x y) (e : vol m f = 0) : ∀ x y, -(m : Int) ≤ x → x < m → -(m : Int) ≤ y → y < m → f x y = 0 := fun x y a b c d =>
  sumZ_all (fun j _ _ => h x j) (sumZ_all (fun i _ _ => sumZ_nonneg fun j _ _ => h i j) e x a (by omega)) y c (by omega)
/-- A rectangle is full exactly if the region has all its points. -/
theorem full_iff {m : Nat} {r : R4} {s : List R4} (hr : inFr m r) (hw : wf4 r) (hs : s.Pairwise apart4) : onF r s = arQ r ↔ ∀ x y, rin r x y → pmem s x y := by
  rw [onF_vol hr hs, arQ_vol hr hw]
  constructor
  · intro e x y hx
    have e' : vol m (fun x y => ind (rin r x y) - ind (rin r x y) * one s x y) = 0 := by rw [vol_sub, e]; omega
    have hz := vol_all (m := m) (fun x y => by
      rcases one_01 s x y with h | h <;> rcases ind_01 (rin r x y) with g | g <;> simp [h, g]) e' x y (by unfold inFr at hr; unfold rin at hx; omega) (by unfold inFr at hr; unfold rin at hx; omega) (by unfold inFr at hr; unfold rin at hx; omega) (by unfold inFr at hr; unfold rin at hx; omega)
    rw [ind_t hx] at hz
    by_cases hp : pmem s x y
    · exact hp
    · have : one s x y = 0 := ind_f hp
      rw [this] at hz
      omega
  · intro h
    refine vol_congr fun x y _ _ _ _ => ?_
    by_cases hx : rin r x y
    · have : one s x y = 1 := ind_t (h x y hx)
      rw [this, Int.mul_one]
    · rw [ind_f hx, Int.zero_mul]
theorem onQ_bd (r q : R4) (h1 : r.x1 - r.x0 ≤ 2000000) (h2 : r.y1 - r.y0 ≤ 2000000) : 0 ≤ onQ r q ∧ onQ r q ≤ 4000000000000 := by
  unfold onQ
  split
  · rename_i h
    obtain ⟨a, b⟩ := h
    refine ⟨Int.mul_nonneg (by omega) (by omega), ?_⟩
    have := Int.mul_le_mul (show min r.x1 q.x1 - max r.x0 q.x0 ≤ 2000000 by omega) (show min r.y1 q.y1 - max r.y0 q.y0 ≤ 2000000 by omega) (by omega) (by omega)
    omega
  · omega
theorem onF_bd {r : R4} (h1 : r.x1 - r.x0 ≤ 2000000) (h2 : r.y1 - r.y0 ≤ 2000000) : ∀ (s : List R4), 0 ≤ onF r s ∧ onF r s ≤ 4000000000000 * s.length
  | [] => by simp [onF]
  | q :: s => by
    have := onF_bd h1 h2 s
    have hq := onQ_bd r q h1 h2
    simp only [onF, List.map_cons, List.sum_cons, List.length_cons] at this ⊢
    omega
/-- What is reached: over the sides of a front. -/
def rchF (l : Lot5) (s : List R4) : Int := (if hasS l.f 1 = true then onF (besF l.r 0) s else 0) + (if hasS l.f 2 = true then onF (besF l.r 1) s else 0) + (if hasS l.f 4 = true then onF (besF l.r 2) s else 0) + (if hasS l.f 8 = true then onF (besF l.r 3) s else 0)
theorem bits4 : ∀ a b c d : Bool, let f : Int := (if a = true then 1 else 0) + (if b = true then 2 else 0) + (if c = true then 4 else 0) + (if d = true then 8 else 0)
    hasS f 1 = a ∧ hasS f 2 = b ∧ hasS f 4 = c ∧ hasS f 8 = d ∧ 0 ≤ f ∧ f ≤ 15 := by decide
theorem fr_has (r : R4) (s : List R4) : hasS (frF r s) 1 = bitF r s 0 ∧ hasS (frF r s) 2 = bitF r s 1 ∧ hasS (frF r s) 4 = bitF r s 2 ∧ hasS (frF r s) 8 = bitF r s 3 ∧ 0 ≤ frF r s ∧ frF r s ≤ 15 := bits4 _ _ _ _
theorem onF_take {r q : R4} {s : List R4} {m : Nat} (h : s[m]? = some q) : onF r (s.take (m + 1)) = onF r (s.take m) + onQ r q := by
  unfold onF
  rw [List.take_add_one, h, List.map_append, List.sum_append]
  simp
end Go.Proofs.Ytkofodpjeknpiaa

/- Plain: the height of a roof: the square that fits, and the distance from what is missing. -/
namespace Go.Proofs.Ytkofodpjeknpiaa
open Go.RowKit
set_option linter.unusedVariables false
set_option linter.unusedSimpArgs false

def dbl (r : R4) : R4 := ⟨2 * r.x0, 2 * r.y0, 2 * r.x1, 2 * r.y1⟩
def sqr (x y d : Int) : R4 := ⟨x - d, y - d, x + d, y + d⟩
/-- The covered area, by twice the coordinates. -/
def covF (l : List R4) (x y d : Int) : Int := onF (sqr x y d) (l.map dbl)
def notF (l : List R4) (x y : Int) (i : Nat) : Bool := decide (covF l x y ((i : Int) + 1) < 2 * ((i : Int) + 1) * (2 * ((i : Int) + 1)))
def heightF (l : List R4) (x y : Int) : Nat := (List.range 2000001).countP fun i => !notF l x y i
def cellM (l : List R4) (p q : Int × Int) : Option R4 := if pmem l p.1 q.1 then none else some ⟨p.1, q.1, p.2, q.2⟩
def colM (l : List R4) (ys : List Int) (p : Int × Int) : List R4 := (prs ys).filterMap (cellM l p)
def ringM (a b c d : Int) : List R4 := [⟨-4000000, -4000000, a, 4000000⟩, ⟨c, -4000000, 4000000, 4000000⟩, ⟨-4000000, -4000000, 4000000, b⟩, ⟨-4000000, d, 4000000, 4000000⟩]
def missG (l : List R4) (xs ys : List Int) : List R4 := if xs.length = 0 then [⟨-4000000, -4000000, 4000000, 4000000⟩] else
  (prs xs).flatMap (colM l ys) ++ ringM (xs.getD 0 0) (ys.getD 0 0) (xs.getD (xs.length - 1) 0) (ys.getD (ys.length - 1) 0)
def missF (l : List R4) : List R4 := missG l (srt (cutsL l)) (srt (cutsY l))
def highQ (m : R4) (x y : Int) : Int := max (max (max (max 0 (2 * m.x0 - x)) (x - 2 * m.x1)) (2 * m.y0 - y)) (y - 2 * m.y1)
def highF (ms : List R4) (x y : Int) : Int := ms.foldl (fun b m => min b (highQ m x y)) 8000000
theorem high_from (x y d : Int) : ∀ (ms : List R4) (b : Int), ms.foldl (fun b m => min b (highQ m x y)) b ≤ d ↔ b ≤ d ∨ ∃ m ∈ ms, highQ m x y ≤ d
  | [], b => by simp
  | m :: ms, b => by
    rw [List.foldl_cons, high_from x y d ms]
    simp only [List.mem_cons]
    constructor
    · rintro (h | ⟨q, hq, h⟩)
      · by_cases hb : b ≤ d
        · exact .inl hb
        · exact .inr ⟨m, .inl rfl, by omega⟩
      · exact .inr ⟨q, .inr hq, h⟩
    · rintro (h | ⟨q, rfl | hq, h⟩)
      · exact .inl (by omega)
      · exact .inl (by omega)
      · exact .inr ⟨q, hq, h⟩
theorem high_le {ms : List R4} {x y d : Int} (hd : d < 8000000) : highF ms x y ≤ d ↔ ∃ m ∈ ms, highQ m x y ≤ d := by
  unfold highF
  rw [high_from]
  constructor
  · rintro (h | h)
    · omega
    · exact h
  · exact .inr
theorem high_nn (x y : Int) : ∀ (ms : List R4) (b : Int), 0 ≤ b → 0 ≤ ms.foldl (fun b m => min b (highQ m x y)) b
  | [], b, h => h
  | m :: ms, b, h => by
    rw [List.foldl_cons]
    refine high_nn x y ms _ ?_
    have : 0 ≤ highQ m x y := by unfold highQ; omega
    omega
theorem high_bd (x y : Int) : ∀ (ms : List R4) (b : Int), ms.foldl (fun b m => min b (highQ m x y)) b ≤ b
  | [], b => Int.le_refl _
  | m :: ms, b => by
    rw [List.foldl_cons]
    have := high_bd x y ms (min b (highQ m x y))
    omega
/-- A strictly ordered list's pairs hold every number between its ends. -/
theorem prs_at : ∀ (cs : List Int), cs.Pairwise (· < ·) → ∀ x : Int, 0 < cs.length → cs.getD 0 0 ≤ x → x < cs.getD (cs.length - 1) 0 → ∃ p ∈ prs cs, p.1 ≤ x ∧ x < p.2
  | [], _, _, h, _, _ => absurd h (by simp)
  | [a], _, x, _, h1, h2 => by simp at h1 h2; omega
  | a :: b :: cs, hs, x, _, h1, h2 => by
    by_cases hb : x < b
    · exact ⟨(a, b), by simp [prs], by simpa using h1, hb⟩
    · obtain ⟨p, hp, h⟩ := prs_at (b :: cs) (List.pairwise_cons.1 hs).2 x (by simp) (by simp; omega) (by simpa using h2)
      exact ⟨p, by simp only [prs, List.mem_cons]; exact .inr hp, h⟩
theorem prs_gap2 : ∀ {cs : List Int}, cs.Pairwise (· < ·) → ∀ p ∈ prs cs, p.1 < p.2 ∧ p.1 ∈ cs ∧ p.2 ∈ cs ∧ ∀ e ∈ cs, e ≤ p.1 ∨ p.2 ≤ e
  | [], _, p, hp => by simp [prs] at hp
  | [a], _, p, hp => by simp [prs] at hp
  | a :: b :: cs, hs, p, hp => by
    obtain ⟨h1, h2⟩ := List.pairwise_cons.1 hs
    simp only [prs, List.mem_cons] at hp
    rcases hp with rfl | hp
    · refine ⟨h1 b (by simp), by simp, by simp, fun e he => ?_⟩
      rcases List.mem_cons.1 he with rfl | he
      · exact .inl (Int.le_refl _)
      · right
        rcases List.mem_cons.1 he with rfl | he
        · exact Int.le_refl _
        · exact Int.le_of_lt ((List.pairwise_cons.1 h2).1 e he)
    · obtain ⟨g1, g2, g3, g4⟩ := prs_gap2 h2 p (by simpa [prs] using hp)
      refine ⟨g1, List.mem_cons_of_mem _ g2, List.mem_cons_of_mem _ g3, fun e he => ?_⟩
      rcases List.mem_cons.1 he with rfl | he
      · exact .inl (Int.le_of_lt (h1 p.1 g2))
      · exact g4 e he
theorem pmem_sameX {l : List R4} {cs : List Int} (hcs : ∀ c ∈ cutsL l, c ∈ cs) {c d x y : Int} (hgap : ∀ e ∈ cs, e ≤ c ∨ d ≤ e) (h1 : c ≤ x) (h2 : x < d) : pmem l x y ↔ pmem l c y := by
  unfold pmem
  refine exists_congr fun r => and_congr_right fun hr => ?_
  obtain ⟨m1, m2⟩ := mem_cutsL hr
  have := hgap _ (hcs _ m1)
  have := hgap _ (hcs _ m2)
  unfold rin
  omega
theorem srt_get {l : List Int} {x : Int} (h : x ∈ l) : 0 < (srt l).length ∧ (srt l).getD 0 0 ≤ x ∧ x ≤ (srt l).getD ((srt l).length - 1) 0 := by
  obtain ⟨h1, h2⟩ := srt_ok l
  have hm := (h2 x).2 h
  obtain ⟨i, hi, rfl⟩ := List.getElem_of_mem hm
  have hs := List.pairwise_iff_getElem.1 h1
  refine ⟨by omega, ?_, ?_⟩
  · rw [List.getD_eq_getElem?_getD, List.getElem?_eq_getElem (by omega), Option.getD_some]
    rcases Nat.eq_zero_or_pos i with e | e
    · subst e; exact Int.le_refl _
    · exact Int.le_of_lt (hs 0 i (by omega) hi e)
  · rw [List.getD_eq_getElem?_getD, List.getElem?_eq_getElem (by omega), Option.getD_some]
    rcases Nat.lt_or_ge i ((srt l).length - 1) with e | e
    · exact Int.le_of_lt (hs i _ hi (by omega) e)
    · have : i = (srt l).length - 1 := by omega
      subst this
      exact Int.le_refl _
theorem srt_rim {l : List Int} (h : 0 < (srt l).length) : (srt l).getD 0 0 ∈ l ∧ (srt l).getD ((srt l).length - 1) 0 ∈ l := by
  have h2 := (srt_ok l).2
  refine ⟨(h2 _).1 ?_, (h2 _).1 ?_⟩
  · rw [List.getD_eq_getElem?_getD, List.getElem?_eq_getElem h, Option.getD_some]; exact List.getElem_mem _
  · rw [List.getD_eq_getElem?_getD, List.getElem?_eq_getElem (by omega), Option.getD_some]; exact List.getElem_mem _
theorem cut_bd {l : List R4} (hv : ∀ r ∈ l, valid4 r) : (∀ c ∈ cutsL l, -1000000 ≤ c ∧ c ≤ 1000000) ∧ (∀ c ∈ cutsY l, -1000000 ≤ c ∧ c ≤ 1000000) := by
  constructor
  · intro c hc
    obtain ⟨r, hr, hm⟩ := List.mem_flatMap.1 hc
    obtain ⟨_, _, h1, h2, h3, h4⟩ := hv r hr
    simp only [fineP] at h1 h2 h3 h4
    simp only [List.mem_cons, List.not_mem_nil, or_false] at hm
    rcases hm with rfl | rfl <;> omega
  · intro c hc
    obtain ⟨r, hr, hm⟩ := List.mem_flatMap.1 hc
    obtain ⟨_, _, h1, h2, h3, h4⟩ := hv r hr
    simp only [fineP] at h1 h2 h3 h4
    simp only [List.mem_cons, List.not_mem_nil, or_false] at hm
    rcases hm with rfl | rfl <;> omega
theorem len_cuts {l : List R4} (h : l ≠ []) : 0 < (srt (cutsL l)).length ∧ 0 < (srt (cutsY l)).length := by
  obtain ⟨r, hr⟩ := List.exists_mem_of_ne_nil l h
  exact ⟨(srt_get (mem_cutsL hr).1).1, (srt_get (mem_cutsY hr).1).1⟩
/-- What is missing has exactly the points that the region has not. -/
theorem cover_miss {l : List R4} (hv : ∀ r ∈ l, valid4 r) {X Y : Int} (hX : -4000000 ≤ X ∧ X < 4000000) (hY : -4000000 ≤ Y ∧ Y < 4000000) : pmem (missF l) X Y ↔ ¬ pmem l X Y := by
  unfold missF missG
  by_cases hl : l = []
  · subst hl
    have e : (srt (cutsL [])).length = 0 := by decide
    rw [if_pos e]
    refine ⟨fun _ => pmem_nil, fun _ => ⟨_, List.mem_singleton.2 rfl, ?_⟩⟩
    unfold rin
    simp only
    omega
  · obtain ⟨nx, ny⟩ := len_cuts hl
    rw [if_neg (by omega)]
    obtain ⟨sx, mx⟩ := srt_ok (cutsL l)
    obtain ⟨sy, my⟩ := srt_ok (cutsY l)
    obtain ⟨bx, bY⟩ := cut_bd hv
    constructor
    · rintro ⟨m, hm, hin⟩ hp
      rw [List.mem_append] at hm
      rcases hm with hm | hm
      · obtain ⟨p, hp1, hm⟩ := List.mem_flatMap.1 hm
        obtain ⟨q, hq1, hm⟩ := List.mem_filterMap.1 hm
        obtain ⟨_, _, _, g1⟩ := prs_gap2 sx p hp1
        obtain ⟨_, _, _, g2⟩ := prs_gap2 sy q hq1
        unfold cellM at hm
        split at hm
        · cases hm
        · rename_i hno
          simp only [Option.some.injEq] at hm
          subst hm
          unfold rin at hin
          simp only at hin
          rw [pmem_sameX (fun c hc => (mx c).2 hc) g1 hin.1 hin.2.1, pmem_sameY (fun c hc => (my c).2 hc) g2 hin.2.2.1 hin.2.2.2] at hp
          exact hno hp
      · obtain ⟨r, hr, hp⟩ := hp
        obtain ⟨a1, a2⟩ := mem_cutsL hr
        obtain ⟨a3, a4⟩ := mem_cutsY hr
        have b1 := srt_get a1
        have b2 := srt_get a2
        have b3 := srt_get a3
        have b4 := srt_get a4
        unfold ringM at hm
        simp only [List.mem_cons, List.not_mem_nil, or_false] at hm
        unfold rin at hin hp
        rcases hm with rfl | rfl | rfl | rfl <;> simp only at hin <;> omega
    · intro hno
      by_cases h1 : X < (srt (cutsL l)).getD 0 0
      · exact ⟨_, List.mem_append.2 (.inr (by unfold ringM; exact List.mem_cons_self)), by unfold rin; simp only; omega⟩
      by_cases h2 : (srt (cutsL l)).getD ((srt (cutsL l)).length - 1) 0 ≤ X
      · exact ⟨_, List.mem_append.2 (.inr (by unfold ringM; exact List.mem_cons_of_mem _ List.mem_cons_self)), by unfold rin; simp only; omega⟩
      by_cases h3 : Y < (srt (cutsY l)).getD 0 0
      · exact ⟨_, List.mem_append.2 (.inr (by unfold ringM; exact List.mem_cons_of_mem _ (List.mem_cons_of_mem _ List.mem_cons_self))), by unfold rin; simp only; omega⟩
      by_cases h4 : (srt (cutsY l)).getD ((srt (cutsY l)).length - 1) 0 ≤ Y
      · exact ⟨_, List.mem_append.2 (.inr (by unfold ringM; exact List.mem_cons_of_mem _ (List.mem_cons_of_mem _ (List.mem_cons_of_mem _ List.mem_cons_self)))), by unfold rin; simp only; omega⟩
      obtain ⟨p, hp, p1, p2⟩ := prs_at _ sx X nx (by omega) (by omega)
      obtain ⟨q, hq, q1, q2⟩ := prs_at _ sy Y ny (by omega) (by omega)
      obtain ⟨_, _, _, g1⟩ := prs_gap2 sx p hp
      obtain ⟨_, _, _, g2⟩ := prs_gap2 sy q hq
      rw [pmem_sameX (fun c hc => (mx c).2 hc) g1 p1 p2, pmem_sameY (fun c hc => (my c).2 hc) g2 q1 q2] at hno
      refine ⟨⟨p.1, q.1, p.2, q.2⟩, List.mem_append.2 (.inl (List.mem_flatMap.2 ⟨p, hp, List.mem_filterMap.2 ⟨q, hq, ?_⟩⟩)), ⟨p1, p2, q1, q2⟩⟩
      unfold cellM
      rw [if_neg hno]
theorem wf_miss {l : List R4} (hv : ∀ r ∈ l, valid4 r) : ∀ m ∈ missF l, (m.x0 < m.x1 ∧ m.y0 < m.y1) ∧ -4000000 ≤ m.x0 ∧ m.x1 ≤ 4000000 ∧ -4000000 ≤ m.y0 ∧ m.y1 ≤ 4000000 := by
  intro m hm
  unfold missF missG at hm
  by_cases hl : l = []
  · subst hl
    have e : (srt (cutsL [])).length = 0 := by decide
    rw [if_pos e, List.mem_singleton] at hm
    subst hm
    simp
  · obtain ⟨nx, ny⟩ := len_cuts hl
    rw [if_neg (by omega), List.mem_append] at hm
    obtain ⟨bx, bY⟩ := cut_bd hv
    rcases hm with hm | hm
    · obtain ⟨p, hp1, hm⟩ := List.mem_flatMap.1 hm
      obtain ⟨q, hq1, hm⟩ := List.mem_filterMap.1 hm
      obtain ⟨sx, mx⟩ := srt_ok (cutsL l)
      obtain ⟨sy, my⟩ := srt_ok (cutsY l)
      obtain ⟨a1, a2, a3, _⟩ := prs_gap2 sx p hp1
      obtain ⟨b1, b2, b3, _⟩ := prs_gap2 sy q hq1
      have := bx _ ((mx _).1 a2)
      have := bx _ ((mx _).1 a3)
      have := bY _ ((my _).1 b2)
      have := bY _ ((my _).1 b3)
      unfold cellM at hm
      split at hm
      · cases hm
      · simp only [Option.some.injEq] at hm
        subst hm
        simp only
        omega
    · obtain ⟨e1, e2⟩ := srt_rim nx
      obtain ⟨e3, e4⟩ := srt_rim ny
      have := bx _ e1
      have := bx _ e2
      have := bY _ e3
      have := bY _ e4
      unfold ringM at hm
      simp only [List.mem_cons, List.not_mem_nil, or_false] at hm
      rcases hm with rfl | rfl | rfl | rfl <;> simp only <;> omega
theorem rin_dbl (r : R4) (X Y : Int) : rin (dbl r) X Y ↔ rin r (X / 2) (Y / 2) := by
  unfold rin dbl
  simp only
  omega
theorem pmem_dbl (l : List R4) (X Y : Int) : pmem (l.map dbl) X Y ↔ pmem l (X / 2) (Y / 2) := by
  unfold pmem
  constructor
  · rintro ⟨z, hz, h⟩
    obtain ⟨r, hr, rfl⟩ := List.mem_map.1 hz
    exact ⟨r, hr, (rin_dbl r X Y).1 h⟩
  · rintro ⟨r, hr, h⟩
    exact ⟨dbl r, List.mem_map_of_mem hr, (rin_dbl r X Y).2 h⟩
theorem apart_dbl {l : List R4} (h : l.Pairwise apart4) : (l.map dbl).Pairwise apart4 := by
  rw [List.pairwise_map]
  refine h.imp fun {a b} hab X Y hh => hab (X / 2) (Y / 2) ⟨(rin_dbl a X Y).1 hh.1, (rin_dbl b X Y).1 hh.2⟩
theorem onF_le {m : Nat} {r : R4} {s : List R4} (hr : inFr m r) (hw : wf4 r) (hs : s.Pairwise apart4) : onF r s ≤ arQ r := by
  have e1 := onF_vol hr hs
  have e2 := arQ_vol hr hw
  have e3 : 0 ≤ vol m (fun x y => ind (rin r x y) - ind (rin r x y) * one s x y) := sumZ_nonneg fun i _ _ => sumZ_nonneg fun j _ _ => by
    rcases one_01 s i j with h | h <;> rcases ind_01 (rin r i j) with g | g <;> simp [h, g]
  rw [vol_sub] at e3
  omega
theorem not_iff {l : List R4} (hv : ∀ r ∈ l, valid4 r) (hs : l.Pairwise apart4) {x y : Int} (hx : -2000001 ≤ x ∧ x ≤ 2000001) (hy : -2000001 ≤ y ∧ y ≤ 2000001) {d : Nat} (hd : d ≤ 2000000) :
    notF l x y d = true ↔ ∃ m ∈ missF l, highQ m x y ≤ d := by
  have hw : wf4 (sqr x y ((d : Int) + 1)) := by unfold wf4 sqr; simp only; omega
  have hf : inFr 5000000 (sqr x y ((d : Int) + 1)) := by unfold inFr sqr; simp only; omega
  have ha : arQ (sqr x y ((d : Int) + 1)) = 2 * ((d : Int) + 1) * (2 * ((d : Int) + 1)) := by
    unfold arQ sqr
    simp only
    rw [show x + ((d : Int) + 1) - (x - ((d : Int) + 1)) = 2 * ((d : Int) + 1) by omega, show y + ((d : Int) + 1) - (y - ((d : Int) + 1)) = 2 * ((d : Int) + 1) by omega]
  have hle := onF_le hf hw (apart_dbl hs)
  have hfull := full_iff hf hw (apart_dbl hs)
  unfold notF covF
  rw [decide_eq_true_eq, ← ha]
  constructor
  · intro hlt
    have hne : ¬ ∀ X Y, rin (sqr x y ((d : Int) + 1)) X Y → pmem (l.map dbl) X Y := fun h => by
      have := hfull.2 h
      omega
    rw [Classical.not_forall] at hne
    obtain ⟨X, hne⟩ := hne
    rw [Classical.not_forall] at hne
    obtain ⟨Y, hne⟩ := hne
    rw [Classical.not_imp] at hne
    obtain ⟨hin, hno⟩ := hne
    rw [pmem_dbl] at hno
    unfold rin sqr at hin
    simp only at hin
    obtain ⟨m, hm, hmin⟩ := (cover_miss hv (X := X / 2) (Y := Y / 2) (by omega) (by omega)).2 hno
    refine ⟨m, hm, ?_⟩
    unfold rin at hmin
    unfold highQ
    omega
  · rintro ⟨m, hm, hq⟩
    obtain ⟨⟨w1, w2⟩, w3, w4, w5, w6⟩ := wf_miss hv m hm
    unfold highQ at hq
    have hno : ¬ ∀ X Y, rin (sqr x y ((d : Int) + 1)) X Y → pmem (l.map dbl) X Y := fun h => by
      have hp := h (max (2 * m.x0) (x - d - 1)) (max (2 * m.y0) (y - d - 1)) (by unfold rin sqr; simp only; omega)
      rw [pmem_dbl] at hp
      exact (cover_miss hv (by omega) (by omega)).1 ⟨m, hm, by unfold rin; omega⟩ hp
    rw [← hfull] at hno
    omega
theorem count_lt (K : Nat) : ∀ N, (List.range N).countP (fun i => decide (i < K)) = min N K
  | 0 => by simp
  | N + 1 => by
    rw [List.range_succ, List.countP_append, count_lt K N, List.countP_singleton]
    by_cases h : N < K
    · rw [decide_eq_true h]; simp; omega
    · rw [decide_eq_false h]; simp; omega
theorem high_top {l : List R4} (hv : ∀ r ∈ l, valid4 r) {x y : Int} (hx : -2000001 ≤ x ∧ x ≤ 2000001) (hy : -2000001 ≤ y ∧ y ≤ 2000001) : highF (missF l) x y ≤ 2000000 := by
  rw [high_le (by omega)]
  unfold missF missG
  by_cases hl : l = []
  · subst hl
    have e : (srt (cutsL [])).length = 0 := by decide
    rw [if_pos e]
    exact ⟨_, List.mem_singleton.2 rfl, by unfold highQ; simp only; omega⟩
  · obtain ⟨nx, ny⟩ := len_cuts hl
    rw [if_neg (by omega)]
    obtain ⟨bx, bY⟩ := cut_bd hv
    obtain ⟨e1, e2⟩ := srt_rim nx
    have b1 := bx _ e1
    have b2 := bx _ e2
    have b3 := (srt_get e2).2.1
    by_cases h : x ≤ (srt (cutsL l)).getD 0 0 + (srt (cutsL l)).getD ((srt (cutsL l)).length - 1) 0
    · exact ⟨_, List.mem_append.2 (.inr (by unfold ringM; exact List.mem_cons_self)), by unfold highQ; simp only; omega⟩
    · exact ⟨_, List.mem_append.2 (.inr (by unfold ringM; exact List.mem_cons_of_mem _ List.mem_cons_self)), by unfold highQ; simp only; omega⟩
/-- The height of the square that fits is the distance from what is missing. -/
theorem height_eq {l : List R4} (hc : checkF l = 0) {x y : Int} (hx : -2000001 ≤ x ∧ x ≤ 2000001) (hy : -2000001 ≤ y ∧ y ≤ 2000001) : ((heightF l x y : Nat) : Int) = highF (missF l) x y := by
  have hv := (checkF_ok hc).2.1
  have hs := (check_rcan hc).apart
  have htop := high_top hv hx hy
  have hnn : 0 ≤ highF (missF l) x y := high_nn x y _ _ (by omega)
  have e : (List.range 2000001).countP (fun i => !notF l x y i) = (List.range 2000001).countP (fun i => decide (i < (highF (missF l) x y).toNat)) := by
    refine List.countP_congr fun i hi => ?_
    have hi' : i < 2000001 := List.mem_range.1 hi
    have := not_iff hv hs hx hy (d := i) (by omega)
    rw [← high_le (by omega)] at this
    cases hn : notF l x y i
    · rw [hn] at this
      simp only [Bool.false_eq_true, false_iff] at this
      simp
      omega
    · rw [hn] at this
      simp only [true_iff] at this
      simp
      omega
  unfold heightF
  rw [e, count_lt]
  omega
theorem not_mono {l : List R4} (hc : checkF l = 0) {x y : Int} (hx : -2000001 ≤ x ∧ x ≤ 2000001) (hy : -2000001 ≤ y ∧ y ≤ 2000001) : ∀ a b, a ≤ b → b < 2000001 → notF l x y a = true → notF l x y b = true := by
  have hv := (checkF_ok hc).2.1
  have hs := (check_rcan hc).apart
  intro a b hab hb h
  obtain ⟨m, hm, h⟩ := (not_iff hv hs hx hy (by omega)).1 h
  exact (not_iff hv hs hx hy (by omega)).2 ⟨m, hm, by omega⟩
end Go.Proofs.Ytkofodpjeknpiaa

/- The walks of roof's covered, height, Height. -/
namespace Go.Proofs.Ytkofodpjeknpiaa
open Go.RowKit Go.Sort
set_option linter.unusedVariables false
set_option linter.unusedSimpArgs false

theorem cov_take {l : List R4} {q : R4} {m : Nat} (x y d : Int) (h : l[m]? = some q) : covF (l.take (m + 1)) x y d = covF (l.take m) x y d + (if 0 < min (2 * q.x1) (x + d) - max (2 * q.x0) (x - d) ∧ 0 < min (2 * q.y1) (y + d) - max (2 * q.y0) (y - d) then (min (2 * q.x1) (x + d) - max (2 * q.x0) (x - d)) * (min (2 * q.y1) (y + d) - max (2 * q.y0) (y - d)) else 0) := by
  unfold covF
  have e : (l.map dbl)[m]? = some (dbl q) := by rw [List.getElem?_map, h]; rfl
  rw [List.map_take, List.map_take]
  have := onF_take (r := sqr x y d) e
  rw [this]
  congr 1
  unfold onQ sqr dbl
  simp only
  rw [Int.min_comm (x + d), Int.min_comm (y + d), Int.max_comm (x - d), Int.max_comm (y - d)]
theorem cov_one {q : R4} {x y d : Int} (hd : 0 ≤ d ∧ d ≤ 2000001) (t1 : 0 < min (2 * q.x1) (x + d) - max (2 * q.x0) (x - d)) (t2 : 0 < min (2 * q.y1) (y + d) - max (2 * q.y0) (y - d)) :
    0 ≤ (min (2 * q.x1) (x + d) - max (2 * q.x0) (x - d)) * (min (2 * q.y1) (y + d) - max (2 * q.y0) (y - d)) ∧ (min (2 * q.x1) (x + d) - max (2 * q.x0) (x - d)) * (min (2 * q.y1) (y + d) - max (2 * q.y0) (y - d)) ≤ 16000016000004 := by
  refine ⟨Int.mul_nonneg (by omega) (by omega), ?_⟩
  have := Int.mul_le_mul (show min (2 * q.x1) (x + d) - max (2 * q.x0) (x - d) ≤ 4000002 by omega) (show min (2 * q.y1) (y + d) - max (2 * q.y0) (y - d) ≤ 4000002 by omega) (by omega) (by omega)
  omega
theorem cov_bd {x y d : Int} (hd : 0 ≤ d ∧ d ≤ 2000001) (l : List R4) : ∀ m, m ≤ l.length → 0 ≤ covF (l.take m) x y d ∧ covF (l.take m) x y d ≤ 16000016000004 * m
  | 0, _ => by simp [covF, onF]
  | m + 1, hm => by
    have ih := cov_bd (x := x) (y := y) hd l m (by omega)
    obtain ⟨q, hq⟩ : ∃ q, l[m]? = some q := ⟨_, List.getElem?_eq_getElem (by omega)⟩
    rw [cov_take x y d hq]
    split
    · rename_i t
      have := cov_one hd t.1 t.2
      omega
    · omega
theorem grow_box {w wr : World} (h : ∃ os, wr = grow w os) (o : Obj) : ∃ os, wr.alloc o = grow w os := by
  obtain ⟨os, rfl⟩ := h
  exact ⟨_, by rw [alloc_eq_grow, grow_grow]⟩
set_option maxRecDepth 100000 in
set_option maxHeartbeats 4000000 in
theorem covered_any {w : World} {v : Value} {l : List R4} (hr : RdK encR 4 w w.heap.size v l) (hl : l.length ≤ 400) (hv : ∀ r ∈ l, valid4 r) (x y d : Int) (hx : -2000001 ≤ x ∧ x ≤ 2000001) (hy : -2000001 ≤ y ∧ y ≤ 2000001) (hd : 1 ≤ d ∧ d ≤ 2000001) :
    Calls Try.prog 21 #[v, .int .i64 x, .int .i64 y, .int .i64 d] w fun e w' => e = .returned (.int .i64 (covF l x y d)) ∧ ∃ os, w' = grow w os := by
  obtain ⟨A, c, rfl, hc⟩ := hr
  have HRC := hide hc
  have HV := hide hv
  have HBD := hide (cov_bd (x := x) (y := y) (d := d) (by omega) l)
  have HT : Hid (covF (l.take l.length) x y d = covF l x y d) := hide (by rw [List.take_length])
  obtain ⟨x1, x2⟩ := hx
  obtain ⟨y1, y2⟩ := hy
  obtain ⟨d1, d2⟩ := hd
  have lz : (l.length : Int) ≤ 400 := by omega
  clear hc hv
  go_enter Try.func21, Try.ntmps21
  go_wp2
  go_loopw [9, 16] (fun t i wr => ∃ m : Nat, m ≤ l.length ∧ i = .int .i64 m ∧ t = .int .i64 (covF (l.take m) x y d) ∧ Hid (∃ os, wr = grow w os)) (fun _ i _ => l.length - (intOf i).toNat)
  case atStart => exact ⟨0, Nat.zero_le _, rfl, by simp [covF, onF], hide ⟨#[], by rw [grow_empty]⟩⟩
  case round =>
    obtain ⟨m, hm, rfl, rfl, HG⟩ := hrel
    by_cases hlt : m < l.length
    · obtain ⟨q, hp⟩ : ∃ p, l[m]? = some p := ⟨_, List.getElem?_eq_getElem hlt⟩
      obtain ⟨b, o, rfl, hbl, k⟩ := HRC.out (by intro e; rw [e] at hlt; simp at hlt)
      have hb : Below w.heap.size w wr := by obtain ⟨os, e⟩ := HG.out; rw [e]; exact below_grown_sl w.heap.size w 0 os (Nat.le_refl _)
      have d0 : wr.cell? ⟨b, o + m * 4, none⟩ = some (.int .i64 q.x0) := (hb.cell (p := ⟨b, _, none⟩) hbl).trans (k m _ hp 0 _ rfl)
      have d1 : wr.cell? ⟨b, o + m * 4 + 1, none⟩ = some (.int .i64 q.y0) := (hb.cell (p := ⟨b, _, none⟩) hbl).trans (k m _ hp 1 _ rfl)
      have d2 : wr.cell? ⟨b, o + m * 4 + 2, none⟩ = some (.int .i64 q.x1) := (hb.cell (p := ⟨b, _, none⟩) hbl).trans (k m _ hp 2 _ rfl)
      have d3 : wr.cell? ⟨b, o + m * 4 + 3, none⟩ = some (.int .i64 q.y1) := (hb.cell (p := ⟨b, _, none⟩) hbl).trans (k m _ hp 3 _ rfl)
      obtain ⟨v1, v2, ⟨v3, v4⟩, ⟨v5, v6⟩, ⟨v7, v8⟩, ⟨v9, v10⟩⟩ := HV.out q (List.mem_of_getElem? hp)
      have HS := hide (cov_take x y d hp)
      obtain ⟨u1, u2⟩ := HBD.out m hm
      have mz : (m : Int) < (l.length : Int) := by omega
      clear k hp hb
      generalize covF (l.take m) x y d = T at *
      by_cases t1 : 0 < min (2 * q.x1) (x + d) - max (2 * q.x0) (x - d)
      · by_cases t2 : 0 < min (2 * q.y1) (y + d) - max (2 * q.y0) (y - d)
        · have HE : Hid (covF (l.take (m + 1)) x y d = T + (min (2 * q.x1) (x + d) - max (2 * q.x0) (x - d)) * (min (2 * q.y1) (y + d) - max (2 * q.y0) (y - d))) := hide (by rw [HS.out, if_pos ⟨t1, t2⟩])
          obtain ⟨p1, p2⟩ := cov_one (by omega) t1 t2
          have z1 : IntKind.i64.wrap ((min (2 * q.x1) (x + d) - max (2 * q.x0) (x - d)) * (min (2 * q.y1) (y + d) - max (2 * q.y0) (y - d))) = (min (2 * q.x1) (x + d) - max (2 * q.x0) (x - d)) * (min (2 * q.y1) (y + d) - max (2 * q.y0) (y - d)) := IntWalk.i64_in _ (by omega)
          have z2 : IntKind.i64.wrap (T + (min (2 * q.x1) (x + d) - max (2 * q.x0) (x - d)) * (min (2 * q.y1) (y + d) - max (2 * q.y0) (y - d))) = T + (min (2 * q.x1) (x + d) - max (2 * q.x0) (x - d)) * (min (2 * q.y1) (y + d) - max (2 * q.y0) (y - d)) := IntWalk.i64_in _ (by omega)
          clear HS
          go_wp2_with (fail)
          go_roundw
          case rel => exact ⟨m + 1, by omega, by go_num, by rw [HE.out], hide (grow_box HG.out _)⟩
          case measure => simp [intOf]; omega
        · have HE : Hid (covF (l.take (m + 1)) x y d = T) := hide (by rw [HS.out, if_neg (fun h => t2 h.2), Int.add_zero])
          clear HS
          have t2' : min (2 * q.y1) (y + d) - max (2 * q.y0) (y - d) ≤ 0 := by omega
          go_wp2_with (fail)
          go_roundw
          case rel => exact ⟨m + 1, by omega, by go_num, by rw [HE.out], hide (grow_box HG.out _)⟩
          case measure => simp [intOf]; omega
      · have HE : Hid (covF (l.take (m + 1)) x y d = T) := hide (by rw [HS.out, if_neg (fun h => t1 h.1), Int.add_zero])
        clear HS
        have t1' : min (2 * q.x1) (x + d) - max (2 * q.x0) (x - d) ≤ 0 := by omega
        go_wp2_with (fail)
        go_roundw
        case rel => exact ⟨m + 1, by omega, by go_num, by rw [HE.out], hide (grow_box HG.out _)⟩
        case measure => simp [intOf]; omega
    · obtain rfl : m = l.length := by omega
      go_wp2
      go_ret
      exact ⟨by rw [HT.out]; rfl, HG.out⟩
theorem sq_bd {d : Int} (h : 1 ≤ d ∧ d ≤ 2000001) : 0 ≤ 2 * d * (2 * d) ∧ 2 * d * (2 * d) ≤ 16000016000004 := by
  refine ⟨Int.mul_nonneg (by omega) (by omega), ?_⟩
  have := Int.mul_le_mul (show 2 * d ≤ 4000002 by omega) (show 2 * d ≤ 4000002 by omega) (by omega) (by omega)
  omega
/-- The closure that sort.Search asks. -/
theorem heightF_any {w : World} {v : Value} {l : List R4} {B g : Nat} (hr : RdK encR 4 w B v l) (hB : B ≤ w.heap.size) (hl : l.length ≤ 400) (hv : ∀ r ∈ l, valid4 r) (x y : Int) (hx : -2000001 ≤ x ∧ x ≤ 2000001) (hy : -2000001 ≤ y ∧ y ≤ 2000001)
    (c0 : w.cell? ⟨g, 0, none⟩ = some v) (c1 : w.cell? ⟨g + 1, 0, none⟩ = some (.int .i64 x)) (c2 : w.cell? ⟨g + 1 + 1, 0, none⟩ = some (.int .i64 y)) (i : Nat) (hi : i < 2000001) :
    Calls Try.prog 20 #[.int .i64 i, .pointer (some ⟨g, 0, none⟩), .pointer (some ⟨g + 1, 0, none⟩), .pointer (some ⟨g + 1 + 1, 0, none⟩)] w fun e w' => e = .returned (.bool (notF l x y i)) ∧ ∃ os, w' = grow w os := by
  have HC := hide (covered_any (hr.mono hB) hl hv x y ((i : Int) + 1) hx hy (by omega))
  have HN : Hid (notF l x y i = decide (covF l x y ((i : Int) + 1) < 2 * ((i : Int) + 1) * (2 * ((i : Int) + 1)))) := hide rfl
  obtain ⟨s1, s2⟩ := sq_bd (d := (i : Int) + 1) (by omega)
  have hiz : (i : Int) < 2000001 := by omega
  have hs : IntKind.i64.wrap (2 * ((i : Int) + 1) * (2 * ((i : Int) + 1))) = 2 * ((i : Int) + 1) * (2 * ((i : Int) + 1)) := IntWalk.i64_in _ (by omega)
  clear hr hl hv hx hy
  generalize covF l x y ((i : Int) + 1) = C at *
  go_enter Try.func20, Try.ntmps20
  go_wp2_with (fail)
  refine HC.out.mono ?_
  rintro e w' ⟨rfl, hg⟩
  have HG := hide hg
  clear hg
  go_wp2_with (fail)
  go_ret
  exact ⟨by rw [HN.out]; rfl, HG.out⟩
set_option maxHeartbeats 4000000 in
theorem height_any {w : World} {v : Value} {l : List R4} (hr : RdK encR 4 w w.heap.size v l) (hc : checkF l = 0) (x y : Int) (hx : -2000001 ≤ x ∧ x ≤ 2000001) (hy : -2000001 ≤ y ∧ y ≤ 2000001) :
    Calls Try.prog 10 #[v, .int .i64 x, .int .i64 y] w fun e w' => e = .returned (.int .i64 (heightF l x y)) ∧ Below w.heap.size w w' := by
  obtain ⟨hl, hv, _⟩ := checkF_ok hc
  have hm := not_mono hc hx hy
  obtain ⟨A, c, hva, hcc⟩ := id hr
  subst hva
  clear hcc
  obtain ⟨W0, hW0⟩ : ∃ W0, W0 = ((w.alloc (.cells #[.slice A l.length c] 34)).alloc (.cells #[.int .i64 x] 3)).alloc (.cells #[.int .i64 y] 3) := ⟨_, rfl⟩
  have hb0 : Below w.heap.size w W0 := by rw [hW0]; exact (((Below.refl _ _).alloc (Nat.le_refl _) _).alloc (by simp) _).alloc (by simp; omega) _
  have hsz : W0.heap.size = w.heap.size + 1 + 1 + 1 := by rw [hW0]; simp
  have ca : W0.cell? ⟨w.heap.size, 0, none⟩ = some (.slice A l.length c) := by rw [hW0]; simp [go_sem]
  have cx : W0.cell? ⟨w.heap.size + 1, 0, none⟩ = some (.int .i64 x) := by rw [hW0]; simp [go_sem]
  have cy : W0.cell? ⟨w.heap.size + 1 + 1, 0, none⟩ = some (.int .i64 y) := by rw [hW0]; simp [go_sem]
  have eg : ∀ args w, (callFunc 20 args).run Try.prog w = .ok (.enter 20 args) w := enters_of Try.func20 (by kernel_rfl) rfl
  have hS := Any.sort_Search Try.sortSearch 20 #[.pointer (some ⟨w.heap.size, 0, none⟩), .pointer (some ⟨w.heap.size + 1, 0, none⟩), .pointer (some ⟨w.heap.size + 1 + 1, 0, none⟩)] 2000001 (notF l x y) W0 eg (by omega)
    (fun m os i hi => by
      have hbg := below_grown_sl w.heap.size W0 m os hb0.size
      have hg3 : W0.heap.size ≤ (grow (W0.drewN m) os).heap.size := hbg.size
      refine (heightF_any ((hr.below hb0).below hbg) (Nat.le_trans hb0.size hg3) hl hv x y hx hy (cell_grown (by rw [hsz]; show w.heap.size < _; omega) ca m os) (cell_grown (by simp [hsz]) cx m os) (cell_grown (by simp [hsz]) cy m os) i hi).mono ?_
      rintro e w' ⟨he, os', hw⟩
      exact ⟨he, 0, os', by rw [hw]; rfl⟩) hm
  change Calls Try.prog 19 _ _ _ at hS
  have HS : Hid (Calls Try.prog 19 #[.int .i64 2000001, .func (.func 20) #[] #[.pointer (some ⟨w.heap.size, 0, none⟩), .pointer (some ⟨w.heap.size + 1, 0, none⟩), .pointer (some ⟨w.heap.size + 1 + 1, 0, none⟩)]] W0 fun e w' => e = .returned (.int .i64 (heightF l x y)) ∧ Below w.heap.size w w') := hide (hS.mono fun e w' ⟨he, q, os, hw⟩ => ⟨he, by rw [hw]; exact hb0.trans (below_grown_sl w.heap.size W0 q os hb0.size)⟩)
  clear hS hm hl hv hr hb0 hsz ca cx cy eg hx hy hc
  generalize heightF l x y = F at *
  go_enter Try.func10, Try.ntmps10
  go_wp2_with (fail)
  rw [← hW0]
  refine HS.out.mono ?_
  rintro e w' ⟨rfl, hb⟩
  have HB := hide hb
  clear hb hW0 HS
  go_wp2_with (fail)
  go_ret
  exact ⟨rfl, HB.out⟩
end Go.Proofs.Ytkofodpjeknpiaa

/- The walks of roof's Height and Falls, of the reference's High, and of Great. -/
namespace Go.Proofs.Ytkofodpjeknpiaa
open Go.RowKit
set_option linter.unusedVariables false
set_option linter.unusedSimpArgs false

def heightR (l : List R4) (x y : Int) : Int × Int := if checkF l ≠ 0 then (0, checkF l) else if -2000000 ≤ x ∧ x ≤ 2000000 ∧ -2000000 ≤ y ∧ y ≤ 2000000 then (heightF l x y, 0) else (0, 2)
theorem run_max5 {P : Program} (w : World) (ts : Array TypeId) (t : TypeId) (a b c d e : Int) : (Builtin.max_ ts t #[.int .i64 a, .int .i64 b, .int .i64 c, .int .i64 d, .int .i64 e]).run P w = .ok (.int .i64 (max (max (max (max a b) c) d) e)) w := by
  have k : ∀ x y : Int, (if y > x then y else x) = max x y := fun x y => by
    by_cases h : y > x
    · rw [if_pos h]; omega
    · rw [if_neg h]; omega
  have k2 : ∀ (x y : Int) (v : World), Sem.run P (Builtin.max2 (.int .i64 x) (.int .i64 y)) v = .ok (.int .i64 (max x y)) v := fun x y v => by simp [Builtin.max2, k]
  simp only [Builtin.max_]
  simp [k2, Int.max_assoc]
set_option maxRecDepth 100000 in
set_option maxHeartbeats 4000000 in
theorem rHigh_any {w : World} {v : Value} {ms : List R4} (hr : RdK encR 4 w w.heap.size v ms) (hl : ms.length ≤ 10000000) (hv : ∀ m ∈ ms, (-4000000 ≤ m.x0 ∧ m.x0 ≤ 4000000) ∧ (-4000000 ≤ m.x1 ∧ m.x1 ≤ 4000000) ∧ (-4000000 ≤ m.y0 ∧ m.y0 ≤ 4000000) ∧ (-4000000 ≤ m.y1 ∧ m.y1 ≤ 4000000)) (x y : Int) (hx : -2000001 ≤ x ∧ x ≤ 2000001) (hy : -2000001 ≤ y ∧ y ≤ 2000001) :
    Calls Try.prog 12 #[v, .int .i64 x, .int .i64 y] w fun e w' => e = .returned (.int .i64 (highF ms x y)) ∧ Below w.heap.size w w' := by
  obtain ⟨A, c, rfl, hc⟩ := hr
  have HRC := hide hc
  have HV := hide hv
  have HST : Hid (∀ (m : Nat) (q : R4), ms[m]? = some q → (ms.take (m + 1)).foldl (fun b m => min b (highQ m x y)) 8000000 = min ((ms.take m).foldl (fun b m => min b (highQ m x y)) 8000000) (highQ q x y)) := hide (fun m q hq => by
    rw [List.take_add_one, hq, List.foldl_append]; rfl)
  have HT : Hid ((ms.take ms.length).foldl (fun b m => min b (highQ m x y)) 8000000 = highF ms x y) := hide (by rw [List.take_length]; rfl)
  have HBD : Hid (∀ m, 0 ≤ (ms.take m).foldl (fun b m => min b (highQ m x y)) 8000000 ∧ (ms.take m).foldl (fun b m => min b (highQ m x y)) 8000000 ≤ 8000000) := hide (fun m => ⟨high_nn x y _ _ (by omega), high_bd x y _ _⟩)
  have H0 : Hid ((ms.take 0).foldl (fun b m => min b (highQ m x y)) 8000000 = 8000000) := hide rfl
  obtain ⟨x1, x2⟩ := hx
  obtain ⟨y1, y2⟩ := hy
  have lz : (ms.length : Int) ≤ 10000000 := by omega
  clear hc hv
  go_enter Try.func12, Try.ntmps12
  go_wp2
  go_loopw [7, 8] (fun t i wr => ∃ m : Nat, m ≤ ms.length ∧ i = .int .i64 m ∧ t = .int .i64 ((ms.take m).foldl (fun b m => min b (highQ m x y)) 8000000) ∧ Hid (Below w.heap.size w wr)) (fun _ i _ => ms.length - (intOf i).toNat)
  case atStart => exact ⟨0, Nat.zero_le _, rfl, rfl, hide (Below.refl _ _)⟩
  case round =>
    obtain ⟨m, hm, rfl, rfl, HB⟩ := hrel
    by_cases hlt : m < ms.length
    · obtain ⟨q, hp⟩ : ∃ p, ms[m]? = some p := ⟨_, List.getElem?_eq_getElem hlt⟩
      obtain ⟨b, o, rfl, hbl, k⟩ := HRC.out (by intro e; rw [e] at hlt; simp at hlt)
      have d0 : wr.cell? ⟨b, o + m * 4, none⟩ = some (.int .i64 q.x0) := (HB.out.cell (p := ⟨b, _, none⟩) hbl).trans (k m _ hp 0 _ rfl)
      have d1 : wr.cell? ⟨b, o + m * 4 + 1, none⟩ = some (.int .i64 q.y0) := (HB.out.cell (p := ⟨b, _, none⟩) hbl).trans (k m _ hp 1 _ rfl)
      have d2 : wr.cell? ⟨b, o + m * 4 + 2, none⟩ = some (.int .i64 q.x1) := (HB.out.cell (p := ⟨b, _, none⟩) hbl).trans (k m _ hp 2 _ rfl)
      have d3 : wr.cell? ⟨b, o + m * 4 + 3, none⟩ = some (.int .i64 q.y1) := (HB.out.cell (p := ⟨b, _, none⟩) hbl).trans (k m _ hp 3 _ rfl)
      obtain ⟨⟨v1, v2⟩, ⟨v3, v4⟩, ⟨v5, v6⟩, v7, v8⟩ := HV.out q (List.mem_of_getElem? hp)
      have HS := hide (HST.out m q hp)
      have HQ : Hid (highQ q x y = max (max (max (max 0 (2 * q.x0 - x)) (x - 2 * q.x1)) (2 * q.y0 - y)) (y - 2 * q.y1)) := hide rfl
      obtain ⟨u1, u2⟩ := HBD.out m
      have mz : (m : Int) < (ms.length : Int) := by omega
      have HB2 := hide (HB.out.alloc HB.out.size (.cells #[.int .i64 q.x0, .int .i64 q.y0, .int .i64 q.x1, .int .i64 q.y1] 45))
      clear k hp HST HBD
      generalize (ms.take m).foldl (fun b m => min b (highQ m x y)) 8000000 = T1 at *
      have hmax := @run_max5 Try.prog
      go_wp2
      go_roundw
      case rel => exact ⟨m + 1, by omega, by go_num, by rw [HS.out, HQ.out]; exact int_eq (by omega), HB2⟩
      case measure => simp [intOf]; omega
    · obtain rfl : m = ms.length := by omega
      rw [HT.out]
      clear HST HBD
      go_wp2
      go_ret
      exact ⟨rfl, HB.out⟩
theorem great14_any {w : World} (A : Option Addr) (n c : Nat) (hn : n ≤ maxLen) : Calls Try.prog 4 #[.slice A n c] w fun e w' => e = .returned (.bool (decide (12 < n ∧ n ≤ 400 ∨ 420 < n))) ∧ w = w' := by
  unfold maxLen at hn
  have e1 : ∀ k : Nat, decide ((k : Int) < (n : Int)) = decide (k < n) := fun k => decide_eq_decide.2 (by omega)
  have e2 : ∀ k : Nat, decide ((n : Int) ≤ (k : Int)) = decide (n ≤ k) := fun k => decide_eq_decide.2 (by omega)
  have E1 := hide (e1 12)
  have E2 := hide (e2 400)
  have E3 := hide (e1 420)
  clear e1 e2
  go_enter Try.func4, Try.ntmps4
  go_wp2
  all_goals
    go_ret
    refine ⟨?_, rfl⟩
    show Ending.returned (Value.bool _) = _
    refine ret_eq (bool_eq ?_)
    rw [Bool.eq_iff_iff]
    simp
    try omega
set_option maxHeartbeats 4000000 in
theorem roofHeight_any {w : World} {v : Value} {l : List R4} (hr : RdK encR 4 w w.heap.size v l) (hl : l.length ≤ 100000000) (x y : Int) (hx : -9223372036854775808 ≤ x ∧ x ≤ 9223372036854775807) (hy : -9223372036854775808 ≤ y ∧ y ≤ 9223372036854775807) :
    Calls Try.prog 5 #[v, .int .i64 x, .int .i64 y] w fun e w' => e = .returned (.tuple #[.int .i64 (heightR l x y).1, .int .i64 (heightR l x y).2]) ∧ Below w.heap.size w w' := by
  have HCK := hide (check_any hr hl)
  have HHE : Hid (checkF l = 0 → (-2000000 ≤ x ∧ x ≤ 2000000 ∧ -2000000 ≤ y ∧ y ≤ 2000000) → ∀ W : World, Below w.heap.size w W → Calls Try.prog 10 #[v, .int .i64 x, .int .i64 y] W fun e w' => e = .returned (.int .i64 (heightF l x y)) ∧ Below W.heap.size W w') := hide (fun hc h W hW => height_any ((hr.below hW).mono hW.size) hc x y (by omega) (by omega))
  obtain ⟨A, c, rfl, _⟩ := hr
  by_cases hc : checkF l = 0
  · by_cases hin : -2000000 ≤ x ∧ x ≤ 2000000 ∧ -2000000 ≤ y ∧ y ≤ 2000000
    · have HF : Hid (heightR l x y = (((heightF l x y : Nat) : Int), 0)) := hide (by unfold heightR; rw [if_neg (by rw [hc]; simp), if_pos hin])
      have H1 := hide (HHE.out hc hin)
      rw [hc] at HCK
      obtain ⟨a1, a2, a3, a4⟩ := hin
      have m1 : -2000000 ≤ min x y := by omega
      have m2 : max x y ≤ 2000000 := by omega
      clear HHE hc
      generalize heightF l x y = F at *
      go_enter Try.func5, Try.ntmps5
      go_wp2_with (fail)
      refine HCK.out.mono ?_
      rintro e w1 ⟨rfl, hb⟩
      have HB := hide hb
      clear hb HCK
      go_wp2_with (fail)
      refine (H1.out _ HB.out).mono ?_
      rintro e w2 ⟨rfl, hb⟩
      have HB2 := hide (HB.out.trans (hb.mono HB.out.size))
      clear hb HB H1
      go_wp2_with (fail)
      go_ret2
      exact ⟨by rw [HF.out]; rfl, HB2.out⟩
    · have HF : Hid (heightR l x y = (0, 2)) := hide (by unfold heightR; rw [if_neg (by rw [hc]; simp), if_neg hin])
      rw [hc] at HCK
      clear HHE hc
      by_cases h1 : min x y < -2000000
      · clear hin
        go_enter Try.func5, Try.ntmps5
        go_wp2_with (fail)
        refine HCK.out.mono ?_
        rintro e w1 ⟨rfl, hb⟩
        have HB := hide hb
        clear hb HCK
        go_wp2_with (fail)
        go_ret2
        exact ⟨by rw [HF.out]; rfl, HB.out⟩
      · have m1 : -2000000 ≤ min x y := by omega
        have m2 : 2000000 < max x y := by omega
        clear hin h1
        go_enter Try.func5, Try.ntmps5
        go_wp2_with (fail)
        refine HCK.out.mono ?_
        rintro e w1 ⟨rfl, hb⟩
        have HB := hide hb
        clear hb HCK
        go_wp2_with (fail)
        go_ret2
        exact ⟨by rw [HF.out]; rfl, HB.out⟩
  · have HF : Hid (heightR l x y = (0, checkF l)) := hide (if_pos hc)
    have hne : (checkF l != 0) = true := by simpa using hc
    clear HHE hc
    generalize checkF l = ck at *
    go_enter Try.func5, Try.ntmps5
    go_wp2_with (fail)
    refine HCK.out.mono ?_
    rintro e w1 ⟨rfl, hb⟩
    have HB := hide hb
    clear hb HCK
    go_wp2_with (fail)
    go_ret2
    exact ⟨by rw [HF.out]; rfl, HB.out⟩
end Go.Proofs.Ytkofodpjeknpiaa

/- A list of rectangles that has just been written out is read as a list. -/
namespace Go.Proofs.Ytkofodpjeknpiaa
open Go.RowKit
set_option linter.unusedVariables false
set_option linter.unusedSimpArgs false

theorem rd_lit (w : World) (l : List R4) (t : TypeId) (c : Nat) : RdK encR 4 (w.alloc (.cells (l.flatMap encR).toArray t)) (w.alloc (.cells (l.flatMap encR).toArray t)).heap.size (.slice (some ⟨w.heap.size, 0, none⟩) l.length c) l := by
  refine ⟨_, c, rfl, fun _ => ⟨w.heap.size, 0, rfl, by simp, fun j x hx i u hu => ?_⟩⟩
  have := news_new w (l.flatMap encR) t w.heap.size rfl _ _ (flat_get (k := 4) (fun _ => rfl) l j x i u hx hu)
  rw [addr_add] at this
  rwa [Nat.zero_add]
theorem rd_lit_at {w : World} {B : Nat} (hB : w.heap.size = B) (l : List R4) (t : TypeId) (c : Nat) : RdK encR 4 (w.alloc (.cells (l.flatMap encR).toArray t)) (w.alloc (.cells (l.flatMap encR).toArray t)).heap.size (.slice (some ⟨B, 0, none⟩) l.length c) l := by
  subst hB
  exact rd_lit w l t c
end Go.Proofs.Ytkofodpjeknpiaa

/- The walk of the reference's Missing. -/
namespace Go.Proofs.Ytkofodpjeknpiaa
open Go.RowKit
set_option linter.unusedVariables false
set_option linter.unusedSimpArgs false

theorem filt_at (l : List R4) (p : Int × Int) {L : List (Int × Int)} {k : Nat} {q : Int × Int} (h : L[k]? = some q) : (L.take (k + 1)).filterMap (cellM l p) = (L.take k).filterMap (cellM l p) ++ (cellM l p q).toList := by
  rw [List.take_add_one, h, List.filterMap_append]
  cases hc : cellM l p q <;> simp [List.filterMap_cons, hc]
theorem col_at (l : List R4) (ys : List Int) {L : List (Int × Int)} {k : Nat} {q : Int × Int} (h : L[k]? = some q) : (L.take (k + 1)).flatMap (colM l ys) = (L.take k).flatMap (colM l ys) ++ colM l ys q := by
  rw [List.take_add_one, h, List.flatMap_append]
  simp
theorem prs_all (xs : List Int) : (prs xs).take (xs.length - 1) = prs xs := List.take_of_length_le (by rw [prs_len]; exact Nat.le_refl _)
theorem cell_len (l : List R4) (p : Int × Int) (L : List (Int × Int)) : (L.filterMap (cellM l p)).length ≤ L.length := List.length_filterMap_le _ _
/-- What a Missing leaves. -/
def MissRet (l : List R4) (e : Ending) (w' : World) : Prop := ∃ A c, e = .returned (.slice A (missF l).length c) ∧ RdK encR 4 w' w'.heap.size (.slice A (missF l).length c) (missF l)
theorem miss_len (l : List R4) (n : Nat) (hx : (srt (cutsL l)).length ≤ n) (hy : (srt (cutsY l)).length ≤ n) : (missF l).length ≤ n * n + 4 := by
  unfold missF missG
  split
  · simp
  · rw [List.length_append]
    have h1 : ∀ L : List (Int × Int), (L.flatMap (colM l (srt (cutsY l)))).length ≤ L.length * n := fun L => by
      induction L with
      | nil => simp
      | cons a L ih =>
        rw [List.flatMap_cons, List.length_append, List.length_cons, Nat.add_mul]
        have h2 : (colM l (srt (cutsY l)) a).length ≤ n := by
          unfold colM
          have h3 := cell_len l a (prs (srt (cutsY l)))
          have h4 := prs_len (srt (cutsY l))
          omega
        omega
    have h5 := h1 (prs (srt (cutsL l)))
    have h6 := prs_len (srt (cutsL l))
    have h7 : (prs (srt (cutsL l))).length * n ≤ n * n := Nat.mul_le_mul_right n (by omega)
    have h8 : ∀ a b c d : Int, (ringM a b c d).length = 4 := fun _ _ _ _ => rfl
    rw [h8]
    omega
set_option maxRecDepth 100000 in
set_option maxHeartbeats 8000000 in
theorem rMissing_any {w : World} {v : Value} {l : List R4} (hr : RdK encR 4 w w.heap.size v l) (hl : l.length ≤ 500) :
    Calls Try.prog 13 #[v] w fun e w' => MissRet l e w' ∧ Below w.heap.size w w' := by
  obtain ⟨i1, gi, gz0, gz1, gz2⟩ := info_parts infoRc
  have hX := fun (W : World) (hW : Below w.heap.size w W) => rXs_any (w := W) (hr.below hW) (RdK.nil (enc := encR) (k := 4) (w := W) (B := w.heap.size) none 0) hW.size (by omega) (by simp)
  have hY := fun (W : World) (hW : Below w.heap.size w W) => rYs_any (w := W) (hr.below hW) (RdK.nil (enc := encR) (k := 4) (w := W) (B := w.heap.size) none 0) hW.size (by omega) (by simp)
  have ex : cutsL l ++ cutsL [] = cutsL l := by simp [cutsL]
  have ey : cutsY l ++ cutsY [] = cutsY l := by simp [cutsY]
  rw [ex] at hX
  rw [ey] at hY
  have hxl : (srt (cutsL l)).length ≤ 1000 := by have := srt_len (cutsL l); rw [cutsL_len] at this; omega
  have hyl : (srt (cutsY l)).length ≤ 1000 := by have := srt_len (cutsY l); rw [cutsY_len] at this; omega
  have HM : Hid (missF l = missG l (srt (cutsL l)) (srt (cutsY l))) := hide rfl
  have HNY : Hid (0 < (srt (cutsL l)).length → 0 < (srt (cutsY l)).length) := hide (fun h => by
    cases l with
    | nil => simp [cutsL, srt] at h
    | cons a l => exact (len_cuts (l := a :: l) (by simp)).2)
  have HLEN := hide (miss_len l 1000 hxl hyl)
  generalize srt (cutsL l) = xs at *
  generalize srt (cutsY l) = ys at *
  have HX := hide hX
  have HY := hide hY
  obtain ⟨A1, c1, hva, _⟩ := id hr
  subst hva
  have HR := hide hr
  clear hr hX hY ex ey
  have xz : (xs.length : Int) ≤ 1000 := by omega
  have yz : (ys.length : Int) ≤ 1000 := by omega
  go_enter Try.func13, Try.ntmps13
  by_cases hx0 : xs.length = 0
  · have HF : Hid (missF l = [⟨-4000000, -4000000, 4000000, 4000000⟩]) := hide (by rw [HM.out]; unfold missG; rw [if_pos hx0])
    go_wp2_with (fail)
    refine (HX.out _ (Below.refl _ _)).mono ?_
    rintro e w1 ⟨vx, rfl, ox, hb1⟩
    have OX := hide ox
    have HB1 := hide hb1
    clear ox hb1
    go_wp2_with (fail)
    refine (HY.out _ HB1.out).mono ?_
    rintro e w2 ⟨vy, rfl, oy, hb2⟩
    obtain ⟨Ax, cx, hvx⟩ := own_form OX.out
    subst hvx
    rw [hx0] at OX ⊢
    have HB2 := hide (HB1.out.trans (hb2.mono HB1.out.size))
    clear oy hb2 HX HY HB1 OX hx0 HLEN
    go_wp2_with (fail)
    go_ret
    refine ⟨⟨some ⟨w2.heap.size, 0, none⟩, 1, by rw [HF.out]; rfl, ?_⟩, HB2.out.alloc HB2.out.size _⟩
    rw [HF.out]
    exact rd_lit w2 [⟨-4000000, -4000000, 4000000, 4000000⟩] _ 1
  · have hxp : (0 : Int) < (xs.length : Int) := by omega
    have HYP := hide (HNY.out (by omega))
    have hxe : ¬ (xs.length : Int) = 0 := by omega
    have hxb : ((xs.length : Int) == 0) = false := by simpa using hxe
    have HF : Hid (missF l = (prs xs).flatMap (colM l ys) ++ ringM (xs.getD 0 0) (ys.getD 0 0) (xs.getD (xs.length - 1) 0) (ys.getD (ys.length - 1) 0)) := hide (by rw [HM.out]; unfold missG; rw [if_neg hx0])
    have HX0 := hide hx0
    clear hxe hx0 HNY HM
    go_wp2_with (fail)
    refine (HX.out _ (Below.refl _ _)).mono ?_
    rintro e w1 ⟨vx, rfl, ox, hb1⟩
    have OX := hide ox
    have HB1 := hide hb1
    clear ox hb1
    go_wp2_with (fail)
    refine (HY.out _ HB1.out).mono ?_
    rintro e w2 ⟨vy, rfl, oy, hb2⟩
    obtain ⟨Ax, cx, hvx⟩ := own_form OX.out
    subst hvx
    obtain ⟨Ay, cy, hvy⟩ := own_form oy
    subst hvy
    have HJ0 := hide (show RJ w (.slice Ax xs.length cx) (.slice Ay ys.length cy) (.slice none 0 0) (.slice none 0 0) xs ys [] [] w2 from ⟨HB1.out.trans (hb2.mono HB1.out.size), own_below OX.out hb2, own_base oy HB1.out.size, World.ownsRow_nil _ _ _ _, World.ownsRow_nil _ _ _ _⟩)
    clear OX oy HB1 hb2 HX HY
    go_wp2_with (fail)
    go_loopw [5, 6] (fun ov iv wr => ∃ (i no : Nat) (Ao : Option Addr) (co : Nat), i < xs.length ∧ iv = .int .i64 i ∧ ov = .slice Ao no co ∧ Hid (no = ((prs xs).take i |>.flatMap (colM l ys)).length) ∧ Hid (no ≤ i * 1000) ∧ Hid (RJ w (.slice Ax xs.length cx) (.slice Ay ys.length cy) (.slice Ao no co) (.slice none 0 0) xs ys (((prs xs).take i).flatMap (colM l ys)) [] wr)) (fun _ iv _ => xs.length - (intOf iv).toNat)
    case atStart => exact ⟨0, 0, none, 0, by omega, rfl, rfl, hide rfl, hide (by omega), HJ0⟩
    case round =>
      clear HJ0
      obtain ⟨i, no, Ao, co, hi, rfl, rfl, HN, HN2, HJ⟩ := hrel
      by_cases hlt : i + 1 < xs.length
      · obtain ⟨c, hc⟩ : ∃ c, xs[i]? = some c := ⟨_, List.getElem?_eq_getElem (by omega)⟩
        obtain ⟨d, hd⟩ : ∃ d, xs[i + 1]? = some d := ⟨_, List.getElem?_eq_getElem hlt⟩
        have HP := hide (prs_get xs i c d hc hd)
        have HC := hide hc
        have HD := hide hd
        have iz : (i : Int) + 1 < (xs.length : Int) := by omega
        have HN3 : no ≤ 1000000 := by have := HN2.out; have : i * 1000 ≤ 1000 * 1000 := Nat.mul_le_mul_right 1000 (by omega); omega
        clear hc hd
        go_wp2_with (fail)
        go_loopw [5, 7] (fun ov kv wr => ∃ (k n9 : Nat) (Ao : Option Addr) (co : Nat), k < ys.length ∧ kv = .int .i64 k ∧ ov = .slice Ao n9 co ∧ Hid (n9 ≤ no + k) ∧ Hid (n9 = (((prs xs).take i).flatMap (colM l ys) ++ ((prs ys).take k).filterMap (cellM l (c, d))).length) ∧ Hid (RJ w (.slice Ax xs.length cx) (.slice Ay ys.length cy) (.slice Ao n9 co) (.slice none 0 0) xs ys (((prs xs).take i).flatMap (colM l ys) ++ ((prs ys).take k).filterMap (cellM l (c, d))) [] wr)) (fun _ kv _ => ys.length - (intOf kv).toNat)
        case atStart => exact ⟨0, no, Ao, co, HYP.out, rfl, rfl, hide (by omega), hide (by rw [List.take_zero, List.filterMap_nil, List.append_nil]; exact HN.out), by rw [List.take_zero, List.filterMap_nil, List.append_nil]; exact HJ⟩
        case round =>
          clear HJ
          obtain ⟨k, n9, Ao, co, hk, rfl, rfl, HN9, HL9, HJ⟩ := hrel
          by_cases hltk : k + 1 < ys.length
          · obtain ⟨y, hy⟩ : ∃ c, ys[k]? = some c := ⟨_, List.getElem?_eq_getElem (by omega)⟩
            obtain ⟨z, hz⟩ : ∃ d, ys[k + 1]? = some d := ⟨_, List.getElem?_eq_getElem hltk⟩
            have HQ := hide (filt_at l (c, d) (prs_get ys k y z hy hz))
            have kz : (k : Int) + 1 < (ys.length : Int) := by omega
            obtain ⟨gx, cpx, hvx, hBx, hgx⟩ := HJ.out.x.form (by omega)
            injection hvx with e1 _ e3
            subst e1; subst e3
            obtain ⟨gy, cpy, hvy, hBy, hgy⟩ := HJ.out.y.form (by omega)
            injection hvy with e1 _ e3
            subst e1; subst e3
            obtain ⟨x0, x1⟩ := HJ.out.xcells HC.out HD.out
            have y0 : wr.cell? ⟨gy, k, none⟩ = some (.int .i64 y) := by
              have := (HJ.out.y.cells (g := gy) rfl) k (iv y) (by simp [hy])
              rwa [addr_add] at this
            have y1 : wr.cell? ⟨gy, k + 1, none⟩ = some (.int .i64 z) := by
              have := (HJ.out.y.cells (g := gy) rfl) (k + 1) (iv z) (by simp [hz])
              rwa [addr_add] at this
            have HHA : Hid (∀ nq, Calls Try.prog 27 #[.slice A1 l.length c1, .int .i64 c, .int .i64 y] (wr.drewN nq) fun e w' => e = .returned (.bool (decide (pmem l c y))) ∧ w' = wr.drewN nq) := hide (fun nq => (rHas_any (HR.out.below (below_drewN HJ.out.low nq)) (by omega) c y).mono fun e w' ⟨he, hw⟩ => ⟨he, hw.symm⟩)
            have hgxw : gx < wr.heap.size := (HJ.out.x.lt gx rfl).2
            have hgyw : gy < wr.heap.size := (HJ.out.y.lt gy rfl).2
            have hsz := HJ.out.low.size
            have HYS := hide (And.intro hy hz)
            clear hy hz hBx hBy hgx hgy
            have r1 : (0 : Int) ≤ (i : Int) := by omega
            have r2 : (0 : Int) ≤ (k : Int) := by omega
            have r3 : (i : Int) < (xs.length : Int) := by omega
            have r4 : (k : Int) < (ys.length : Int) := by omega
            have n9z : n9 ≤ 1001000 := by have := HN9.out; omega
            go_wp2_with (fail)
            by_cases hpm : pmem l c y
            · have HE : Hid (cellM l (c, d) (y, z) = none) := hide (by unfold cellM; rw [if_pos hpm])
              rw [decide_eq_true hpm] at HHA
              clear hpm
              go_quiet ((go_at_call 27; exact Calls.quiet_of_same (HHA.out _)))
              clear HHA
              go_upto_region 10 with fail
              refine wp_name fun Z hZ => ?_
              have HJ9 := hide (HJ.out.below (show Below wr.heap.size wr Z by rw [hZ]; exact below_drewN (Below.refl _ _) _))
              clear hZ HJ x0 x1 y0 y1
              go_wp2_with (fail)
              go_roundw
              case rel => exact ⟨k + 1, n9, _, co, hltk, by go_num, rfl, hide (by have := HN9.out; omega), hide (by rw [HQ.out, HE.out]; simpa using HL9.out), by rw [HQ.out, HE.out]; simpa using HJ9⟩
              case measure => simp [intOf]; omega
            · have HE : Hid (cellM l (c, d) (y, z) = some ⟨c, y, d, z⟩) := hide (by unfold cellM; rw [if_neg hpm])
              rw [decide_eq_false hpm] at HHA
              clear hpm
              go_quiet ((go_at_call 27; exact Calls.quiet_of_same (HHA.out _)))
              clear HHA
              go_upto_region 12 with fail
              refine wp_name fun Z hZ => ?_
              have hbz : Below wr.heap.size wr Z := by rw [hZ]; exact below_drewN (Below.refl _ _) _
              have HJ9 := hide (HJ.out.below hbz)
              have x0 := (hbz.cell (p := ⟨gx, i, none⟩) hgxw).trans x0
              have x1 := (hbz.cell (p := ⟨gx, i + 1, none⟩) hgxw).trans x1
              have y0 := (hbz.cell (p := ⟨gy, k, none⟩) hgyw).trans y0
              have y1 := (hbz.cell (p := ⟨gy, k + 1, none⟩) hgyw).trans y1
              have hgxw : gx < Z.heap.size := Nat.lt_of_lt_of_le hgxw hbz.size
              have hgyw : gy < Z.heap.size := Nat.lt_of_lt_of_le hgyw hbz.size
              clear hZ HJ hbz
              have t1 : IntKind.i64.wrap ((i : Int) + 1) = (i : Int) + 1 := IntWalk.i64_in _ (by omega)
              have t2 : IntKind.i64.wrap ((k : Int) + 1) = (k : Int) + 1 := IntWalk.i64_in _ (by omega)
              have t3 : ((i : Int) + 1).toNat = i + 1 := by omega
              have t4 : ((k : Int) + 1).toNat = k + 1 := by omega
              have t5 : 0 ≤ (i : Int) + 1 := by omega
              have t6 : 0 ≤ (k : Int) + 1 := by omega
              refine wp_region_mix [0, 1, 2, 3, 4, 5, 6, 7, 8, 9, 10, 11, 12, 13, 14, 15, 16, 17, 18, 19] [20, 21, 22] (fun w' => w'.cell? ⟨gx, i, none⟩ = some (.int .i64 c) ∧ w'.cell? ⟨gx, i + 1, none⟩ = some (.int .i64 d) ∧ w'.cell? ⟨gy, k, none⟩ = some (.int .i64 y) ∧ w'.cell? ⟨gy, k + 1, none⟩ = some (.int .i64 z)) (by kernel_rfl) (by kernel_rfl) ⟨x0, x1, y0, y1⟩ ?_
              simp only [List.map_cons, List.map_nil, opAt, List.getElem?_cons_succ, List.getElem?_cons_zero, Option.getD_some]
              iterate 20
                refine ⟨?_, Or.inl ⟨by rfl, ?_⟩, ?_⟩
                rotate_left 1
                · intro w' hSw
                  obtain ⟨z0, z1, z2, z3⟩ := hSw
                  go_simp
                  first | done | with_reducible rfl
                simp only [Act.put, List.setIfInBounds_toArray, List.set_cons_zero, List.set_cons_succ]
              clear r1 r2 r3 r4 t1 t2 t3 t4 t5 t6
              simp only [wpReads]
              intro K hK
              simp only [Act.put, List.setIfInBounds_toArray, List.set_cons_zero, List.set_cons_succ] at hK ⊢
              go_simp
              refine hK _ _ (fun _ => ⟨by go_keep, by go_keep, by go_keep, by go_keep⟩) ?_
              clear hK K
              intro K hK
              refine step_append_lies _ rfl (.tmp 46) (.tmp 66) 22 rfl w.heap.size 45 i1 (.agg #[.int .i64 0, .int .i64 0, .int .i64 0, .int .i64 0]) 4 32 Try.underlying22 gi gz0 gz1 gz2 rfl (by decide) _ n9 _ rfl (own_drew (World.ownsRow.alloc (w := Z) (own_n HJ9.out.o HL9.out.symm) _)) ⟨Z.heap.size, 0, none⟩ 1 1 [.int .i64 c, .int .i64 y, .int .i64 d, .int .i64 z] rfl rfl (news_drew Z _ _ _ rfl) (ints_one rfl) (by omega) (by unfold maxLen; omega) (by omega) (by have := HJ9.out.low.size; simp; omega) _ rfl ?_
              intro g9 cap9 w9 hown9 hgrow9 _ _
              have HO9 : Hid (w9.ownsRow w.heap.size 45 4 (.slice (some ⟨g9, 0, none⟩) (n9 + 1) cap9) (n9 + 1) ((((prs xs).take i).flatMap (colM l ys) ++ ((prs ys).take (k + 1)).filterMap (cellM l (c, d))).flatMap encR)) := hide (by rw [HQ.out, HE.out, ← List.append_assoc, List.flatMap_append]; exact hown9)
              have HL10 : Hid (n9 + 1 = (((prs xs).take i).flatMap (colM l ys) ++ ((prs ys).take (k + 1)).filterMap (cellM l (c, d))).length) := hide (own_len (enc := encR) (k := 4) HO9.out (fun _ => rfl) (by omega))
              have hbz : Below Z.heap.size Z ((Z.alloc (.cells #[.int .i64 c, .int .i64 y, .int .i64 d, .int .i64 z] 45)).drew) := ((Below.refl _ _).alloc (Nat.le_refl _) _).drew
              have HJ10 : Hid (RJ w (.slice (some ⟨gx, 0, none⟩) xs.length cx) (.slice (some ⟨gy, 0, none⟩) ys.length cy) (.slice (some ⟨g9, 0, none⟩) (n9 + 1) cap9) (.slice none 0 0) xs ys (((prs xs).take i).flatMap (colM l ys) ++ ((prs ys).take (k + 1)).filterMap (cellM l (c, d))) [] w9) := hide ((HJ9.out.below hbz).pushed hgrow9 (n := n9 + 1) HO9.out)
              obtain ⟨q0, q1⟩ := HJ10.out.xcells HC.out HD.out
              have HK : Hid ((w9.cell? ⟨gy, k, none⟩ = some (.int .i64 y)) ∧ w9.cell? ⟨gy, k + 1, none⟩ = some (.int .i64 z)) := hide ⟨by
                have := (HJ10.out.y.cells (g := gy) rfl) k (iv y) (by simp [HYS.out.1])
                rwa [addr_add] at this, by
                have := (HJ10.out.y.cells (g := gy) rfl) (k + 1) (iv z) (by simp [HYS.out.2])
                rwa [addr_add] at this⟩
              clear hown9 hgrow9 hbz
              refine hK _ _ (fun _ => ⟨q0, q1, HK.out.1, HK.out.2⟩) ?_
              clear hK K
              intro K hK
              simp only [Act.put, List.setIfInBounds_toArray, List.set_cons_zero, List.set_cons_succ] at hK ⊢
              go_simp
              refine hK _ _ (fun h => absurd rfl h) ?_
              clear hK K q0 q1 HK x0 x1 y0 y1
              refine NoPanic.normal ?_
              go_wp2_with (fail)
              go_roundw
              case rel => exact ⟨k + 1, n9 + 1, _, cap9, hltk, by go_num, rfl, hide (by have := HN9.out; omega), HL10, HJ10⟩
              case measure => simp [intOf]; omega
          · have hke : k = ys.length - 1 := by omega
            have HJ2 : Hid (RJ w (.slice Ax xs.length cx) (.slice Ay ys.length cy) (.slice Ao n9 co) (.slice none 0 0) xs ys (((prs xs).take (i + 1)).flatMap (colM l ys)) [] wr) := hide (by
              have := HJ.out
              rw [hke, prs_all] at this
              rw [col_at l ys HP.out]
              exact this)
            have kz : ¬ (k : Int) + 1 < (ys.length : Int) := by omega
            have HL2 : Hid (n9 = ((prs xs).take (i + 1) |>.flatMap (colM l ys)).length) := hide (by have := HL9.out; rw [hke, prs_all] at this; rw [col_at l ys HP.out]; exact this)
            have HL3 : Hid (n9 ≤ (i + 1) * 1000) := hide (by have := HN9.out; have := HN2.out; omega)
            clear HJ
            go_wp2_with (fail)
            go_roundw
            case rel => exact ⟨i + 1, n9, Ao, co, by omega, by go_num, rfl, HL2, HL3, HJ2⟩
            case measure => simp [intOf]; omega
      · have hie : i = xs.length - 1 := by omega
        have iz : ¬ (i : Int) + 1 < (xs.length : Int) := by omega
        rw [hie, prs_all] at HN HJ
        have HN3 : no ≤ 1000000 := by have := HN2.out; have : i * 1000 ≤ 1000 * 1000 := Nat.mul_le_mul_right 1000 (by omega); omega
        have hyp := HYP.out
        obtain ⟨a0, ha0⟩ : ∃ c, xs[0]? = some c := ⟨_, List.getElem?_eq_getElem (by omega)⟩
        obtain ⟨a1, ha1⟩ : ∃ c, xs[xs.length - 1]? = some c := ⟨_, List.getElem?_eq_getElem (by omega)⟩
        obtain ⟨b0, hb0⟩ : ∃ c, ys[0]? = some c := ⟨_, List.getElem?_eq_getElem (by omega)⟩
        obtain ⟨b1, hb1⟩ : ∃ c, ys[ys.length - 1]? = some c := ⟨_, List.getElem?_eq_getElem (by omega)⟩
        have HG : Hid (ringM (xs.getD 0 0) (ys.getD 0 0) (xs.getD (xs.length - 1) 0) (ys.getD (ys.length - 1) 0) = ringM a0 b0 a1 b1) := hide (by
          rw [List.getD_eq_getElem?_getD, List.getD_eq_getElem?_getD, List.getD_eq_getElem?_getD, List.getD_eq_getElem?_getD, ha0, ha1, hb0, hb1]
          rfl)
        obtain ⟨gx, cpx, hvx, hBx, hgx⟩ := HJ.out.x.form (by omega)
        injection hvx with e1 _ e3
        subst e1; subst e3
        obtain ⟨gy, cpy, hvy, hBy, hgy⟩ := HJ.out.y.form (by omega)
        injection hvy with e1 _ e3
        subst e1; subst e3
        have k0 : ∀ (j : Nat) (u : Int), xs[j]? = some u → wr.cell? ⟨gx, j, none⟩ = some (.int .i64 u) := fun j u hu => by
          have := (HJ.out.x.cells (g := gx) rfl) j (iv u) (by simp [hu])
          rwa [addr_add] at this
        have k1 : ∀ (j : Nat) (u : Int), ys[j]? = some u → wr.cell? ⟨gy, j, none⟩ = some (.int .i64 u) := fun j u hu => by
          have := (HJ.out.y.cells (g := gy) rfl) j (iv u) (by simp [hu])
          rwa [addr_add] at this
        have x0 := k0 _ _ ha0
        have x1 := k0 _ _ ha1
        have y0 := k1 _ _ hb0
        have y1 := k1 _ _ hb1
        obtain ⟨nx, hnx⟩ : ∃ nx, xs.length = nx + 1 := ⟨xs.length - 1, by omega⟩
        obtain ⟨ny, hny⟩ : ∃ ny, ys.length = ny + 1 := ⟨ys.length - 1, by omega⟩
        have HNX := hide hnx
        have HNYY := hide hny
        rw [hnx, Nat.add_sub_cancel] at x1
        rw [hny, Nat.add_sub_cancel] at y1
        have HJH := hide HJ.out
        obtain rfl : i = nx := by omega
        rw [hnx] at xz hxp ⊢
        rw [hny] at yz ⊢
        clear iz
        clear k0 k1 ha0 ha1 hb0 hb1 hBx hBy hgx hgy hnx hny hxb hyp hie hxl hyl
        have t1 : IntKind.i64.wrap (i : Int) = i := IntWalk.i64_in _ (by omega)
        have t2 : IntKind.i64.wrap (ny : Int) = ny := IntWalk.i64_in _ (by omega)
        have q1 : (0 : Int) ≤ (i : Int) := by omega
        have q2 : (0 : Int) ≤ (ny : Int) := by omega
        have q3 : (i : Int) < (i : Int) + 1 := by omega
        have q4 : (ny : Int) < (ny : Int) + 1 := by omega
        have q5 : (0 : Int) < (i : Int) + 1 := by omega
        have q6 : (0 : Int) < (ny : Int) + 1 := by omega
        go_wp2_with (fail)
        go_quiet (fail)
        clear t1 t2 q1 q2 q3 q4 q5 q6 x0 x1 y0 y1
        go_upto_region 14 with fail
        refine wp_name fun Z hZ => ?_
        have HJZ := hide (HJH.out.below (show Below wr.heap.size wr Z by rw [hZ]; exact below_drewN (Below.refl _ _) _))
        have hlz := HJZ.out.low.size
        clear hZ HJH HJ
        go_wp2_with (at_builtin; go_loud (refine wpList_append_lies _ rfl (.tmp 86) (.tmp 95) 22 rfl w.heap.size 45 i1 (.agg #[.int .i64 0, .int .i64 0, .int .i64 0, .int .i64 0]) 4 32 Try.underlying22 gi gz0 gz1 gz2 rfl (by decide) _ no _ rfl (World.ownsRow.alloc (own_n HJZ.out.o HN.out.symm) _) ⟨Z.heap.size, 0, none⟩ 4 4 [.int .i64 (-4000000), .int .i64 (-4000000), .int .i64 a0, .int .i64 4000000, .int .i64 a1, .int .i64 (-4000000), .int .i64 4000000, .int .i64 4000000, .int .i64 (-4000000), .int .i64 (-4000000), .int .i64 4000000, .int .i64 b0, .int .i64 (-4000000), .int .i64 b1, .int .i64 4000000, .int .i64 4000000] rfl rfl (news_new Z _ _ _ rfl) (ints_one rfl) (by omega) (by unfold maxLen; omega) (by omega) (by simp; omega) _ rfl ?_))
        intro g9 cap9 w9 hown hgrow _ _
        have HO9 : Hid (w9.ownsRow w.heap.size 45 4 (.slice (some ⟨g9, 0, none⟩) (no + 4) cap9) (no + 4) ((((prs xs).flatMap (colM l ys)) ++ ringM a0 b0 a1 b1).flatMap encR)) := hide (by rw [List.flatMap_append]; exact hown)
        have HB9 : Hid (Below w.heap.size w w9) := hide ((HJZ.out.low.alloc hlz _).grown hgrow (by simp; omega) (fun q hq => (HJZ.out.o.lt q hq).1))
        have HL9 := hide (own_len (enc := encR) (k := 4) HO9.out (fun _ => rfl) (by omega))
        clear hown hgrow HJZ
        go_wp2_with (fail)
        go_ret
        have hm : missF l = (prs xs).flatMap (colM l ys) ++ ringM a0 b0 a1 b1 := by rw [HF.out, HG.out]
        refine ⟨⟨some ⟨g9, 0, none⟩, cap9, ?_, ?_⟩, HB9.out⟩
        · rw [hm, ← HL9.out]; rfl
        · rw [hm, ← HL9.out]
          exact own_rd (own_n HO9.out HL9.out) (fun _ => rfl)
end Go.Proofs.Ytkofodpjeknpiaa

/- The walks of roof's Falls, of the reference's Height and Falls, and of the law RoofHeights. -/
namespace Go.Proofs.Ytkofodpjeknpiaa
open Go.RowKit
set_option linter.unusedVariables false
set_option linter.unusedSimpArgs false

def hZ (l : List R4) (x y : Int) : Int := (heightF l x y : Nat)
def fbitG (H : Int → Int → Int) (x y : Int) : Nat → Int
  | 0 => if H (x + 1) y < H x y then 1 else 0
  | 1 => if H (x - 1) y < H x y then 2 else 0
  | 2 => if H x (y + 1) < H x y then 4 else 0
  | _ => if H x (y - 1) < H x y then 8 else 0
def fallsG (H : Int → Int → Int) (x y : Int) : Nat → Int
  | 0 => 0
  | m + 1 => fallsG H x y m + fbitG H x y m
theorem fbit_bd (H : Int → Int → Int) (x y : Int) : (0 ≤ fallsG H x y 0 ∧ fallsG H x y 0 ≤ 0) ∧ (0 ≤ fallsG H x y 1 ∧ fallsG H x y 1 ≤ 1) ∧ (0 ≤ fallsG H x y 2 ∧ fallsG H x y 2 ≤ 3) ∧ (0 ≤ fallsG H x y 3 ∧ fallsG H x y 3 ≤ 7) := by
  simp only [fallsG, fbitG]
  repeat' split
  all_goals omega
theorem falls_st (H : Int → Int → Int) (x y : Int) : fallsG H x y 0 = 0 ∧ fallsG H x y 1 = fallsG H x y 0 + (if H (x + 1) y < H x y then 1 else 0) ∧ fallsG H x y 2 = fallsG H x y 1 + (if H (x - 1) y < H x y then 2 else 0) ∧ fallsG H x y 3 = fallsG H x y 2 + (if H x (y + 1) < H x y then 4 else 0) ∧ fallsG H x y 4 = fallsG H x y 3 + (if H x (y - 1) < H x y then 8 else 0) := ⟨rfl, rfl, rfl, rfl, rfl⟩
def fallsR (l : List R4) (x y : Int) : Int × Int := if (heightR l x y).2 ≠ 0 then (0, (heightR l x y).2) else (fallsG (hZ l) x y 4, 0)
theorem heightR_cases (l : List R4) (x y : Int) : (checkF l = 0 ∧ (-2000000 ≤ x ∧ x ≤ 2000000 ∧ -2000000 ≤ y ∧ y ≤ 2000000) ∧ heightR l x y = (hZ l x y, 0)) ∨ (heightR l x y).2 ≠ 0 ∧ (heightR l x y).1 = 0 := by
  unfold heightR
  by_cases hc : checkF l = 0
  · rw [if_neg (by rw [hc]; simp)]
    by_cases h : -2000000 ≤ x ∧ x ≤ 2000000 ∧ -2000000 ≤ y ∧ y ≤ 2000000
    · rw [if_pos h]; exact .inl ⟨hc, h, rfl⟩
    · rw [if_neg h]; exact .inr ⟨by simp, rfl⟩
  · rw [if_pos hc]; exact .inr ⟨hc, rfl⟩
set_option maxRecDepth 100000 in
set_option maxHeartbeats 8000000 in
theorem roofFalls_any {w : World} {v : Value} {l : List R4} (hr : RdK encR 4 w w.heap.size v l) (hl : l.length ≤ 100000000) (x y : Int) (hx : -9223372036854775808 ≤ x ∧ x ≤ 9223372036854775807) (hy : -9223372036854775808 ≤ y ∧ y ≤ 9223372036854775807) :
    Calls Try.prog 7 #[v, .int .i64 x, .int .i64 y] w fun e w' => e = .returned (.tuple #[.int .u8 (fallsR l x y).1, .int .i64 (fallsR l x y).2]) ∧ Below w.heap.size w w' := by
  have HH := hide (roofHeight_any hr hl x y hx hy)
  rcases heightR_cases l x y with ⟨hc, hin, he⟩ | ⟨h2, h1⟩
  · have HF : Hid (fallsR l x y = (fallsG (hZ l) x y 4, 0)) := hide (by unfold fallsR; rw [he]; rfl)
    rw [he] at HH
    have HHE : Hid (∀ (a b : Int), -2000001 ≤ a ∧ a ≤ 2000001 → -2000001 ≤ b ∧ b ≤ 2000001 → ∀ W : World, Below w.heap.size w W → Calls Try.prog 10 #[v, .int .i64 a, .int .i64 b] W fun e w' => e = .returned (.int .i64 (hZ l a b)) ∧ Below W.heap.size W w') := hide (fun a b h1 h2 W hW => height_any ((hr.below hW).mono hW.size) hc a b h1 h2)
    obtain ⟨A, c, rfl, _⟩ := hr
    obtain ⟨a1, a2, a3, a4⟩ := hin
    clear hc he hl hx hy
    generalize hZ l = H at *
    obtain ⟨s0, s1, s2, s3, s4⟩ := falls_st H x y
    obtain ⟨⟨b0, b0'⟩, ⟨b1, b1'⟩, ⟨b2, b2'⟩, ⟨b3, b3'⟩⟩ := fbit_bd H x y
    have S0 := hide s0
    have S1 := hide s1
    have S2 := hide s2
    have S3 := hide s3
    have S4 := hide s4
    clear s0 s1 s2 s3 s4
    generalize fallsG H x y = P at *
    go_enter Try.func7, Try.ntmps7
    go_wp2_with (fail)
    refine HH.out.mono ?_
    rintro e w1 ⟨rfl, hb⟩
    have HB1 := hide hb
    clear hb HH
    go_wp2_with (fail)
    go_loopw [10, 28] (fun o i wr => ∃ m : Nat, m ≤ 4 ∧ i = .int .i64 m ∧ o = .int .u8 (P m) ∧ Hid (Below w.heap.size w wr)) (fun _ i _ => 4 - (intOf i).toNat)
    case atStart => exact ⟨0, Nat.zero_le _, rfl, by rw [S0.out], HB1⟩
    case round =>
      clear HB1
      obtain ⟨m, hm, rfl, rfl, HB1⟩ := hrel
      have hm5 : m = 0 ∨ m = 1 ∨ m = 2 ∨ m = 3 ∨ m = 4 := by omega
      rcases hm5 with rfl | rfl | rfl | rfl | rfl
      · have hidx : ∀ w : World, (Instr.index 42 (.agg #[.int .i64 1, .int .i64 0, .int .u8 1, .int .i64 (-1), .int .i64 0, .int .u8 2, .int .i64 0, .int .i64 1, .int .u8 4, .int .i64 0, .int .i64 (-1), .int .u8 8]) (.int .i64 0)).run Try.prog w = .ok (.agg #[.int .i64 1, .int .i64 0, .int .u8 1]) w := fun _ => by kernel_rfl
        have HC := hide (HHE.out (x + 1) y (by omega) (by omega))
        have ex : x + 1 = (x + 1) := by omega
        have ey : y + 0 = y := by omega
        clear HHE
        by_cases hlt : H (x + 1) y < H x y
        · have hv : P 1 = P 0 + 1 := by rw [S1.out, if_pos hlt]
          have HV := hide hv
          clear hv
          go_upto_region 8 with fail
          refine wp_name fun Z hZ => ?_
          have hbz : Below wr.heap.size wr Z := by rw [hZ]; exact (Below.refl _ _).alloc (Nat.le_refl _) _
          have z0 : Z.cell? ⟨wr.heap.size, 0, none⟩ = some (.int .i64 1) := by rw [hZ]; simp [go_sem]
          have z1 : Z.cell? ⟨wr.heap.size, 1, none⟩ = some (.int .i64 0) := by rw [hZ]; simp [go_sem]
          have z2 : Z.cell? ⟨wr.heap.size, 2, none⟩ = some (.int .u8 1) := by rw [hZ]; simp [go_sem]
          have hzs : wr.heap.size < Z.heap.size := by rw [hZ]; simp
          have HBZ := hide (HB1.out.trans (hbz.mono HB1.out.size))
          generalize wr.heap.size = q at *
          clear hZ hbz HB1
          go_wp2_with (fail)
          try rw [ex]
          try rw [ey]
          refine (HC.out _ HBZ.out).mono ?_
          rintro e w2 ⟨rfl, hb⟩
          have HB2 := hide (HBZ.out.trans (hb.mono HBZ.out.size))
          have z2 := (hb.cell (p := ⟨q, 2, none⟩) hzs).trans z2
          clear hb HBZ HC z0 z1 hzs
          go_wp2_with (fail)
          go_roundw
          case rel => exact ⟨1, by omega, rfl, by rw [HV.out], HB2⟩
          case measure => simp [intOf]
        · have hv : P 1 = P 0 := by rw [S1.out, if_neg hlt, Int.add_zero]
          have HV := hide hv
          have hge : H x y ≤ H (x + 1) y := by omega
          clear hv hlt
          go_upto_region 8 with fail
          refine wp_name fun Z hZ => ?_
          have hbz : Below wr.heap.size wr Z := by rw [hZ]; exact (Below.refl _ _).alloc (Nat.le_refl _) _
          have z0 : Z.cell? ⟨wr.heap.size, 0, none⟩ = some (.int .i64 1) := by rw [hZ]; simp [go_sem]
          have z1 : Z.cell? ⟨wr.heap.size, 1, none⟩ = some (.int .i64 0) := by rw [hZ]; simp [go_sem]
          have z2 : Z.cell? ⟨wr.heap.size, 2, none⟩ = some (.int .u8 1) := by rw [hZ]; simp [go_sem]
          have hzs : wr.heap.size < Z.heap.size := by rw [hZ]; simp
          have HBZ := hide (HB1.out.trans (hbz.mono HB1.out.size))
          generalize wr.heap.size = q at *
          clear hZ hbz HB1
          go_wp2_with (fail)
          try rw [ex]
          try rw [ey]
          refine (HC.out _ HBZ.out).mono ?_
          rintro e w2 ⟨rfl, hb⟩
          have HB2 := hide (HBZ.out.trans (hb.mono HBZ.out.size))
          have z2 := (hb.cell (p := ⟨q, 2, none⟩) hzs).trans z2
          clear hb HBZ HC z0 z1 hzs
          go_wp2_with (fail)
          go_roundw
          case rel => exact ⟨1, by omega, rfl, by rw [HV.out], HB2⟩
          case measure => simp [intOf]
      · have hidx : ∀ w : World, (Instr.index 42 (.agg #[.int .i64 1, .int .i64 0, .int .u8 1, .int .i64 (-1), .int .i64 0, .int .u8 2, .int .i64 0, .int .i64 1, .int .u8 4, .int .i64 0, .int .i64 (-1), .int .u8 8]) (.int .i64 1)).run Try.prog w = .ok (.agg #[.int .i64 (-1), .int .i64 0, .int .u8 2]) w := fun _ => by kernel_rfl
        have HC := hide (HHE.out (x - 1) y (by omega) (by omega))
        have ex : x + (-1) = (x - 1) := by omega
        have ey : y + 0 = y := by omega
        clear HHE
        by_cases hlt : H (x - 1) y < H x y
        · have hv : P 2 = P 1 + 2 := by rw [S2.out, if_pos hlt]
          have HV := hide hv
          clear hv
          go_upto_region 8 with fail
          refine wp_name fun Z hZ => ?_
          have hbz : Below wr.heap.size wr Z := by rw [hZ]; exact (Below.refl _ _).alloc (Nat.le_refl _) _
          have z0 : Z.cell? ⟨wr.heap.size, 0, none⟩ = some (.int .i64 (-1)) := by rw [hZ]; simp [go_sem]
          have z1 : Z.cell? ⟨wr.heap.size, 1, none⟩ = some (.int .i64 0) := by rw [hZ]; simp [go_sem]
          have z2 : Z.cell? ⟨wr.heap.size, 2, none⟩ = some (.int .u8 2) := by rw [hZ]; simp [go_sem]
          have hzs : wr.heap.size < Z.heap.size := by rw [hZ]; simp
          have HBZ := hide (HB1.out.trans (hbz.mono HB1.out.size))
          generalize wr.heap.size = q at *
          clear hZ hbz HB1
          go_wp2_with (fail)
          try rw [ex]
          try rw [ey]
          refine (HC.out _ HBZ.out).mono ?_
          rintro e w2 ⟨rfl, hb⟩
          have HB2 := hide (HBZ.out.trans (hb.mono HBZ.out.size))
          have z2 := (hb.cell (p := ⟨q, 2, none⟩) hzs).trans z2
          clear hb HBZ HC z0 z1 hzs
          go_wp2_with (fail)
          go_roundw
          case rel => exact ⟨2, by omega, rfl, by rw [HV.out], HB2⟩
          case measure => simp [intOf]
        · have hv : P 2 = P 1 := by rw [S2.out, if_neg hlt, Int.add_zero]
          have HV := hide hv
          have hge : H x y ≤ H (x - 1) y := by omega
          clear hv hlt
          go_upto_region 8 with fail
          refine wp_name fun Z hZ => ?_
          have hbz : Below wr.heap.size wr Z := by rw [hZ]; exact (Below.refl _ _).alloc (Nat.le_refl _) _
          have z0 : Z.cell? ⟨wr.heap.size, 0, none⟩ = some (.int .i64 (-1)) := by rw [hZ]; simp [go_sem]
          have z1 : Z.cell? ⟨wr.heap.size, 1, none⟩ = some (.int .i64 0) := by rw [hZ]; simp [go_sem]
          have z2 : Z.cell? ⟨wr.heap.size, 2, none⟩ = some (.int .u8 2) := by rw [hZ]; simp [go_sem]
          have hzs : wr.heap.size < Z.heap.size := by rw [hZ]; simp
          have HBZ := hide (HB1.out.trans (hbz.mono HB1.out.size))
          generalize wr.heap.size = q at *
          clear hZ hbz HB1
          go_wp2_with (fail)
          try rw [ex]
          try rw [ey]
          refine (HC.out _ HBZ.out).mono ?_
          rintro e w2 ⟨rfl, hb⟩
          have HB2 := hide (HBZ.out.trans (hb.mono HBZ.out.size))
          have z2 := (hb.cell (p := ⟨q, 2, none⟩) hzs).trans z2
          clear hb HBZ HC z0 z1 hzs
          go_wp2_with (fail)
          go_roundw
          case rel => exact ⟨2, by omega, rfl, by rw [HV.out], HB2⟩
          case measure => simp [intOf]
      · have hidx : ∀ w : World, (Instr.index 42 (.agg #[.int .i64 1, .int .i64 0, .int .u8 1, .int .i64 (-1), .int .i64 0, .int .u8 2, .int .i64 0, .int .i64 1, .int .u8 4, .int .i64 0, .int .i64 (-1), .int .u8 8]) (.int .i64 2)).run Try.prog w = .ok (.agg #[.int .i64 0, .int .i64 1, .int .u8 4]) w := fun _ => by kernel_rfl
        have HC := hide (HHE.out x (y + 1) (by omega) (by omega))
        have ex : x + 0 = x := by omega
        have ey : y + 1 = (y + 1) := by omega
        clear HHE
        by_cases hlt : H x (y + 1) < H x y
        · have hv : P 3 = P 2 + 4 := by rw [S3.out, if_pos hlt]
          have HV := hide hv
          clear hv
          go_upto_region 8 with fail
          refine wp_name fun Z hZ => ?_
          have hbz : Below wr.heap.size wr Z := by rw [hZ]; exact (Below.refl _ _).alloc (Nat.le_refl _) _
          have z0 : Z.cell? ⟨wr.heap.size, 0, none⟩ = some (.int .i64 0) := by rw [hZ]; simp [go_sem]
          have z1 : Z.cell? ⟨wr.heap.size, 1, none⟩ = some (.int .i64 1) := by rw [hZ]; simp [go_sem]
          have z2 : Z.cell? ⟨wr.heap.size, 2, none⟩ = some (.int .u8 4) := by rw [hZ]; simp [go_sem]
          have hzs : wr.heap.size < Z.heap.size := by rw [hZ]; simp
          have HBZ := hide (HB1.out.trans (hbz.mono HB1.out.size))
          generalize wr.heap.size = q at *
          clear hZ hbz HB1
          go_wp2_with (fail)
          try rw [ex]
          try rw [ey]
          refine (HC.out _ HBZ.out).mono ?_
          rintro e w2 ⟨rfl, hb⟩
          have HB2 := hide (HBZ.out.trans (hb.mono HBZ.out.size))
          have z2 := (hb.cell (p := ⟨q, 2, none⟩) hzs).trans z2
          clear hb HBZ HC z0 z1 hzs
          go_wp2_with (fail)
          go_roundw
          case rel => exact ⟨3, by omega, rfl, by rw [HV.out], HB2⟩
          case measure => simp [intOf]
        · have hv : P 3 = P 2 := by rw [S3.out, if_neg hlt, Int.add_zero]
          have HV := hide hv
          have hge : H x y ≤ H x (y + 1) := by omega
          clear hv hlt
          go_upto_region 8 with fail
          refine wp_name fun Z hZ => ?_
          have hbz : Below wr.heap.size wr Z := by rw [hZ]; exact (Below.refl _ _).alloc (Nat.le_refl _) _
          have z0 : Z.cell? ⟨wr.heap.size, 0, none⟩ = some (.int .i64 0) := by rw [hZ]; simp [go_sem]
          have z1 : Z.cell? ⟨wr.heap.size, 1, none⟩ = some (.int .i64 1) := by rw [hZ]; simp [go_sem]
          have z2 : Z.cell? ⟨wr.heap.size, 2, none⟩ = some (.int .u8 4) := by rw [hZ]; simp [go_sem]
          have hzs : wr.heap.size < Z.heap.size := by rw [hZ]; simp
          have HBZ := hide (HB1.out.trans (hbz.mono HB1.out.size))
          generalize wr.heap.size = q at *
          clear hZ hbz HB1
          go_wp2_with (fail)
          try rw [ex]
          try rw [ey]
          refine (HC.out _ HBZ.out).mono ?_
          rintro e w2 ⟨rfl, hb⟩
          have HB2 := hide (HBZ.out.trans (hb.mono HBZ.out.size))
          have z2 := (hb.cell (p := ⟨q, 2, none⟩) hzs).trans z2
          clear hb HBZ HC z0 z1 hzs
          go_wp2_with (fail)
          go_roundw
          case rel => exact ⟨3, by omega, rfl, by rw [HV.out], HB2⟩
          case measure => simp [intOf]
      · have hidx : ∀ w : World, (Instr.index 42 (.agg #[.int .i64 1, .int .i64 0, .int .u8 1, .int .i64 (-1), .int .i64 0, .int .u8 2, .int .i64 0, .int .i64 1, .int .u8 4, .int .i64 0, .int .i64 (-1), .int .u8 8]) (.int .i64 3)).run Try.prog w = .ok (.agg #[.int .i64 0, .int .i64 (-1), .int .u8 8]) w := fun _ => by kernel_rfl
        have HC := hide (HHE.out x (y - 1) (by omega) (by omega))
        have ex : x + 0 = x := by omega
        have ey : y + (-1) = (y - 1) := by omega
        clear HHE
        by_cases hlt : H x (y - 1) < H x y
        · have hv : P 4 = P 3 + 8 := by rw [S4.out, if_pos hlt]
          have HV := hide hv
          clear hv
          go_upto_region 8 with fail
          refine wp_name fun Z hZ => ?_
          have hbz : Below wr.heap.size wr Z := by rw [hZ]; exact (Below.refl _ _).alloc (Nat.le_refl _) _
          have z0 : Z.cell? ⟨wr.heap.size, 0, none⟩ = some (.int .i64 0) := by rw [hZ]; simp [go_sem]
          have z1 : Z.cell? ⟨wr.heap.size, 1, none⟩ = some (.int .i64 (-1)) := by rw [hZ]; simp [go_sem]
          have z2 : Z.cell? ⟨wr.heap.size, 2, none⟩ = some (.int .u8 8) := by rw [hZ]; simp [go_sem]
          have hzs : wr.heap.size < Z.heap.size := by rw [hZ]; simp
          have HBZ := hide (HB1.out.trans (hbz.mono HB1.out.size))
          generalize wr.heap.size = q at *
          clear hZ hbz HB1
          go_wp2_with (fail)
          try rw [ex]
          try rw [ey]
          refine (HC.out _ HBZ.out).mono ?_
          rintro e w2 ⟨rfl, hb⟩
          have HB2 := hide (HBZ.out.trans (hb.mono HBZ.out.size))
          have z2 := (hb.cell (p := ⟨q, 2, none⟩) hzs).trans z2
          clear hb HBZ HC z0 z1 hzs
          go_wp2_with (fail)
          go_roundw
          case rel => exact ⟨4, by omega, rfl, by rw [HV.out], HB2⟩
          case measure => simp [intOf]
        · have hv : P 4 = P 3 := by rw [S4.out, if_neg hlt, Int.add_zero]
          have HV := hide hv
          have hge : H x y ≤ H x (y - 1) := by omega
          clear hv hlt
          go_upto_region 8 with fail
          refine wp_name fun Z hZ => ?_
          have hbz : Below wr.heap.size wr Z := by rw [hZ]; exact (Below.refl _ _).alloc (Nat.le_refl _) _
          have z0 : Z.cell? ⟨wr.heap.size, 0, none⟩ = some (.int .i64 0) := by rw [hZ]; simp [go_sem]
          have z1 : Z.cell? ⟨wr.heap.size, 1, none⟩ = some (.int .i64 (-1)) := by rw [hZ]; simp [go_sem]
          have z2 : Z.cell? ⟨wr.heap.size, 2, none⟩ = some (.int .u8 8) := by rw [hZ]; simp [go_sem]
          have hzs : wr.heap.size < Z.heap.size := by rw [hZ]; simp
          have HBZ := hide (HB1.out.trans (hbz.mono HB1.out.size))
          generalize wr.heap.size = q at *
          clear hZ hbz HB1
          go_wp2_with (fail)
          try rw [ex]
          try rw [ey]
          refine (HC.out _ HBZ.out).mono ?_
          rintro e w2 ⟨rfl, hb⟩
          have HB2 := hide (HBZ.out.trans (hb.mono HBZ.out.size))
          have z2 := (hb.cell (p := ⟨q, 2, none⟩) hzs).trans z2
          clear hb HBZ HC z0 z1 hzs
          go_wp2_with (fail)
          go_roundw
          case rel => exact ⟨4, by omega, rfl, by rw [HV.out], HB2⟩
          case measure => simp [intOf]
      · clear HHE S1 S2 S3
        go_wp2_with (fail)
        go_ret2
        exact ⟨by rw [HF.out]; rfl, HB1.out⟩
  · have HF : Hid (fallsR l x y = (0, (heightR l x y).2)) := hide (if_pos h2)
    rw [h1] at HH
    have hne : ((heightR l x y).2 != 0) = true := by simpa using h2
    obtain ⟨A, c, rfl, _⟩ := hr
    clear h1 h2 hl hx hy
    generalize (heightR l x y).2 = ck at *
    go_enter Try.func7, Try.ntmps7
    go_wp2_with (fail)
    refine HH.out.mono ?_
    rintro e w1 ⟨rfl, hb⟩
    have HB1 := hide hb
    clear hb HH
    go_wp2_with (fail)
    go_ret2
    exact ⟨by rw [HF.out]; rfl, HB1.out⟩
end Go.Proofs.Ytkofodpjeknpiaa

/- The last step from a walk to a given statement, for every law of the seat: the call returns true, and what lay in memory lies as it lay. -/
namespace Go.Proofs.Ytkofodpjeknpiaa
open Go.ChangeShapes Go.WideShapes Go.ChangeAt Go.RowKit Go.Joins Go.Deep
set_option linter.unusedVariables false
set_option linter.unusedSimpArgs false

theorem own : ownKnob Try.prog.godebug = none := by kernel_rfl
theorem laidOut : laidOutB Try.prog = true := by kernel_rfl

section
variable {H : Type} {enc : TypeId × Value → H}
theorem trodAll_carry {P : Program} (hl : laidOutB P = true) {W W' : World} (hb : Below W.heap.size W W') :
    ∀ (ts : List TypeId) (vs : List Value) (ds : List (DataW H)) (ps : List MemPlace), (ts.all fun t => P.readableRec t && decide (t < P.types.size)) = true →
      DataW.TrodAll enc P W 0 (fun _ => true) true ts vs ds ps → (∀ x ∈ ps, x.block < W.heap.size) → DataW.TrodAll enc P W' 0 (fun b => decide (b < W.heap.size)) true ts vs ds ps
  | [], [], [], ps, _, h, _ => h
  | [], [], _ :: _, _, _, h, _ => h.elim
  | [], _ :: _, _, _, _, h, _ => h.elim
  | _ :: _, [], _, _, _, h, _ => h.elim
  | _ :: _, _ :: _, [], _, _, h, _ => h.elim
  | t :: ts, v :: vs, d :: ds, ps, hr, h, hlt => by
    obtain ⟨p, q, h1, h2, rfl⟩ := h
    simp only [List.all_cons, Bool.and_eq_true, decide_eq_true_eq] at hr
    refine ⟨p, q, Below.trod hl hr.1.1 hr.1.2 h1 hb (fun x hx => hlt x (by simp [hx])), trodAll_carry hl hb ts vs ds q ?_ h2 (fun x hx => hlt x (by simp [hx])), rfl⟩
    simpa using hr.2

theorem law_post {P : Program} {f : Func} {s : ChangeSpec} {W W' : World} {args : Array Value} {ds gs : List (DataW H)} {before : List MemPlace} {tb : TypeId}
    (hl : laidOutB P = true) (hr : (f.params.toList.all fun t => P.readableRec t && decide (t < P.types.size)) = true) (hres : f.resultTypes = #[tb]) (hbool : P.underlying tb = some .bool)
    (hvars : s.vars = []) (hW : DataW.Whole enc P f.params.toList s.vars false W args.toList ds gs before)
    (hsr : (s.fn H (ds ++ gs)).results = [.lit (.bool true)]) (hsa : (s.fn H (ds ++ gs)).args = ds) (hsv : (s.fn H (ds ++ gs)).vars = [])
    (hb : Below W.heap.size W W') : s.post enc P f false true false false W args (.bool true) W' := by
  have hlt : ∀ p ∈ before, p.block < W.heap.size := fun p hp => hW.lt p hp
  have hW0 := hW
  obtain ⟨p, q, hA, hV, rfl, hz, hn⟩ := hW
  refine ⟨ds, gs, p ++ q, [], p, [], hW0, ?_, ?_, ?_, hb.frame _, fun h => by cases h⟩
  · rw [hsr, hres]
    exact trodAll_mk1 (shut_bool hbool true)
  · rw [hsa]
    exact trodAll_carry hl hb _ _ _ _ hr hA (fun x hx => hlt x (by simp [hx]))
  · rw [hsv, hvars]
    rfl
end
end Go.Proofs.Ytkofodpjeknpiaa

/- An argument that is a list of structs of ints, read as a list. -/
namespace Go.Proofs.Ytkofodpjeknpiaa
open Go.ChangeShapes Go.WideShapes Go.ChangeAt Go.RowKit Go.Joins Go.Deep
set_option linter.unusedVariables false
set_option linter.unusedSimpArgs false

section
variable {H : Type} {enc : TypeId × Value → H} {P : Program} {w : World} {base : Nat} {spare : Nat → Bool} {held : Bool}
/-- The fields of a struct of ints: each one cell, an int. -/
theorem trod_int_fields {t : TypeId} {fs : Array Field} {n : Nat} {cs : List Value} {y : DataW H × List MemPlace} (he : P.underlying t = some (.struct fs)) (hone : oneCellFields P fs = true) (hint : ∀ (j : Nat) (f : Field), fs[j]? = some f → P.underlying f.type = some (.int .i64))
    (hl : cs.length = fs.size) (h : DataW.trod enc P w base spare held n t cs = some y) : ∀ j, j < fs.size → ∃ z : Int, cs[j]? = some (.int .i64 z) := by
  obtain ⟨ys, n', _, _, _, hyl, hf⟩ := DataW.trod_struct he h
  intro j hj
  have hjf : fs[j]? = some fs[j] := Array.getElem?_eq_getElem hj
  obtain ⟨ho, hk⟩ := hone_of hone j _ hjf
  have h1 := hf j _ hjf
  rw [ho, hk] at h1
  have hd : (cs.drop j).take 1 = [cs[j]'(by omega)] := by rw [List.drop_eq_getElem_cons (by omega)]; rfl
  rw [hd] at h1
  have hy : ys[j]? = some (ys[j]'(by omega)) := List.getElem?_eq_getElem (by omega)
  rw [hy] at h1
  obtain ⟨z, hz, _⟩ := DataW.trod_int (hint j _ hjf) h1
  have hz' : cs[j]'(by omega) = .int .i64 z := by simpa using hz
  exact ⟨z, by rw [List.getElem?_eq_getElem (by omega), hz']⟩
/-- A slice of structs of k ints: its cells. -/
theorem trod_rows {t e : TypeId} {fs : Array Field} {v : Value} {d : DataW H} {p : List MemPlace} {r : Reach} {b0 : Nat} (ht : P.underlying t = some (.slice e)) (he : P.underlying e = some (.struct fs)) (hone : oneCellFields P fs = true)
    (hint : ∀ (j : Nat) (f : Field), fs[j]? = some f → P.underlying f.type = some (.int .i64)) (hC : P.cellsOf e = fs.size) (hk : 0 < fs.size) (hv : Value.okWide P w r b0 t v) (h : DataW.Trod enc P w base spare held t v d p) :
    ∃ (A : Option Addr) (n c : Nat) (F : Nat → Nat → Int), v = .slice A n c ∧ n ≤ maxLen ∧ (0 < n → ∃ b off, A = some ⟨b, off, none⟩ ∧ b < w.heap.size ∧ ∀ i j, i < n → j < fs.size → w.cell? ⟨b, off + i * fs.size + j, none⟩ = some (.int .i64 (F i j))) := by
  obtain ⟨A, n, c, rfl⟩ := okWide_slice ht hv
  obtain ⟨fuel, hf⟩ := h
  rcases open_slice ht hf with ⟨hcs, _⟩ | ⟨a, len, cap, m, nn, D, Pl, hcs, hb, hl, hm, hmm, hx, hi⟩
  · simp [Value.cells] at hcs
    obtain ⟨rfl, rfl, rfl⟩ := hcs
    exact ⟨none, 0, 0, fun _ _ => 0, rfl, Nat.zero_le _, fun h => absurd h (Nat.lt_irrefl 0)⟩
  · simp [Value.cells] at hcs
    obtain ⟨rfl, rfl, rfl⟩ := hcs
    have hlm : n ≤ m := by rw [hmm]; split <;> omega
    have key : ∀ i, i < n → ∀ j, j < fs.size → ∃ z : Int, w.cell? (a.add (i * fs.size + j)) = some (.int .i64 z) := by
      intro i hin j hj
      obtain ⟨cs', hc, ht'⟩ := hi i (by omega)
      rw [hC] at hc
      obtain ⟨_, hcl, hat⟩ := World.cells?_some hc
      obtain ⟨z, hz⟩ := trod_int_fields he hone hint hcl ht' j hj
      have := hat j hj
      rw [← Go.Deep.add_add, this, hz]
      exact ⟨z, rfl⟩
    refine ⟨some a, n, c, fun i j => if h : i < n ∧ j < fs.size then Classical.choose (key i h.1 j h.2) else 0, rfl, by omega, fun hn => ?_⟩
    obtain ⟨z0, h0⟩ := key 0 hn 0 hk
    have hadd0 : a.add (0 * fs.size + 0) = a := by simp [Addr.add]
    rw [hadd0] at h0
    obtain ⟨b, off, sp⟩ := a
    have hsp : sp = none := by
      unfold World.cell? at h0
      cases sp with
      | none => rfl
      | some x => split at h0 <;> simp at h0
    subst hsp
    refine ⟨b, off, rfl, ?_, fun i j hin hj => ?_⟩
    · unfold World.cell? at h0
      split at h0
      · rename_i hh
        exact (Array.getElem?_eq_some_iff.1 hh).1
      · cases h0
    · have hz := Classical.choose_spec (key i hin j hj)
      have e1 : (⟨b, off, none⟩ : Addr).add (i * fs.size + j) = ⟨b, off + i * fs.size + j, none⟩ := by unfold Addr.add; split <;> simp_all [Nat.add_assoc]
      rw [← e1]
      simp only [dif_pos (And.intro hin hj)]
      exact hz
/-- .. rectangles. -/
theorem trod_rects {t e : TypeId} {fs : Array Field} {v : Value} {d : DataW H} {p : List MemPlace} {r : Reach} {b0 : Nat} (ht : P.underlying t = some (.slice e)) (he : P.underlying e = some (.struct fs)) (hone : oneCellFields P fs = true)
    (hint : ∀ (j : Nat) (f : Field), fs[j]? = some f → P.underlying f.type = some (.int .i64)) (hC : P.cellsOf e = 4) (hk : fs.size = 4) (hv : Value.okWide P w r b0 t v) (h : DataW.Trod enc P w base spare held t v d p) :
    ∃ l : List R4, RdK encR 4 w w.heap.size v l ∧ l.length ≤ maxLen := by
  obtain ⟨A, n, c, F, rfl, hn, hF⟩ := trod_rows ht he hone hint (hC.trans hk.symm) (by omega) hv h
  rw [hk] at hF
  refine ⟨(List.range n).map fun i => ⟨F i 0, F i 1, F i 2, F i 3⟩, ⟨A, c, by simp, fun hl => ?_⟩, by simpa using hn⟩
  have hn0 : 0 < n := by
    rcases Nat.eq_zero_or_pos n with h | h
    · subst h; exact absurd rfl hl
    · exact h
  obtain ⟨b, off, hA, hb, hc⟩ := hF hn0
  refine ⟨b, off, hA, hb, fun j x hj i u hu => ?_⟩
  have hjn : j < n := by have := (List.getElem?_eq_some_iff.1 hj).1; simpa using this
  rw [List.getElem?_map, List.getElem?_range hjn] at hj
  simp only [Option.map_some, Option.some.injEq] at hj
  subst hj
  have hi : i < 4 := (List.getElem?_eq_some_iff.1 hu).1
  rw [hc j i hjn hi]
  match i, hi with
  | 0, _ => exact hu
  | 1, _ => exact hu
  | 2, _ => exact hu
  | 3, _ => exact hu
end
theorem int_bd {n : Int} (h : (Lit.int .i64 n).wf = true) : -9223372036854775808 ≤ n ∧ n ≤ 9223372036854775807 := by
  simp [Lit.wf, IntKind.min, IntKind.max, IntKind.signed, IntKind.bits] at h
  omega
theorem rect_fields : ∀ (j : Nat) (f : Field), (match Try.prog.underlying 45 with | some (.struct fs) => fs | _ => #[])[j]? = some f → Try.prog.underlying f.type = some (.int .i64) := by
  rw [Try.underlying45]
  intro j f hf
  match j, hf with
  | 0, hf => simp at hf; subst hf; exact Try.underlying3
  | 1, hf => simp at hf; subst hf; exact Try.underlying3
  | 2, hf => simp at hf; subst hf; exact Try.underlying3
  | 3, hf => simp at hf; subst hf; exact Try.underlying3
  | j + 4, hf => simp at hf
end Go.Proofs.Ytkofodpjeknpiaa
