/- Texts laid together: MCan, MRoofW, MRoofX, RoofM, TouchA, TouchB, MParts, MCount, RowSet, MLabel, TouchC, PartsB, RoofL, RoofA, RoofB, RoofC, RoofD, RoofE. Lemmas for the statements of this seat; no condition. -/
import Derived.Test.YtdolpeljengpaaaGreatPk1
import Derived.Test.YtdolpeljengpaaaGreatPk7
import Derived.Test.YtdolpeljengpaaaGreatPk6
import Derived.Test.YtdolpeljengpaaaGreatPk4
import Derived.Test.YtdolpeljengpaaaGreatPk3
import Derived.Shelf.SlSorted.Search

/- Plain: how many rectangles a canonical list may have. -/
namespace Go.Proofs.YtdolpeljengpaaaGreat
set_option linter.unusedVariables false
set_option linter.unusedSimpArgs false

/-- No more entries than there are values. -/
theorem nodup_len {α : Type} [DecidableEq α] : ∀ {l m : List α}, l.Nodup → (∀ x ∈ l, x ∈ m) → l.length ≤ m.length
  | [], m, _, _ => Nat.zero_le _
  | a :: l, m, hn, h => by
    obtain ⟨h1, h2⟩ := List.nodup_cons.1 hn
    have ha := h a (by simp)
    have ih := nodup_len (m := m.erase a) h2 fun x hx => (List.mem_erase_of_ne (fun e => h1 (by rw [← e]; exact hx))).2 (h x (List.mem_cons_of_mem _ hx))
    rw [List.length_erase_of_mem ha] at ih
    have : 0 < m.length := List.length_pos_of_mem ha
    simp only [List.length_cons]
    omega
theorem cr_at : ∀ {S : List Slab}, SOK S → ∀ a ∈ S, cr S a.f = a.s
  | b :: S, h, a, ha => by
    rcases List.mem_cons.1 ha with rfl | ha
    · exact cr_head h (Int.le_refl _) h.head.1
    · have := h.after a ha
      have e : cr (b :: S) a.f = cr S a.f := by
        show (if b.f ≤ a.f ∧ a.f < b.t then b.s else cr S a.f) = _
        rw [if_neg (by omega)]
      rw [e]
      exact cr_at h.tail a ha
theorem cr_prev : ∀ {S : List Slab}, SOK S → ∀ a ∈ S, cr S (a.f - 1) ≠ a.s
  | b :: S, h, a, ha => by
    have hne := (h.all a ha).2.1
    rcases List.mem_cons.1 ha with rfl | ha
    · rw [cr_before h (by omega)]
      exact fun e => hne e.symm
    · have h1 := h.after a ha
      by_cases hb : a.f = b.t
      · have hcr : cr (b :: S) (a.f - 1) = b.s := cr_head h (by have := h.head.1; omega) (by omega)
        rw [hcr]
        cases S with
        | nil => cases ha
        | cons c T =>
          have h2 : Rl b c := h.2.1
          rcases List.mem_cons.1 ha with rfl | ha
          · exact h2.2 hb.symm
          · have h3 := h.tail.after a ha
            have h4 := h.tail.head.1
            have h5 := h2.1
            omega
      · have e : cr (b :: S) (a.f - 1) = cr S (a.f - 1) := by
          show (if b.f ≤ a.f - 1 ∧ a.f - 1 < b.t then b.s else cr S (a.f - 1)) = _
          rw [if_neg (by omega)]
        rw [e]
        exact cr_prev h.tail a ha
theorem SOK.nodup : ∀ {S : List Slab}, SOK S → (S.map Slab.f).Nodup
  | [], _ => by simp
  | a :: S, h => by
    rw [List.map_cons, List.nodup_cons]
    refine ⟨fun hm => ?_, SOK.nodup h.tail⟩
    obtain ⟨b, hb, e⟩ := List.mem_map.1 hm
    have := h.after b hb
    have := h.head.1
    omega
theorem scan_starts {s : List Sp} (h : SCan s) : (s.map Prod.fst).Nodup := by
  rw [List.Nodup, List.pairwise_map]
  have h1 : s.Pairwise (fun p q => p.2 < q.1 ∧ p ∈ s) := by
    rw [List.pairwise_and_iff]
    refine ⟨h.2, ?_⟩
    rw [List.pairwise_iff_getElem]
    exact fun i j hi hj _ => List.getElem_mem _
  exact h1.imp fun {p q} hpq => by
    have := h.1 p hpq.2
    omega
theorem flat_le {n : Nat} : ∀ {S : List Slab}, (∀ a ∈ S, a.s.length ≤ n) → (flat S).length ≤ S.length * n
  | [], _ => by simp [flat]
  | a :: S, h => by
    have ih := flat_le (n := n) (S := S) fun b hb => h b (List.mem_cons_of_mem _ hb)
    have h1 := h a (by simp)
    have e : (flat (a :: S)).length = a.s.length + (flat S).length := by simp [flat, flat1]
    rw [e, List.length_cons, Nat.succ_mul]
    omega
/-- A canonical list has at most so many rectangles as its left sides and lower sides tell. -/
theorem can_count {R : List R4} (hR : RCan R) {xs ys : List Int} (hx : ∀ c, (∃ y, ¬ (pmem R (c - 1) y ↔ pmem R c y)) → c ∈ xs) (hy : ∀ x c, ¬ pmem R x (c - 1) → pmem R x c → c ∈ ys) : R.length ≤ xs.length * ys.length := by
  obtain ⟨S, hS, rfl⟩ := hR
  have hm : ∀ x y, pmem (flat S) x y ↔ smem (cr S x) y := fun x y => by rw [pmem_flat, inS_cr hS]
  have h1 : S.length ≤ xs.length := by
    have := nodup_len hS.nodup (m := xs) fun c hc => by
      obtain ⟨a, ha, rfl⟩ := List.mem_map.1 hc
      refine hx _ (Classical.byContradiction fun hno => cr_prev hS a ha ?_)
      have hall : ∀ y, (pmem (flat S) (a.f - 1) y ↔ pmem (flat S) a.f y) := fun y => Classical.byContradiction fun h => hno ⟨y, h⟩
      rw [← cr_at hS a ha]
      exact SCan.ext (cr_can _ hS) (cr_can _ hS) fun y => by rw [← hm, ← hm]; exact hall y
    simpa using this
  have h2 : ∀ a ∈ S, a.s.length ≤ ys.length := fun a ha => by
    have hc := (hS.all a ha).2.2
    have := nodup_len (scan_starts hc) (m := ys) fun c hc' => by
      obtain ⟨p, hp, rfl⟩ := List.mem_map.1 hc'
      refine hy a.f p.1 ?_ ?_
      · rw [hm, cr_at hS a ha]
        rintro ⟨q, hq, q1, q2⟩
        obtain ⟨i, hi, rfl⟩ := List.getElem_of_mem hp
        obtain ⟨j, hj, rfl⟩ := List.getElem_of_mem hq
        have hpw := List.pairwise_iff_getElem.1 hc.2
        rcases Nat.lt_trichotomy i j with e | e | e
        · have := hpw i j hi hj e
          have := hc.1 _ (List.getElem_mem hi)
          omega
        · subst e; omega
        · have := hpw j i hj hi e
          omega
      · rw [hm, cr_at hS a ha]
        exact ⟨p, hp, Int.le_refl _, hc.1 p hp⟩
    simpa using this
  have h3 := flat_le h2
  have h4 := Nat.mul_le_mul_right ys.length h1
  omega
end Go.Proofs.YtdolpeljengpaaaGreat

/- Plain: a region of four times the size is canonical; how many rectangles its levels have; the volume. -/
namespace Go.Proofs.YtdolpeljengpaaaGreat
open Go.RowKit
set_option linter.unusedVariables false
set_option linter.unusedSimpArgs false

def quadP (p : Sp) : Sp := (4 * p.1, 4 * p.2)
def quadS (s : Slab) : Slab := ⟨4 * s.f, 4 * s.t, s.s.map quadP⟩
theorem quadS_ok {s : Slab} (h : okS s) : okS (quadS s) := by
  obtain ⟨h1, h2, h3, h4⟩ := h
  refine ⟨by show 4 * s.f < 4 * s.t; omega, by show s.s.map _ ≠ []; simpa using h2, fun p hp => ?_, ?_⟩
  · obtain ⟨q, hq, rfl⟩ := List.mem_map.1 hp
    have := h3 q hq
    show 4 * q.1 < 4 * q.2
    omega
  · show (s.s.map _).Pairwise _
    rw [List.pairwise_map]
    exact h4.imp fun h => by show 4 * _ < 4 * _; omega
theorem quadP_inj {s t : List Sp} (h : s.map quadP = t.map quadP) : s = t := by
  induction s generalizing t with
  | nil => cases t with
    | nil => rfl
    | cons q t => cases h
  | cons p s ih => cases t with
    | nil => cases h
    | cons q t =>
      simp only [List.map_cons, List.cons.injEq, quadP, Prod.mk.injEq] at h
      rw [ih h.2]
      congr 1
      exact Prod.ext (by omega) (by omega)
theorem quad_SOK : ∀ {S : List Slab}, SOK S → SOK (S.map quadS)
  | [], _ => trivial
  | [s], h => quadS_ok h.head
  | s :: t :: S, h => by
    have hh : okS s ∧ Rl s t ∧ SOK (t :: S) := h
    refine ⟨quadS_ok hh.1, ⟨?_, fun e he => ?_⟩, quad_SOK hh.2.2⟩
    · show 4 * s.t ≤ 4 * t.f
      have := hh.2.1.1; omega
    · have e1 : s.t = t.f := by have : 4 * s.t = 4 * t.f := e; omega
      exact hh.2.1.2 e1 (quadP_inj he)
theorem quad_flat : ∀ S : List Slab, quadL (flat S) = flat (S.map quadS)
  | [] => rfl
  | s :: S => by
    have ih := quad_flat S
    unfold quadL at *
    simp only [flat, List.flatMap_cons, List.map_append, List.map_cons] at ih ⊢
    rw [ih]
    congr 1
    simp [flat1, quadS, quad4, quadP, List.map_map, Function.comp_def]
theorem wide_can {l : List R4} (h : RCan l) : RCan (quadL l) := by
  obtain ⟨S, hS, rfl⟩ := h
  exact ⟨_, quad_SOK hS, quad_flat S⟩
theorem wide_check {l : List R4} (h : checkF l = 0) (hb : ∀ r ∈ l, near4 200 r) : checkF (quadL l) = 0 := by
  obtain ⟨hl, hv, _⟩ := checkF_ok h
  refine can_check (wide_can (check_rcan h)) (fun r hr => ?_) (by unfold quadL; simpa using hl)
  obtain ⟨s, hs, rfl⟩ := List.mem_map.1 hr
  obtain ⟨h1, h2, _⟩ := hv s hs
  obtain ⟨⟨_, _⟩, ⟨_, _⟩, ⟨_, _⟩, _, _⟩ := hb s hs
  unfold valid4 quad4 fineP
  simp only
  omega
theorem full_left {l : List R4} {d c y : Int} (hd : 0 ≤ d) (h1 : full l d c y) (h2 : ¬ full l d (c - 1) y) : ∃ r ∈ l, c = r.x0 + d := by
  unfold full at h2
  simp only [Classical.not_forall, not_imp] at h2
  obtain ⟨u, v, a1, a2, a3, a4, hno⟩ := h2
  have hu : u = c - 1 - d := by
    by_cases e : c - d ≤ u
    · exact absurd (h1 u v e (by omega) a3 a4) hno
    · omega
  subst hu
  obtain ⟨r, hr, hin⟩ := h1 (c - d) v (by omega) (by omega) a3 a4
  refine ⟨r, hr, Classical.byContradiction fun e => hno ⟨r, hr, ?_⟩⟩
  unfold rin at hin ⊢
  omega
theorem full_right {l : List R4} {d c y : Int} (hd : 0 ≤ d) (h1 : full l d (c - 1) y) (h2 : ¬ full l d c y) : ∃ r ∈ l, c = r.x1 - d := by
  unfold full at h2
  simp only [Classical.not_forall, not_imp] at h2
  obtain ⟨u, v, a1, a2, a3, a4, hno⟩ := h2
  have hu : u = c + d := by
    by_cases e : u ≤ c - 1 + d
    · exact absurd (h1 u v (by omega) e a3 a4) hno
    · omega
  subst hu
  obtain ⟨r, hr, hin⟩ := h1 (c + d - 1) v (by omega) (by omega) a3 a4
  refine ⟨r, hr, Classical.byContradiction fun e => hno ⟨r, hr, ?_⟩⟩
  unfold rin at hin ⊢
  omega
theorem full_low {l : List R4} {d x c : Int} (hd : 0 ≤ d) (h1 : full l d x c) (h2 : ¬ full l d x (c - 1)) : ∃ r ∈ l, c = r.y0 + d := by
  unfold full at h2
  simp only [Classical.not_forall, not_imp] at h2
  obtain ⟨u, v, a1, a2, a3, a4, hno⟩ := h2
  have hu : v = c - 1 - d := by
    by_cases e : c - d ≤ v
    · exact absurd (h1 u v a1 a2 e (by omega)) hno
    · omega
  subst hu
  obtain ⟨r, hr, hin⟩ := h1 u (c - d) a1 a2 (by omega) (by omega)
  refine ⟨r, hr, Classical.byContradiction fun e => hno ⟨r, hr, ?_⟩⟩
  unfold rin at hin ⊢
  omega
theorem shr_count {l : List R4} (hc : RCan l) {d : Int} (hd : 0 ≤ d) : (shrR l d).length ≤ 2 * l.length * l.length := by
  obtain ⟨h1, h2⟩ := shr_ok hc hd
  have := can_count h1 (xs := l.map (fun r => r.x0 + d) ++ l.map (fun r => r.x1 - d)) (ys := l.map fun r => r.y0 + d)
    (fun c ⟨y, hy⟩ => by
      rw [h2, h2] at hy
      rw [List.mem_append]
      by_cases hf : full l d c y
      · left
        obtain ⟨r, hr, e⟩ := full_left hd hf fun h => hy ⟨fun _ => hf, fun _ => h⟩
        exact List.mem_map.2 ⟨r, hr, e.symm⟩
      · right
        have hf1 : full l d (c - 1) y := Classical.byContradiction fun h => hy ⟨fun h' => absurd h' h, fun h' => absurd h' hf⟩
        obtain ⟨r, hr, e⟩ := full_right hd hf1 hf
        exact List.mem_map.2 ⟨r, hr, e.symm⟩)
    (fun x c hno hp => by
      rw [h2] at hno hp
      obtain ⟨r, hr, e⟩ := full_low hd hp hno
      exact List.mem_map.2 ⟨r, hr, e.symm⟩)
  simp only [List.length_append, List.length_map] at this
  rwa [show 2 * l.length * l.length = (l.length + l.length) * l.length by rw [Nat.two_mul]]
end Go.Proofs.YtdolpeljengpaaaGreat

/- Plain: what roof's Levels and Volume compute: how many levels there are, and the two sums. -/
namespace Go.Proofs.YtdolpeljengpaaaGreat
open Go.RowKit
set_option linter.unusedVariables false
set_option linter.unusedSimpArgs false

def far200 (r : R4) : Bool := decide (min r.x0 r.y0 < -200 ∨ 200 < max r.x1 r.y1)
def measF (l : List R4) : Int := if checkF l = 0 then (if l.any far200 then 16 else 0) else checkF l
theorem hull_far {l : List R4} (hne : l ≠ []) : (min (hullL l).x0 (hullL l).y0 < -200 ∨ 200 < max (hullL l).x1 (hullL l).y1) ↔ l.any far200 = true := by
  obtain ⟨⟨a, ha, ea⟩, ⟨b, hb, eb⟩, ⟨c, hc, ec⟩, ⟨d, hd, ed⟩, hall⟩ := hullL_ok hne
  rw [List.any_eq_true]
  constructor
  · intro h
    by_cases h1 : (hullL l).x0 < -200
    · exact ⟨a, ha, by unfold far200; rw [decide_eq_true_eq]; omega⟩
    by_cases h2 : (hullL l).y0 < -200
    · exact ⟨b, hb, by unfold far200; rw [decide_eq_true_eq]; omega⟩
    by_cases h3 : 200 < (hullL l).x1
    · exact ⟨c, hc, by unfold far200; rw [decide_eq_true_eq]; omega⟩
    · exact ⟨d, hd, by unfold far200; rw [decide_eq_true_eq]; omega⟩
  · rintro ⟨r, hr, h⟩
    unfold far200 at h
    rw [decide_eq_true_eq] at h
    have := hall r hr
    omega
theorem near_far {l : List R4} (hb : ∀ r ∈ l, near4 25 r) : l.any far200 = false := by
  rw [List.any_eq_false]
  intro r hr
  have := hb r hr
  unfold near4 at this
  unfold far200
  rw [decide_eq_true_eq]
  omega
theorem meas_near {l : List R4} (hb : ∀ r ∈ l, near4 25 r) : measF l = checkF l := by
  unfold measF
  rw [near_far hb]
  by_cases h : checkF l = 0
  · rw [if_pos h, h]; rfl
  · rw [if_neg h]
/-- The first N levels are not empty, and the next one is. -/
def levN (S : Nat → List R4) (N : Nat) : Prop := S N = [] ∧ ∀ d, d < N → S d ≠ []
theorem levN_ex {S : Nat → List R4} (M : Nat) (h : S M = []) : ∃ N, N ≤ M ∧ levN S N := by
  induction M using Nat.strongRecOn with
  | ind M ih =>
    by_cases e : ∃ d, d < M ∧ S d = []
    · obtain ⟨d, hd, h2⟩ := e
      obtain ⟨N, h3, h4⟩ := ih d hd h2
      exact ⟨N, by omega, h4⟩
    · exact ⟨M, Nat.le_refl _, h, fun d hd h2 => e ⟨d, hd, h2⟩⟩
/-- Level number d. -/
def levS (q : List R4) (d : Nat) : List R4 := shrR q (d : Int)
theorem full_near {q : List R4} {m : Int} (h : ∀ r ∈ q, near4 m r) {X Y : Int} (hp : pmem q X Y) : -m ≤ X ∧ X < m := by
  obtain ⟨r, hr, hin⟩ := hp
  obtain ⟨⟨_, _⟩, ⟨_, _⟩, ⟨_, _⟩, _, _⟩ := h r hr
  unfold rin at hin
  omega
theorem lev_ok {q : List R4} (hk : checkF q = 0) (d : Nat) : RCan (levS q d) ∧ ∀ x y, pmem (levS q d) x y ↔ full q d x y := shr_ok (check_rcan hk) (by omega)
theorem near_shr {q : List R4} (hk : checkF q = 0) (hl : q.length ≤ 12) {m : Nat} (hb : ∀ r ∈ q, near4 m r) (d : Nat) (hd : d ≤ 1000000) : shrF q d = (levS q d, 0) ∧ (m + 1 ≤ d → levS q d = []) ∧ (levS q d).length ≤ 400 := by
  obtain ⟨s1, s2⟩ := lev_ok hk d
  have hcnt : (levS q d).length ≤ 2 * q.length * q.length := shr_count (check_rcan hk) (d := (d : Int)) (by omega)
  have h1 : 2 * q.length * q.length ≤ 2 * 12 * 12 := Nat.mul_le_mul (by omega) hl
  refine ⟨?_, fun h => ?_, by omega⟩
  · have hc : chkD q d = 0 := by
      unfold chkD
      rw [hk]
      simp
      omega
    unfold shrF
    rw [if_pos hc, if_neg (by unfold levS at hcnt; omega)]
    rfl
  · refine RCan.ext s1 RCan.nil fun x y => ⟨fun hp => ?_, fun hp => absurd hp pmem_nil⟩
    rw [s2] at hp
    have h1 := full_near hb (hp (x - d) y (by omega) (by omega) (by omega) (by omega))
    have h2 := full_near hb (hp (x + d) y (by omega) (by omega) (by omega) (by omega))
    omega
theorem lev_of {q : List R4} (hk : checkF q = 0) (hl : q.length ≤ 12) {m : Nat} (hm : m ≤ 1000) (hb : ∀ r ∈ q, near4 m r) : ∃ N, N ≤ m + 1 ∧ levN (levS q) N :=
  levN_ex (m + 1) ((near_shr hk hl hb (m + 1) (by omega)).2.1 (Nat.le_refl _))
theorem lev_after {q : List R4} (hk : checkF q = 0) {N : Nat} (hN : levN (levS q) N) {d : Nat} (hd : N ≤ d) : levS q d = [] := by
  obtain ⟨s1, s2⟩ := lev_ok hk d
  obtain ⟨t1, t2⟩ := lev_ok hk N
  refine RCan.ext s1 RCan.nil fun x y => ⟨fun hp => ?_, fun hp => absurd hp pmem_nil⟩
  rw [s2] at hp
  have := (t2 x y).2 fun u v h1 h2 h3 h4 => hp u v (by omega) (by omega) (by omega) (by omega)
  rw [hN.1] at this
  exact absurd this pmem_nil
theorem lev_check {q : List R4} (hk : checkF q = 0) (hl : q.length ≤ 12) {m : Nat} (hb : ∀ r ∈ q, near4 m r) (d : Nat) (hd : d ≤ 1000000) : checkF (levS q d) = 0 :=
  (shrF_ok (near_shr hk hl hb d hd).1).2.2.2.1

/-! ### Heights near the origin -/
theorem height_near {l : List R4} (hc : checkF l = 0) {m : Nat} (hm : m ≤ 1000) (hb : ∀ r ∈ l, near4 m r) {x y : Int} (hx : -2000001 ≤ x ∧ x ≤ 2000001) (hy : -2000001 ≤ y ∧ y ≤ 2000001) : heightF l x y ≤ 2 * m := by
  by_cases h0 : heightF l x y ≤ 2 * m
  · exact h0
  have h := (height_sq hc hx hy (h := 2 * m + 1) (by omega) (by omega)).1 (by omega)
  have h1 := full_near hb (h (x - ((2 * m + 1 : Nat) : Int)) y (by omega) (by omega) (by omega) (by omega))
  have h2 := full_near hb (h (x + ((2 * m + 1 : Nat) : Int) - 1) y (by omega) (by omega) (by omega) (by omega))
  omega
theorem pm_hull {l : List R4} (hne : l ≠ []) {X Y : Int} (hp : pmem l X Y) : (hullL l).x0 ≤ X ∧ X < (hullL l).x1 ∧ (hullL l).y0 ≤ Y ∧ Y < (hullL l).y1 := by
  obtain ⟨_, _, _, _, hall⟩ := hullL_ok hne
  obtain ⟨r, hr, hin⟩ := hp
  have := hall r hr
  unfold rin at hin
  omega
theorem height_out {l : List R4} (hc : checkF l = 0) (hne : l ≠ []) {x y : Int} (hx : -2000001 ≤ x ∧ x ≤ 2000001) (hy : -2000001 ≤ y ∧ y ≤ 2000001)
    (h : ¬ (2 * (hullL l).x0 < x ∧ x < 2 * (hullL l).x1 ∧ 2 * (hullL l).y0 < y ∧ y < 2 * (hullL l).y1)) : heightF l x y = 0 := by
  by_cases h0 : heightF l x y = 0
  · exact h0
  exfalso
  have hs := (height_sq hc hx hy (h := 1) (Nat.le_refl _) (by omega)).1 (by omega)
  have h1 := pm_hull hne (hs (x - 1) (y - 1) (by omega) (by omega) (by omega) (by omega))
  have h2 := pm_hull hne (hs x y (by omega) (by omega) (by omega) (by omega))
  omega
theorem tri_out {l : List R4} (hc : checkF l = 0) (hne : l ≠ []) {x y : Int} (hx : -2000000 ≤ x ∧ x ≤ 2000000) (hy : -2000000 ≤ y ∧ y ≤ 2000000)
    (h : ¬ (2 * (hullL l).x0 ≤ x ∧ x < 2 * (hullL l).x1 ∧ 2 * (hullL l).y0 ≤ y ∧ y < 2 * (hullL l).y1)) : triT l x y = 0 := by
  have e1 := height_out hc hne (x := x) (y := y) (by omega) (by omega) (by omega)
  have e2 := height_out hc hne (x := x + 1) (y := y) (by omega) (by omega) (by omega)
  have e3 := height_out hc hne (x := x) (y := y + 1) (by omega) (by omega) (by omega)
  have e4 := height_out hc hne (x := x + 1) (y := y + 1) (by omega) (by omega) (by omega)
  unfold triT triH
  rw [e1, e2, e3, e4]
  simp
/-- The reference's sum over a column of squares, up to row number n. -/
def colT (l : List R4) (x : Int) (n : Nat) : Int := sumZ (fun y => triT l x y) (2 * (hullL l).y0) n
/-- The reference's sum, up to column number n. -/
def rowT (l : List R4) (n : Nat) : Int := sumZ (fun x => colT l x (2 * (hullL l).y1 - 2 * (hullL l).y0).toNat) (2 * (hullL l).x0) n
def volT (l : List R4) : Int := rowT l (2 * (hullL l).x1 - 2 * (hullL l).x0).toNat
theorem vol_T {l : List R4} (hc : checkF l = 0) (hne : l ≠ []) (hh : (-1000000 ≤ (hullL l).x0 ∧ (hullL l).x0 ≤ (hullL l).x1 ∧ (hullL l).x1 ≤ 1000000) ∧ (-1000000 ≤ (hullL l).y0 ∧ (hullL l).y0 ≤ (hullL l).y1 ∧ (hullL l).y1 ≤ 1000000)) : vol 2000000 (triT l) = volT l := by
  obtain ⟨⟨a1, a2, a3⟩, b1, b2, b3⟩ := hh
  unfold vol volT rowT
  rw [sumZ_in _ (a := 2 * (hullL l).x0) (b := 2 * (hullL l).x1) (by omega) (by omega) (by omega) fun x q1 q2 q3 => ?_]
  · refine sumZ_congr fun x q1 q2 => ?_
    unfold colT
    rw [sumZ_in _ (a := 2 * (hullL l).y0) (b := 2 * (hullL l).y1) (by omega) (by omega) (by omega) fun y q3 q4 q5 => ?_]
    exact tri_out hc hne (by omega) (by omega) (by omega)
  · rw [← sumZ_zero (-((2000000 : Nat) : Int)) (2 * 2000000)]
    exact sumZ_congr fun y q4 q5 => tri_out hc hne (by omega) (by omega) (by omega)

/-! ### The sum over the levels -/
def volS (l : List R4) (N : Nat) : Int := sumH (fun d => wtV d * areaS (levS (quadL l) d)) N
theorem sumH_ext {f : Nat → Int} {N : Nat} (h : ∀ d, N ≤ d → f d = 0) : ∀ k : Nat, sumH f (N + k) = sumH f N
  | 0 => rfl
  | k + 1 => by
    rw [show N + (k + 1) = N + k + 1 by omega, sumH, sumH_ext h k, h (N + k) (by omega), Int.add_zero]
theorem wide_near4 {l : List R4} (hb : ∀ r ∈ l, near4 25 r) : ∀ r ∈ quadL l, near4 ((100 : Nat) : Int) r := by
  intro r hr
  obtain ⟨s, hs, rfl⟩ := List.mem_map.1 hr
  have := hb s hs
  unfold near4 at this ⊢
  unfold quad4
  simp only
  omega
theorem near_25 {l : List R4} (hb : ∀ r ∈ l, near4 25 r) : ∀ r ∈ l, near4 ((25 : Nat) : Int) r := hb
theorem wide_chk {l : List R4} (hc : checkF l = 0) (hb : ∀ r ∈ l, near4 25 r) : checkF (quadL l) = 0 := by
  refine wide_check hc fun r hr => ?_
  have := hb r hr
  unfold near4 at this ⊢
  omega
theorem wide_len (l : List R4) : (quadL l).length = l.length := by simp [quadL]
theorem vol_eq {l : List R4} (hc : checkF l = 0) (hne : l ≠ []) (hl : l.length ≤ 12) (hb : ∀ r ∈ l, near4 25 r) {N : Nat} (hN : levN (levS (quadL l)) N) : N ≤ 101 ∧ volS l N = 4 * volT l := by
  have hw := wide_chk hc hb
  have hwn := wide_near4 hb
  have hwl : (quadL l).length ≤ 12 := by rw [wide_len]; exact hl
  have hle : N ≤ 101 := by
    by_cases h : N ≤ 101
    · exact h
    · exact absurd ((near_shr hw hwl hwn 101 (by omega)).2.1 (Nat.le_refl _)) (hN.2 101 (by omega))
  refine ⟨hle, ?_⟩
  have hlv := vol_levels hc (fun d => levS (quadL l) d) (fun d i j => (lev_ok hw d).2 i j) (n := 50) (m := 2000000) (by omega) (by omega)
    (fun u v h1 h2 h3 h4 => height_near hc (m := 25) (by omega) (near_25 hb) ⟨h1, h2⟩ ⟨h3, h4⟩)
  have hv := (checkF_ok hc).2.1
  have hh : (-1000000 ≤ (hullL l).x0 ∧ (hullL l).x0 ≤ (hullL l).x1 ∧ (hullL l).x1 ≤ 1000000) ∧ (-1000000 ≤ (hullL l).y0 ∧ (hullL l).y0 ≤ (hullL l).y1 ∧ (hullL l).y1 ≤ 1000000) := by
    obtain ⟨⟨a, ha, ea⟩, ⟨b, hb2, eb⟩, ⟨c, hc2, ec⟩, ⟨d, hd, ed⟩, hall⟩ := hullL_ok hne
    obtain ⟨v1, v2, ⟨v3, v4⟩, ⟨v5, v6⟩, ⟨v7, v8⟩, v9, v10⟩ := hv a ha
    obtain ⟨u1, u2, ⟨u3, u4⟩, ⟨u5, u6⟩, ⟨u7, u8⟩, u9, u10⟩ := hv b hb2
    obtain ⟨w1, w2, ⟨w3, w4⟩, ⟨w5, w6⟩, ⟨w7, w8⟩, w9, w10⟩ := hv c hc2
    obtain ⟨x1, x2, ⟨x3, x4⟩, ⟨x5, x6⟩, ⟨x7, x8⟩, x9, x10⟩ := hv d hd
    have k1 := hall a ha
    have k2 := hall b hb2
    omega
  rw [vol_T hc hne hh] at hlv
  rw [← hlv]
  have hz : ∀ d, N ≤ d → wtV d * areaS (levS (quadL l) d) = 0 := fun d hd => by rw [lev_after hw hN hd]; simp [areaS]
  have e1 : volS l N = sumH (fun d => wtV d * areaS (levS (quadL l) d)) (2 * (50 + 1)) := by
    have := sumH_ext hz (2 * (50 + 1) - N)
    rw [show N + (2 * (50 + 1) - N) = 2 * (50 + 1) by omega] at this
    exact this.symm
  rw [e1]
  refine sumH_congr fun d hd => ?_
  rw [area_vol (lev_check hw hwl hwn d (by omega)) (m := 2 * 2000000) (by omega)]
  rfl

/-! ### Bounds -/
theorem sumZ_bd {f : Int → Int} {lo c : Int} {n : Nat} (h : ∀ i, lo ≤ i → i < lo + n → 0 ≤ f i ∧ f i ≤ c) : 0 ≤ sumZ f lo n ∧ sumZ f lo n ≤ n * c := by
  refine ⟨sumZ_nonneg fun i h1 h2 => (h i h1 h2).1, ?_⟩
  rw [← sumZ_const c lo n]
  exact sumZ_le fun i h1 h2 => (h i h1 h2).2
theorem tri_bd {l : List R4} (hc : checkF l = 0) (hb : ∀ r ∈ l, near4 25 r) {x y : Int} (hx : -2000000 ≤ x ∧ x ≤ 2000000) (hy : -2000000 ≤ y ∧ y ≤ 2000000) : 0 ≤ triT l x y ∧ triT l x y ≤ 300 := by
  have e1 := height_near hc (m := 25) (by omega) (near_25 hb) (x := x) (y := y) (by omega) (by omega)
  have e2 := height_near hc (m := 25) (by omega) (near_25 hb) (x := x + 1) (y := y) (by omega) (by omega)
  have e3 := height_near hc (m := 25) (by omega) (near_25 hb) (x := x) (y := y + 1) (by omega) (by omega)
  have e4 := height_near hc (m := 25) (by omega) (near_25 hb) (x := x + 1) (y := y + 1) (by omega) (by omega)
  unfold triT triH
  generalize heightF l = h at *
  split <;> omega
theorem hull_near25 {l : List R4} (hne : l ≠ []) (hc : checkF l = 0) (hb : ∀ r ∈ l, near4 25 r) : (-25 ≤ (hullL l).x0 ∧ (hullL l).x0 ≤ (hullL l).x1 ∧ (hullL l).x1 ≤ 25) ∧ (-25 ≤ (hullL l).y0 ∧ (hullL l).y0 ≤ (hullL l).y1 ∧ (hullL l).y1 ≤ 25) := by
  have hv := (checkF_ok hc).2.1
  obtain ⟨⟨a, ha, ea⟩, ⟨b, hb2, eb⟩, ⟨c, hc2, ec⟩, ⟨d, hd, ed⟩, hall⟩ := hullL_ok hne
  obtain ⟨v1, v2, _⟩ := hv a ha
  have n1 := hb a ha
  have n2 := hb b hb2
  have n3 := hb c hc2
  have n4 := hb d hd
  unfold near4 at n1 n2 n3 n4
  have k1 := hall a ha
  have k2 := hall b hb2
  omega
theorem col_bd {l : List R4} (hne : l ≠ []) (hc : checkF l = 0) (hb : ∀ r ∈ l, near4 25 r) {x : Int} (hx : -2000000 ≤ x ∧ x ≤ 2000000) {n : Nat} (hn : n ≤ 100) : 0 ≤ colT l x n ∧ colT l x n ≤ 30000 := by
  obtain ⟨_, h1, h2, h3⟩ := hull_near25 hne hc hb
  have := sumZ_bd (f := fun y => triT l x y) (lo := 2 * (hullL l).y0) (c := 300) (n := n) fun i a b => tri_bd hc hb hx (by omega)
  unfold colT
  omega
theorem row_bd {l : List R4} (hne : l ≠ []) (hc : checkF l = 0) (hb : ∀ r ∈ l, near4 25 r) {n : Nat} (hn : n ≤ 100) : 0 ≤ rowT l n ∧ rowT l n ≤ 3000000 := by
  obtain ⟨⟨h1, h2, h3⟩, h4, h5, h6⟩ := hull_near25 hne hc hb
  have := sumZ_bd (f := fun x => colT l x (2 * (hullL l).y1 - 2 * (hullL l).y0).toNat) (lo := 2 * (hullL l).x0) (c := 30000) (n := n) fun i a b => col_bd hne hc hb (by omega) (by omega)
  unfold rowT
  omega
theorem areaS_le {l : List R4} (hv : ∀ r ∈ l, valid4 r) (hl : l.length ≤ 400) : 0 ≤ areaS l ∧ areaS l ≤ 1600000000000000 := by
  have := areaS_bd hv
  omega
theorem volS_bd {l : List R4} (hc : checkF l = 0) (hl : l.length ≤ 12) (hb : ∀ r ∈ l, near4 25 r) : ∀ k : Nat, k ≤ 101 → (0 ≤ volS l k ∧ volS l k ≤ 6400000000000000 * k) ∧ 0 ≤ areaS (levS (quadL l) k) ∧ areaS (levS (quadL l) k) ≤ 1600000000000000 := by
  have hw := wide_chk hc hb
  have hwl : (quadL l).length ≤ 12 := by rw [wide_len]; exact hl
  have ha : ∀ k : Nat, k ≤ 101 → 0 ≤ areaS (levS (quadL l) k) ∧ areaS (levS (quadL l) k) ≤ 1600000000000000 := fun k hk =>
    areaS_le (checkF_ok (lev_check hw hwl (wide_near4 hb) k (by omega))).2.1 (near_shr hw hwl (wide_near4 hb) k (by omega)).2.2
  intro k
  induction k with
  | zero => intro _; exact ⟨⟨Int.le_refl _, Int.le_refl _⟩, ha 0 (by omega)⟩
  | succ k ih =>
    intro hk
    obtain ⟨⟨i1, i2⟩, i3, i4⟩ := ih (by omega)
    refine ⟨?_, ha _ hk⟩
    have e : volS l (k + 1) = volS l k + wtV k * areaS (levS (quadL l) k) := rfl
    rw [e]
    generalize areaS (levS (quadL l) k) = a at *
    unfold wtV
    split
    · omega
    · split <;> omega
theorem volS_step (l : List R4) (k : Nat) : volS l (k + 1) = volS l k + wtV k * areaS (levS (quadL l) k) := rfl

theorem vol_lev_all {l : List R4} (hc : checkF l = 0) (hl : l.length ≤ 12) (hb : ∀ r ∈ l, near4 25 r) {N : Nat} (hN : levN (levS (quadL l)) N) : N ≤ 101 ∧ volS l N = 4 * volT l ∧ 0 ≤ volT l ∧ volT l ≤ 3000000 := by
  by_cases hne : l = []
  · subst hne
    have h0 : levS (quadL []) 0 = [] := by
      unfold levS shrR
      exact if_pos rfl
    have hN0 : N = 0 := by
      by_cases h : N = 0
      · exact h
      · exact absurd h0 (hN.2 0 (by omega))
    subst hN0
    have e : volT [] = 0 := rfl
    rw [e]
    exact ⟨by omega, rfl, by omega, by omega⟩
  · obtain ⟨h1, h2⟩ := vol_eq hc hne hl hb hN
    obtain ⟨⟨a1, a2, a3⟩, _⟩ := hull_near25 hne hc hb
    have := row_bd hne hc hb (n := (2 * (hullL l).x1 - 2 * (hullL l).x0).toNat) (by omega)
    exact ⟨h1, h2, this.1, this.2⟩

/-! ### The ratios -/
theorem gcd_four (a : Nat) : Nat.gcd (4 * a) 192 = 4 * Nat.gcd a 48 := by
  rw [show 192 = 4 * 48 from rfl, Nat.gcd_mul_left]
theorem div_four (a g : Nat) : (((4 * a : Nat) : Int) / ((4 * g : Nat) : Int)) = (a : Int) / (g : Int) := by
  rw [← Int.natCast_ediv, ← Int.natCast_ediv, Nat.mul_div_mul_left a g (by omega)]
def volG (l : List R4) : Nat := Nat.gcd (volT l).toNat 48
def volR (l : List R4) : (Int × Int) × Int := if measF l = 0 then (((volT l).toNat / (volG l : Nat), (48 : Nat) / (volG l : Nat)), 0) else ((0, 0), measF l)
end Go.Proofs.YtdolpeljengpaaaGreat

/- roof.measured and the reference's: the error of a region whose roof is measured. -/
namespace Go.Proofs.YtdolpeljengpaaaGreat
open Go.RowKit
set_option linter.unusedVariables false
set_option linter.unusedSimpArgs false

set_option maxRecDepth 100000 in
set_option maxHeartbeats 4000000 in
theorem omeasured_any {w : World} {v : Value} {l : List R4} (hr : RdK encR 4 w w.heap.size v l) (hl : l.length ≤ 100000000) :
    Calls Tryz.prog 81 #[v] w fun e w' => e = .returned (.int .i64 (measF l)) ∧ Below w.heap.size w w' := by
  have HCK := hide (check_any hr hl)
  have HHU := hide (fun (W : World) (hW : Below w.heap.size w W) => hull_any ((hr.below hW).mono hW.size) hl)
  obtain ⟨A, c, rfl, _⟩ := id hr
  by_cases hc : checkF l = 0
  · by_cases hne : l = []
    · have HF : Hid (measF l = 0) := hide (by unfold measF; rw [if_pos hc, hne]; rfl)
      have hh : hullF l = (⟨0, 0, 0, 0⟩, 6) := by unfold hullF; rw [if_pos hc, if_pos hne]
      have HU : Hid (∀ W : World, Below w.heap.size w W → Calls Tryz.prog 129 #[.slice A l.length c] W fun e w' => e = .returned (.tuple #[.agg #[.int .i64 0, .int .i64 0, .int .i64 0, .int .i64 0], .int .i64 6]) ∧ Below W.heap.size W w') := hide (fun W hW => by have := HHU.out W hW; rw [hh] at this; exact this)
      rw [hc] at HCK
      clear HHU hh hc hne hr hl
      generalize measF l = M at *
      go_enter Tryz.func81, Tryz.ntmps81
      go_wp2_with (fail)
      refine HCK.out.mono ?_
      rintro e w1 ⟨rfl, hb⟩
      have HB := hide hb
      clear hb HCK
      go_wp2_with (fail)
      refine (HU.out _ HB.out).mono ?_
      rintro e w2 ⟨rfl, hb⟩
      have HB2 := hide (HB.out.trans (hb.mono HB.out.size))
      clear hb HB HU
      go_upto_region 5 with fail
      refine wp_name fun Z hZ => ?_
      have hbz : Below w2.heap.size w2 Z := by rw [hZ]; exact (Below.refl _ _).alloc (Nat.le_refl _) _
      have HB3 := hide (HB2.out.trans (hbz.mono HB2.out.size))
      clear hZ hbz HB2
      go_wp2_with (fail)
      go_ret
      exact ⟨by rw [HF.out]; rfl, HB3.out⟩
    · have hh : hullF l = (hullL l, 0) := by unfold hullF; rw [if_pos hc, if_neg hne]
      have hf := hull_far hne
      rcases hq : hullL l with ⟨h0, h1, h2, h3⟩
      rw [hq] at hf
      simp only at hf
      have HU : Hid (∀ W : World, Below w.heap.size w W → Calls Tryz.prog 129 #[.slice A l.length c] W fun e w' => e = .returned (.tuple #[.agg #[.int .i64 h0, .int .i64 h1, .int .i64 h2, .int .i64 h3], .int .i64 0]) ∧ Below W.heap.size W w') := hide (fun W hW => by have := HHU.out W hW; rw [hh, hq] at this; exact this)
      have HM : Hid (measF l = if l.any far200 = true then 16 else 0) := hide (by unfold measF; rw [if_pos hc])
      have hHF := hf
      have HFAR := hide hHF
      rw [hc] at HCK
      clear HHU hh hc hne hr hl hf hHF hq
      generalize measF l = M at *
      generalize l.any far200 = G at *
      by_cases q1 : min h0 h1 < -200
      · have HF : Hid (M = 16) := hide (by rw [HM.out, if_pos (HFAR.out.1 (.inl q1))])
        clear HM HFAR
        go_enter Tryz.func81, Tryz.ntmps81
        go_wp2_with (fail)
        refine HCK.out.mono ?_
        rintro e w1 ⟨rfl, hb⟩
        have HB := hide hb
        clear hb HCK
        go_wp2_with (fail)
        refine (HU.out _ HB.out).mono ?_
        rintro e w2 ⟨rfl, hb⟩
        have HB2 := hide (HB.out.trans (hb.mono HB.out.size))
        clear hb HB HU
        go_upto_region 5 with fail
        refine wp_name fun Z hZ => ?_
        have hbz : Below w2.heap.size w2 Z := by rw [hZ]; exact (Below.refl _ _).alloc (Nat.le_refl _) _
        have z0 : Z.cell? ⟨w2.heap.size, 0, none⟩ = some (.int .i64 h0) := by rw [hZ]; simp [go_sem]
        have z1 : Z.cell? ⟨w2.heap.size, 1, none⟩ = some (.int .i64 h1) := by rw [hZ]; simp [go_sem]
        have z2 : Z.cell? ⟨w2.heap.size, 2, none⟩ = some (.int .i64 h2) := by rw [hZ]; simp [go_sem]
        have z3 : Z.cell? ⟨w2.heap.size, 3, none⟩ = some (.int .i64 h3) := by rw [hZ]; simp [go_sem]
        have HB3 := hide (HB2.out.trans (hbz.mono HB2.out.size))
        clear hZ hbz HB2
        go_wp2_with (fail)
        go_ret
        exact ⟨by rw [HF.out]; rfl, HB3.out⟩
      · by_cases q2 : 200 < max h2 h3
        · have q1' : -200 ≤ min h0 h1 := by omega
          have HF : Hid (M = 16) := hide (by rw [HM.out, if_pos (HFAR.out.1 (.inr q2))])
          clear HM HFAR q1
          go_enter Tryz.func81, Tryz.ntmps81
          go_wp2_with (fail)
          refine HCK.out.mono ?_
          rintro e w1 ⟨rfl, hb⟩
          have HB := hide hb
          clear hb HCK
          go_wp2_with (fail)
          refine (HU.out _ HB.out).mono ?_
          rintro e w2 ⟨rfl, hb⟩
          have HB2 := hide (HB.out.trans (hb.mono HB.out.size))
          clear hb HB HU
          go_upto_region 5 with fail
          refine wp_name fun Z hZ => ?_
          have hbz : Below w2.heap.size w2 Z := by rw [hZ]; exact (Below.refl _ _).alloc (Nat.le_refl _) _
          have z0 : Z.cell? ⟨w2.heap.size, 0, none⟩ = some (.int .i64 h0) := by rw [hZ]; simp [go_sem]
          have z1 : Z.cell? ⟨w2.heap.size, 1, none⟩ = some (.int .i64 h1) := by rw [hZ]; simp [go_sem]
          have z2 : Z.cell? ⟨w2.heap.size, 2, none⟩ = some (.int .i64 h2) := by rw [hZ]; simp [go_sem]
          have z3 : Z.cell? ⟨w2.heap.size, 3, none⟩ = some (.int .i64 h3) := by rw [hZ]; simp [go_sem]
          have HB3 := hide (HB2.out.trans (hbz.mono HB2.out.size))
          clear hZ hbz HB2
          go_wp2_with (fail)
          go_ret
          exact ⟨by rw [HF.out]; rfl, HB3.out⟩
        · have q1' : -200 ≤ min h0 h1 := by omega
          have q2' : max h2 h3 ≤ 200 := by omega
          have HF : Hid (M = 0) := hide (by rw [HM.out, if_neg (fun h => by have := HFAR.out.2 h; omega)])
          clear HM HFAR q1 q2
          go_enter Tryz.func81, Tryz.ntmps81
          go_wp2_with (fail)
          refine HCK.out.mono ?_
          rintro e w1 ⟨rfl, hb⟩
          have HB := hide hb
          clear hb HCK
          go_wp2_with (fail)
          refine (HU.out _ HB.out).mono ?_
          rintro e w2 ⟨rfl, hb⟩
          have HB2 := hide (HB.out.trans (hb.mono HB.out.size))
          clear hb HB HU
          go_upto_region 5 with fail
          refine wp_name fun Z hZ => ?_
          have hbz : Below w2.heap.size w2 Z := by rw [hZ]; exact (Below.refl _ _).alloc (Nat.le_refl _) _
          have z0 : Z.cell? ⟨w2.heap.size, 0, none⟩ = some (.int .i64 h0) := by rw [hZ]; simp [go_sem]
          have z1 : Z.cell? ⟨w2.heap.size, 1, none⟩ = some (.int .i64 h1) := by rw [hZ]; simp [go_sem]
          have z2 : Z.cell? ⟨w2.heap.size, 2, none⟩ = some (.int .i64 h2) := by rw [hZ]; simp [go_sem]
          have z3 : Z.cell? ⟨w2.heap.size, 3, none⟩ = some (.int .i64 h3) := by rw [hZ]; simp [go_sem]
          have HB3 := hide (HB2.out.trans (hbz.mono HB2.out.size))
          clear hZ hbz HB2
          go_wp2_with (fail)
          go_ret
          exact ⟨by rw [HF.out]; rfl, HB3.out⟩
  · have HF : Hid (measF l = checkF l) := hide (if_neg hc)
    have hne : (checkF l != 0) = true := by simpa using hc
    clear hc HHU hr hl
    generalize measF l = M at *
    generalize checkF l = ck at *
    go_enter Tryz.func81, Tryz.ntmps81
    go_wp2_with (fail)
    refine HCK.out.mono ?_
    rintro e w1 ⟨rfl, hb⟩
    have HB := hide hb
    clear hb HCK
    go_wp2_with (fail)
    go_ret
    exact ⟨by rw [HF.out]; rfl, HB.out⟩

end Go.Proofs.YtdolpeljengpaaaGreat

/- Rectangles side by side: region.beside, and the reference's near and common. -/
namespace Go.Proofs.YtdolpeljengpaaaGreat
open Go.RowKit
set_option linter.unusedVariables false
set_option linter.unusedSimpArgs false

def cmn (a b : R4) : Bool := decide (a.x0 < b.x1) && decide (b.x0 < a.x1) && decide (a.y0 < b.y1) && decide (b.y0 < a.y1)
def nearF (a b : R4) : Bool := cmn ⟨a.x0 - 1, a.y0, a.x1 + 1, a.y1⟩ b || cmn ⟨a.x0, a.y0 - 1, a.x1, a.y1 + 1⟩ b
def bsd (a b : R4) : Bool := (decide (min a.x1 b.x1 - max a.x0 b.x0 = 0) && decide (0 < min a.y1 b.y1 - max a.y0 b.y0)) || (decide (0 < min a.x1 b.x1 - max a.x0 b.x0) && decide (min a.y1 b.y1 - max a.y0 b.y0 = 0))
theorem bsd_symm (a b : R4) : bsd a b = bsd b a := by
  unfold bsd
  rw [Int.min_comm a.x1, Int.max_comm a.x0, Int.min_comm a.y1, Int.max_comm a.y0]

def mid4 (r : R4) : Prop := (-1000000 ≤ r.x0 ∧ r.x0 ≤ 1000000) ∧ (-1000000 ≤ r.y0 ∧ r.y0 ≤ 1000000) ∧ (-1000000 ≤ r.x1 ∧ r.x1 ≤ 1000000) ∧ (-1000000 ≤ r.y1 ∧ r.y1 ≤ 1000000)
end Go.Proofs.YtdolpeljengpaaaGreat

/- region.Touch. -/
namespace Go.Proofs.YtdolpeljengpaaaGreat
open Go.RowKit
set_option linter.unusedVariables false
set_option linter.unusedSimpArgs false

def ovl (a b : List R4) : Bool := a.any fun x => b.any fun y => cmn x y
def sid (a b : List R4) : Bool := a.any fun x => b.any fun y => bsd x y
def touchF (a b : List R4) : Bool × Int := if bothF a b = 0 then (!ovl a b && sid a b, 0) else (false, bothF a b)
end Go.Proofs.YtdolpeljengpaaaGreat

/- Plain law: components of a list of rectangles, each named by its least index. -/
namespace Go.Proofs.YtdolpeljengpaaaGreat
set_option linter.unusedVariables false
set_option linter.unusedSimpArgs false

/-- Rectangles i and j lie side by side. -/
def adj (l : List R4) (i j : Nat) : Prop := ∃ x y, l[i]? = some x ∧ l[j]? = some y ∧ bsd x y = true
theorem adj.symm {l : List R4} {i j : Nat} (h : adj l i j) : adj l j i := by
  obtain ⟨x, y, h1, h2, h3⟩ := h
  exact ⟨y, x, h2, h1, by rw [bsd_symm]; exact h3⟩
inductive Conn (l : List R4) (i : Nat) : Nat → Prop where
  | refl : Conn l i i
  | step {j k : Nat} : Conn l i j → adj l j k → Conn l i k
theorem Conn.trans {l : List R4} {i j k : Nat} (h : Conn l i j) (g : Conn l j k) : Conn l i k := by
  induction g with
  | refl => exact h
  | step _ a ih => exact ih.step a
theorem Conn.symm {l : List R4} {i j : Nat} (h : Conn l i j) : Conn l j i := by
  induction h with
  | refl => exact .refl
  | step _ a ih => exact (Conn.refl.step a.symm).trans ih
theorem Conn.lt {l : List R4} {i j : Nat} (h : Conn l i j) (hi : i < l.length) : j < l.length := by
  cases h with
  | refl => exact hi
  | step _ a =>
    obtain ⟨x, y, _, h2, _⟩ := a
    exact (List.getElem?_eq_some_iff.1 h2).1
theorem least (p : Nat → Prop) : ∀ n, p n → ∃ m, p m ∧ ∀ k, p k → m ≤ k := by
  intro n
  induction n using Nat.strongRecOn with
  | _ n ih =>
    intro h
    by_cases hk : ∃ k, k < n ∧ p k
    · obtain ⟨k, h1, h2⟩ := hk
      exact ih k h1 h2
    · refine ⟨n, h, fun k hp => ?_⟩
      by_cases hkn : k < n
      · exact absurd ⟨k, hkn, hp⟩ hk
      · omega
/-- The least index of a component. -/
noncomputable def mn (l : List R4) (i : Nat) : Nat := Classical.choose (least (Conn l i) i .refl)
theorem mn_conn (l : List R4) (i : Nat) : Conn l i (mn l i) := (Classical.choose_spec (least (Conn l i) i .refl)).1
theorem mn_least {l : List R4} {i k : Nat} (h : Conn l i k) : mn l i ≤ k := (Classical.choose_spec (least (Conn l i) i .refl)).2 k h
/-- Labels that do not go down any more are the least indices. -/
theorem labels_mn {l : List R4} {f : Nat → Nat} (h1 : ∀ i, i < l.length → Conn l i (f i) ∧ f i ≤ i) (h2 : ∀ i k, adj l i k → f i ≤ f k) : ∀ i, i < l.length → f i = mn l i := by
  have key : ∀ i k, Conn l i k → f i = f k := by
    intro i k h
    induction h with
    | refl => rfl
    | step _ a ih => have := h2 _ _ a; have := h2 _ _ a.symm; omega
  intro i hi
  have a1 := mn_least (h1 i hi).1
  have a2 := (h1 _ ((mn_conn l i).lt hi)).2
  have a3 := key _ _ (mn_conn l i)
  omega
open Classical in
/-- The rectangles of the component whose least index is i, in their order. -/
noncomputable def compL (l : List R4) (i : Nat) : List R4 := ((List.range l.length).filter fun j => decide (mn l j = i)).filterMap fun j => l[j]?
open Classical in
noncomputable def partsF (l : List R4) : List (List R4) := ((List.range l.length).filter fun i => decide (mn l i = i)).map fun i => rjoin hFst (compL l i) []
end Go.Proofs.YtdolpeljengpaaaGreat

/- Plain law: a part of a canonical region, made a region, has no more rectangles than the part. -/
namespace Go.Proofs.YtdolpeljengpaaaGreat
set_option linter.unusedVariables false
set_option linter.unusedSimpArgs false

theorem SOK.apart : ∀ {S : List Slab}, SOK S → ∀ a ∈ S, ∀ b ∈ S, a = b ∨ a.t ≤ b.f ∨ b.t ≤ a.f
  | [], _, a, ha, _, _ => by cases ha
  | c :: S, h, a, ha, b, hb => by
    rcases List.mem_cons.1 ha with e1 | ha'
    · rcases List.mem_cons.1 hb with e2 | hb'
      · exact .inl (e1.trans e2.symm)
      · exact .inr (.inl (e1 ▸ h.after b hb'))
    · rcases List.mem_cons.1 hb with e2 | hb'
      · exact .inr (.inr (e2 ▸ h.after a ha'))
      · exact SOK.apart h.tail a ha' b hb'
theorem SOK.wide : ∀ {S : List Slab}, SOK S → ∀ a ∈ S, a.f < a.t
  | [], _, a, ha => by cases ha
  | c :: S, h, a, ha => by
    rcases List.mem_cons.1 ha with rfl | ha
    · exact h.head.1
    · exact SOK.wide h.tail a ha
end Go.Proofs.YtdolpeljengpaaaGreat

/- A store into a row of the call's own; the sum of a row of numbers, read off the world. -/
namespace Go.Proofs.YtdolpeljengpaaaGreat
open Go.RowKit
set_option linter.unusedVariables false
set_option linter.unusedSimpArgs false

/-- The sum of n numbers of a row. -/
def cellSum (w : World) (v : Value) (n : Nat) : Nat :=
  match v with
  | .slice (some p) _ _ => ((List.range n).map fun j => match w.cell? ⟨p.block, p.off + j, none⟩ with | some (.int _ x) => x.toNat | _ => 0).sum
  | _ => 0
end Go.Proofs.YtdolpeljengpaaaGreat

/- Plain law: labels that go down along neighbours, step by step. -/
namespace Go.Proofs.YtdolpeljengpaaaGreat
set_option linter.unusedVariables false
set_option linter.unusedSimpArgs false

/-- Each label names a rectangle of the component, not behind its own. -/
def Lb (l : List R4) (L : List Int) : Prop := L.length = l.length ∧ ∀ (i : Nat) x, L[i]? = some x → ∃ j : Nat, x = (j : Int) ∧ Conn l i j ∧ j ≤ i
def sumN (L : List Int) : Nat := (L.map Int.toNat).sum
/-- No label is below a neighbour's, as far as the pairs have been seen: rows before m, and row m before j. -/
def Seen (l : List R4) (L : List Int) (m j : Nat) : Prop := ∀ i k x y, adj l i k → L[i]? = some x → L[k]? = some y → (i < m ∨ (i = m ∧ k < j)) → x ≤ y
/-- Inside one pass over all pairs: something went down, or nothing yet. -/
def Pass (l : List R4) (L0 L : List Int) (mb : Bool) (m j : Nat) : Prop := Lb l L ∧ ((mb = true ∧ sumN L < sumN L0) ∨ (mb = false ∧ L = L0 ∧ Seen l L m j))
theorem Lb.start (l : List R4) : Lb l ((List.range l.length).map fun i : Nat => (i : Int)) := by
  refine ⟨by simp, fun i x h => ?_⟩
  rw [List.getElem?_map] at h
  obtain ⟨j, hj, rfl⟩ := Option.map_eq_some_iff.1 h
  obtain ⟨h1, h2⟩ := List.getElem?_eq_some_iff.1 hj
  simp at h2
  subst h2
  exact ⟨i, rfl, .refl, Nat.le_refl _⟩
theorem Pass.row {l : List R4} {L0 L : List Int} {mb : Bool} {m j : Nat} (h : Pass l L0 L mb m j) (hj : l.length ≤ j) : Pass l L0 L mb (m + 1) 0 := by
  refine ⟨h.1, h.2.imp id fun ⟨a, b, c⟩ => ⟨a, b, fun i k x y ha hx hy hs => ?_⟩⟩
  have hk : k < L.length := (List.getElem?_eq_some_iff.1 hy).1
  have := h.1.1
  exact c i k x y ha hx hy (by omega)
/-- Labels of a pass that changed nothing are the least indices. -/
theorem Pass.done {l : List R4} {L0 L : List Int} {m j : Nat} (h : Pass l L0 L false m j) (hm : l.length ≤ m) : L = (List.range l.length).map fun i => ((mn l i : Nat) : Int) := by
  obtain ⟨⟨h1, h2⟩, h3⟩ := h
  obtain ⟨_, _, hs⟩ := h3.resolve_left (fun q => by cases q.1)
  have key := labels_mn (l := l) (f := fun i => ((L[i]?).getD 0).toNat) (fun i hi => by
    obtain ⟨x, hx⟩ : ∃ x, L[i]? = some x := ⟨_, List.getElem?_eq_getElem (by omega)⟩
    obtain ⟨j, rfl, c, le⟩ := h2 i x hx
    simp only [hx, Option.getD_some, Int.toNat_natCast]
    exact ⟨c, le⟩) (fun i k ha => by
    obtain ⟨x0, y0, g1, g2, _⟩ := id ha
    have hi := (List.getElem?_eq_some_iff.1 g1).1
    have hk := (List.getElem?_eq_some_iff.1 g2).1
    obtain ⟨x, hx⟩ : ∃ x, L[i]? = some x := ⟨_, List.getElem?_eq_getElem (by omega)⟩
    obtain ⟨y, hy⟩ : ∃ y, L[k]? = some y := ⟨_, List.getElem?_eq_getElem (by omega)⟩
    have := hs i k x y ha hx hy (.inl (by omega))
    simp only [hx, hy, Option.getD_some]
    omega)
  apply List.ext_getElem?
  intro i
  by_cases hi : i < l.length
  · obtain ⟨x, hx⟩ : ∃ x, L[i]? = some x := ⟨_, List.getElem?_eq_getElem (by omega)⟩
    obtain ⟨j, rfl, c, le⟩ := h2 i x hx
    have := key i hi
    simp only [hx, Option.getD_some, Int.toNat_natCast] at this
    rw [hx, List.getElem?_map, List.getElem?_range hi]
    simp [this]
  · rw [List.getElem?_eq_none (by omega), List.getElem?_eq_none (by simpa using hi)]
end Go.Proofs.YtdolpeljengpaaaGreat

/- The reference's Touch. -/
namespace Go.Proofs.YtdolpeljengpaaaGreat
open Go.RowKit
set_option linter.unusedVariables false
set_option linter.unusedSimpArgs false

end Go.Proofs.YtdolpeljengpaaaGreat

/- The reference's Parts. -/
namespace Go.Proofs.YtdolpeljengpaaaGreat
open Go.RowKit
set_option linter.unusedVariables false
set_option linter.unusedSimpArgs false

/-- A list of regions of the call's own. -/
structure Regs (w : World) (vo : Value) (R : List (List R4)) (wr : World) : Prop where
  low : Below w.heap.size w wr
  o : ∃ vs, wr.ownsRow w.heap.size 27 1 vo R.length vs ∧ ∀ (i : Nat) (r : List R4), R[i]? = some r → ∃ v, vs[i]? = some v ∧ wr.ownsRow w.heap.size 69 4 v r.length (r.flatMap encR)
theorem Regs.below {w wr w2 : World} {vo : Value} {R : List (List R4)} (h : Regs w vo R wr) (hb : Below wr.heap.size wr w2) : Regs w vo R w2 := by
  obtain ⟨vs, h1, h2⟩ := h.o
  refine ⟨h.low.trans (hb.mono h.low.size), vs, own_below h1 hb, fun i r hr => ?_⟩
  obtain ⟨v, h3, h4⟩ := h2 i r hr
  exact ⟨v, h3, own_below h4 hb⟩
theorem Regs.push {w wr w2 : World} {vo v2 v : Value} {R : List (List R4)} {r : List R4} {vs : List Value} (low : Below w.heap.size w wr) (h1 : wr.ownsRow w.heap.size 27 1 vo R.length vs)
    (h2 : ∀ (i : Nat) (r : List R4), R[i]? = some r → ∃ v, vs[i]? = some v ∧ wr.ownsRow w.heap.size 69 4 v r.length (r.flatMap encR)) (hv : wr.ownsRow w.heap.size 69 4 v r.length (r.flatMap encR))
    (hg : wr.grownBy w2 vo.ownBlock) (h3 : w2.ownsRow w.heap.size 27 1 v2 (R.length + 1) (vs ++ [v])) : Regs w v2 (R ++ [r]) w2 := by
  have hl : vs.length = R.length := by have := h1.1; omega
  refine ⟨low.grown hg low.size (fun q hq => (h1.lt q hq).1), vs ++ [v], by simpa using h3, fun i x hx => ?_⟩
  by_cases hi : i < R.length
  · rw [List.getElem?_append_left hi] at hx
    obtain ⟨u, h4, h5⟩ := h2 i x hx
    exact ⟨u, by rw [List.getElem?_append_left (by omega)]; exact h4, h5.kept hg (own_apart h5 h1 (by decide))⟩
  · rw [List.getElem?_append_right (by omega)] at hx
    have hi0 : i - R.length = 0 := by
      have := (List.getElem?_eq_some_iff.1 hx).1
      simp at this
      omega
    rw [hi0] at hx
    simp at hx
    subst hx
    refine ⟨v, by rw [List.getElem?_append_right (by omega), hl, hi0]; rfl, hv.kept hg (own_apart hv h1 (by decide))⟩
def RegsRet (B : Nat) (x : List (List R4) × Int) (e : Ending) (w' : World) : Prop :=
  ∃ A c vs, e = .returned (.tuple #[.slice A x.1.length c, .int .i64 x.2]) ∧ w'.ownsRow B 27 1 (.slice A x.1.length c) x.1.length vs ∧ ∀ (i : Nat) (r : List R4), x.1[i]? = some r → ∃ v, vs[i]? = some v ∧ w'.ownsRow B 69 4 v r.length (r.flatMap encR)
noncomputable def partsE (l : List R4) : List (List R4) × Int := if checkF l = 0 then (partsF l, 0) else ([], checkF l)
theorem infoRg : (Tryz.prog.info? 27).map (fun i => (i.zero, i.size, i.bytes)) = some (some (.slice none 0 0), 1, 24) := by kernel_rfl
/-- The component's rectangles among the first j. -/
noncomputable def compP (l : List R4) (i j : Nat) : List R4 := ((List.range j).filter fun k => decide (mn l k = i)).filterMap fun k => l[k]?
noncomputable def partsP (l : List R4) (m : Nat) : List (List R4) := ((List.range m).filter fun i => decide (mn l i = i)).map fun i => rjoin hFst (compL l i) []
def lab0 (m : Nat) : List Int := (List.range m).map fun i : Nat => (i : Int)
def labR (l : List R4) (w : World) (vf : Value) (L : List Int) (wr : World) : Prop := wr.ownsRow w.heap.size 3 1 vf l.length (L.map iv) ∧ Below w.heap.size w wr

end Go.Proofs.YtdolpeljengpaaaGreat

/- roof.levels and its iterator; roof.Levels and the reference's Levels. -/
namespace Go.Proofs.YtdolpeljengpaaaGreat
open Go.RowKit
set_option linter.unusedVariables false
set_option linter.unusedSimpArgs false
attribute [local go_sem] Oper.semAt_some

/-- What a round of the caller keeps: the old blocks, but for k boxes from bb on. -/
def KpR (bb k n : Nat) (A B : World) : Prop := A.heap.size ≤ B.heap.size ∧ ∀ b o, b < n → (b < bb ∨ bb + k ≤ b) → B.cell? ⟨b, o, none⟩ = A.cell? ⟨b, o, none⟩
theorem KpR.trans {bb k n : Nat} {A B C : World} (h : KpR bb k n A B) (g : KpR bb k n B C) : KpR bb k n A C := ⟨Nat.le_trans h.1 g.1, fun q o h1 h2 => (g.2 q o h1 h2).trans (h.2 q o h1 h2)⟩
theorem KpR.below {bb k n : Nat} {A B : World} (hn : n ≤ A.heap.size) (hb : Below A.heap.size A B) : KpR bb k n A B := ⟨hb.size, fun b o h _ => hb.cell (p := ⟨b, o, none⟩) (by show b < _; omega)⟩
/-- What a round is handed: level number d, and no error. -/
def OkLev (B : Nat) (l : List R4) (d : Nat) (args : Array Value) (W : World) : Prop :=
  ∃ A c, args = #[.slice A (levS l d).length c, .int .i64 0] ∧ W.ownsRow B 69 4 (.slice A (levS l d).length c) (levS l d).length ((levS l d).flatMap encR)
theorem range_post {N k : Nat} (h : k < N) : ∃ post, List.range N = List.range k ++ k :: post := by
  refine ⟨(List.range N).drop (k + 1), ?_⟩
  have hk : k < (List.range N).length := by rw [List.length_range]; exact h
  have e1 : (List.range N).take k = List.range k := by rw [List.take_range, Nat.min_eq_left (Nat.le_of_lt h)]
  have e2 := List.take_append_drop k (List.range N)
  rw [e1, List.drop_eq_getElem_cons hk, List.getElem_range] at e2
  exact e2.symm

set_option maxRecDepth 100000 in
set_option maxHeartbeats 8000000 in
theorem levelsIt {l : List R4} {N bb k br c0 : Nat} {A0 : Option Addr} (w0 : World) (hl : l.length ≤ 400) (hN : levN (levS l) N) (hNb : N ≤ 1000000) (hs : ∀ d : Nat, d ≤ N → shrF l (d : Int) = (levS l d, 0))
    (hbox : w0.cell? ⟨br, 0, none⟩ = some (.slice A0 l.length c0)) (hbr : br < bb ∨ bb + k ≤ br) (hr : RdK encR 4 w0 bb (.slice A0 l.length c0) l) (hbw : bb ≤ w0.heap.size) :
    Iter Tryz.prog 130 #[.pointer (some ⟨br, 0, none⟩)] (List.range N) (OkLev w0.heap.size l) (KpR bb k w0.heap.size) w0 := by
  intro l' J Jx W hW hJ hY h0
  have HSH : Hid (∀ d : Nat, d ≤ N → ∀ W : World, RdK encR 4 W W.heap.size (.slice A0 l.length c0) l → Calls Tryz.prog 131 #[.slice A0 l.length c0, .int .i64 (d : Int)] W fun e w' => RegRet W.heap.size (levS l d, 0) e w' ∧ Below W.heap.size W w') := hide (fun d hd W h => by
    have := oShrink_any h (by omega) (d : Int)
    rwa [hs d hd] at this)
  have HR := hide hr
  have HN := hide hN
  have lbr := lt_of_cell hbox
  refine callsIn_of_wp Tryz.func130 rfl trivial ?_
  simp only [Tryz.ntmps130, List.size_toArray, List.length_cons, List.length_nil, Nat.reduceAdd, Nat.reduceSub, Array.replicate_succ, Array.replicate_zero, List.push_toArray, List.append_toArray, List.nil_append, List.cons_append]
  have HY := hide hY
  have HJ := hide hJ
  clear hY hJ hs hr hN
  gi_wp2
  gi_loopw [3] (fun p wr => ∃ d : Nat, d ≤ N ∧ p = .int .i64 d ∧ Hid (J (List.range d) wr) ∧ Hid (∀ b o, b < w0.heap.size → (b < bb ∨ bb + k ≤ b) → wr.cell? ⟨b, o, none⟩ = w0.cell? ⟨b, o, none⟩) ∧ w0.heap.size ≤ wr.heap.size) (fun p _ => N - (intOf p).toNat)
  case atStart => exact ⟨0, Nat.zero_le _, rfl, hide (by simpa using h0), hide fun b o h _ => hW.cell (p := ⟨b, o, none⟩) h, hW.size⟩
  case round =>
    clear h0
    obtain ⟨d, hd, rfl, HJk, HC, hsz⟩ := hrel
    have kb := (HC.out br 0 lbr hbr).trans hbox
    have HS := hide (HSH.out d hd wr ((HR.out.keep fun b o hb => HC.out b o (Nat.lt_of_lt_of_le hb hbw) (.inl hb)).mono (by omega)))
    by_cases hlt : d < N
    · obtain ⟨post, hpost⟩ := range_post hlt
      have hne : 0 < (levS l d).length := List.length_pos_iff.2 (HN.out.2 d hlt)
      have hlen : (((levS l d).length : Int) == 0) = false := by have := HN.out.2 d hlt; simpa using this
      have hdz : (d : Int) < 1000000 := by omega
      clear hne
      gi_upto_region 3 with (first
        | (refine ⟨trivial, rfl, ?_⟩)
        | (gi_at_call 131; refine (callsIn_wide.2 HS.out).mono ?_; rintro e A3 ⟨⟨A2, c2, rfl, ho⟩, hb⟩))
      have hJ2 := HJ.out _ _ _ HJk.out hb
      have hok : OkLev w0.heap.size l d #[.slice A2 (levS l d).length c2, .int .i64 0] A3 := ⟨A2, c2, rfl, own_base ho hsz⟩
      obtain ⟨fn, tmps, assign, body, hy, hR⟩ := HY.out (List.range d) d _ A3 hJ2 ⟨post, hpost⟩ hok
      have HCB : Hid (∀ b o, b < w0.heap.size → (b < bb ∨ bb + k ≤ b) → A3.cell? ⟨b, o, none⟩ = w0.cell? ⟨b, o, none⟩) := hide (fun b o h1 h2 => (hb.cell (p := ⟨b, o, none⟩) (by show b < _; omega)).trans (HC.out b o h1 h2))
      have hsz3 : w0.heap.size ≤ A3.heap.size := by have := hb.size; omega
      have FI : Hid (List.range (d + 1) = List.range d ++ [d]) := hide List.range_succ
      clear hpost hJ2 hok hb ho HS HC HJ HY kb
      gi_wp2
      refine ⟨rfl, hR.mono ?_⟩
      rintro e W3 (⟨rfl, hJ3, hk3⟩ | ⟨rfl, hJx3⟩)
      · gi_wp2
        go_roundw
        case rel =>
          exact ⟨d + 1, by omega, by go_num, hide (by rw [FI.out]; exact hJ3), hide (fun b o h1 h2 => (hk3.2 b o h1 h2).trans (HCB.out b o h1 h2)), Nat.le_trans hsz3 hk3.1⟩
        case measure => simp [intOf]; omega
      · gi_wp2
        refine bodyPost_ret (results_none rfl _ _ _) rfl ?_
        exact ⟨⟨_, rfl⟩, .inr ⟨_, hJx3⟩⟩
    · obtain rfl : d = N := by omega
      have he : levS l d = [] := HN.out.1
      rw [he] at HS
      have HS2 : Hid (Calls Tryz.prog 131 #[.slice A0 l.length c0, .int .i64 (d : Int)] wr fun e w' => (∃ A c, e = .returned (.tuple #[.slice A 0 c, .int .i64 0])) ∧ Below wr.heap.size wr w') := hide (HS.out.mono fun e w' ⟨⟨A, c, h1, _⟩, h2⟩ => ⟨⟨A, c, h1⟩, h2⟩)
      clear he HS
      have HJ2 := HJ
      gi_wp2_with (first
        | (refine ⟨trivial, rfl, ?_⟩)
        | (gi_at_call 131; refine (callsIn_wide.2 HS2.out).mono ?_; rintro e A3 ⟨⟨A2, c2, rfl⟩, hb⟩))
      refine ⟨(fun _ h => by cases h), ?_⟩
      gi_wp2
      refine bodyPost_ret (results_none rfl _ _ _) rfl ?_
      exact ⟨⟨_, rfl⟩, .inl (HJ.out _ _ _ HJk.out hb)⟩
set_option maxHeartbeats 400000 in
theorem olevels_any (A0 : Option Addr) (n c : Nat) (w : World) :
    Calls Tryz.prog 82 #[.slice A0 n c] w fun e w' => e = .returned (.func (.func 130) #[] #[.pointer (some ⟨w.heap.size, 0, none⟩)]) ∧ w.alloc (.cells #[.slice A0 n c] 27) = w' := by
  go_enter Tryz.func82, Tryz.ntmps82
  go_wp2
  go_ret
  exact ⟨rfl, rfl⟩

/-- Box bb holds the list R; its rows lie at or above Bo. -/
structure LV (bb Bo : Nat) (W0 : World) (R : List (List R4)) (W : World) : Prop where
  lo : bb < Bo
  size : Bo ≤ W.heap.size
  out : ∃ vo vs, W.cell? ⟨bb, 0, none⟩ = some vo ∧ W.ownsRow Bo 27 1 vo R.length vs ∧ ∀ (i : Nat) (r : List R4), R[i]? = some r → ∃ v, vs[i]? = some v ∧ W.ownsRow Bo 69 4 v r.length (r.flatMap encR)
  fz : W.frozen? ⟨bb, 0, none⟩ = false
  low : Below bb W0 W
theorem LV.below {bb Bo : Nat} {W0 A B : World} {R : List (List R4)} (h : LV bb Bo W0 R A) (hb : Below A.heap.size A B) : LV bb Bo W0 R B := by
  have hlt : bb < A.heap.size := Nat.lt_of_lt_of_le h.lo h.size
  obtain ⟨vo, vs, o1, o2, o3⟩ := h.out
  exact ⟨h.lo, Nat.le_trans h.size hb.size, ⟨vo, vs, (hb.cell (p := ⟨bb, 0, none⟩) hlt).trans o1, own_below o2 hb, fun i r hr => by
    obtain ⟨v, q1, q2⟩ := o3 i r hr
    exact ⟨v, q1, own_below q2 hb⟩⟩, (hb.frozen (p := ⟨bb, 0, none⟩) hlt).trans h.fz, h.low.trans (hb.mono (Nat.le_of_lt hlt))⟩
theorem LV.putObj {bb Bo : Nat} {W0 A : World} {R : List (List R4)} (h : LV bb Bo W0 R A) {l : Nat} {o o' : Obj} (hw : Bo ≤ l) (hl : A.heap[l]? = some o) (ho : o.isCells = false) (ho' : o'.isCells = false) : LV bb Bo W0 R (A.putObj l o') := by
  obtain ⟨vo, vs, o1, o2, o3⟩ := h.out
  have hlo := h.lo
  exact ⟨h.lo, by simpa using h.size, ⟨vo, vs, (cell_putObj (o' := o') hl ho ho' _).1.trans o1, own_putObj o2 hl ho, fun i r hr => by
    obtain ⟨v, q1, q2⟩ := o3 i r hr
    exact ⟨v, q1, own_putObj q2 hl ho⟩⟩, (cell_putObj (o' := o') hl ho ho' _).2.trans h.fz, below_putObj h.low (by omega) _⟩
theorem own_grown_obj {w w2 : World} {B l n size : Nat} {e : TypeId} {v : Value} {xs : List Value} {o : Obj} (h : w.ownsRow B e size v n xs) (hg : w.grownBy w2 (some l)) (hl : w.heap[l]? = some o) (ho : o.isCells = false) : w2.ownsRow B e size v n xs := by
  refine h.kept hg ?_
  right
  intro e
  have := own_cells h l o e hl
  rw [ho] at this; cases this
theorem LV.grown {bb Bo : Nat} {W0 A B : World} {R : List (List R4)} (h : LV bb Bo W0 R A) {l : Nat} {o : Obj} (hw : Bo ≤ l) (hg : A.grownBy B (some l)) (hl : A.heap[l]? = some o) (ho : o.isCells = false) : LV bb Bo W0 R B := by
  obtain ⟨vo, vs, o1, o2, o3⟩ := h.out
  have hlo := h.lo
  have hsz := h.size
  have hbk : B.heap[bb]? = A.heap[bb]? := hg.block bb (by omega) (fun e => by injection e with e; omega)
  exact ⟨h.lo, Nat.le_trans h.size hg.size, ⟨vo, vs, (World.cell?_of_block (w := A) (a := ⟨bb, 0, none⟩) hbk).trans o1, own_grown_obj o2 hg hl ho, fun i r hr => by
    obtain ⟨v, q1, q2⟩ := o3 i r hr
    exact ⟨v, q1, own_grown_obj q2 hg hl ho⟩⟩, (World.frozen?_of_block (w := A) (a := ⟨bb, 0, none⟩) hbk).trans h.fz, h.low.grown hg (Nat.le_trans (Nat.le_of_lt h.lo) h.size) (fun k hk => by injection hk with hk; omega)⟩
theorem LV.push {bb Bo : Nat} {W0 wr wa w2 : World} {R : List (List R4)} {r : List R4} {vo v2 v : Value} {vs : List Value} (h : LV bb Bo W0 R wr) (hvo : wr.cell? ⟨bb, 0, none⟩ = some vo) (how : wr.ownsRow Bo 27 1 vo R.length vs)
    (hel : ∀ (i : Nat) (r : List R4), R[i]? = some r → ∃ v, vs[i]? = some v ∧ wr.ownsRow Bo 69 4 v r.length (r.flatMap encR)) (hv : wr.ownsRow Bo 69 4 v r.length (r.flatMap encR))
    (ha : Below wr.heap.size wr wa) (hg : wa.grownBy w2 vo.ownBlock) (hown2 : w2.ownsRow Bo 27 1 v2 (R.length + 1) (vs ++ [v])) :
    w2.cell? ⟨bb, 0, none⟩ = some vo ∧ w2.frozen? ⟨bb, 0, none⟩ = false ∧ Hid (LV bb Bo W0 (R ++ [r]) (w2.setCell ⟨bb, 0, none⟩ v2) ∧ KeepsOthers wr (w2.setCell ⟨bb, 0, none⟩ v2) ∧ KpR bb 1 Bo wr (w2.setCell ⟨bb, 0, none⟩ v2)) := by
  have hlo := h.lo
  have hsz := h.size
  have hl : vs.length = R.length := by have := how.1; omega
  have how2 := own_below how ha
  have hB : Below Bo wr w2 := (ha.mono hsz).grown hg (Nat.le_trans hsz ha.size) fun q hq => (how.lt q hq).1
  have k0 := (hB.cell (p := ⟨bb, 0, none⟩) hlo).trans hvo
  have kf := (hB.frozen (p := ⟨bb, 0, none⟩) hlo).trans h.fz
  have hkp : ∀ {x : List R4} {u : Value}, wr.ownsRow Bo 69 4 u x.length (x.flatMap encR) → (w2.setCell ⟨bb, 0, none⟩ v2).ownsRow Bo 69 4 u x.length (x.flatMap encR) := fun {x u} hu =>
    ownsRow_setCell_below ((own_below hu ha).kept hg (own_apart (own_below hu ha) how2 (by decide))) (by show bb < _; omega) _
  refine ⟨k0, kf, hide ⟨⟨hlo, ?_, ⟨v2, vs ++ [v], by simp [go_sem, k0], ?_, fun i x hx => ?_⟩, ?_, ?_⟩, ?_, ?_, fun b o h1 h2 => ?_⟩⟩
  · have := hB.size; simp [World.setCell]; omega
  · rw [List.length_append]
    exact ownsRow_setCell_below hown2 (by show bb < _; omega) _
  · by_cases hi : i < R.length
    · rw [List.getElem?_append_left hi] at hx
      obtain ⟨u, h4, h5⟩ := hel i x hx
      exact ⟨u, by rw [List.getElem?_append_left (by omega)]; exact h4, hkp h5⟩
    · rw [List.getElem?_append_right (by omega)] at hx
      have hi0 : i - R.length = 0 := by
        have := (List.getElem?_eq_some_iff.1 hx).1
        simp at this
        omega
      rw [hi0] at hx
      simp at hx
      subst hx
      exact ⟨v, by rw [List.getElem?_append_right (by omega), hl, hi0]; rfl, hkp hv⟩
  · rw [World.frozen?_setCell]; exact kf
  · exact (h.low.trans (hB.mono (Nat.le_of_lt hlo))).setCell (p := ⟨bb, 0, none⟩) (Nat.le_refl _) _
  · exact ((keeps_below ha).trans (KeepsOthers.of_grownBy hg fun j o hj ho => own_cells how2 j o hj ho)).trans (KeepsOthers.setCell _ _ _)
  · have := hB.size; simp [World.setCell]; omega
  · exact (World.cell?_of_block (w := w2) (a := ⟨b, o, none⟩) (Below.heap_setCell _ _ _ _ (by show b ≠ bb; omega))).trans (hB.cell (p := ⟨b, o, none⟩) h1)
def levR (l : List R4) (N : Nat) : List (List R4) × Int := if measF l = 0 then ((List.range N).map (levS l), 0) else ([], measF l)

set_option maxRecDepth 100000 in
set_option maxHeartbeats 8000000 in
theorem oLevels_any {w : World} {v : Value} {l : List R4} (hr : RdK encR 4 w w.heap.size v l) (hl : l.length ≤ 100000000) {N : Nat} (h : measF l = 0 → l.length ≤ 400 ∧ N ≤ 1000000 ∧ levN (levS l) N ∧ ∀ d : Nat, d ≤ N → shrF l (d : Int) = (levS l d, 0)) :
    Calls Tryz.prog 37 #[v] w fun e w' => RegsRet w.heap.size (levR l N) e w' ∧ Below w.heap.size w w' := by
  have HME := hide (fun (W : World) (hW : Below w.heap.size w W) => omeasured_any ((hr.below hW).mono hW.size) hl)
  obtain ⟨A0, c0, hv, _⟩ := id hr
  subst hv
  by_cases hm : measF l = 0
  · obtain ⟨hl4, hN6, hN, hs⟩ := h hm
    have HF : Hid (levR l N = ((List.range N).map (levS l), 0)) := hide (if_pos hm)
    rw [hm] at HME
    obtain ⟨i2, fi, fz0, fz1, fz2⟩ := info_parts infoRg
    have HRD := hide hr
    have HN := hide hN
    have HS := hide hs
    clear hr hN hs h hm
    generalize levR l N = LR at *
    refine (callsIn_wide (n := 0)).1 ?_
    refine callsIn_of_wp_marks Tryz.func37 rfl trivial ?_
    simp only [Tryz.ntmps37, List.size_toArray, List.length_cons, List.length_nil, Nat.reduceAdd, Nat.reduceSub, Array.replicate_succ, Array.replicate_zero, List.push_toArray, List.append_toArray, List.nil_append, List.cons_append]
    refine wpIn_wide.2 ?_
    go_upto_region 1 with fail
    refine wp_name fun Z hZ => ?_
    have hbz : Below w.heap.size w Z := by rw [hZ]; exact ((Below.refl _ _).alloc (Nat.le_refl _) _).alloc (by simp) _
    have z0 : Z.cell? ⟨w.heap.size, 0, none⟩ = some (.slice none 0 0) := by rw [hZ]; simp [go_sem]
    have z1 : Z.cell? ⟨w.heap.size + 1, 0, none⟩ = some (.int .i64 0) := by rw [hZ]; simp [go_sem]
    have f0 : Z.frozen? ⟨w.heap.size, 0, none⟩ = false := by rw [hZ]; simp [go_sem]
    have f1 : Z.frozen? ⟨w.heap.size + 1, 0, none⟩ = false := by rw [hZ]; simp [go_sem]
    have lz : Z.heap.size = w.heap.size + 2 := by rw [hZ]; simp
    have HBZ := hide hbz
    clear hZ hbz
    go_wp2_with (fail)
    refine (HME.out Z HBZ.out).mono ?_
    rintro e w1 ⟨rfl, hb1⟩
    have hs1 := hb1.size
    have c0' := (hb1.cell (p := ⟨w.heap.size, 0, none⟩) (by show w.heap.size < Z.heap.size; omega)).trans z0
    have c1' := (hb1.cell (p := ⟨w.heap.size + 1, 0, none⟩) (by show w.heap.size + 1 < Z.heap.size; omega)).trans z1
    have g0 := (hb1.frozen (p := ⟨w.heap.size, 0, none⟩) (by show w.heap.size < Z.heap.size; omega)).trans f0
    have g1 := (hb1.frozen (p := ⟨w.heap.size + 1, 0, none⟩) (by show w.heap.size + 1 < Z.heap.size; omega)).trans f1
    have HB1 := hide (HBZ.out.trans (hb1.mono HBZ.out.size))
    have hlw : w.heap.size + 2 ≤ w1.heap.size := by omega
    clear hb1 hs1 z0 z1 f0 f1 lz HBZ HME
    obtain ⟨W0, hW0⟩ : ∃ W0, W0 = (w1.alloc (.cells #[.slice none 0 0] 35)).alloc (.cells #[.slice A0 l.length c0] 27) := ⟨_, rfl⟩
    have hb0 : Below w1.heap.size w1 W0 := by rw [hW0]; exact ((Below.refl _ _).alloc (Nat.le_refl _) _).alloc (by simp) _
    have s0 : W0.heap.size = w1.heap.size + 2 := by rw [hW0]; simp
    have y0 : W0.cell? ⟨w1.heap.size, 0, none⟩ = some (.slice none 0 0) := by rw [hW0]; simp [go_sem]
    have y1 : W0.cell? ⟨w1.heap.size + 1, 0, none⟩ = some (.slice A0 l.length c0) := by rw [hW0]; simp [go_sem]
    have yf : W0.frozen? ⟨w1.heap.size, 0, none⟩ = false := by rw [hW0]; simp [go_sem]
    have HBW := hide (HB1.out.trans (hb0.mono HB1.out.size))
    have a0 := (hb0.cell (p := ⟨w.heap.size, 0, none⟩) (by show w.heap.size < w1.heap.size; omega)).trans c0'
    have a1 := (hb0.cell (p := ⟨w.heap.size + 1, 0, none⟩) (by show w.heap.size + 1 < w1.heap.size; omega)).trans c1'
    have e0 := (hb0.frozen (p := ⟨w.heap.size, 0, none⟩) (by show w.heap.size < w1.heap.size; omega)).trans g0
    have e1 := (hb0.frozen (p := ⟨w.heap.size + 1, 0, none⟩) (by show w.heap.size + 1 < w1.heap.size; omega)).trans g1
    have hit := levelsIt (bb := w1.heap.size) (k := 1) (br := w1.heap.size + 1) W0 hl4 HN.out hN6 HS.out y1 (.inr (Nat.le_refl _)) ((HRD.out.below HBW.out).mono (by omega)) (by omega)
    have hI0 : LV w1.heap.size W0.heap.size W0 [] W0 := ⟨by omega, Nat.le_refl _, ⟨_, [], y0, World.ownsRow_nil _ _ _ _, fun i r hr => by simp at hr⟩, yf, Below.refl _ _⟩
    clear c0' c1' g0 g1 hb0 y0 y1 yf HB1
    go_wp2_with (go_at_call 82; refine (olevels_any _ _ _ _).mono ?_; rintro e w2 ⟨rfl, rfl⟩)
    rw [← hW0]
    clear hW0
    refine (wpIn_wide (n := 0)).1 ?_
    refine wp_range rfl (enters_of Tryz.func130 (by kernel_rfl) rfl) hit (Below.refl _ _) (fun x args A hx => by obtain ⟨_, _, rfl, _⟩ := hx; rfl) KpR.trans ?_
      (fun pre A => LV w1.heap.size W0.heap.size W0 (pre.map (levS l)) A) (fun _ _ => False) (fun pre A B h hb => h.below hb) (fun pre A l o o' h hw hl ho ho' => h.putObj hw hl ho ho') (fun _ _ _ _ _ h => h.elim) hI0 ?_ ?_ (fun _ _ _ _ h => h.elim)
    · intro A l o o' hw h1 h2 h3
      exact ⟨by simp, fun b off hb _ => (cell_putObj h1 h2 h3 _).1⟩
    · rintro l2 pre d args A hLV ⟨post, hpost⟩ ⟨A2, c2, rfl, hrow⟩ hl1 ⟨ol, hl2, hl3⟩
      have hpl : pre.length ≤ 1000000 := by
        have := congrArg List.length hpost
        rw [List.length_range, List.length_append] at this
        omega
      have hszA := hLV.size
      have HL1 := hide hLV
      have HROW := hide hrow
      have HL2 := hide hl2
      clear hLV hrow hit hI0 hl2 hpost
      gi_wp2
      refine ⟨KeepsFrom.of_below' (Below.refl _ _), KpR.below hszA (Below.refl _ _), ?_⟩
      intro A3 g2 s2 e2 f2
      have HL := hide (HL1.out.grown (by omega) g2 HL2.out hl3)
      have HRW := hide (own_grown_obj HROW.out g2 HL2.out hl3)
      clear g2 s2 e2 f2 HL1 HROW HL2
      obtain ⟨vo, vs, v1, v2, v3⟩ := HL.out.out
      rw [List.length_map] at v2
      obtain ⟨Av, cv, hvo⟩ := own_form v2
      subst hvo
      have HV1 := hide v1
      have HV2 := hide v2
      have HV3 := hide v3
      have hsz3 := HL.out.size
      have hlo3 := HL.out.lo
      clear v2 v3
      gi_upto_region 10 with fail
      refine wpIn_region_plain_round (by kernel_rfl) (fun _ _ h => h) ?_
      go_wp2_with (at_builtin; refine wpList_append_lies _ rfl (.tmp 20) (.tmp 22) 35 rfl W0.heap.size 27 i2 (.slice none 0 0) 1 24 Tryz.underlying35 fi fz0 fz1 fz2 rfl (by decide) _ pre.length _ rfl (HV2.out.alloc _) ⟨A3.heap.size, 0, none⟩ 1 1 [.slice A2 (levS l d).length c2] rfl rfl (news_new A3 _ _ _ rfl) (by intro u hu; rw [List.mem_singleton] at hu; subst hu; rfl) (by omega) (by unfold maxLen; omega) (by omega) (by simp; omega) _ rfl ?_)
      intro g9 cap9 w9 hown9 hgrow9 hor9 hlt9
      obtain ⟨t1, t2, HF9⟩ := HL.out.push HV1.out (by rw [List.length_map]; exact HV2.out) HV3.out HRW.out ((Below.refl A3.heap.size A3).alloc (Nat.le_refl _) _) hgrow9 (by rw [List.length_map, s0]; exact hown9)
      clear hown9 hgrow9 hor9 hlt9 v1
      go_wp2_with (fail)
      refine ⟨HF9.out.2.1.from _, HF9.out.2.2, ?_⟩
      show LV w1.heap.size W0.heap.size W0 ((pre ++ [d]).map (levS l)) _
      rw [List.map_append]
      exact HF9.out.1
    · rintro D W hD hLV hK
      obtain ⟨vo, vs, v1, v2, v3⟩ := hLV.out
      rw [List.length_map, List.length_range] at v2
      obtain ⟨Av, cv, hvo⟩ := own_form v2
      subst hvo
      have hloW := hLV.low
      have hszW := hLV.size
      have b0 := (hloW.cell (p := ⟨w.heap.size, 0, none⟩) (by show w.heap.size < w1.heap.size; omega)).trans a0
      have b1 := (hloW.cell (p := ⟨w.heap.size + 1, 0, none⟩) (by show w.heap.size + 1 < w1.heap.size; omega)).trans a1
      have d0 := (hloW.frozen (p := ⟨w.heap.size, 0, none⟩) (by show w.heap.size < w1.heap.size; omega)).trans e0
      have d1 := (hloW.frozen (p := ⟨w.heap.size + 1, 0, none⟩) (by show w.heap.size + 1 < w1.heap.size; omega)).trans e1
      have HV2 := hide v2
      have HV3 := hide v3
      have HLW := hide (HBW.out.trans (hloW.mono (by omega)))
      have HK := hide hK
      have hDw : D ≠ w.heap.size ∧ D ≠ w.heap.size + 1 := by omega
      clear hLV v2 v3 hloW hit hI0 hK a0 a1 e0 e1
      simp only [Exit.inBlock, Exit.then]
      go_wp2_with (fail)
      obtain ⟨W3, hW3⟩ : ∃ W3, W3 = (W.setCell ⟨w.heap.size, 0, none⟩ (.slice Av N cv)).setCell ⟨w.heap.size + 1, 0, none⟩ (.int .i64 0) := ⟨_, rfl⟩
      rw [← hW3]
      have r0 : W3.cell? ⟨w.heap.size, 0, none⟩ = some (.slice Av N cv) := by rw [hW3]; simp [go_sem, b0, b1, d0, d1]
      have r1 : W3.cell? ⟨w.heap.size + 1, 0, none⟩ = some (.int .i64 0) := by rw [hW3]; simp [go_sem, b0, b1, d0, d1]
      have cD : W3.heap[D]? = some (.deferred (some [])) := by rw [hW3]; exact (Below.heap_setCell _ _ _ _ (by show D ≠ w.heap.size + 1; omega)).trans ((Below.heap_setCell _ _ _ _ (by show D ≠ w.heap.size; omega)).trans HK.out)
      have hbL : Below w.heap.size w W3 := by rw [hW3]; exact (HLW.out.setCell (p := ⟨w.heap.size, 0, none⟩) (Nat.le_refl _) _).setCell (p := ⟨w.heap.size + 1, 0, none⟩) (by show w.heap.size ≤ w.heap.size + 1; omega) _
      have keep : ∀ {t size v n xs}, W.ownsRow W0.heap.size t size v n xs → W3.ownsRow W0.heap.size t size v n xs := fun hw => by
        rw [hW3]
        exact ownsRow_setCell_below (ownsRow_setCell_below hw (by show w.heap.size < _; omega) _) (by show w.heap.size + 1 < _; omega) _
      clear hW3 b0 b1 d0 d1
      refine ⟨by simp, .inl ⟨_, _, rfl, run_takeDeferred cD, ?_⟩⟩
      have e6 := (cell_putObj (o' := .deferred none) cD rfl rfl ⟨w.heap.size, 0, none⟩).1.trans r0
      have e7 := (cell_putObj (o' := .deferred none) cD rfl rfl ⟨w.heap.size + 1, 0, none⟩).1.trans r1
      refine ⟨.tuple #[.slice Av N cv, .int .i64 0], by simp [results, Tryz.results37, go_sem, e6, e7], ⟨Av, cv, vs, ?_, ?_, ?_⟩, below_putObj hbL (by omega) _⟩
      · rw [HF.out]; simp
      · rw [HF.out]
        simp only [List.length_map, List.length_range]
        exact own_base (own_putObj (keep HV2.out) cD rfl) (by omega)
      · rw [HF.out]
        intro i r hi
        obtain ⟨u, q1, q2⟩ := HV3.out i r hi
        exact ⟨u, q1, own_base (own_putObj (keep q2) cD rfl) (by omega)⟩
  · have HF : Hid (levR l N = ([], measF l)) := hide (if_neg hm)
    have hne : (measF l != 0) = true := by simpa using hm
    clear hm hr h
    generalize levR l N = LR at *
    generalize measF l = ck at *
    go_enter Tryz.func37, Tryz.ntmps37
    go_upto_region 1 with fail
    refine wp_name fun Z hZ => ?_
    have hbz : Below w.heap.size w Z := by rw [hZ]; exact ((Below.refl _ _).alloc (Nat.le_refl _) _).alloc (by simp) _
    have z0 : Z.cell? ⟨w.heap.size, 0, none⟩ = some (.slice none 0 0) := by rw [hZ]; simp [go_sem]
    have z1 : Z.cell? ⟨w.heap.size + 1, 0, none⟩ = some (.int .i64 0) := by rw [hZ]; simp [go_sem]
    have f0 : Z.frozen? ⟨w.heap.size, 0, none⟩ = false := by rw [hZ]; simp [go_sem]
    have f1 : Z.frozen? ⟨w.heap.size + 1, 0, none⟩ = false := by rw [hZ]; simp [go_sem]
    have lz : Z.heap.size = w.heap.size + 2 := by rw [hZ]; simp
    have HBZ := hide hbz
    clear hZ hbz
    go_wp2_with (fail)
    refine (HME.out Z HBZ.out).mono ?_
    rintro e w1 ⟨rfl, hb1⟩
    have c0' := (hb1.cell (p := ⟨w.heap.size, 0, none⟩) (by show w.heap.size < Z.heap.size; omega)).trans z0
    have c1' := (hb1.cell (p := ⟨w.heap.size + 1, 0, none⟩) (by show w.heap.size + 1 < Z.heap.size; omega)).trans z1
    have g0 := (hb1.frozen (p := ⟨w.heap.size, 0, none⟩) (by show w.heap.size < Z.heap.size; omega)).trans f0
    have g1 := (hb1.frozen (p := ⟨w.heap.size + 1, 0, none⟩) (by show w.heap.size + 1 < Z.heap.size; omega)).trans f1
    have HB1 := hide (HBZ.out.trans (hb1.mono HBZ.out.size))
    clear hb1 z0 z1 f0 f1 lz HBZ HME
    go_wp2_with (fail)
    refine bodyPost_ret (v := .tuple #[.slice none 0 0, .int .i64 ck]) (by simp [results, Tryz.results37, go_sem, c0', c1', g0, g1]) rfl ⟨⟨none, 0, [], by rw [HF.out]; rfl, by rw [HF.out]; exact World.ownsRow_nil _ _ _ _, fun i r hi => by rw [HF.out] at hi; simp at hi⟩, ?_⟩
    exact (HB1.out.setCell (p := ⟨w.heap.size, 0, none⟩) (Nat.le_refl _) _).setCell (p := ⟨w.heap.size + 1, 0, none⟩) (by show w.heap.size ≤ w.heap.size + 1; omega) _

end Go.Proofs.YtdolpeljengpaaaGreat

/- The walks of roof's covered, height, Height. -/
namespace Go.Proofs.YtdolpeljengpaaaGreat
open Go.RowKit Go.Sort
set_option linter.unusedVariables false
set_option linter.unusedSimpArgs false

theorem cov_take {l : List R4} {q : R4} {m : Nat} (x y d : Int) (h : l[m]? = some q) : covF (l.take (m + 1)) x y d = covF (l.take m) x y d + (if 0 < min (2 * q.x1) (x + d) - max (2 * q.x0) (x - d) ∧ 0 < min (2 * q.y1) (y + d) - max (2 * q.y0) (y - d) then (min (2 * q.x1) (x + d) - max (2 * q.x0) (x - d)) * (min (2 * q.y1) (y + d) - max (2 * q.y0) (y - d)) else 0) := by
  unfold covF
  have e : (l.map dbl)[m]? = some (dbl q) := by rw [List.getElem?_map, h]; rfl
  rw [List.map_take, List.map_take]
  have := onF_take (r := sqr x y d) e
  rw [this]
  congr 1
  unfold onQ sqr dbl
  simp only
  rw [Int.min_comm (x + d), Int.min_comm (y + d), Int.max_comm (x - d), Int.max_comm (y - d)]
theorem cov_one {q : R4} {x y d : Int} (hd : 0 ≤ d ∧ d ≤ 2000001) (t1 : 0 < min (2 * q.x1) (x + d) - max (2 * q.x0) (x - d)) (t2 : 0 < min (2 * q.y1) (y + d) - max (2 * q.y0) (y - d)) :
    0 ≤ (min (2 * q.x1) (x + d) - max (2 * q.x0) (x - d)) * (min (2 * q.y1) (y + d) - max (2 * q.y0) (y - d)) ∧ (min (2 * q.x1) (x + d) - max (2 * q.x0) (x - d)) * (min (2 * q.y1) (y + d) - max (2 * q.y0) (y - d)) ≤ 16000016000004 := by
  refine ⟨Int.mul_nonneg (by omega) (by omega), ?_⟩
  have := Int.mul_le_mul (show min (2 * q.x1) (x + d) - max (2 * q.x0) (x - d) ≤ 4000002 by omega) (show min (2 * q.y1) (y + d) - max (2 * q.y0) (y - d) ≤ 4000002 by omega) (by omega) (by omega)
  omega
theorem cov_bd {x y d : Int} (hd : 0 ≤ d ∧ d ≤ 2000001) (l : List R4) : ∀ m, m ≤ l.length → 0 ≤ covF (l.take m) x y d ∧ covF (l.take m) x y d ≤ 16000016000004 * m
  | 0, _ => by simp [covF, onF]
  | m + 1, hm => by
    have ih := cov_bd (x := x) (y := y) hd l m (by omega)
    obtain ⟨q, hq⟩ : ∃ q, l[m]? = some q := ⟨_, List.getElem?_eq_getElem (by omega)⟩
    rw [cov_take x y d hq]
    split
    · rename_i t
      have := cov_one hd t.1 t.2
      omega
    · omega
theorem grow_box {w wr : World} (h : ∃ os, wr = grow w os) (o : Obj) : ∃ os, wr.alloc o = grow w os := by
  obtain ⟨os, rfl⟩ := h
  exact ⟨_, by rw [alloc_eq_grow, grow_grow]⟩
set_option maxRecDepth 100000 in
set_option maxHeartbeats 4000000 in
theorem covered_any {w : World} {v : Value} {l : List R4} (hr : RdK encR 4 w w.heap.size v l) (hl : l.length ≤ 400) (hv : ∀ r ∈ l, valid4 r) (x y d : Int) (hx : -5000000 ≤ x ∧ x ≤ 5000000) (hy : -5000000 ≤ y ∧ y ≤ 5000000) (hd : 1 ≤ d ∧ d ≤ 2000001) :
    Calls Tryz.prog 128 #[v, .int .i64 x, .int .i64 y, .int .i64 d] w fun e w' => e = .returned (.int .i64 (covF l x y d)) ∧ ∃ os, w' = grow w os := by
  obtain ⟨A, c, rfl, hc⟩ := hr
  have HRC := hide hc
  have HV := hide hv
  have HBD := hide (cov_bd (x := x) (y := y) (d := d) (by omega) l)
  have HT : Hid (covF (l.take l.length) x y d = covF l x y d) := hide (by rw [List.take_length])
  obtain ⟨x1, x2⟩ := hx
  obtain ⟨y1, y2⟩ := hy
  obtain ⟨d1, d2⟩ := hd
  have lz : (l.length : Int) ≤ 400 := by omega
  clear hc hv
  go_enter Tryz.func128, Tryz.ntmps128
  go_wp2
  go_loopw [9, 16] (fun t i wr => ∃ m : Nat, m ≤ l.length ∧ i = .int .i64 m ∧ t = .int .i64 (covF (l.take m) x y d) ∧ Hid (∃ os, wr = grow w os)) (fun _ i _ => l.length - (intOf i).toNat)
  case atStart => exact ⟨0, Nat.zero_le _, rfl, by simp [covF, onF], hide ⟨#[], by rw [grow_empty]⟩⟩
  case round =>
    obtain ⟨m, hm, rfl, rfl, HG⟩ := hrel
    by_cases hlt : m < l.length
    · obtain ⟨q, hp⟩ : ∃ p, l[m]? = some p := ⟨_, List.getElem?_eq_getElem hlt⟩
      obtain ⟨b, o, rfl, hbl, k⟩ := HRC.out (by intro e; rw [e] at hlt; simp at hlt)
      have hb : Below w.heap.size w wr := by obtain ⟨os, e⟩ := HG.out; rw [e]; exact below_grown_sl w.heap.size w 0 os (Nat.le_refl _)
      have d0 : wr.cell? ⟨b, o + m * 4, none⟩ = some (.int .i64 q.x0) := (hb.cell (p := ⟨b, _, none⟩) hbl).trans (k m _ hp 0 _ rfl)
      have d1 : wr.cell? ⟨b, o + m * 4 + 1, none⟩ = some (.int .i64 q.y0) := (hb.cell (p := ⟨b, _, none⟩) hbl).trans (k m _ hp 1 _ rfl)
      have d2 : wr.cell? ⟨b, o + m * 4 + 2, none⟩ = some (.int .i64 q.x1) := (hb.cell (p := ⟨b, _, none⟩) hbl).trans (k m _ hp 2 _ rfl)
      have d3 : wr.cell? ⟨b, o + m * 4 + 3, none⟩ = some (.int .i64 q.y1) := (hb.cell (p := ⟨b, _, none⟩) hbl).trans (k m _ hp 3 _ rfl)
      obtain ⟨v1, v2, ⟨v3, v4⟩, ⟨v5, v6⟩, ⟨v7, v8⟩, ⟨v9, v10⟩⟩ := HV.out q (List.mem_of_getElem? hp)
      have HS := hide (cov_take x y d hp)
      obtain ⟨u1, u2⟩ := HBD.out m hm
      have mz : (m : Int) < (l.length : Int) := by omega
      clear k hp hb
      generalize covF (l.take m) x y d = T at *
      by_cases t1 : 0 < min (2 * q.x1) (x + d) - max (2 * q.x0) (x - d)
      · by_cases t2 : 0 < min (2 * q.y1) (y + d) - max (2 * q.y0) (y - d)
        · have HE : Hid (covF (l.take (m + 1)) x y d = T + (min (2 * q.x1) (x + d) - max (2 * q.x0) (x - d)) * (min (2 * q.y1) (y + d) - max (2 * q.y0) (y - d))) := hide (by rw [HS.out, if_pos ⟨t1, t2⟩])
          obtain ⟨p1, p2⟩ := cov_one (by omega) t1 t2
          have z1 : IntKind.i64.wrap ((min (2 * q.x1) (x + d) - max (2 * q.x0) (x - d)) * (min (2 * q.y1) (y + d) - max (2 * q.y0) (y - d))) = (min (2 * q.x1) (x + d) - max (2 * q.x0) (x - d)) * (min (2 * q.y1) (y + d) - max (2 * q.y0) (y - d)) := IntWalk.i64_in _ (by omega)
          have z2 : IntKind.i64.wrap (T + (min (2 * q.x1) (x + d) - max (2 * q.x0) (x - d)) * (min (2 * q.y1) (y + d) - max (2 * q.y0) (y - d))) = T + (min (2 * q.x1) (x + d) - max (2 * q.x0) (x - d)) * (min (2 * q.y1) (y + d) - max (2 * q.y0) (y - d)) := IntWalk.i64_in _ (by omega)
          clear HS
          go_wp2_with (fail)
          go_roundw
          case rel => exact ⟨m + 1, by omega, by go_num, by rw [HE.out], hide (grow_box HG.out _)⟩
          case measure => simp [intOf]; omega
        · have HE : Hid (covF (l.take (m + 1)) x y d = T) := hide (by rw [HS.out, if_neg (fun h => t2 h.2), Int.add_zero])
          clear HS
          have t2' : min (2 * q.y1) (y + d) - max (2 * q.y0) (y - d) ≤ 0 := by omega
          go_wp2_with (fail)
          go_roundw
          case rel => exact ⟨m + 1, by omega, by go_num, by rw [HE.out], hide (grow_box HG.out _)⟩
          case measure => simp [intOf]; omega
      · have HE : Hid (covF (l.take (m + 1)) x y d = T) := hide (by rw [HS.out, if_neg (fun h => t1 h.1), Int.add_zero])
        clear HS
        have t1' : min (2 * q.x1) (x + d) - max (2 * q.x0) (x - d) ≤ 0 := by omega
        go_wp2_with (fail)
        go_roundw
        case rel => exact ⟨m + 1, by omega, by go_num, by rw [HE.out], hide (grow_box HG.out _)⟩
        case measure => simp [intOf]; omega
    · obtain rfl : m = l.length := by omega
      go_wp2
      go_ret
      exact ⟨by rw [HT.out]; rfl, HG.out⟩
theorem sq_bd {d : Int} (h : 1 ≤ d ∧ d ≤ 2000001) : 0 ≤ 2 * d * (2 * d) ∧ 2 * d * (2 * d) ≤ 16000016000004 := by
  refine ⟨Int.mul_nonneg (by omega) (by omega), ?_⟩
  have := Int.mul_le_mul (show 2 * d ≤ 4000002 by omega) (show 2 * d ≤ 4000002 by omega) (by omega) (by omega)
  omega
/-- The closure that sort.Search asks. -/
theorem heightF_any {w : World} {v : Value} {l : List R4} {B g : Nat} (hr : RdK encR 4 w B v l) (hB : B ≤ w.heap.size) (hl : l.length ≤ 400) (hv : ∀ r ∈ l, valid4 r) (x y : Int) (hx : -2000001 ≤ x ∧ x ≤ 2000001) (hy : -2000001 ≤ y ∧ y ≤ 2000001)
    (c0 : w.cell? ⟨g, 0, none⟩ = some v) (c1 : w.cell? ⟨g + 1, 0, none⟩ = some (.int .i64 x)) (c2 : w.cell? ⟨g + 1 + 1, 0, none⟩ = some (.int .i64 y)) (i : Nat) (hi : i < 2000001) :
    Calls Tryz.prog 139 #[.int .i64 i, .pointer (some ⟨g, 0, none⟩), .pointer (some ⟨g + 1, 0, none⟩), .pointer (some ⟨g + 1 + 1, 0, none⟩)] w fun e w' => e = .returned (.bool (notF l x y i)) ∧ ∃ os, w' = grow w os := by
  have HC := hide (covered_any (hr.mono hB) hl hv x y ((i : Int) + 1) (by omega) (by omega) (by omega))
  have HN : Hid (notF l x y i = decide (covF l x y ((i : Int) + 1) < 2 * ((i : Int) + 1) * (2 * ((i : Int) + 1)))) := hide rfl
  obtain ⟨s1, s2⟩ := sq_bd (d := (i : Int) + 1) (by omega)
  have hiz : (i : Int) < 2000001 := by omega
  have hs : IntKind.i64.wrap (2 * ((i : Int) + 1) * (2 * ((i : Int) + 1))) = 2 * ((i : Int) + 1) * (2 * ((i : Int) + 1)) := IntWalk.i64_in _ (by omega)
  clear hr hl hv hx hy
  generalize covF l x y ((i : Int) + 1) = C at *
  go_enter Tryz.func139, Tryz.ntmps139
  go_wp2_with (fail)
  refine HC.out.mono ?_
  rintro e w' ⟨rfl, hg⟩
  have HG := hide hg
  clear hg
  go_wp2_with (fail)
  go_ret
  exact ⟨by rw [HN.out]; rfl, HG.out⟩
set_option maxHeartbeats 4000000 in
theorem height_any {w : World} {v : Value} {l : List R4} (hr : RdK encR 4 w w.heap.size v l) (hc : checkF l = 0) (x y : Int) (hx : -2000001 ≤ x ∧ x ≤ 2000001) (hy : -2000001 ≤ y ∧ y ≤ 2000001) :
    Calls Tryz.prog 88 #[v, .int .i64 x, .int .i64 y] w fun e w' => e = .returned (.int .i64 (heightF l x y)) ∧ Below w.heap.size w w' := by
  obtain ⟨hl, hv, _⟩ := checkF_ok hc
  have hm := not_mono hc hx hy
  obtain ⟨A, c, hva, hcc⟩ := id hr
  subst hva
  clear hcc
  obtain ⟨W0, hW0⟩ : ∃ W0, W0 = ((w.alloc (.cells #[.slice A l.length c] 27)).alloc (.cells #[.int .i64 x] 3)).alloc (.cells #[.int .i64 y] 3) := ⟨_, rfl⟩
  have hb0 : Below w.heap.size w W0 := by rw [hW0]; exact (((Below.refl _ _).alloc (Nat.le_refl _) _).alloc (by simp) _).alloc (by simp; omega) _
  have hsz : W0.heap.size = w.heap.size + 1 + 1 + 1 := by rw [hW0]; simp
  have ca : W0.cell? ⟨w.heap.size, 0, none⟩ = some (.slice A l.length c) := by rw [hW0]; simp [go_sem]
  have cx : W0.cell? ⟨w.heap.size + 1, 0, none⟩ = some (.int .i64 x) := by rw [hW0]; simp [go_sem]
  have cy : W0.cell? ⟨w.heap.size + 1 + 1, 0, none⟩ = some (.int .i64 y) := by rw [hW0]; simp [go_sem]
  have eg : ∀ args w, (callFunc 139 args).run Tryz.prog w = .ok (.enter 139 args) w := enters_of Tryz.func139 (by kernel_rfl) rfl
  have hS := Any.sort_Search Tryz.sortSearch 139 #[.pointer (some ⟨w.heap.size, 0, none⟩), .pointer (some ⟨w.heap.size + 1, 0, none⟩), .pointer (some ⟨w.heap.size + 1 + 1, 0, none⟩)] 2000001 (notF l x y) W0 eg (by omega)
    (fun m os i hi => by
      have hbg := below_grown_sl w.heap.size W0 m os hb0.size
      have hg3 : W0.heap.size ≤ (grow (W0.drewN m) os).heap.size := hbg.size
      refine (heightF_any ((hr.below hb0).below hbg) (Nat.le_trans hb0.size hg3) hl hv x y hx hy (cell_grown (by rw [hsz]; show w.heap.size < _; omega) ca m os) (cell_grown (by simp [hsz]) cx m os) (cell_grown (by simp [hsz]) cy m os) i hi).mono ?_
      rintro e w' ⟨he, os', hw⟩
      exact ⟨he, 0, os', by rw [hw]; rfl⟩) hm
  change Calls Tryz.prog 75 _ _ _ at hS
  have HS : Hid (Calls Tryz.prog 75 #[.int .i64 2000001, .func (.func 139) #[] #[.pointer (some ⟨w.heap.size, 0, none⟩), .pointer (some ⟨w.heap.size + 1, 0, none⟩), .pointer (some ⟨w.heap.size + 1 + 1, 0, none⟩)]] W0 fun e w' => e = .returned (.int .i64 (heightF l x y)) ∧ Below w.heap.size w w') := hide (hS.mono fun e w' ⟨he, q, os, hw⟩ => ⟨he, by rw [hw]; exact hb0.trans (below_grown_sl w.heap.size W0 q os hb0.size)⟩)
  clear hS hm hl hv hr hb0 hsz ca cx cy eg hx hy hc
  generalize heightF l x y = F at *
  go_enter Tryz.func88, Tryz.ntmps88
  go_wp2_with (fail)
  rw [← hW0]
  refine HS.out.mono ?_
  rintro e w' ⟨rfl, hb⟩
  have HB := hide hb
  clear hb hW0 HS
  go_wp2_with (fail)
  go_ret
  exact ⟨rfl, HB.out⟩
end Go.Proofs.YtdolpeljengpaaaGreat

/- The walks of roof's Height and Falls, of the reference's High, and of Great. -/
namespace Go.Proofs.YtdolpeljengpaaaGreat
open Go.RowKit
set_option linter.unusedVariables false
set_option linter.unusedSimpArgs false

def heightR (l : List R4) (x y : Int) : Int × Int := if checkF l ≠ 0 then (0, checkF l) else if -2000000 ≤ x ∧ x ≤ 2000000 ∧ -2000000 ≤ y ∧ y ≤ 2000000 then (heightF l x y, 0) else (0, 2)
set_option maxHeartbeats 4000000 in
theorem roofHeight_any {w : World} {v : Value} {l : List R4} (hr : RdK encR 4 w w.heap.size v l) (hl : l.length ≤ 100000000) (x y : Int) (hx : -9223372036854775808 ≤ x ∧ x ≤ 9223372036854775807) (hy : -9223372036854775808 ≤ y ∧ y ≤ 9223372036854775807) :
    Calls Tryz.prog 42 #[v, .int .i64 x, .int .i64 y] w fun e w' => e = .returned (.tuple #[.int .i64 (heightR l x y).1, .int .i64 (heightR l x y).2]) ∧ Below w.heap.size w w' := by
  have HCK := hide (check_any hr hl)
  have HHE : Hid (checkF l = 0 → (-2000000 ≤ x ∧ x ≤ 2000000 ∧ -2000000 ≤ y ∧ y ≤ 2000000) → ∀ W : World, Below w.heap.size w W → Calls Tryz.prog 88 #[v, .int .i64 x, .int .i64 y] W fun e w' => e = .returned (.int .i64 (heightF l x y)) ∧ Below W.heap.size W w') := hide (fun hc h W hW => height_any ((hr.below hW).mono hW.size) hc x y (by omega) (by omega))
  obtain ⟨A, c, rfl, _⟩ := hr
  by_cases hc : checkF l = 0
  · by_cases hin : -2000000 ≤ x ∧ x ≤ 2000000 ∧ -2000000 ≤ y ∧ y ≤ 2000000
    · have HF : Hid (heightR l x y = (((heightF l x y : Nat) : Int), 0)) := hide (by unfold heightR; rw [if_neg (by rw [hc]; simp), if_pos hin])
      have H1 := hide (HHE.out hc hin)
      rw [hc] at HCK
      obtain ⟨a1, a2, a3, a4⟩ := hin
      have m1 : -2000000 ≤ min x y := by omega
      have m2 : max x y ≤ 2000000 := by omega
      clear HHE hc
      generalize heightF l x y = F at *
      go_enter Tryz.func42, Tryz.ntmps42
      go_wp2_with (fail)
      refine HCK.out.mono ?_
      rintro e w1 ⟨rfl, hb⟩
      have HB := hide hb
      clear hb HCK
      go_wp2_with (fail)
      refine (H1.out _ HB.out).mono ?_
      rintro e w2 ⟨rfl, hb⟩
      have HB2 := hide (HB.out.trans (hb.mono HB.out.size))
      clear hb HB H1
      go_wp2_with (fail)
      go_ret2
      exact ⟨by rw [HF.out]; rfl, HB2.out⟩
    · have HF : Hid (heightR l x y = (0, 2)) := hide (by unfold heightR; rw [if_neg (by rw [hc]; simp), if_neg hin])
      rw [hc] at HCK
      clear HHE hc
      by_cases h1 : min x y < -2000000
      · clear hin
        go_enter Tryz.func42, Tryz.ntmps42
        go_wp2_with (fail)
        refine HCK.out.mono ?_
        rintro e w1 ⟨rfl, hb⟩
        have HB := hide hb
        clear hb HCK
        go_wp2_with (fail)
        go_ret2
        exact ⟨by rw [HF.out]; rfl, HB.out⟩
      · have m1 : -2000000 ≤ min x y := by omega
        have m2 : 2000000 < max x y := by omega
        clear hin h1
        go_enter Tryz.func42, Tryz.ntmps42
        go_wp2_with (fail)
        refine HCK.out.mono ?_
        rintro e w1 ⟨rfl, hb⟩
        have HB := hide hb
        clear hb HCK
        go_wp2_with (fail)
        go_ret2
        exact ⟨by rw [HF.out]; rfl, HB.out⟩
  · have HF : Hid (heightR l x y = (0, checkF l)) := hide (if_pos hc)
    have hne : (checkF l != 0) = true := by simpa using hc
    clear HHE hc
    generalize checkF l = ck at *
    go_enter Tryz.func42, Tryz.ntmps42
    go_wp2_with (fail)
    refine HCK.out.mono ?_
    rintro e w1 ⟨rfl, hb⟩
    have HB := hide hb
    clear hb HCK
    go_wp2_with (fail)
    go_ret2
    exact ⟨by rw [HF.out]; rfl, HB.out⟩
end Go.Proofs.YtdolpeljengpaaaGreat

/- The walk of the reference's Missing. -/
namespace Go.Proofs.YtdolpeljengpaaaGreat
open Go.RowKit
set_option linter.unusedVariables false
set_option linter.unusedSimpArgs false

/-- What a Missing leaves. -/
def MissRet (l : List R4) (e : Ending) (w' : World) : Prop := ∃ A c, e = .returned (.slice A (missF l).length c) ∧ RdK encR 4 w' w'.heap.size (.slice A (missF l).length c) (missF l)
end Go.Proofs.YtdolpeljengpaaaGreat

/- The walks of roof's Falls, of the reference's Height and Falls, and of the law RoofHeights. -/
namespace Go.Proofs.YtdolpeljengpaaaGreat
open Go.RowKit
set_option linter.unusedVariables false
set_option linter.unusedSimpArgs false

def hZ (l : List R4) (x y : Int) : Int := (heightF l x y : Nat)
def fbitG (H : Int → Int → Int) (x y : Int) : Nat → Int
  | 0 => if H (x + 1) y < H x y then 1 else 0
  | 1 => if H (x - 1) y < H x y then 2 else 0
  | 2 => if H x (y + 1) < H x y then 4 else 0
  | _ => if H x (y - 1) < H x y then 8 else 0
def fallsG (H : Int → Int → Int) (x y : Int) : Nat → Int
  | 0 => 0
  | m + 1 => fallsG H x y m + fbitG H x y m
theorem fbit_bd (H : Int → Int → Int) (x y : Int) : (0 ≤ fallsG H x y 0 ∧ fallsG H x y 0 ≤ 0) ∧ (0 ≤ fallsG H x y 1 ∧ fallsG H x y 1 ≤ 1) ∧ (0 ≤ fallsG H x y 2 ∧ fallsG H x y 2 ≤ 3) ∧ (0 ≤ fallsG H x y 3 ∧ fallsG H x y 3 ≤ 7) := by
  simp only [fallsG, fbitG]
  repeat' split
  all_goals omega
theorem falls_st (H : Int → Int → Int) (x y : Int) : fallsG H x y 0 = 0 ∧ fallsG H x y 1 = fallsG H x y 0 + (if H (x + 1) y < H x y then 1 else 0) ∧ fallsG H x y 2 = fallsG H x y 1 + (if H (x - 1) y < H x y then 2 else 0) ∧ fallsG H x y 3 = fallsG H x y 2 + (if H x (y + 1) < H x y then 4 else 0) ∧ fallsG H x y 4 = fallsG H x y 3 + (if H x (y - 1) < H x y then 8 else 0) := ⟨rfl, rfl, rfl, rfl, rfl⟩
def fallsR (l : List R4) (x y : Int) : Int × Int := if (heightR l x y).2 ≠ 0 then (0, (heightR l x y).2) else (fallsG (hZ l) x y 4, 0)
theorem heightR_cases (l : List R4) (x y : Int) : (checkF l = 0 ∧ (-2000000 ≤ x ∧ x ≤ 2000000 ∧ -2000000 ≤ y ∧ y ≤ 2000000) ∧ heightR l x y = (hZ l x y, 0)) ∨ (heightR l x y).2 ≠ 0 ∧ (heightR l x y).1 = 0 := by
  unfold heightR
  by_cases hc : checkF l = 0
  · rw [if_neg (by rw [hc]; simp)]
    by_cases h : -2000000 ≤ x ∧ x ≤ 2000000 ∧ -2000000 ≤ y ∧ y ≤ 2000000
    · rw [if_pos h]; exact .inl ⟨hc, h, rfl⟩
    · rw [if_neg h]; exact .inr ⟨by simp, rfl⟩
  · rw [if_pos hc]; exact .inr ⟨hc, rfl⟩
set_option maxRecDepth 100000 in
set_option maxHeartbeats 8000000 in
theorem roofFalls_any {w : World} {v : Value} {l : List R4} (hr : RdK encR 4 w w.heap.size v l) (hl : l.length ≤ 100000000) (x y : Int) (hx : -9223372036854775808 ≤ x ∧ x ≤ 9223372036854775807) (hy : -9223372036854775808 ≤ y ∧ y ≤ 9223372036854775807) :
    Calls Tryz.prog 43 #[v, .int .i64 x, .int .i64 y] w fun e w' => e = .returned (.tuple #[.int .u8 (fallsR l x y).1, .int .i64 (fallsR l x y).2]) ∧ Below w.heap.size w w' := by
  have HH := hide (roofHeight_any hr hl x y hx hy)
  rcases heightR_cases l x y with ⟨hc, hin, he⟩ | ⟨h2, h1⟩
  · have HF : Hid (fallsR l x y = (fallsG (hZ l) x y 4, 0)) := hide (by unfold fallsR; rw [he]; rfl)
    rw [he] at HH
    have HHE : Hid (∀ (a b : Int), -2000001 ≤ a ∧ a ≤ 2000001 → -2000001 ≤ b ∧ b ≤ 2000001 → ∀ W : World, Below w.heap.size w W → Calls Tryz.prog 88 #[v, .int .i64 a, .int .i64 b] W fun e w' => e = .returned (.int .i64 (hZ l a b)) ∧ Below W.heap.size W w') := hide (fun a b h1 h2 W hW => height_any ((hr.below hW).mono hW.size) hc a b h1 h2)
    obtain ⟨A, c, rfl, _⟩ := hr
    obtain ⟨a1, a2, a3, a4⟩ := hin
    clear hc he hl hx hy
    generalize hZ l = H at *
    obtain ⟨s0, s1, s2, s3, s4⟩ := falls_st H x y
    obtain ⟨⟨b0, b0'⟩, ⟨b1, b1'⟩, ⟨b2, b2'⟩, ⟨b3, b3'⟩⟩ := fbit_bd H x y
    have S0 := hide s0
    have S1 := hide s1
    have S2 := hide s2
    have S3 := hide s3
    have S4 := hide s4
    clear s0 s1 s2 s3 s4
    generalize fallsG H x y = P at *
    go_enter Tryz.func43, Tryz.ntmps43
    go_wp2_with (fail)
    refine HH.out.mono ?_
    rintro e w1 ⟨rfl, hb⟩
    have HB1 := hide hb
    clear hb HH
    go_wp2_with (fail)
    go_loopw [10, 28] (fun o i wr => ∃ m : Nat, m ≤ 4 ∧ i = .int .i64 m ∧ o = .int .u8 (P m) ∧ Hid (Below w.heap.size w wr)) (fun _ i _ => 4 - (intOf i).toNat)
    case atStart => exact ⟨0, Nat.zero_le _, rfl, by rw [S0.out], HB1⟩
    case round =>
      clear HB1
      obtain ⟨m, hm, rfl, rfl, HB1⟩ := hrel
      have hm5 : m = 0 ∨ m = 1 ∨ m = 2 ∨ m = 3 ∨ m = 4 := by omega
      rcases hm5 with rfl | rfl | rfl | rfl | rfl
      · have hidx : ∀ w : World, (Instr.index 145 (.agg #[.int .i64 1, .int .i64 0, .int .u8 1, .int .i64 (-1), .int .i64 0, .int .u8 2, .int .i64 0, .int .i64 1, .int .u8 4, .int .i64 0, .int .i64 (-1), .int .u8 8]) (.int .i64 0)).run Tryz.prog w = .ok (.agg #[.int .i64 1, .int .i64 0, .int .u8 1]) w := fun _ => by kernel_rfl
        have HC := hide (HHE.out (x + 1) y (by omega) (by omega))
        have ex : x + 1 = (x + 1) := by omega
        have ey : y + 0 = y := by omega
        clear HHE
        by_cases hlt : H (x + 1) y < H x y
        · have hv : P 1 = P 0 + 1 := by rw [S1.out, if_pos hlt]
          have HV := hide hv
          clear hv
          go_upto_region 8 with fail
          refine wp_name fun Z hZ => ?_
          have hbz : Below wr.heap.size wr Z := by rw [hZ]; exact (Below.refl _ _).alloc (Nat.le_refl _) _
          have z0 : Z.cell? ⟨wr.heap.size, 0, none⟩ = some (.int .i64 1) := by rw [hZ]; simp [go_sem]
          have z1 : Z.cell? ⟨wr.heap.size, 1, none⟩ = some (.int .i64 0) := by rw [hZ]; simp [go_sem]
          have z2 : Z.cell? ⟨wr.heap.size, 2, none⟩ = some (.int .u8 1) := by rw [hZ]; simp [go_sem]
          have hzs : wr.heap.size < Z.heap.size := by rw [hZ]; simp
          have HBZ := hide (HB1.out.trans (hbz.mono HB1.out.size))
          generalize wr.heap.size = q at *
          clear hZ hbz HB1
          go_wp2_with (fail)
          try rw [ex]
          try rw [ey]
          refine (HC.out _ HBZ.out).mono ?_
          rintro e w2 ⟨rfl, hb⟩
          have HB2 := hide (HBZ.out.trans (hb.mono HBZ.out.size))
          have z2 := (hb.cell (p := ⟨q, 2, none⟩) hzs).trans z2
          clear hb HBZ HC z0 z1 hzs
          go_wp2_with (fail)
          go_roundw
          case rel => exact ⟨1, by omega, rfl, by rw [HV.out], HB2⟩
          case measure => simp [intOf]
        · have hv : P 1 = P 0 := by rw [S1.out, if_neg hlt, Int.add_zero]
          have HV := hide hv
          have hge : H x y ≤ H (x + 1) y := by omega
          clear hv hlt
          go_upto_region 8 with fail
          refine wp_name fun Z hZ => ?_
          have hbz : Below wr.heap.size wr Z := by rw [hZ]; exact (Below.refl _ _).alloc (Nat.le_refl _) _
          have z0 : Z.cell? ⟨wr.heap.size, 0, none⟩ = some (.int .i64 1) := by rw [hZ]; simp [go_sem]
          have z1 : Z.cell? ⟨wr.heap.size, 1, none⟩ = some (.int .i64 0) := by rw [hZ]; simp [go_sem]
          have z2 : Z.cell? ⟨wr.heap.size, 2, none⟩ = some (.int .u8 1) := by rw [hZ]; simp [go_sem]
          have hzs : wr.heap.size < Z.heap.size := by rw [hZ]; simp
          have HBZ := hide (HB1.out.trans (hbz.mono HB1.out.size))
          generalize wr.heap.size = q at *
          clear hZ hbz HB1
          go_wp2_with (fail)
          try rw [ex]
          try rw [ey]
          refine (HC.out _ HBZ.out).mono ?_
          rintro e w2 ⟨rfl, hb⟩
          have HB2 := hide (HBZ.out.trans (hb.mono HBZ.out.size))
          have z2 := (hb.cell (p := ⟨q, 2, none⟩) hzs).trans z2
          clear hb HBZ HC z0 z1 hzs
          go_wp2_with (fail)
          go_roundw
          case rel => exact ⟨1, by omega, rfl, by rw [HV.out], HB2⟩
          case measure => simp [intOf]
      · have hidx : ∀ w : World, (Instr.index 145 (.agg #[.int .i64 1, .int .i64 0, .int .u8 1, .int .i64 (-1), .int .i64 0, .int .u8 2, .int .i64 0, .int .i64 1, .int .u8 4, .int .i64 0, .int .i64 (-1), .int .u8 8]) (.int .i64 1)).run Tryz.prog w = .ok (.agg #[.int .i64 (-1), .int .i64 0, .int .u8 2]) w := fun _ => by kernel_rfl
        have HC := hide (HHE.out (x - 1) y (by omega) (by omega))
        have ex : x + (-1) = (x - 1) := by omega
        have ey : y + 0 = y := by omega
        clear HHE
        by_cases hlt : H (x - 1) y < H x y
        · have hv : P 2 = P 1 + 2 := by rw [S2.out, if_pos hlt]
          have HV := hide hv
          clear hv
          go_upto_region 8 with fail
          refine wp_name fun Z hZ => ?_
          have hbz : Below wr.heap.size wr Z := by rw [hZ]; exact (Below.refl _ _).alloc (Nat.le_refl _) _
          have z0 : Z.cell? ⟨wr.heap.size, 0, none⟩ = some (.int .i64 (-1)) := by rw [hZ]; simp [go_sem]
          have z1 : Z.cell? ⟨wr.heap.size, 1, none⟩ = some (.int .i64 0) := by rw [hZ]; simp [go_sem]
          have z2 : Z.cell? ⟨wr.heap.size, 2, none⟩ = some (.int .u8 2) := by rw [hZ]; simp [go_sem]
          have hzs : wr.heap.size < Z.heap.size := by rw [hZ]; simp
          have HBZ := hide (HB1.out.trans (hbz.mono HB1.out.size))
          generalize wr.heap.size = q at *
          clear hZ hbz HB1
          go_wp2_with (fail)
          try rw [ex]
          try rw [ey]
          refine (HC.out _ HBZ.out).mono ?_
          rintro e w2 ⟨rfl, hb⟩
          have HB2 := hide (HBZ.out.trans (hb.mono HBZ.out.size))
          have z2 := (hb.cell (p := ⟨q, 2, none⟩) hzs).trans z2
          clear hb HBZ HC z0 z1 hzs
          go_wp2_with (fail)
          go_roundw
          case rel => exact ⟨2, by omega, rfl, by rw [HV.out], HB2⟩
          case measure => simp [intOf]
        · have hv : P 2 = P 1 := by rw [S2.out, if_neg hlt, Int.add_zero]
          have HV := hide hv
          have hge : H x y ≤ H (x - 1) y := by omega
          clear hv hlt
          go_upto_region 8 with fail
          refine wp_name fun Z hZ => ?_
          have hbz : Below wr.heap.size wr Z := by rw [hZ]; exact (Below.refl _ _).alloc (Nat.le_refl _) _
          have z0 : Z.cell? ⟨wr.heap.size, 0, none⟩ = some (.int .i64 (-1)) := by rw [hZ]; simp [go_sem]
          have z1 : Z.cell? ⟨wr.heap.size, 1, none⟩ = some (.int .i64 0) := by rw [hZ]; simp [go_sem]
          have z2 : Z.cell? ⟨wr.heap.size, 2, none⟩ = some (.int .u8 2) := by rw [hZ]; simp [go_sem]
          have hzs : wr.heap.size < Z.heap.size := by rw [hZ]; simp
          have HBZ := hide (HB1.out.trans (hbz.mono HB1.out.size))
          generalize wr.heap.size = q at *
          clear hZ hbz HB1
          go_wp2_with (fail)
          try rw [ex]
          try rw [ey]
          refine (HC.out _ HBZ.out).mono ?_
          rintro e w2 ⟨rfl, hb⟩
          have HB2 := hide (HBZ.out.trans (hb.mono HBZ.out.size))
          have z2 := (hb.cell (p := ⟨q, 2, none⟩) hzs).trans z2
          clear hb HBZ HC z0 z1 hzs
          go_wp2_with (fail)
          go_roundw
          case rel => exact ⟨2, by omega, rfl, by rw [HV.out], HB2⟩
          case measure => simp [intOf]
      · have hidx : ∀ w : World, (Instr.index 145 (.agg #[.int .i64 1, .int .i64 0, .int .u8 1, .int .i64 (-1), .int .i64 0, .int .u8 2, .int .i64 0, .int .i64 1, .int .u8 4, .int .i64 0, .int .i64 (-1), .int .u8 8]) (.int .i64 2)).run Tryz.prog w = .ok (.agg #[.int .i64 0, .int .i64 1, .int .u8 4]) w := fun _ => by kernel_rfl
        have HC := hide (HHE.out x (y + 1) (by omega) (by omega))
        have ex : x + 0 = x := by omega
        have ey : y + 1 = (y + 1) := by omega
        clear HHE
        by_cases hlt : H x (y + 1) < H x y
        · have hv : P 3 = P 2 + 4 := by rw [S3.out, if_pos hlt]
          have HV := hide hv
          clear hv
          go_upto_region 8 with fail
          refine wp_name fun Z hZ => ?_
          have hbz : Below wr.heap.size wr Z := by rw [hZ]; exact (Below.refl _ _).alloc (Nat.le_refl _) _
          have z0 : Z.cell? ⟨wr.heap.size, 0, none⟩ = some (.int .i64 0) := by rw [hZ]; simp [go_sem]
          have z1 : Z.cell? ⟨wr.heap.size, 1, none⟩ = some (.int .i64 1) := by rw [hZ]; simp [go_sem]
          have z2 : Z.cell? ⟨wr.heap.size, 2, none⟩ = some (.int .u8 4) := by rw [hZ]; simp [go_sem]
          have hzs : wr.heap.size < Z.heap.size := by rw [hZ]; simp
          have HBZ := hide (HB1.out.trans (hbz.mono HB1.out.size))
          generalize wr.heap.size = q at *
          clear hZ hbz HB1
          go_wp2_with (fail)
          try rw [ex]
          try rw [ey]
          refine (HC.out _ HBZ.out).mono ?_
          rintro e w2 ⟨rfl, hb⟩
          have HB2 := hide (HBZ.out.trans (hb.mono HBZ.out.size))
          have z2 := (hb.cell (p := ⟨q, 2, none⟩) hzs).trans z2
          clear hb HBZ HC z0 z1 hzs
          go_wp2_with (fail)
          go_roundw
          case rel => exact ⟨3, by omega, rfl, by rw [HV.out], HB2⟩
          case measure => simp [intOf]
        · have hv : P 3 = P 2 := by rw [S3.out, if_neg hlt, Int.add_zero]
          have HV := hide hv
          have hge : H x y ≤ H x (y + 1) := by omega
          clear hv hlt
          go_upto_region 8 with fail
          refine wp_name fun Z hZ => ?_
          have hbz : Below wr.heap.size wr Z := by rw [hZ]; exact (Below.refl _ _).alloc (Nat.le_refl _) _
          have z0 : Z.cell? ⟨wr.heap.size, 0, none⟩ = some (.int .i64 0) := by rw [hZ]; simp [go_sem]
          have z1 : Z.cell? ⟨wr.heap.size, 1, none⟩ = some (.int .i64 1) := by rw [hZ]; simp [go_sem]
          have z2 : Z.cell? ⟨wr.heap.size, 2, none⟩ = some (.int .u8 4) := by rw [hZ]; simp [go_sem]
          have hzs : wr.heap.size < Z.heap.size := by rw [hZ]; simp
          have HBZ := hide (HB1.out.trans (hbz.mono HB1.out.size))
          generalize wr.heap.size = q at *
          clear hZ hbz HB1
          go_wp2_with (fail)
          try rw [ex]
          try rw [ey]
          refine (HC.out _ HBZ.out).mono ?_
          rintro e w2 ⟨rfl, hb⟩
          have HB2 := hide (HBZ.out.trans (hb.mono HBZ.out.size))
          have z2 := (hb.cell (p := ⟨q, 2, none⟩) hzs).trans z2
          clear hb HBZ HC z0 z1 hzs
          go_wp2_with (fail)
          go_roundw
          case rel => exact ⟨3, by omega, rfl, by rw [HV.out], HB2⟩
          case measure => simp [intOf]
      · have hidx : ∀ w : World, (Instr.index 145 (.agg #[.int .i64 1, .int .i64 0, .int .u8 1, .int .i64 (-1), .int .i64 0, .int .u8 2, .int .i64 0, .int .i64 1, .int .u8 4, .int .i64 0, .int .i64 (-1), .int .u8 8]) (.int .i64 3)).run Tryz.prog w = .ok (.agg #[.int .i64 0, .int .i64 (-1), .int .u8 8]) w := fun _ => by kernel_rfl
        have HC := hide (HHE.out x (y - 1) (by omega) (by omega))
        have ex : x + 0 = x := by omega
        have ey : y + (-1) = (y - 1) := by omega
        clear HHE
        by_cases hlt : H x (y - 1) < H x y
        · have hv : P 4 = P 3 + 8 := by rw [S4.out, if_pos hlt]
          have HV := hide hv
          clear hv
          go_upto_region 8 with fail
          refine wp_name fun Z hZ => ?_
          have hbz : Below wr.heap.size wr Z := by rw [hZ]; exact (Below.refl _ _).alloc (Nat.le_refl _) _
          have z0 : Z.cell? ⟨wr.heap.size, 0, none⟩ = some (.int .i64 0) := by rw [hZ]; simp [go_sem]
          have z1 : Z.cell? ⟨wr.heap.size, 1, none⟩ = some (.int .i64 (-1)) := by rw [hZ]; simp [go_sem]
          have z2 : Z.cell? ⟨wr.heap.size, 2, none⟩ = some (.int .u8 8) := by rw [hZ]; simp [go_sem]
          have hzs : wr.heap.size < Z.heap.size := by rw [hZ]; simp
          have HBZ := hide (HB1.out.trans (hbz.mono HB1.out.size))
          generalize wr.heap.size = q at *
          clear hZ hbz HB1
          go_wp2_with (fail)
          try rw [ex]
          try rw [ey]
          refine (HC.out _ HBZ.out).mono ?_
          rintro e w2 ⟨rfl, hb⟩
          have HB2 := hide (HBZ.out.trans (hb.mono HBZ.out.size))
          have z2 := (hb.cell (p := ⟨q, 2, none⟩) hzs).trans z2
          clear hb HBZ HC z0 z1 hzs
          go_wp2_with (fail)
          go_roundw
          case rel => exact ⟨4, by omega, rfl, by rw [HV.out], HB2⟩
          case measure => simp [intOf]
        · have hv : P 4 = P 3 := by rw [S4.out, if_neg hlt, Int.add_zero]
          have HV := hide hv
          have hge : H x y ≤ H x (y - 1) := by omega
          clear hv hlt
          go_upto_region 8 with fail
          refine wp_name fun Z hZ => ?_
          have hbz : Below wr.heap.size wr Z := by rw [hZ]; exact (Below.refl _ _).alloc (Nat.le_refl _) _
          have z0 : Z.cell? ⟨wr.heap.size, 0, none⟩ = some (.int .i64 0) := by rw [hZ]; simp [go_sem]
          have z1 : Z.cell? ⟨wr.heap.size, 1, none⟩ = some (.int .i64 (-1)) := by rw [hZ]; simp [go_sem]
          have z2 : Z.cell? ⟨wr.heap.size, 2, none⟩ = some (.int .u8 8) := by rw [hZ]; simp [go_sem]
          have hzs : wr.heap.size < Z.heap.size := by rw [hZ]; simp
          have HBZ := hide (HB1.out.trans (hbz.mono HB1.out.size))
          generalize wr.heap.size = q at *
          clear hZ hbz HB1
          go_wp2_with (fail)
          try rw [ex]
          try rw [ey]
          refine (HC.out _ HBZ.out).mono ?_
          rintro e w2 ⟨rfl, hb⟩
          have HB2 := hide (HBZ.out.trans (hb.mono HBZ.out.size))
          have z2 := (hb.cell (p := ⟨q, 2, none⟩) hzs).trans z2
          clear hb HBZ HC z0 z1 hzs
          go_wp2_with (fail)
          go_roundw
          case rel => exact ⟨4, by omega, rfl, by rw [HV.out], HB2⟩
          case measure => simp [intOf]
      · clear HHE S1 S2 S3
        go_wp2_with (fail)
        go_ret2
        exact ⟨by rw [HF.out]; rfl, HB1.out⟩
  · have HF : Hid (fallsR l x y = (0, (heightR l x y).2)) := hide (if_pos h2)
    rw [h1] at HH
    have hne : ((heightR l x y).2 != 0) = true := by simpa using h2
    obtain ⟨A, c, rfl, _⟩ := hr
    clear h1 h2 hl hx hy
    generalize (heightR l x y).2 = ck at *
    go_enter Tryz.func43, Tryz.ntmps43
    go_wp2_with (fail)
    refine HH.out.mono ?_
    rintro e w1 ⟨rfl, hb⟩
    have HB1 := hide hb
    clear hb HH
    go_wp2_with (fail)
    go_ret2
    exact ⟨by rw [HF.out]; rfl, HB1.out⟩
end Go.Proofs.YtdolpeljengpaaaGreat

/- The walks of the reference's Height and Falls, and of the law RoofHeights. -/
namespace Go.Proofs.YtdolpeljengpaaaGreat
open Go.RowKit
set_option linter.unusedVariables false
set_option linter.unusedSimpArgs false

end Go.Proofs.YtdolpeljengpaaaGreat
