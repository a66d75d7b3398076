/- Texts laid together: MOffB, MOffC, SortO. Lemmas for the statements of this seat; no condition. -/
import Derived.Test.YtdolpeljengpaaaGreatPk6
import Derived.Test.YtdolpeljengpaaaGreatPk1
import Derived.Test.YtdolpeljengpaaaGreatShelf

/- Plain: what growing and shrinking give, in the code's way and in the reference's. -/
namespace Go.Proofs.YtdolpeljengpaaaGreat
set_option linter.unusedVariables false
set_option linter.unusedSimpArgs false

theorem nz_ok {z w : R4} (h : w ∈ nz z) : w = z ∧ wf4 z := by
  unfold nz at h
  split at h
  · rename_i g
    rw [List.mem_singleton] at h
    exact ⟨h, g⟩
  · cases h
theorem miss_all {h : R4} {C D : List Int} (h0 : h.y0 ∈ D) (h1 : h.y1 ∈ D) : ∀ {l : List R4} {p : Option R4}, (∀ q, p = some q → q.x1 ∈ C ∧ q.y1 ∈ D) → (∀ z ∈ l, z.x0 ∈ C ∧ z.x1 ∈ C ∧ z.y0 ∈ D ∧ z.y1 ∈ D) →
    ∀ z ∈ missL h p l, wf4 z ∧ z.x0 ∈ C ∧ z.x1 ∈ C ∧ z.y0 ∈ D ∧ z.y1 ∈ D
  | [], p, _, _, z, hz => by cases hz
  | x :: l, p, hp, hl, z, hz => by
    obtain ⟨a, b, c, e⟩ := hl x (by simp)
    have hz' : z ∈ missAt h p x l.head? ++ missL h (some x) l := hz
    rcases List.mem_append.1 hz' with hz | hz
    · unfold missAt at hz
      rcases List.mem_append.1 hz with hz | hz
      · cases p with
        | none => cases hz
        | some q =>
          obtain ⟨q1, q2⟩ := hp q rfl
          have hz2 : z ∈ if q.x0 = x.x0 then [] else nz ⟨q.x1, h.y0, x.x0, h.y1⟩ := hz
          split at hz2
          · cases hz2
          · obtain ⟨rfl, hw⟩ := nz_ok hz2
            exact ⟨hw, q1, a, h0, h1⟩
      · rcases List.mem_append.1 hz with hz | hz
        · obtain ⟨rfl, hw⟩ := nz_ok hz
          refine ⟨hw, a, b, ?_, c⟩
          show lowY h p x ∈ D
          cases p with
          | none => exact h0
          | some q =>
            show (if q.x0 = x.x0 then q.y1 else h.y0) ∈ D
            split
            · exact (hp q rfl).2
            · exact h0
        · have k : z ∈ nz ⟨x.x0, x.y1, x.x1, h.y1⟩ → wf4 z ∧ z.x0 ∈ C ∧ z.x1 ∈ C ∧ z.y0 ∈ D ∧ z.y1 ∈ D := fun hz => by
            obtain ⟨rfl, hw⟩ := nz_ok hz
            exact ⟨hw, a, b, e, h1⟩
          cases hq : l.head? with
          | none => rw [hq] at hz; exact k hz
          | some q =>
            rw [hq] at hz
            have hz2 : z ∈ if q.x0 = x.x0 then [] else nz ⟨x.x0, x.y1, x.x1, h.y1⟩ := hz
            split at hz2
            · cases hz2
            · exact k hz2
    · exact miss_all h0 h1 (fun q hq => by cases hq; exact ⟨b, e⟩) (fun w hw => hl w (List.mem_cons_of_mem _ hw)) z hz
theorem miss_ok {l : List R4} {h : R4} (hh : IsHull l h) : ∀ z ∈ missL h none l, wf4 z ∧ z.x0 ∈ cutsL l ∧ z.x1 ∈ cutsL l ∧ z.y0 ∈ cutsY l ∧ z.y1 ∈ cutsY l := by
  obtain ⟨r1, m1, e1⟩ := hh.a1
  obtain ⟨r3, m3, e3⟩ := hh.a3
  exact miss_all (e1 ▸ (mem_cutsY m1).1) (e3 ▸ (mem_cutsY m3).2) (fun q hq => by cases hq) fun z hz => ⟨(mem_cutsL hz).1, (mem_cutsL hz).2, (mem_cutsY hz).1, (mem_cutsY hz).2⟩
/-- **All points of the square belong to a region exactly if it lies in the hull and no missing rectangle is near.** -/
theorem full_miss {l : List R4} (hc : RCan l) (hne : l ≠ []) {h : R4} (hh : IsHull l h) {d : Int} (hd : 0 ≤ d) (x y : Int) : full l d x y ↔ rin (growR (-d) h) x y ∧ ¬ pmem ((missL h none l).map (growR d)) x y := by
  have hm := miss_cover hc hne hh
  have hin : ∀ u v, pmem l u v → rin h u v := fun u v ⟨r, hr, hin⟩ => by
    have := hh.b r hr
    unfold rin at *
    omega
  rw [← near_grow (fun z hz => (miss_ok hh z hz).1) hd]
  constructor
  · intro hf
    have a := hin _ _ (hf (x - d) (y - d) (by omega) (by omega) (by omega) (by omega))
    have b := hin _ _ (hf (x + d) (y + d) (by omega) (by omega) (by omega) (by omega))
    refine ⟨by unfold rin growR at *; simp only at *; omega, ?_⟩
    rintro ⟨u, v, h1, h2, h3, h4, hp⟩
    exact ((hm u v).1 hp).2 (hf u v h1 h2 h3 h4)
  · rintro ⟨a, b⟩ u v h1 h2 h3 h4
    by_cases hp : pmem l u v
    · exact hp
    · exact absurd ⟨u, v, h1, h2, h3, h4, (hm u v).2 ⟨by unfold rin growR at *; simp only at *; omega, hp⟩⟩ b
def growL (l : List R4) (d : Int) : List R4 := rjoin hSub (l.map (growR d)) []
theorem grow_ok {l : List R4} (hw : ∀ r ∈ l, wf4 r) {d : Int} (hd : 0 ≤ d) : RCan (growL l d) ∧ ∀ x y, pmem (growL l d) x y ↔ near l d x y := by
  have hg : ∀ r ∈ l.map (growR d), wf4 r := fun r hr => by
    obtain ⟨q, hq, rfl⟩ := List.mem_map.1 hr
    exact grow_wf (hw q hq) hd
  obtain ⟨h1, h2⟩ := rjoin_ok (h := hSub) rfl hg (b := []) (by simp)
  refine ⟨h1, fun x y => ?_⟩
  rw [growL, h2, near_grow hw hd]
  simp only [hSub, Bool.and_eq_true, Bool.not_eq_true', decide_eq_true_eq, decide_eq_false_iff_not]
  exact ⟨fun h => h.1, fun h => ⟨h, pmem_nil⟩⟩
/-- The holes, cut to the frame in x. -/
def outX (k z : R4) : Bool := decide (z.x1 ≤ k.x0) || decide (k.x1 ≤ z.x0)
def clip1 (k z : R4) : R4 := ⟨max z.x0 k.x0, z.y0, min z.x1 k.x1, z.y1⟩
def clipH (k : R4) (L : List R4) : List R4 := (L.filter fun z => !outX k z).map (clip1 k)
theorem clip_wf {k : R4} (hk : k.x0 < k.x1) {L : List R4} (hL : ∀ z ∈ L, wf4 z) : ∀ z ∈ clipH k L, wf4 z := fun z hz => by
  unfold clipH at hz
  obtain ⟨q, hq, rfl⟩ := List.mem_map.1 hz
  obtain ⟨h1, h2⟩ := List.mem_filter.1 hq
  have := hL q h1
  unfold outX at h2
  simp at h2
  unfold wf4 clip1 at *
  simp only
  omega
theorem clip_in {k : R4} {L : List R4} {x y : Int} (h : rin k x y) : pmem (clipH k L) x y ↔ pmem L x y := by
  unfold pmem clipH
  constructor
  · rintro ⟨z, hz, hr⟩
    obtain ⟨q, hq, rfl⟩ := List.mem_map.1 hz
    obtain ⟨h1, h2⟩ := List.mem_filter.1 hq
    refine ⟨q, h1, ?_⟩
    unfold rin clip1 at *
    simp only at hr
    omega
  · rintro ⟨q, hq, hr⟩
    refine ⟨clip1 k q, List.mem_map_of_mem (List.mem_filter.2 ⟨hq, ?_⟩), ?_⟩
    · unfold rin at *
      unfold outX
      simp
      omega
    · unfold rin clip1 at *
      simp only
      omega
def shrR (l : List R4) (d : Int) : List R4 := if l = [] then [] else if (growR (-d) (hullL l)).x1 ≤ (growR (-d) (hullL l)).x0 ∨ (growR (-d) (hullL l)).y1 ≤ (growR (-d) (hullL l)).y0 then []
  else rjoin hSub [growR (-d) (hullL l)] (clipH (growR (-d) (hullL l)) ((missL (hullL l) none l).map (growR d)))
theorem shr_ok {l : List R4} (hc : RCan l) {d : Int} (hd : 0 ≤ d) : RCan (shrR l d) ∧ ∀ x y, pmem (shrR l d) x y ↔ full l d x y := by
  unfold shrR
  split
  · rename_i hl
    subst hl
    refine ⟨RCan.nil, fun x y => ⟨fun h => (pmem_nil h).elim, fun h => ?_⟩⟩
    exact h x y (by omega) (by omega) (by omega) (by omega)
  · rename_i hne
    have hh := hullL_ok hne
    generalize hullL l = h at *
    have hf := full_miss hc hne hh hd
    split
    · rename_i he
      refine ⟨RCan.nil, fun x y => ⟨fun h => (pmem_nil h).elim, fun h => ?_⟩⟩
      have := ((hf x y).1 h).1
      unfold rin at this
      omega
    · rename_i he
      have hk : ∀ z ∈ [growR (-d) h], wf4 z := fun z hz => by
        rw [List.mem_singleton] at hz
        subst hz
        unfold wf4
        omega
      have hcl := clip_wf (k := growR (-d) h) (by omega) (L := (missL h none l).map (growR d)) fun z hz => by
        obtain ⟨q, hq, rfl⟩ := List.mem_map.1 hz
        exact grow_wf (miss_ok hh q hq).1 hd
      obtain ⟨h1, h2⟩ := rjoin_ok (h := hSub) rfl hk hcl
      refine ⟨h1, fun x y => ?_⟩
      rw [h2, hf]
      have e : pmem [growR (-d) h] x y ↔ rin (growR (-d) h) x y := by simp [pmem]
      simp only [hSub, Bool.and_eq_true, Bool.not_eq_true', decide_eq_true_eq, decide_eq_false_iff_not, e]
      constructor
      · rintro ⟨a, b⟩
        exact ⟨a, fun g => b ((clip_in a).2 g)⟩
      · rintro ⟨a, b⟩
        exact ⟨a, fun g => b ((clip_in a).1 g)⟩
/-! ### The reference's grid -/
def arnd (cs : List Int) (d : Int) : List Int := cs.flatMap fun c => [c - d, c + d]
theorem mem_arnd {cs : List Int} {c d : Int} (h : c ∈ cs) : c - d ∈ arnd cs d ∧ c + d ∈ arnd cs d := by
  unfold arnd
  exact ⟨List.mem_flatMap.2 ⟨c, h, by simp⟩, List.mem_flatMap.2 ⟨c, h, by simp⟩⟩
def colG (ys : List Int) (p : Int → Int → Bool) (q : Int × Int) : List R4 := (canF ys (ys.map (p q.1))).map fun s => ⟨q.1, s.1, q.2, s.2⟩
def gridL (xs ys : List Int) (p : Int → Int → Bool) : List R4 := (prs xs).flatMap (colG ys p)
theorem grid_ok {H : Int → Int → Prop} {p : Int → Int → Bool} {xs ys : List Int} (hx : xs.Pairwise (· < ·)) (hy : ys.Pairwise (· < ·)) (hp : ∀ x y, p x y = true ↔ H x y)
    (hX : ∀ c d x y, (∀ e ∈ xs, e ≤ c ∨ d ≤ e) → c ≤ x → x < d → (H x y ↔ H c y)) (hY : ∀ c d x y, (∀ e ∈ ys, e ≤ c ∨ d ≤ e) → c ≤ y → y < d → (H x y ↔ H x c))
    (hXo : ∀ x y, (∀ c ∈ xs, c ≤ x) ∨ (∀ c ∈ xs, x < c) → ¬ H x y) (hYo : ∀ x y, (∀ c ∈ ys, c ≤ y) ∨ (∀ c ∈ ys, y < c) → ¬ H x y) :
    (∀ r ∈ gridL xs ys p, wf4 r) ∧ ∀ x y, pmem (gridL xs ys p) x y ↔ H x y := by
  have hc : ∀ x, SCan (canF ys (ys.map (p x))) ∧ ∀ y, smem (canF ys (ys.map (p x))) y ↔ H x y := fun x =>
    canF_ok (H := H x) hy (fun c d y _ _ _ hg h1 h2 => by rw [hp]; exact hY c d x y hg h1 h2) (fun y h => hYo x y (.inl h)) (fun y h => hYo x y (.inr h))
  constructor
  · intro r hr
    obtain ⟨q, hq, hr⟩ := List.mem_flatMap.1 hr
    unfold colG at hr
    obtain ⟨s, hs, rfl⟩ := List.mem_map.1 hr
    exact ⟨(prs_gap2 hx q hq).1, (hc q.1).1.1 s hs⟩
  · intro x y
    constructor
    · rintro ⟨r, hr, hin⟩
      obtain ⟨q, hq, hr⟩ := List.mem_flatMap.1 hr
      unfold colG at hr
      obtain ⟨s, hs, rfl⟩ := List.mem_map.1 hr
      obtain ⟨g1, _, _, g4⟩ := prs_gap2 hx q hq
      unfold rin at hin
      simp only at hin
      rw [hX q.1 q.2 x y g4 hin.1 hin.2.1, ← (hc q.1).2]
      exact ⟨s, hs, hin.2.2.1, hin.2.2.2⟩
    · intro h
      have h1 : ¬ ((∀ c ∈ xs, c ≤ x) ∨ (∀ c ∈ xs, x < c)) := fun g => hXo x y g h
      have hlen : 0 < xs.length := by
        rcases Nat.eq_zero_or_pos xs.length with e | e
        · have := List.eq_nil_of_length_eq_zero e
          subst this
          exact absurd (.inl (by simp)) h1
        · exact e
      have hlo : xs.getD 0 0 ≤ x := by
        refine Classical.byContradiction fun g => h1 (.inr fun c hcm => ?_)
        cases xs with
        | nil => cases hcm
        | cons a r =>
          simp at g
          rcases List.mem_cons.1 hcm with rfl | hcm
          · exact g
          · have := (List.pairwise_cons.1 hx).1 c hcm; omega
      have hhi : x < xs.getD (xs.length - 1) 0 := by
        refine Classical.byContradiction fun g => h1 (.inl fun c hcm => ?_)
        obtain ⟨i, hi, rfl⟩ := List.getElem_of_mem hcm
        rw [List.getD_eq_getElem?_getD, List.getElem?_eq_getElem (by omega)] at g
        simp at g
        rcases Nat.lt_or_ge i (xs.length - 1) with hlt | hge
        · have := (List.pairwise_iff_getElem.1 hx) i (xs.length - 1) hi (by omega) hlt
          omega
        · have : i = xs.length - 1 := by omega
          subst this
          omega
      obtain ⟨q, hq, q1, q2⟩ := prs_at xs hx x hlen hlo hhi
      obtain ⟨g1, _, _, g4⟩ := prs_gap2 hx q hq
      have := (hX q.1 q.2 x y g4 q1 q2).1 h
      rw [← (hc q.1).2] at this
      obtain ⟨s, hs, s1, s2⟩ := this
      exact ⟨⟨q.1, s.1, q.2, s.2⟩, List.mem_flatMap.2 ⟨q, hq, List.mem_map_of_mem hs⟩, q1, q2, s1, s2⟩
/-! ### Points counted in squares -/
def sqP (x y d : Int) : R4 := ⟨x - d, y - d, x + d + 1, y + d + 1⟩
def cntF (l : List R4) (x y d : Int) : Int := onF (sqP x y d) l
def areaD (d : Int) : Int := (2 * d + 1) * (2 * d + 1)
theorem sqP_fr (x y : Int) {d : Int} (hd : 0 ≤ d) : inFr (x.natAbs + y.natAbs + d.toNat + 1) (sqP x y d) ∧ wf4 (sqP x y d) := by
  unfold inFr wf4 sqP
  simp only
  omega
theorem sqP_in (x y d u v : Int) : rin (sqP x y d) u v ↔ x - d ≤ u ∧ u ≤ x + d ∧ y - d ≤ v ∧ v ≤ y + d := by
  unfold rin sqP
  simp only
  omega
theorem sqP_area (x y d : Int) : arQ (sqP x y d) = areaD d := by
  unfold arQ sqP areaD
  simp only
  rw [show x + d + 1 - (x - d) = 2 * d + 1 by omega, show y + d + 1 - (y - d) = 2 * d + 1 by omega]
theorem cnt_full {l : List R4} (hs : l.Pairwise apart4) {d : Int} (hd : 0 ≤ d) (x y : Int) : cntF l x y d = areaD d ↔ full l d x y := by
  obtain ⟨h1, h2⟩ := sqP_fr x y hd
  rw [← sqP_area x y d, cntF, full_iff h1 h2 hs]
  unfold full
  constructor
  · intro h u v a b c e
    exact h u v ((sqP_in x y d u v).2 ⟨a, b, c, e⟩)
  · intro h u v g
    obtain ⟨a, b, c, e⟩ := (sqP_in x y d u v).1 g
    exact h u v a b c e
theorem cnt_bd {l : List R4} (hs : l.Pairwise apart4) {d : Int} (hd : 0 ≤ d) (x y : Int) : 0 ≤ cntF l x y d ∧ cntF l x y d ≤ areaD d := by
  obtain ⟨h1, h2⟩ := sqP_fr x y hd
  refine ⟨?_, by rw [← sqP_area x y d]; exact onF_le h1 h2 hs⟩
  rw [cntF, onF_vol h1 hs]
  refine sumZ_nonneg fun i _ _ => sumZ_nonneg fun j _ _ => ?_
  rcases one_01 l i j with h | h <;> rcases ind_01 (rin (sqP x y d) i j) with g | g <;> simp [h, g]
theorem cnt_nearP {l : List R4} (hs : l.Pairwise apart4) {d : Int} (hd : 0 ≤ d) (x y : Int) : 1 ≤ cntF l x y d ↔ near l d x y := by
  obtain ⟨h1, h2⟩ := sqP_fr x y hd
  have hb := (cnt_bd hs hd x y).1
  have hnn : ∀ i j, 0 ≤ ind (rin (sqP x y d) i j) * one l i j := fun i j => by
    rcases one_01 l i j with h | h <;> rcases ind_01 (rin (sqP x y d) i j) with g | g <;> simp [h, g]
  have hv : cntF l x y d = vol _ (fun i j => ind (rin (sqP x y d) i j) * one l i j) := onF_vol h1 hs
  unfold near
  constructor
  · intro h
    refine Classical.byContradiction fun hn => ?_
    have : vol (x.natAbs + y.natAbs + d.toNat + 1) (fun i j => ind (rin (sqP x y d) i j) * one l i j) = 0 := by
      have e : vol (x.natAbs + y.natAbs + d.toNat + 1) (fun i j => ind (rin (sqP x y d) i j) * one l i j) = vol (x.natAbs + y.natAbs + d.toNat + 1) (fun _ _ => ind False) := by
        refine vol_congr fun i j _ _ _ _ => ?_
        by_cases hr : rin (sqP x y d) i j
        · have : one l i j = 0 := ind_f (fun hp => hn (by
            obtain ⟨a, b, c, e⟩ := (sqP_in x y d i j).1 hr
            exact ⟨i, j, a, b, c, e, hp⟩))
          rw [this, Int.mul_zero, ind_f (fun h => h)]
        · rw [ind_f hr, Int.zero_mul, ind_f (fun h => h)]
      rw [e]
      have e2 : vol (x.natAbs + y.natAbs + d.toNat + 1) (fun _ _ => ind False) = vol (x.natAbs + y.natAbs + d.toNat + 1) (fun _ _ => ind False - ind False) := vol_congr fun _ _ _ _ _ _ => by rw [ind_f (fun h => h)]; rfl
      rw [e2, vol_sub]
      omega
    omega
  · rintro ⟨u, v, a, b, c, e, hp⟩
    refine Classical.byContradiction fun hn => ?_
    have h0 : cntF l x y d = 0 := by omega
    rw [hv] at h0
    have hr : rin (sqP x y d) u v := (sqP_in x y d u v).2 ⟨a, b, c, e⟩
    have := vol_all hnn h0 u v (by unfold inFr at h1; unfold rin at hr; omega) (by unfold inFr at h1; unfold rin at hr; omega) (by unfold inFr at h1; unfold rin at hr; omega) (by unfold inFr at h1; unfold rin at hr; omega)
    rw [ind_t hr, show one l u v = 1 from ind_t hp] at this
    omega
/-- The reference's region. -/
def refGrid (l : List R4) (d low high : Int) : List R4 :=
  gridL (srt (arnd (srt (cutsL l ++ cutsL [])) d)) (srt (arnd (srt (cutsY l ++ cutsY [])) d)) fun x y => decide (low ≤ cntF l x y d) && decide (cntF l x y d ≤ high)
theorem in_arnd {C : List Int} {c d : Int} (h : c ∈ C) : c - d ∈ srt (arnd (srt (C ++ [])) d) ∧ c + d ∈ srt (arnd (srt (C ++ [])) d) := by
  have h1 : c ∈ srt (C ++ []) := ((srt_ok _).2 c).2 (by simpa using h)
  obtain ⟨a, b⟩ := mem_arnd (d := d) h1
  exact ⟨((srt_ok _).2 _).2 a, ((srt_ok _).2 _).2 b⟩
theorem refGrow_ok {l : List R4} (hc : RCan l) {d : Int} (hd : 0 ≤ d) : (∀ r ∈ refGrid l d 1 (areaD d), wf4 r) ∧ rjoin hFst (refGrid l d 1 (areaD d)) [] = growL l d := by
  have hs := hc.apart
  have hw := can_wf hc
  have cX : ∀ c ∈ cutsL (l.map (growR d)), c ∈ srt (arnd (srt (cutsL l ++ cutsL [])) d) := fun c h => by
    unfold cutsL at h
    obtain ⟨z, hz, h⟩ := List.mem_flatMap.1 h
    obtain ⟨r, hr, rfl⟩ := List.mem_map.1 hz
    simp only [List.mem_cons, List.not_mem_nil, or_false] at h
    rcases h with rfl | rfl
    · exact (in_arnd (mem_cutsL hr).1).1
    · exact (in_arnd (mem_cutsL hr).2).2
  have cY : ∀ c ∈ cutsY (l.map (growR d)), c ∈ srt (arnd (srt (cutsY l ++ cutsY [])) d) := fun c h => by
    unfold cutsY at h
    obtain ⟨z, hz, h⟩ := List.mem_flatMap.1 h
    obtain ⟨r, hr, rfl⟩ := List.mem_map.1 hz
    simp only [List.mem_cons, List.not_mem_nil, or_false] at h
    rcases h with rfl | rfl
    · exact (in_arnd (mem_cutsY hr).1).1
    · exact (in_arnd (mem_cutsY hr).2).2
  obtain ⟨g1, g2⟩ := grid_ok (H := fun x y => pmem (l.map (growR d)) x y) (p := fun x y => decide (1 ≤ cntF l x y d) && decide (cntF l x y d ≤ areaD d)) (srt_ok _).1 (srt_ok _).1
    (fun x y => by
      have := (cnt_bd hs hd x y).2
      simp only [Bool.and_eq_true, decide_eq_true_eq]
      rw [cnt_nearP hs hd, near_grow hw hd]
      exact ⟨fun h => h.1, fun h => ⟨h, this⟩⟩)
    (fun c e x y hg h1 h2 => pmem_sameX cX hg h1 h2) (fun c e x y hg h1 h2 => pmem_sameY cY hg h1 h2)
    (fun x y h => by rcases h with h | h; · exact crossL_hi cX h
                     · exact crossL_lo cX h)
    (fun x y h => by rcases h with h | h; · exact pmem_hiY cY h
                     · exact pmem_loY cY h)
  refine ⟨g1, ?_⟩
  obtain ⟨k1, k2⟩ := rjoin_ok (h := hFst) rfl g1 (b := []) (by simp)
  obtain ⟨m1, m2⟩ := grow_ok hw hd
  refine k1.ext m1 fun x y => ?_
  rw [k2, m2, near_grow hw hd]
  simp only [hFst, decide_eq_true_eq]
  exact g2 x y
theorem refShrink_ok {l : List R4} (hc : RCan l) {d : Int} (hd : 0 ≤ d) : (∀ r ∈ refGrid l d (areaD d) (areaD d), wf4 r) ∧ rjoin hFst (refGrid l d (areaD d) (areaD d)) [] = shrR l d := by
  have hs := hc.apart
  have hP : ∀ x y, (decide (areaD d ≤ cntF l x y d) && decide (cntF l x y d ≤ areaD d)) = true ↔ full l d x y := fun x y => by
    rw [← cnt_full hs hd]
    simp only [Bool.and_eq_true, decide_eq_true_eq]
    omega
  have main : (∀ r ∈ refGrid l d (areaD d) (areaD d), wf4 r) ∧ ∀ x y, pmem (refGrid l d (areaD d) (areaD d)) x y ↔ full l d x y := by
    by_cases hne : l = []
    · subst hne
      refine ⟨fun r hr => by simp [refGrid, gridL, cutsL, cutsY, srt, arnd, prs] at hr, fun x y => ?_⟩
      constructor
      · rintro ⟨r, hr, _⟩
        simp [refGrid, gridL, cutsL, cutsY, srt, arnd, prs] at hr
      · intro h
        exact (pmem_nil (h x y (by omega) (by omega) (by omega) (by omega))).elim
    · have hh := hullL_ok hne
      generalize hullL l = h at *
      have hf := full_miss hc hne hh hd
      have hm := miss_ok hh
      have cX : ∀ c ∈ cutsL ((missL h none l).map (growR d)), c ∈ srt (arnd (srt (cutsL l ++ cutsL [])) d) := fun c hcm => by
        unfold cutsL at hcm
        obtain ⟨z, hz, hcm⟩ := List.mem_flatMap.1 hcm
        obtain ⟨r, hr, rfl⟩ := List.mem_map.1 hz
        simp only [List.mem_cons, List.not_mem_nil, or_false] at hcm
        rcases hcm with rfl | rfl
        · exact (in_arnd (hm r hr).2.1).1
        · exact (in_arnd (hm r hr).2.2.1).2
      have cY : ∀ c ∈ cutsY ((missL h none l).map (growR d)), c ∈ srt (arnd (srt (cutsY l ++ cutsY [])) d) := fun c hcm => by
        unfold cutsY at hcm
        obtain ⟨z, hz, hcm⟩ := List.mem_flatMap.1 hcm
        obtain ⟨r, hr, rfl⟩ := List.mem_map.1 hz
        simp only [List.mem_cons, List.not_mem_nil, or_false] at hcm
        rcases hcm with rfl | rfl
        · exact (in_arnd (hm r hr).2.2.2.1).1
        · exact (in_arnd (hm r hr).2.2.2.2).2
      have kX : ∀ c ∈ cutsL [growR (-d) h], c ∈ srt (arnd (srt (cutsL l ++ cutsL [])) d) := fun c hcm => by
        simp only [cutsL, List.flatMap_cons, List.flatMap_nil, List.append_nil, List.mem_cons, List.not_mem_nil, or_false] at hcm
        obtain ⟨r0, m0, e0⟩ := hh.a0
        obtain ⟨r2, m2, e2⟩ := hh.a2
        rcases hcm with rfl | rfl
        · have := (in_arnd (d := d) (mem_cutsL m0).1).2
          show h.x0 - -d ∈ _
          rw [← e0, Int.sub_neg]; exact this
        · have := (in_arnd (d := d) (mem_cutsL m2).2).1
          show h.x1 + -d ∈ _
          rw [← e2]; exact this
      have kY : ∀ c ∈ cutsY [growR (-d) h], c ∈ srt (arnd (srt (cutsY l ++ cutsY [])) d) := fun c hcm => by
        simp only [cutsY, List.flatMap_cons, List.flatMap_nil, List.append_nil, List.mem_cons, List.not_mem_nil, or_false] at hcm
        obtain ⟨r0, m0, e0⟩ := hh.a1
        obtain ⟨r2, m2, e2⟩ := hh.a3
        rcases hcm with rfl | rfl
        · have := (in_arnd (d := d) (mem_cutsY m0).1).2
          show h.y0 - -d ∈ _
          rw [← e0, Int.sub_neg]; exact this
        · have := (in_arnd (d := d) (mem_cutsY m2).2).1
          show h.y1 + -d ∈ _
          rw [← e2]; exact this
      have e1 : ∀ x y, rin (growR (-d) h) x y ↔ pmem [growR (-d) h] x y := fun x y => by simp [pmem]
      exact grid_ok (H := full l d) (srt_ok _).1 (srt_ok _).1 hP
        (fun c e x y hg h1 h2 => by rw [hf, hf, e1, e1, pmem_sameX kX hg h1 h2, pmem_sameX cX hg h1 h2])
        (fun c e x y hg h1 h2 => by rw [hf, hf, e1, e1, pmem_sameY kY hg h1 h2, pmem_sameY cY hg h1 h2])
        (fun x y g => by
          rw [hf, e1]
          rintro ⟨a, _⟩
          rcases g with g | g
          · exact crossL_hi kX g a
          · exact crossL_lo kX g a)
        (fun x y g => by
          rw [hf, e1]
          rintro ⟨a, _⟩
          rcases g with g | g
          · exact pmem_hiY kY g a
          · exact pmem_loY kY g a)
  refine ⟨main.1, ?_⟩
  obtain ⟨k1, k2⟩ := rjoin_ok (h := hFst) rfl main.1 (b := []) (by simp)
  obtain ⟨m1, m2⟩ := shr_ok hc hd
  refine k1.ext m1 fun x y => ?_
  rw [k2, m2]
  simp only [hFst, decide_eq_true_eq]
  exact main.2 x y
/-! ### Depths -/
def dist1 (x y : Int) (g : R4) : Int := max (max (max (g.x0 - x) (x - g.x1 + 1)) (g.y0 - y)) (y - g.y1 + 1) - 1
def depB (h : R4) (x y : Int) : Int := min (min (min (x - h.x0) (h.x1 - 1 - x)) (y - h.y0)) (h.y1 - 1 - y)
def depP (h : R4) (L : List R4) (x y : Int) : Int := L.foldl (fun b g => min b (dist1 x y g)) (depB h x y)
theorem dep_from (x y d : Int) : ∀ (L : List R4) (b : Int), d ≤ L.foldl (fun b g => min b (dist1 x y g)) b ↔ d ≤ b ∧ ∀ g ∈ L, d ≤ dist1 x y g
  | [], b => by simp
  | g :: L, b => by
    rw [List.foldl_cons, dep_from x y d L]
    simp only [List.mem_cons, forall_eq_or_imp]
    constructor
    · rintro ⟨h1, h2⟩
      exact ⟨by omega, by omega, h2⟩
    · rintro ⟨h1, h2, h3⟩
      exact ⟨by omega, h3⟩
theorem dep_iff {l : List R4} (hc : RCan l) (hne : l ≠ []) {d : Int} (hd : 0 ≤ d) (x y : Int) : d ≤ depP (hullL l) (missL (hullL l) none l) x y ↔ full l d x y := by
  have hh := hullL_ok hne
  generalize hullL l = h at *
  rw [depP, dep_from, full_miss hc hne hh hd]
  have e1 : d ≤ depB h x y ↔ rin (growR (-d) h) x y := by
    unfold depB rin growR
    simp only
    omega
  rw [e1]
  refine and_congr_right fun _ => ?_
  unfold pmem
  constructor
  · rintro hg ⟨z, hz, hr⟩
    obtain ⟨q, hq, rfl⟩ := List.mem_map.1 hz
    have := hg q hq
    unfold dist1 at this
    unfold rin growR at hr
    simp only at hr
    omega
  · intro hn g hg
    have : ¬ rin (growR d g) x y := fun hr => hn ⟨growR d g, List.mem_map_of_mem hg, hr⟩
    unfold rin growR at this
    simp only at this
    unfold dist1
    omega
theorem full_zero {l : List R4} (x y : Int) : full l 0 x y ↔ pmem l x y := by
  unfold full
  constructor
  · intro h
    exact h x y (by omega) (by omega) (by omega) (by omega)
  · intro h u v a b c e
    obtain rfl : u = x := by omega
    obtain rfl : v = y := by omega
    exact h
theorem full_far {l : List R4} (hv : ∀ r ∈ l, valid4 r) {d : Int} (hd : 1000000 ≤ d) (x y : Int) : ¬ full l d x y := fun h => by
  obtain ⟨r, hr, h1⟩ := h (x - d) y (by omega) (by omega) (by omega) (by omega)
  obtain ⟨q, hq, h2⟩ := h (x + d) y (by omega) (by omega) (by omega) (by omega)
  have v1 := hv r hr
  have v2 := hv q hq
  unfold valid4 fineP at v1 v2
  unfold rin at h1 h2
  omega
end Go.Proofs.YtdolpeljengpaaaGreat

/- Plain: the sweep over the ends of spans that are kept and of holes, as the code does it. -/
namespace Go.Proofs.YtdolpeljengpaaaGreat
set_option linter.unusedVariables false
set_option linter.unusedSimpArgs false

def by0 (e : En) : Int := if e.2.1 = 0 then e.2.2 else 0
def by1 (e : En) : Int := if e.2.1 = 1 then e.2.2 else 0
def kz (x : Int) (e : En) : Int := if e.2.1 = 1 then (if e.1 < x then e.2.2 else if e.1 = x then min e.2.2 0 else 0) else 0
theorem sum_perm {α : Type} {f : α → Int} {A B : List α} (h : A.Perm B) : (A.map f).sum = (B.map f).sum := by
  induction h with
  | nil => rfl
  | cons a _ ih => simp [ih]
  | swap a b l => simp; omega
  | trans _ _ h1 h2 => rw [h1, h2]
theorem kz_evs0 (x : Int) : ∀ s : List Sp, ((evs 0 s).map (kz x)).sum = 0
  | [] => rfl
  | p :: s => by simp [evs, kz, kz_evs0 x s]
theorem kz_evs1 (x : Int) : ∀ s : List Sp, (∀ p ∈ s, p.1 < p.2) → 0 ≤ ((evs 1 s).map (kz x)).sum
  | [], _ => by simp [evs]
  | p :: s, h => by
    have ih := kz_evs1 x s fun q hq => h q (by simp [hq])
    have hp := h p (by simp)
    simp only [evs, List.map_cons, List.sum_cons, kz, if_true]
    repeat' split
    all_goals omega
theorem sum_le {α : Type} {f g : α → Int} : ∀ {L : List α}, (∀ x ∈ L, f x ≤ g x) → (L.map f).sum ≤ (L.map g).sum
  | [], _ => by simp
  | a :: L, h => by
    have h1 := h a (by simp)
    have h2 := sum_le (f := f) (g := g) (L := L) fun x hx => h x (by simp [hx])
    simp only [List.map_cons, List.sum_cons]
    omega
/-- **Behind any first part of the ends, in order, as many holes have begun as have ended, or more.** -/
theorem prefix_nn {a b : List Sp} (hb : ∀ p ∈ b, p.1 < p.2) {E P R : List En} (hp : E.Perm (evs 0 a ++ evs 1 b)) (hs : E.Pairwise (fun a b => a.1 ≤ b.1)) (hE : E = P ++ R) : 0 ≤ (P.map by1).sum := by
  rcases List.eq_nil_or_concat P with h | ⟨P', q, h⟩
  · subst h; simp
  · rw [List.concat_eq_append] at h
    have hs' := hs
    rw [hE, List.pairwise_append] at hs'
    have h1 : ∀ e ∈ P, e.1 ≤ q.1 := fun e he => by
      rw [h] at he hs'
      rcases List.mem_append.1 he with g | g
      · exact (List.pairwise_append.1 hs'.1).2.2 e g q (by simp)
      · simp at g; subst g; exact Int.le_refl _
    have h2 : ∀ e ∈ R, q.1 ≤ e.1 := fun e he => hs'.2.2 q (by rw [h]; simp) e he
    have e1 : (E.map (kz q.1)).sum = ((evs 0 a).map (kz q.1)).sum + ((evs 1 b).map (kz q.1)).sum := by rw [sum_perm hp, List.map_append, List.sum_append]
    have e2 : (E.map (kz q.1)).sum = (P.map (kz q.1)).sum + (R.map (kz q.1)).sum := by rw [hE, List.map_append, List.sum_append]
    have e3 := kz_evs0 q.1 a
    have e4 := kz_evs1 q.1 b hb
    have e5 : (P.map (kz q.1)).sum ≤ (P.map by1).sum := sum_le fun e he => by
      have := h1 e he
      unfold kz by1
      repeat' split
      all_goals omega
    have e6 : (R.map (kz q.1)).sum ≤ (R.map (fun _ => (0 : Int))).sum := sum_le fun e he => by
      have := h2 e he
      unfold kz
      repeat' split
      all_goals omega
    have e7 : ∀ L : List En, (L.map (fun _ => (0 : Int))).sum = 0 := fun L => by
      induction L with
      | nil => rfl
      | cons a L ih => simp [ih]
    rw [e7] at e6
    omega
theorem jf_counts (h : Bool → Bool → Bool) : ∀ (P : List En) (st : JS), (P.foldl (jstep h) st).o0 = st.o0 + (P.map by0).sum ∧ (P.foldl (jstep h) st).o1 = st.o1 + (P.map by1).sum
  | [], st => by simp
  | e :: P, st => by
    rw [List.foldl_cons]
    obtain ⟨h1, h2⟩ := jf_counts h P (jstep h st e)
    rw [h1, h2]
    simp only [jstep, List.map_cons, List.sum_cons, by0, by1]
    constructor <;> split <;> omega
theorem jf_at (h : Bool → Bool → Bool) {E : List En} {k : Nat} {e : En} (he : E[k]? = some e) : jfold h (E.take (k + 1)) = jstep h (jfold h (E.take k)) e := by
  unfold jfold
  rw [List.take_add_one, he, List.foldl_append]
  rfl
theorem by_bd : ∀ {P : List En}, (∀ e ∈ P, e.2.2 = 1 ∨ e.2.2 = -1) → -(P.length : Int) ≤ (P.map by0).sum ∧ (P.map by0).sum ≤ P.length ∧ -(P.length : Int) ≤ (P.map by1).sum ∧ (P.map by1).sum ≤ P.length
  | [], _ => by simp
  | e :: P, h => by
    have h1 := h e (by simp)
    have h2 := by_bd (P := P) fun x hx => h x (by simp [hx])
    simp only [List.map_cons, List.sum_cons, List.length_cons, by0, by1]
    repeat' split
    all_goals omega
theorem evs_by (i : Int) : ∀ (s : List Sp), ∀ e ∈ evs i s, (e.2.1 = i ∧ (e.2.2 = 1 ∨ e.2.2 = -1)) ∧ ∃ p ∈ s, e.1 = p.1 ∨ e.1 = p.2
  | [], e, he => by cases he
  | p :: s, e, he => by
    simp only [evs, List.mem_cons] at he
    rcases he with rfl | rfl | he
    · exact ⟨⟨rfl, .inl rfl⟩, p, by simp, .inl rfl⟩
    · exact ⟨⟨rfl, .inr rfl⟩, p, by simp, .inr rfl⟩
    · obtain ⟨h1, q, hq, h2⟩ := evs_by i s e he
      exact ⟨h1, q, by simp [hq], h2⟩
/-- What the walk's loop is told of the ends. -/
structure EvOk (E : List En) : Prop where
  sorted : E.Pairwise (fun a b => a.1 ≤ b.1)
  by1 : ∀ e ∈ E, e.2.2 = 1 ∨ e.2.2 = -1
  kind : ∀ e ∈ E, e.2.1 = 0 ∨ e.2.1 = 1
  nn : ∀ k, 0 ≤ (jfold hSub (E.take k)).o1
theorem ev_ok {a b : List Sp} (hb : ∀ p ∈ b, p.1 < p.2) {E : List En} (hp : E.Perm (evs 0 a ++ evs 1 b)) (hs : E.Pairwise (fun a b => a.1 ≤ b.1)) : EvOk E := by
  have hm : ∀ e ∈ E, (e.2.2 = 1 ∨ e.2.2 = -1) ∧ (e.2.1 = 0 ∨ e.2.1 = 1) := fun e he => by
    rcases List.mem_append.1 (hp.mem_iff.1 he) with h | h
    · have := (evs_by 0 a e h).1; exact ⟨this.2, .inl this.1⟩
    · have := (evs_by 1 b e h).1; exact ⟨this.2, .inr this.1⟩
  refine ⟨hs, fun e he => (hm e he).1, fun e he => (hm e he).2, fun k => ?_⟩
  unfold jfold
  rw [(jf_counts hSub (E.take k) js0).2]
  have := prefix_nn hb hp hs (List.take_append_drop k E).symm
  show 0 ≤ 0 + _
  omega
theorem ev_bd {E : List En} (h : EvOk E) (k : Nat) : -(E.length : Int) ≤ (jfold hSub (E.take k)).o0 ∧ (jfold hSub (E.take k)).o0 ≤ E.length ∧ (jfold hSub (E.take k)).o1 ≤ E.length := by
  have hb := by_bd (P := E.take k) fun e he => h.by1 e (List.mem_of_mem_take he)
  have hl : (E.take k).length ≤ E.length := by rw [List.length_take]; exact Nat.min_le_right _ _
  unfold jfold
  rw [(jf_counts hSub (E.take k) js0).1, (jf_counts hSub (E.take k) js0).2]
  show _ ≤ 0 + _ ∧ 0 + _ ≤ _ ∧ 0 + _ ≤ _
  omega
theorem ev_last {E : List En} (h : EvOk E) {k : Nat} {e : En} (he : E[k]? = some e) : (jfold hSub (E.take k)).inn = true → (jfold hSub (E.take k)).last ≤ e.1 := by
  cases k with
  | zero => intro hi; simp [jfold, js0] at hi
  | succ k =>
    intro _
    have hk : k + 1 < E.length := (List.getElem?_eq_some_iff.1 he).1
    obtain ⟨q, hq⟩ : ∃ q, E[k]? = some q := ⟨_, List.getElem?_eq_getElem (by omega)⟩
    rw [jf_at hSub hq]
    show q.1 ≤ e.1
    obtain ⟨h1, rfl⟩ := List.getElem?_eq_some_iff.1 he
    obtain ⟨h2, rfl⟩ := List.getElem?_eq_some_iff.1 hq
    exact List.pairwise_iff_getElem.1 h.sorted k (k + 1) h2 h1 (by omega)
/-- One end more. -/
theorem ev_step {E : List En} (h : EvOk E) {k : Nat} {e : En} (he : E[k]? = some e) :
    (jfold hSub (E.take (k + 1))).out = (if (jfold hSub (E.take k)).inn = true ∧ (jfold hSub (E.take k)).last < e.1 then sext (jfold hSub (E.take k)).out (jfold hSub (E.take k)).last e.1 else (jfold hSub (E.take k)).out) ∧
    (jfold hSub (E.take (k + 1))).last = e.1 ∧ (jfold hSub (E.take (k + 1))).o0 = (if e.2.1 = 0 then (jfold hSub (E.take k)).o0 + e.2.2 else (jfold hSub (E.take k)).o0) ∧ (jfold hSub (E.take (k + 1))).o1 = (if e.2.1 = 1 then (jfold hSub (E.take k)).o1 + e.2.2 else (jfold hSub (E.take k)).o1) ∧
    (jfold hSub (E.take (k + 1))).inn = (decide (0 < (jfold hSub (E.take (k + 1))).o0) && ((jfold hSub (E.take (k + 1))).o1 == 0)) := by
  have hn := h.nn (k + 1)
  have hl := ev_last h he
  rw [jf_at hSub he] at *
  generalize jfold hSub (E.take k) = st at *
  refine ⟨?_, rfl, rfl, rfl, ?_⟩
  · show jclose st e.1 = _
    unfold jclose
    by_cases hi : st.inn = true
    · have := hl hi
      by_cases hlt : st.last < e.1
      · rw [if_pos ⟨hi, by omega⟩, if_pos ⟨hi, hlt⟩]
      · rw [if_neg (fun g => g.2 (by omega)), if_neg (fun g => hlt g.2)]
    · rw [if_neg (fun g => hi g.1), if_neg (fun g => hi g.1)]
  · show hSub (decide (0 < (jstep hSub st e).o0)) (decide (0 < (jstep hSub st e).o1)) = _
    generalize (jstep hSub st e).o0 = p at *
    generalize (jstep hSub st e).o1 = q at *
    unfold hSub
    congr 1
    by_cases hq : q = 0
    · subst hq; rfl
    · rw [decide_eq_true (by omega : 0 < q)]
      have : (q == 0) = false := by simpa using hq
      rw [this]; rfl
end Go.Proofs.YtdolpeljengpaaaGreat

/- slices.SortFunc at offset.end, by its closure. -/
namespace Go.Proofs.YtdolpeljengpaaaGreat
open Go.RowKit Go.Sort
set_option linter.unusedVariables false
set_option linter.unusedSimpArgs false

/-- An end in range: there the closure's subtraction does not wrap. -/
abbrev BO := { e : En // -3000000 ≤ e.1 ∧ e.1 ≤ 3000000 }
instance : Inhabited BO := ⟨⟨(0, 0, 0), by decide⟩⟩
def encO (e : BO) : List Value := encE e.1
def cfO (x y : BO) : Int := x.1.1 - y.1.1
theorem lift_bo : ∀ (E : List En), (∀ e ∈ E, -3000000 ≤ e.1 ∧ e.1 ≤ 3000000) → ∃ L : List BO, L.map (·.1) = E
  | [], _ => ⟨[], rfl⟩
  | e :: E, h => by
    obtain ⟨L, hL⟩ := lift_bo E fun x hx => h x (by simp [hx])
    exact ⟨⟨e, h e (by simp)⟩ :: L, by simp [hL]⟩
theorem flat_bo (L : List BO) : L.flatMap encO = (L.map (·.1)).flatMap encE := by
  rw [List.flatMap_map]; rfl
theorem swoO : SWO (ltOf cfO) where
  irrefl x := by simp [ltOf, cfO]
  trans x y z h1 h2 := by
    unfold ltOf cfO at *
    have a := of_decide_eq_true h1
    have b := of_decide_eq_true h2
    exact decide_eq_true (by omega)
  ntrans x y z h1 h2 := by
    unfold ltOf cfO at *
    have a := of_decide_eq_false h1
    have b := of_decide_eq_false h2
    exact decide_eq_false (by omega)

set_option maxHeartbeats 1000000 in
theorem cmpO_any (x y : BO) (W : World) : Calls Tryz.prog 246 #[.agg (encO x).toArray, .agg (encO y).toArray] W fun e w' => e = .returned (.int .i64 (cfO x y)) ∧ ∃ q os', w' = grow (W.drewN q) os' := by
  obtain ⟨⟨a, b, c⟩, hx⟩ := x
  obtain ⟨⟨d, e, f⟩, hy⟩ := y
  show Calls Tryz.prog 246 #[.agg #[.int .i64 a, .int .i64 b, .int .i64 c], .agg #[.int .i64 d, .int .i64 e, .int .i64 f]] W fun r w' => r = .returned (.int .i64 (a - d)) ∧ ∃ q os', w' = grow (W.drewN q) os'
  simp only at hx hy
  obtain ⟨x1, x2⟩ := hx
  obtain ⟨y1, y2⟩ := hy
  go_enter Tryz.func246, Tryz.ntmps246
  go_wp2
  go_ret
  exact ⟨rfl, 0, _, by rw [alloc_eq_grow, alloc_eq_grow, grow_grow]; rfl⟩

/-- The sort's contract: the row then holds the ends in order; all else is as it was. -/
theorem sortO_any (base : Nat) (v : Value) (E : List En) (hB : ∀ e ∈ E, -3000000 ≤ e.1 ∧ e.1 ≤ 3000000) (w : World) (hown : w.ownsRow base 301 3 v E.length (E.flatMap encE)) (hsz : E.length < 4611686018427387904) :
    Calls Tryz.prog 245 #[v, .func (.func 246) #[] #[]] w fun e w' => e = .returned (.tuple #[]) ∧
      ∃ E' : List En, E'.Perm E ∧ E'.Pairwise (fun a b => a.1 ≤ b.1) ∧ w'.ownsRow base 301 3 v E'.length (E'.flatMap encE) ∧ w.grownBy w' v.ownBlock := by
  by_cases h0 : E = []
  · subst h0
    obtain ⟨p, cap, hv⟩ : ∃ p cap, v = .slice p 0 cap := by
      rcases hown.2 with ⟨rfl, _⟩ | ⟨g, cap, cur, rfl, _⟩
      · exact ⟨_, _, rfl⟩
      · exact ⟨_, _, rfl⟩
    subst hv
    have h := AnyF.slices_SortFunc_none Tryz.sortOff p cap (.func (.func 246) #[] #[]) w
    change Calls Tryz.prog 245 _ _ _ at h
    refine h.mono ?_
    rintro e w' ⟨rfl, rfl⟩
    exact ⟨rfl, [], .refl _, .nil, hown, ⟨rfl, rfl, rfl, Nat.le_refl _, fun _ _ _ => rfl⟩⟩
  · obtain ⟨L, hL⟩ := lift_bo E hB
    have hlen : L.length = E.length := by rw [← hL]; simp
    have hown0 := hown
    rw [← hL, ← flat_bo, List.length_map] at hown
    obtain ⟨g, cap, rfl, hbg, hg⟩ := hown.form (by rw [hlen]; exact List.length_pos_iff.2 h0)
    have hk : ∀ x : BO, (encO x).length = 3 := fun _ => rfl
    have hcon := AnyQ.slices_SortFunc Tryz.sortOff 3 Tryz.isAgg301 Tryz.sizeOf301 encO hk (fun x v hv => by simp [encO, encE] at hv; rcases hv with rfl | rfl | rfl <;> rfl) cfO swoO 246 #[] g 0 cap L.toArray w
      (enters_of Tryz.func246 (by kernel_rfl) rfl) (fun _ _ _ _ x y => cmpO_any x y _) (own_holds hk hown) hg (by simpa [hlen] using hsz)
    change Calls Tryz.prog 245 _ _ _ at hcon
    rw [List.size_toArray] at hcon
    refine hcon.mono ?_
    rintro e w' ⟨rfl, d', n, os, hp, hs, rfl⟩
    obtain ⟨hp1, _, hp3⟩ := hp
    have hsz' : d'.toList.length = L.length := by simpa using hp1
    have hperm : d'.toList.Perm L := by
      have e1 : (d'.extract 0 L.length).toList = d'.toList := by
        rw [Array.toList_extract, List.extract_eq_take_drop, List.drop_zero, Nat.sub_zero, ← hsz', List.take_length]
      have e2 : (L.toArray.extract 0 L.length).toList = L := by
        simp [List.extract]
      rw [e1, e2] at hp3
      exact hp3
    obtain ⟨o1, o2⟩ := own_sorted (n := n) (l' := d'.toList) hk os hown hsz'
    have eW : d'.toList.toArray = d' := by simp
    rw [eW] at o1 o2
    refine ⟨rfl, d'.toList.map (·.1), ?_, ?_, ?_, o2⟩
    · rw [← hL]; exact hperm.map _
    · rw [List.pairwise_map, List.pairwise_iff_getElem]
      intro i j hi hj hij
      have := hs i j (Nat.zero_le _) hij (by rw [← hsz']; exact hj)
      have hi' : i < d'.size := by simpa using hi
      have hj' : j < d'.size := by simpa using hj
      rw [getElem!_pos d' i hi', getElem!_pos d' j hj'] at this
      unfold ltOf cfO at this
      have := of_decide_eq_false this
      rw [Array.getElem_toList, Array.getElem_toList]
      omega
    · rw [List.length_map, ← flat_bo, ← hsz']
      rw [hsz'] at o1 ⊢
      exact o1
end Go.Proofs.YtdolpeljengpaaaGreat
