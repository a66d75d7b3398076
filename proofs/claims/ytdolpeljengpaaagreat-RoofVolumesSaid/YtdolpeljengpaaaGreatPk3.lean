/- Texts laid together: MAlong, MLotB, SortI, Held, EqS, Build, SlabA, SlabItA, SlabWA. Lemmas for the statements of this seat; no condition. -/
import Derived.Test.YtdolpeljengpaaaGreatPk1
import Derived.Test.YtdolpeljengpaaaGreatPk2
import Derived.Test.YtdolpeljengpaaaGreatShelf
import Derived.Lib.OwnBridge
import Derived.OrdersHeld
import Derived.Deep.RegionHeld3
import Derived.Laws.StructEq
import Derived.Deep.QuietTactic
import Derived.BigQuiet
import Derived.OwnWalk
import Derived.Laws.EntriesVeiled
import Derived.StillTactics

/- Plain law: how far two regions are along each other: counted by moved rectangles, and by cells between cuts. -/
namespace Go.Proofs.YtdolpeljengpaaaGreat
set_option linter.unusedVariables false
set_option linter.unusedSimpArgs false

def mvA (x y : Int) (r : R4) : R4 := ⟨r.x0 + x, r.y0 + y, r.x1 + x, r.y1 + y⟩
theorem cntP_mv (a : List R4) (x y X Y : Int) : cntP (a.map (mvA x y)) X Y = cntP a (X - x) (Y - y) := by
  induction a with
  | nil => rfl
  | cons r a ih =>
    rw [List.map_cons, cntP_cons, cntP_cons, ih]
    congr 1
    exact ind_iff (by simp only [rin, mvA]; omega)
def shF (a b : List R4) (x y : Int) : Int := (a.map fun p => (b.map fun q => box (meet4 (mvA x y p) q)).sum).sum
theorem shF_vol {m : Nat} {a b : List R4} {x y : Int} (ha : ∀ r ∈ a, inFr m (mvA x y r)) : shF a b x y = vol m (fun X Y => cntP a (X - x) (Y - y) * cntP b X Y) := by
  have h := vol_cnt_cnt (m := m) (a := a.map (mvA x y)) (b := b) (fun r hr => by
    obtain ⟨s, hs, rfl⟩ := List.mem_map.1 hr
    exact ha s hs)
  rw [List.map_map] at h
  unfold shF
  rw [show (fun p => (b.map fun q => box (meet4 (mvA x y p) q)).sum) = ((fun p => (b.map fun q => box (meet4 p q)).sum) ∘ mvA x y) from rfl, ← h]
  exact vol_congr fun X Y _ _ _ _ => by rw [cntP_mv]
def ok4 (r : R4) : Bool := decide (r.x0 < r.x1) && decide (r.y0 < r.y1)
def bothP (p : R4) (b : List R4) : List R4 := (b.map (meet4 p)).filter ok4
def bothL (a b : List R4) : List R4 := a.flatMap fun p => bothP p b
theorem cntP_bothP (p : R4) (b : List R4) (X Y : Int) : cntP (bothP p b) X Y = ind (rin p X Y) * cntP b X Y := by
  induction b with
  | nil => simp [bothP, cntP_nil]
  | cons q b ih =>
    unfold bothP at ih ⊢
    rw [List.map_cons, cntP_cons, Int.mul_add, ← ind_meet, ← ih]
    by_cases h : ok4 (meet4 p q) = true
    · rw [List.filter_cons_of_pos h, cntP_cons]
    · rw [List.filter_cons_of_neg h]
      have : ind (rin (meet4 p q) X Y) = 0 := ind_f (fun hr => h (by
        unfold ok4
        simp only [rin] at hr
        simp only [Bool.and_eq_true, decide_eq_true_eq]
        omega))
      omega
theorem cntP_both (a b : List R4) (X Y : Int) : cntP (bothL a b) X Y = cntP a X Y * cntP b X Y := by
  induction a with
  | nil => simp [bothL, cntP_nil]
  | cons p a ih =>
    unfold bothL at ih ⊢
    rw [List.flatMap_cons, cntP_append, cntP_cons, Int.add_mul, ih, cntP_bothP]
theorem both_fr {m : Nat} {a b : List R4} (ha : ∀ r ∈ a, inFr m r) : ∀ r ∈ bothL a b, inFr m r := by
  intro r hr
  obtain ⟨p, hp, hr⟩ := List.mem_flatMap.1 hr
  obtain ⟨hr, _⟩ := List.mem_filter.1 hr
  obtain ⟨q, hq, rfl⟩ := List.mem_map.1 hr
  have := ha p hp
  simp only [inFr, meet4] at this ⊢
  omega
def dirF (a b : List R4) (x y : Int) : Int := shF a b x y - shF (bothL a b) b x y - shF a (bothL a b) x y + shF (bothL a b) (bothL a b) x y
def alongC (a b : List R4) : Int := dirF a b 1 0 + dirF a b (-1) 0 + dirF a b 0 1 + dirF a b 0 (-1)
/-- A point of the first alone beside one of the second alone. -/
def hitZ (A B U V : Int) : Int := U * (1 - V) * (B * (1 - A)) + A * (1 - B) * (V * (1 - U))
def hit (a b : List R4) (X Y U V : Int) : Int := hitZ (one a X Y) (one b X Y) (one a U V) (one b U V)
def fits (m : Nat) (a : List R4) : Prop := a.Pairwise apart4 ∧ ∀ r ∈ a, inFr m r
theorem fr_mv {m : Nat} {r : R4} {x y : Int} (h : inFr m r) (hx : -1 ≤ x ∧ x ≤ 1) (hy : -1 ≤ y ∧ y ≤ 1) : inFr (m + 1) (mvA x y r) := by
  simp only [inFr, mvA] at h ⊢; omega
theorem dir_vol {m : Nat} {a b : List R4} (ha : fits m a) (hb : fits m b) {x y : Int} (hx : -1 ≤ x ∧ x ≤ 1) (hy : -1 ≤ y ∧ y ≤ 1) :
    dirF a b x y = vol (m + 1) (fun X Y => one a (X - x) (Y - y) * (1 - one b (X - x) (Y - y)) * (one b X Y * (1 - one a X Y))) := by
  unfold dirF
  rw [shF_vol (m := m + 1) (fun r hr => fr_mv (ha.2 r hr) hx hy), shF_vol (m := m + 1) (fun r hr => fr_mv (both_fr ha.2 r hr) hx hy),
    shF_vol (m := m + 1) (fun r hr => fr_mv (ha.2 r hr) hx hy), shF_vol (m := m + 1) (fun r hr => fr_mv (both_fr ha.2 r hr) hx hy), ← vol_sub, ← vol_sub, ← vol_add]
  refine vol_congr fun X Y _ _ _ _ => ?_
  simp only [cntP_both, cntP_ind ha.1, cntP_ind hb.1]
  show _ = one a (X - x) (Y - y) * (1 - one b (X - x) (Y - y)) * (one b X Y * (1 - one a X Y))
  change one a (X - x) (Y - y) * one b X Y - one a (X - x) (Y - y) * one b (X - x) (Y - y) * one b X Y - one a (X - x) (Y - y) * (one a X Y * one b X Y) + one a (X - x) (Y - y) * one b (X - x) (Y - y) * (one a X Y * one b X Y) = _
  rcases one_01 a (X - x) (Y - y) with h1 | h1 <;> rcases one_01 b (X - x) (Y - y) with h2 | h2 <;> rcases one_01 a X Y with h3 | h3 <;> rcases one_01 b X Y with h4 | h4 <;> rw [h1, h2, h3, h4] <;> rfl
theorem one_out {m : Nat} {a : List R4} (ha : ∀ r ∈ a, inFr m r) {x y : Int} (h : ¬ (-(m : Int) ≤ x ∧ x < m ∧ -(m : Int) ≤ y ∧ y < m)) : one a x y = 0 :=
  ind_f fun ⟨r, hr, hx⟩ => h (by have := ha r hr; simp only [inFr, rin] at this hx; omega)
theorem lr_vol {m : Nat} {a b : List R4} (ha : fits m a) (hb : fits m b) : dirF a b 1 0 + dirF a b (-1) 0 = vol (m + 1) (fun X Y => hit a b X Y (X - 1) Y) := by
  have h2 : dirF a b (-1) 0 = vol (m + 1) (fun X Y => one a X Y * (1 - one b X Y) * (one b (X - 1) Y * (1 - one a (X - 1) Y))) := by
    rw [dir_vol ha hb (by omega) (by omega), ← vol_move (m := m + 1) (k := 1) (f := fun X Y => one a X Y * (1 - one b X Y) * (one b (X - 1) Y * (1 - one a (X - 1) Y))) (by omega) 1 0 (by omega) (by omega)]
    · refine vol_congr fun X Y _ _ _ _ => ?_
      have e1 : X - -1 = X + 1 := by omega
      have e2 : Y - 0 = Y + 0 := by omega
      have e3 : X + 1 - 1 = X := by omega
      have e4 : Y + 0 = Y := by omega
      rw [e1, e2, e3, e4]
    · intro X Y h
      rw [one_out ha.2 (x := X) (y := Y) (by simpa using h)]
      simp
  rw [h2, dir_vol ha hb (by omega) (by omega), ← vol_add]
  refine vol_congr fun X Y _ _ _ _ => ?_
  have e4 : Y - 0 = Y := by omega
  rw [e4]
  rfl
/-! ### sums over cuts -/
theorem sum_at {f : Int → Int} : ∀ {cs : List Int} {lo : Int} {n : Nat}, cs.Pairwise (· < ·) → (∀ c ∈ cs, lo ≤ c ∧ c < lo + n) → (∀ i, lo ≤ i → i < lo + n → i ∉ cs → f i = 0) → sumZ f lo n = (cs.map f).sum
  | [], lo, n, _, _, h => by
    rw [sumZ_congr (g := fun _ => 0) (fun i a b => h i a b (by simp)), sumZ_zero]; rfl
  | c :: cs, lo, n, hs, hin, h => by
    obtain ⟨s1, s2⟩ := List.pairwise_cons.1 hs
    have hc := hin c (by simp)
    have ih := sum_at (f := f) (cs := cs) (lo := c + 1) (n := (lo + n - (c + 1)).toNat) s2 (fun d hd => by have := s1 d hd; have := hin d (by simp [hd]); omega)
      (fun i a b hi => h i (by omega) (by omega) (fun hm => by
        rcases List.mem_cons.1 hm with e | hm
        · omega
        · exact hi hm))
    have e : n = (c + 1 - lo).toNat + (lo + n - (c + 1)).toNat := by omega
    rw [e, sumZ_split]
    have e1 : lo + ((c + 1 - lo).toNat : Int) = c + 1 := by omega
    rw [e1, ih, sumZ_in f (lo := lo) (a := c) (b := c + 1) (by omega) (by omega) (by omega) (fun i a b hi => h i a (by omega) (fun hm => by
      rcases List.mem_cons.1 hm with e | hm
      · omega
      · have := s1 i hm; omega))]
    have e2 : (c + 1 - c).toNat = 1 := by omega
    rw [e2]
    simp [sumZ]
theorem sum_cells {g : Int → Int} : ∀ {cs : List Int} {lo : Int} {n : Nat}, cs.Pairwise (· < ·) → (∀ c ∈ cs, lo ≤ c ∧ c ≤ lo + n) → (∀ y, lo ≤ y → (∀ c ∈ cs, y < c) → g y = 0) → (∀ y, (∀ c ∈ cs, c ≤ y) → g y = 0) →
    (∀ p ∈ prs cs, ∀ y, p.1 ≤ y → y < p.2 → g y = g p.1) → sumZ g lo n = ((prs cs).map fun p => (p.2 - p.1) * g p.1).sum
  | [], lo, n, _, _, h1, _, _ => by
    rw [sumZ_congr (g := fun _ => 0) (fun i a b => h1 i a (by simp)), sumZ_zero]; rfl
  | [c], lo, n, _, hin, h1, h2, _ => by
    rw [sumZ_congr (g := fun _ => 0) (fun i a b => by
      by_cases hi : i < c
      · exact h1 i a (by simpa using hi)
      · exact h2 i (by simp; omega)), sumZ_zero]; rfl
  | c :: d :: r, lo, n, hs, hin, h1, h2, hc => by
    obtain ⟨s1, s2⟩ := List.pairwise_cons.1 hs
    have hcd := s1 d (by simp)
    have bc := hin c (by simp)
    have bd := hin d (by simp)
    have ih := sum_cells (g := g) (cs := d :: r) (lo := d) (n := (lo + n - d).toNat) s2 (fun e he => by
        have := hin e (by simp [List.mem_cons.1 he])
        rcases List.mem_cons.1 he with rfl | he
        · omega
        · have := (List.pairwise_cons.1 s2).1 e he; omega)
      (fun y hy h => by have := h d (by simp); omega) (fun y h => h2 y (fun e he => by
        rcases List.mem_cons.1 he with rfl | he
        · have := h d (by simp); omega
        · exact h e he)) (fun p hp => hc p (by simp [prs, hp]))
    have e : n = (c - lo).toNat + ((d - c).toNat + (lo + n - d).toNat) := by omega
    rw [e, sumZ_split, sumZ_split]
    have e1 : lo + ((c - lo).toNat : Int) = c := by omega
    have e2 : c + ((d - c).toNat : Int) = d := by omega
    rw [e1, e2, ih, sumZ_congr (g := fun _ => 0) (fun i a b => h1 i a (fun e he => by
      rcases List.mem_cons.1 he with rfl | he
      · omega
      · have := s1 e he; omega)), sumZ_zero, sumZ_congr (lo := c) (g := fun _ => g c) (fun i a b => hc (c, d) (by simp [prs]) i a (by simpa using (by omega : i < d))), sumZ_const]
    have e3 : ((d - c).toNat : Int) = d - c := by omega
    rw [e3]
    simp [prs]
theorem prs_gap : ∀ {cs : List Int}, cs.Pairwise (· < ·) → ∀ p ∈ prs cs, p.1 ∈ cs ∧ p.2 ∈ cs ∧ ∀ e ∈ cs, e ≤ p.1 ∨ p.2 ≤ e
  | [], _, p, h => by simp [prs] at h
  | [_], _, p, h => by simp [prs] at h
  | c :: d :: r, hs, p, h => by
    obtain ⟨s1, s2⟩ := List.pairwise_cons.1 hs
    simp only [prs, List.mem_cons] at h
    rcases h with rfl | h
    · refine ⟨by simp, by simp, fun e he => ?_⟩
      rcases List.mem_cons.1 he with rfl | he
      · exact .inl (Int.le_refl _)
      · rcases List.mem_cons.1 he with rfl | he
        · exact .inr (Int.le_refl _)
        · have := (List.pairwise_cons.1 s2).1 e he
          exact .inr (by omega)
    · obtain ⟨h1, h2, h3⟩ := prs_gap s2 p h
      refine ⟨List.mem_cons_of_mem _ h1, List.mem_cons_of_mem _ h2, fun e he => ?_⟩
      rcases List.mem_cons.1 he with rfl | he
      · have := s1 _ h1
        exact .inl (by omega)
      · exact h3 e he
theorem one_noX {a : List R4} {xs : List Int} (h : ∀ c ∈ cutsL a, c ∈ xs) {X Y : Int} (hX : X ∉ xs) : one a (X - 1) Y = one a X Y :=
  ind_iff (by
    constructor
    · rintro ⟨r, hr, hx⟩
      have c := mem_cutsL hr
      refine ⟨r, hr, ?_⟩
      have n1 : X ≠ r.x1 := fun e => hX (e ▸ h _ c.2)
      simp only [rin] at hx ⊢; omega
    · rintro ⟨r, hr, hx⟩
      have c := mem_cutsL hr
      refine ⟨r, hr, ?_⟩
      have n1 : X ≠ r.x0 := fun e => hX (e ▸ h _ c.1)
      simp only [rin] at hx ⊢; omega)
theorem hitZ_same {A B : Int} (hA : A = 0 ∨ A = 1) (hB : B = 0 ∨ B = 1) : hitZ A B A B = 0 := by
  rcases hA with rfl | rfl <;> rcases hB with rfl | rfl <;> rfl
theorem along_left {m : Nat} {a b : List R4} (ha : fits m a) (hb : fits m b) {xs ys : List Int} (hx : xs.Pairwise (· < ·)) (hy : ys.Pairwise (· < ·)) (bx : ∀ c ∈ xs, -(m : Int) ≤ c ∧ c ≤ m) (by' : ∀ c ∈ ys, -(m : Int) ≤ c ∧ c ≤ m)
    (xa : ∀ c ∈ cutsL a, c ∈ xs) (xb : ∀ c ∈ cutsL b, c ∈ xs) (ya : ∀ c ∈ cutsY a, c ∈ ys) (yb : ∀ c ∈ cutsY b, c ∈ ys) :
    dirF a b 1 0 + dirF a b (-1) 0 = (xs.map fun x => ((prs ys).map fun p => (p.2 - p.1) * hit a b x p.1 (x - 1) p.1).sum).sum := by
  rw [lr_vol ha hb]
  unfold vol
  rw [sum_at (cs := xs) hx (fun c hc => by have := bx c hc; omega) (fun X _ _ hX => by
    rw [sumZ_congr (g := fun _ => 0) (fun Y _ _ => by
      show hitZ (one a X Y) (one b X Y) (one a (X - 1) Y) (one b (X - 1) Y) = 0
      rw [one_noX xa hX, one_noX xb hX]
      exact hitZ_same (one_01 _ _ _) (one_01 _ _ _)), sumZ_zero])]
  congr 1
  refine List.map_congr_left fun X _ => ?_
  have z : ∀ Y, (∀ U, ¬ pmem a U Y) → (∀ U, ¬ pmem b U Y) → hit a b X Y (X - 1) Y = 0 := fun Y h1 h2 => by
    unfold hit one
    rw [ind_f (h1 _), ind_f (h2 _), ind_f (h1 _), ind_f (h2 _)]
    rfl
  refine sum_cells (cs := ys) hy (fun c hc => by have := by' c hc; omega) (fun Y _ h => z Y (fun U => pmem_loY ya h) (fun U => pmem_loY yb h)) (fun Y h => z Y (fun U => pmem_hiY ya h) (fun U => pmem_hiY yb h)) (fun p hp Y h1 h2 => ?_)
  obtain ⟨_, _, g⟩ := prs_gap hy p hp
  show hitZ (ind (pmem a X Y)) (ind (pmem b X Y)) (ind (pmem a (X - 1) Y)) (ind (pmem b (X - 1) Y)) = hitZ (ind (pmem a X p.1)) (ind (pmem b X p.1)) (ind (pmem a (X - 1) p.1)) (ind (pmem b (X - 1) p.1))
  rw [ind_iff (pmem_sameY (x := X) ya g h1 h2), ind_iff (pmem_sameY (x := X) yb g h1 h2), ind_iff (pmem_sameY (x := X - 1) ya g h1 h2), ind_iff (pmem_sameY (x := X - 1) yb g h1 h2)]
/-! ### x and y change places -/
def fl4 (r : R4) : R4 := ⟨r.y0, r.x0, r.y1, r.x1⟩
theorem pmem_fl (a : List R4) (x y : Int) : pmem (a.map fl4) x y ↔ pmem a y x := by
  unfold pmem
  constructor
  · rintro ⟨r, hr, h⟩
    obtain ⟨s, hs, rfl⟩ := List.mem_map.1 hr
    exact ⟨s, hs, by simp only [rin, fl4] at h ⊢; omega⟩
  · rintro ⟨r, hr, h⟩
    exact ⟨fl4 r, List.mem_map.2 ⟨r, hr, rfl⟩, by simp only [rin, fl4] at h ⊢; omega⟩
theorem one_fl (a : List R4) (x y : Int) : one (a.map fl4) x y = one a y x := ind_iff (pmem_fl a x y)
theorem fits_fl {m : Nat} {a : List R4} (h : fits m a) : fits m (a.map fl4) := by
  refine ⟨?_, fun r hr => ?_⟩
  · rw [List.pairwise_map]
    exact h.1.imp fun {p q} hpq x y ⟨h1, h2⟩ => hpq y x ⟨by simp only [rin, fl4] at h1 ⊢; omega, by simp only [rin, fl4] at h2 ⊢; omega⟩
  · obtain ⟨s, hs, rfl⟩ := List.mem_map.1 hr
    have := h.2 s hs
    simp only [inFr, fl4] at this ⊢; omega
theorem cuts_fl (a : List R4) : cutsL (a.map fl4) = cutsY a ∧ cutsY (a.map fl4) = cutsL a := by
  unfold cutsL cutsY
  rw [List.flatMap_map, List.flatMap_map]
  exact ⟨rfl, rfl⟩
theorem dir_fl {m : Nat} {a b : List R4} (ha : fits m a) (hb : fits m b) {x y : Int} (hx : -1 ≤ x ∧ x ≤ 1) (hy : -1 ≤ y ∧ y ≤ 1) : dirF (a.map fl4) (b.map fl4) y x = dirF a b x y := by
  rw [dir_vol ha hb hx hy, dir_vol (fits_fl ha) (fits_fl hb) hy hx]
  unfold vol
  rw [sumZ_comm]
  exact sumZ_congr fun X _ _ => sumZ_congr fun Y _ _ => by simp only [one_fl]
theorem along_low {m : Nat} {a b : List R4} (ha : fits m a) (hb : fits m b) {xs ys : List Int} (hx : xs.Pairwise (· < ·)) (hy : ys.Pairwise (· < ·)) (bx : ∀ c ∈ xs, -(m : Int) ≤ c ∧ c ≤ m) (by' : ∀ c ∈ ys, -(m : Int) ≤ c ∧ c ≤ m)
    (xa : ∀ c ∈ cutsL a, c ∈ xs) (xb : ∀ c ∈ cutsL b, c ∈ xs) (ya : ∀ c ∈ cutsY a, c ∈ ys) (yb : ∀ c ∈ cutsY b, c ∈ ys) :
    dirF a b 0 1 + dirF a b 0 (-1) = (ys.map fun y => ((prs xs).map fun p => (p.2 - p.1) * hit a b p.1 y p.1 (y - 1)).sum).sum := by
  rw [← dir_fl ha hb (x := 0) (y := 1) (by omega) (by omega), ← dir_fl ha hb (x := 0) (y := -1) (by omega) (by omega),
    along_left (fits_fl ha) (fits_fl hb) hy hx by' bx (by rw [(cuts_fl a).1]; exact ya) (by rw [(cuts_fl b).1]; exact yb) (by rw [(cuts_fl a).2]; exact xa) (by rw [(cuts_fl b).2]; exact xb)]
  simp only [hit, one_fl]
/-! ### by cells -/
def inC (a : List R4) (xs ys : List Int) (i k : Int) : Bool := if i < 0 ∨ k < 0 then false else decide (pmem a (xs.getD i.toNat 0) (ys.getD k.toNat 0))
def hitB (p q u v : Bool) : Bool := p != q && (u == q && v == p)
def tL (a b : List R4) (xs ys : List Int) (i k : Nat) : Int := if hitB (inC a xs ys i k) (inC b xs ys i k) (inC a xs ys ((i : Int) - 1) k) (inC b xs ys ((i : Int) - 1) k) = true ∧ k + 1 < ys.length then ys.getD (k + 1) 0 - ys.getD k 0 else 0
def tB (a b : List R4) (xs ys : List Int) (i k : Nat) : Int := if hitB (inC a xs ys i k) (inC b xs ys i k) (inC a xs ys i ((k : Int) - 1)) (inC b xs ys i ((k : Int) - 1)) = true ∧ i + 1 < xs.length then xs.getD (i + 1) 0 - xs.getD i 0 else 0
def rowA (a b : List R4) (xs ys : List Int) (i n : Nat) : Int := ((List.range n).map fun k => tL a b xs ys i k + tB a b xs ys i k).sum
def alongR (a b : List R4) (xs ys : List Int) (n : Nat) : Int := ((List.range n).map fun i => rowA a b xs ys i ys.length).sum
theorem sum_add2 (f g : Nat → Int) : ∀ l : List Nat, (l.map fun k => f k + g k).sum = (l.map f).sum + (l.map g).sum
  | [] => rfl
  | k :: l => by have := sum_add2 f g l; simp only [List.map_cons, List.sum_cons, this]; omega
theorem sum_zero2 : ∀ l : List Nat, (l.map fun _ => (0 : Int)).sum = 0
  | [] => rfl
  | k :: l => by have := sum_zero2 l; simp only [List.map_cons, List.sum_cons, this]; omega
theorem sum_comm2 (f : Nat → Nat → Int) (m : List Nat) : ∀ l : List Nat, (l.map fun i => (m.map fun k => f i k).sum).sum = (m.map fun k => (l.map fun i => f i k).sum).sum
  | [] => by simp only [List.map_nil, List.sum_nil]; exact (sum_zero2 m).symm
  | i :: l => by
    simp only [List.map_cons, List.sum_cons]
    rw [sum_comm2 f m l, ← sum_add2]
theorem range_prs (F : Int → Int → Int) : ∀ ys : List Int, ((List.range ys.length).map fun k => if k + 1 < ys.length then F (ys.getD k 0) (ys.getD (k + 1) 0) else 0).sum = ((prs ys).map fun p => F p.1 p.2).sum
  | [] => rfl
  | [c] => by simp [prs]
  | c :: d :: r => by
    have ih := range_prs F (d :: r)
    rw [List.length_cons, List.range_succ_eq_map, List.map_cons, List.sum_cons, List.map_map]
    simp only [prs, List.map_cons, List.sum_cons]
    rw [← ih]
    have e : (if 0 + 1 < (d :: r).length + 1 then F ((c :: d :: r).getD 0 0) ((c :: d :: r).getD (0 + 1) 0) else 0) = F c d := by simp
    rw [e]
    congr 2
    refine List.map_congr_left fun k _ => ?_
    simp
theorem range_map (G : Int → Int) : ∀ xs : List Int, ((List.range xs.length).map fun i => G (xs.getD i 0)).sum = (xs.map G).sum
  | [] => rfl
  | c :: r => by
    have ih := range_map G r
    rw [List.length_cons, List.range_succ_eq_map, List.map_cons, List.sum_cons, List.map_map, List.map_cons, List.sum_cons, ← ih]
    rfl
theorem inC_at (a : List R4) (xs ys : List Int) (i k : Nat) : inC a xs ys i k = decide (pmem a (xs.getD i 0) (ys.getD k 0)) := by
  unfold inC
  rw [if_neg (by omega)]
  rfl
theorem getD_of {l : List Int} {i : Nat} (h : i < l.length) : l.getD i 0 = l[i] := by simp [List.getD, h]
theorem inC_left {a : List R4} {xs ys : List Int} (hs : xs.Pairwise (· < ·)) (xa : ∀ c ∈ cutsL a, c ∈ xs) {i k : Nat} (hi : i < xs.length) : inC a xs ys ((i : Int) - 1) k = decide (pmem a (xs.getD i 0 - 1) (ys.getD k 0)) := by
  unfold inC
  by_cases h0 : i = 0
  · subst h0
    rw [if_pos (by omega)]
    refine (decide_eq_false ?_).symm
    rintro ⟨r, hr, hx⟩
    have c := xa _ (mem_cutsL hr).1
    obtain ⟨j, hj, e⟩ := List.getElem_of_mem c
    have : xs.getD 0 0 ≤ r.x0 := by
      rw [getD_of hi, ← e]
      by_cases j0 : j = 0
      · subst j0; exact Int.le_refl _
      · exact Int.le_of_lt (List.pairwise_iff_getElem.1 hs 0 j hi hj (by omega))
    simp only [rin] at hx; omega
  · rw [if_neg (by omega)]
    have e1 : ((i : Int) - 1).toNat = i - 1 := by omega
    rw [e1]
    have hlt := List.pairwise_iff_getElem.1 hs (i - 1) i (by omega) hi (by omega)
    refine decide_eq_decide.2 ?_
    rw [getD_of hi, getD_of (by omega : i - 1 < xs.length)]
    have gap : ∀ e ∈ xs, e ≤ xs[i - 1] ∨ xs[i] ≤ e := fun e he => by
      obtain ⟨j, hj, rfl⟩ := List.getElem_of_mem he
      by_cases hji : j < i
      · left
        by_cases j1 : j = i - 1
        · subst j1; exact Int.le_refl _
        · exact Int.le_of_lt (List.pairwise_iff_getElem.1 hs j (i - 1) hj (by omega) (by omega))
      · right
        by_cases j1 : j = i
        · subst j1; exact Int.le_refl _
        · exact Int.le_of_lt (List.pairwise_iff_getElem.1 hs i j hi hj (by omega))
    unfold pmem
    constructor
    · rintro ⟨r, hr, hx⟩
      refine ⟨r, hr, ?_⟩
      have g := gap _ (xa _ (mem_cutsL hr).2)
      simp only [rin, Int.toNat_natCast] at hx ⊢; omega
    · rintro ⟨r, hr, hx⟩
      refine ⟨r, hr, ?_⟩
      have g := gap _ (xa _ (mem_cutsL hr).1)
      simp only [rin, Int.toNat_natCast] at hx ⊢; omega
theorem inC_fl (a : List R4) (xs ys : List Int) (i k : Int) : inC (a.map fl4) ys xs k i = inC a xs ys i k := by
  unfold inC
  by_cases h : i < 0 ∨ k < 0
  · rw [if_pos h, if_pos (Or.symm h)]
  · rw [if_neg h, if_neg (fun g => h (Or.symm g))]
    exact decide_eq_decide.2 (pmem_fl _ _ _)
theorem hitB_Z (p q u v : Prop) [Decidable p] [Decidable q] [Decidable u] [Decidable v] : (if hitB (decide p) (decide q) (decide u) (decide v) = true then (1 : Int) else 0) = hitZ (ind p) (ind q) (ind u) (ind v) := by
  by_cases hp : p <;> by_cases hq : q <;> by_cases hu : u <;> by_cases hv : v <;> simp [hitB, hitZ, ind, hp, hq, hu, hv]
theorem tL_sum {a b : List R4} {xs ys : List Int} (hs : xs.Pairwise (· < ·)) (xa : ∀ c ∈ cutsL a, c ∈ xs) (xb : ∀ c ∈ cutsL b, c ∈ xs) {i : Nat} (hi : i < xs.length) :
    ((List.range ys.length).map fun k => tL a b xs ys i k).sum = ((prs ys).map fun p => (p.2 - p.1) * hit a b (xs.getD i 0) p.1 (xs.getD i 0 - 1) p.1).sum := by
  rw [← range_prs (fun c d => (d - c) * hit a b (xs.getD i 0) c (xs.getD i 0 - 1) c) ys]
  congr 1
  refine List.map_congr_left fun k _ => ?_
  unfold tL hit one
  rw [inC_at, inC_at, inC_left hs xa hi, inC_left hs xb hi, ← hitB_Z]
  generalize hitB _ _ _ _ = h
  cases h <;> by_cases hk : k + 1 < ys.length <;> simp [hk]
theorem tB_tL (a b : List R4) (xs ys : List Int) (i k : Nat) : tB a b xs ys i k = tL (a.map fl4) (b.map fl4) ys xs k i := by
  unfold tB tL
  rw [inC_fl, inC_fl, inC_fl, inC_fl]
theorem along_eq {m : Nat} {a b : List R4} (ha : fits m a) (hb : fits m b) {xs ys : List Int} (hx : xs.Pairwise (· < ·)) (hy : ys.Pairwise (· < ·)) (bx : ∀ c ∈ xs, -(m : Int) ≤ c ∧ c ≤ m) (by' : ∀ c ∈ ys, -(m : Int) ≤ c ∧ c ≤ m)
    (xa : ∀ c ∈ cutsL a, c ∈ xs) (xb : ∀ c ∈ cutsL b, c ∈ xs) (ya : ∀ c ∈ cutsY a, c ∈ ys) (yb : ∀ c ∈ cutsY b, c ∈ ys) : alongR a b xs ys xs.length = alongC a b := by
  have e1 := along_left ha hb hx hy bx by' xa xb ya yb
  have e2 := along_low ha hb hx hy bx by' xa xb ya yb
  have h1 : ((List.range xs.length).map fun i => ((List.range ys.length).map fun k => tL a b xs ys i k).sum).sum = dirF a b 1 0 + dirF a b (-1) 0 := by
    rw [e1, ← range_map (fun x => ((prs ys).map fun p => (p.2 - p.1) * hit a b x p.1 (x - 1) p.1).sum) xs]
    congr 1
    refine List.map_congr_left fun i hi => ?_
    exact tL_sum hx xa xb (List.mem_range.1 hi)
  have h2 : ((List.range xs.length).map fun i => ((List.range ys.length).map fun k => tB a b xs ys i k).sum).sum = dirF a b 0 1 + dirF a b 0 (-1) := by
    rw [e2, sum_comm2, ← range_map (fun y => ((prs xs).map fun p => (p.2 - p.1) * hit a b p.1 y p.1 (y - 1)).sum) ys]
    congr 1
    refine List.map_congr_left fun k hk => ?_
    simp only [tB_tL]
    rw [tL_sum (a := a.map fl4) (b := b.map fl4) (xs := ys) (ys := xs) hy (by rw [(cuts_fl a).1]; exact ya) (by rw [(cuts_fl b).1]; exact yb) (List.mem_range.1 hk)]
    simp only [hit, one_fl]
  unfold alongR alongC rowA
  simp only [sum_add2]
  rw [h1, h2]
  omega
end Go.Proofs.YtdolpeljengpaaaGreat

/- Plain law: the fronts of a lot's lots; lots that are turned or moved. -/
namespace Go.Proofs.YtdolpeljengpaaaGreat
set_option linter.unusedVariables false
set_option linter.unusedSimpArgs false

def isSide (s : Int) : Prop := s = 1 ∨ s = 2 ∨ s = 4 ∨ s = 8
def onS (a b : R4) (s : Int) : Bool := if s = 1 then decide (a.x0 = b.x0) else if s = 2 then decide (a.x1 = b.x1) else if s = 4 then decide (a.y0 = b.y0) else decide (a.y1 = b.y1)
theorem f16 {f : Int} (h : 0 ≤ f ∧ f ≤ 15) : ∃ n : Nat, n ∈ List.range 16 ∧ f = (n : Int) := ⟨f.toNat, by simp; omega, by omega⟩
theorem less_all : ∀ n ∈ List.range 16, ∀ s ∈ ([1, 2, 4, 8] : List Int), ∀ t ∈ ([1, 2, 4, 8] : List Int), hasS (lessS (n : Int) t) s = (hasS (n : Int) s && decide (s ≠ t)) ∧ 0 ≤ lessS (n : Int) t ∧ lessS (n : Int) t ≤ 15 := by decide
theorem side_mem {s : Int} (h : isSide s) : s ∈ ([1, 2, 4, 8] : List Int) := by
  rcases h with rfl | rfl | rfl | rfl <;> simp
theorem has_less {f s t : Int} (h : 0 ≤ f ∧ f ≤ 15) (hs : isSide s) (ht : isSide t) : hasS (lessS f t) s = (hasS f s && decide (s ≠ t)) := by
  obtain ⟨n, hn, rfl⟩ := f16 h
  exact (less_all n hn s (side_mem hs) t (side_mem ht)).1
theorem less_15 {f t : Int} (h : 0 ≤ f ∧ f ≤ 15) (ht : isSide t) : 0 ≤ lessS f t ∧ lessS f t ≤ 15 := by
  obtain ⟨n, hn, rfl⟩ := f16 h
  exact (less_all n hn 1 (by simp) t (side_mem ht)).2
theorem cut_front {p : Pl3} {l a b : Lot5} (h : cutL p l = some (a, b)) {s : Int} (hs : isSide s) : hasS a.f s = (hasS l.f s && onS a.r l.r s) ∧ hasS b.f s = (hasS l.f s && onS b.r l.r s) := by
  obtain ⟨h1, h2, h3, _, h4⟩ := cutL_some h
  have q1 := h1.1.1
  have q2 := h2.1.1
  have q3 := h3.1.1
  have hf : 0 ≤ l.f ∧ l.f ≤ 15 := by have := h1.1.2; omega
  rcases h4 with h4 | h4
  · simp only [wideL, Prod.mk.injEq] at h4
    obtain ⟨rfl, rfl⟩ := h4
    simp only [okR] at q1 q2 q3
    dsimp only
    rw [has_less hf hs (.inr (.inl rfl)), has_less hf hs (.inl rfl)]
    unfold onS
    generalize l.w / 2 = t at *
    have n1 : ¬ l.r.x0 + t = l.r.x1 := by omega
    have n2 : ¬ l.r.x0 + t = l.r.x0 := by omega
    rcases hs with rfl | rfl | rfl | rfl <;> simp [n1, n2]
  · simp only [highL, Prod.mk.injEq] at h4
    obtain ⟨rfl, rfl⟩ := h4
    simp only [okR] at q1 q2 q3
    dsimp only
    rw [has_less hf hs (.inr (.inr (.inr rfl))), has_less hf hs (.inr (.inr (.inl rfl)))]
    unfold onS
    generalize l.h / 2 = t at *
    have n1 : ¬ l.r.y0 + t = l.r.y1 := by omega
    have n2 : ¬ l.r.y0 + t = l.r.y0 := by omega
    rcases hs with rfl | rfl | rfl | rfl <;> simp [n1, n2]
theorem on_trans {a b c : R4} {s : Int} (h1 : b.x0 ≤ a.x0 ∧ b.y0 ≤ a.y0 ∧ a.x1 ≤ b.x1 ∧ a.y1 ≤ b.y1) (h2 : c.x0 ≤ b.x0 ∧ c.y0 ≤ b.y0 ∧ b.x1 ≤ c.x1 ∧ b.y1 ≤ c.y1) : (onS b c s && onS a b s) = onS a c s := by
  unfold onS
  have k : ∀ p q r : Prop, [Decidable p] → [Decidable q] → [Decidable r] → (p ∧ q ↔ r) → (decide p && decide q) = decide r := fun p q r _ _ _ h => by
    rw [← Bool.decide_and]; exact decide_eq_decide.2 h
  split
  · exact k _ _ _ (by omega)
  · split
    · exact k _ _ _ (by omega)
    · split
      · exact k _ _ _ (by omega)
      · exact k _ _ _ (by omega)
theorem cut_in {p : Pl3} {l a b : Lot5} (hv : validL l) (h : cutL p l = some (a, b)) : (l.r.x0 ≤ a.r.x0 ∧ l.r.y0 ≤ a.r.y0 ∧ a.r.x1 ≤ l.r.x1 ∧ a.r.y1 ≤ l.r.y1) ∧ (l.r.x0 ≤ b.r.x0 ∧ l.r.y0 ≤ b.r.y0 ∧ b.r.x1 ≤ l.r.x1 ∧ b.r.y1 ≤ l.r.y1) := by
  obtain ⟨_, h2, h3, _, h4⟩ := cutL_some h
  have q1 := hv.1
  have q2 := h2.1.1
  have q3 := h3.1.1
  rcases h4 with h4 | h4 <;>
  · simp only [wideL, highL, Prod.mk.injEq] at h4
    obtain ⟨rfl, rfl⟩ := h4
    simp only [okR] at q1 q2 q3
    dsimp only
    generalize l.w / 2 = t at *
    generalize l.h / 2 = t2 at *
    omega
/-- A side in the front of one of the lots lies on a side in the front of the lot, and the other way round. -/
theorem leaves_front (p : Pl3) {s : Int} (hs : isSide s) : ∀ l, validL l → ∀ x ∈ leaves p l, hasS x.f s = (hasS l.f s && onS x.r l.r s) := cut_ind (p := p)
  (fun l h _ => by
    rw [leaves_none h]; intro x hx; rw [List.mem_singleton] at hx; subst hx
    have : onS x.r x.r s = true := by unfold onS; split <;> (try split) <;> (try split) <;> simp
    rw [this, Bool.and_true])
  (fun l a b h ha hb hv => by
    obtain ⟨_, h2, h3, _⟩ := cutL_some h
    obtain ⟨f1, f2⟩ := cut_front h hs
    obtain ⟨i1, i2⟩ := cut_in hv h
    rw [leaves_some h]
    intro x hx
    rcases List.mem_append.1 hx with hx | hx
    · rw [ha h2.1 x hx, f1, Bool.and_assoc, on_trans (leaves_in p a h2.1 x hx) i1]
    · rw [hb h3.1 x hx, f2, Bool.and_assoc, on_trans (leaves_in p b h3.1 x hx) i2])
/-! ### moved -/
def moveL (x y : Int) (l : Lot5) : Lot5 := ⟨mvA x y l.r, l.f⟩
theorem move_wh (x y : Int) (l : Lot5) : (moveL x y l).w = l.w ∧ (moveL x y l).h = l.h := by
  simp only [moveL, mvA, Lot5.w, Lot5.h]; omega
theorem move_long (x y : Int) (l : Lot5) : longL (moveL x y l) = longL l := by
  unfold longL
  rw [(move_wh x y l).1, (move_wh x y l).2]
  rfl
theorem move_good {p : Pl3} {x y : Int} {l : Lot5} (h : validL (moveL x y l) ↔ validL l) : goodL p (moveL x y l) ↔ goodL p l := by
  unfold goodL
  rw [move_long, (move_wh x y l).1, (move_wh x y l).2, h]
theorem move_way (x y : Int) (d : Bool) (l : Lot5) : wayL d (moveL x y l) = (moveL x y (wayL d l).1, moveL x y (wayL d l).2) := by
  obtain ⟨e1, e2⟩ := move_wh x y l
  unfold wayL
  cases d
  · simp only [Bool.false_eq_true, if_false]
    simp only [highL, e2]
    simp only [moveL, mvA, Prod.mk.injEq, Lot5.mk.injEq, R4.mk.injEq, true_and, and_true]
    omega
  · simp only [if_true]
    simp only [wideL, e1]
    simp only [moveL, mvA, Prod.mk.injEq, Lot5.mk.injEq, R4.mk.injEq, true_and, and_true]
    omega
theorem move_part {x y : Int} {l : Lot5} (h1 : validL l) (h2 : validL (moveL x y l)) (d : Bool) : (validL (moveL x y (wayL d l).1) ↔ validL (wayL d l).1) ∧ (validL (moveL x y (wayL d l).2) ↔ validL (wayL d l).2) := by
  have q := valid_pos h1
  unfold wayL
  cases d
  · simp only [Bool.false_eq_true, if_false, validL, okR, inR, moveL, mvA, highL] at h1 h2 ⊢
    simp only [Lot5.w, Lot5.h] at q ⊢
    omega
  · simp only [if_true, validL, okR, inR, moveL, mvA, wideL] at h1 h2 ⊢
    simp only [Lot5.w, Lot5.h] at q ⊢
    omega
theorem move_cut {p : Pl3} {x y : Int} {l : Lot5} (h1 : validL l) (h2 : validL (moveL x y l)) : cutL p (moveL x y l) = (cutL p l).map fun q => (moveL x y q.1, moveL x y q.2) := by
  obtain ⟨e1, e2⟩ := move_wh x y l
  have hg := move_good (p := p) (x := x) (y := y) (l := l) ⟨fun _ => h1, fun _ => h2⟩
  have hb : ∀ d, bothG p (wayL d (moveL x y l)) = bothG p (wayL d l) := fun d => by
    rw [move_way]
    obtain ⟨m1, m2⟩ := move_part h1 h2 d
    unfold bothG
    rw [decide_eq_decide.2 (move_good (p := p) m1), decide_eq_decide.2 (move_good (p := p) m2)]
  unfold cutL
  rw [e1, e2]
  by_cases h0 : l.w * l.h ≤ p.ma ∨ ¬ goodL p l
  · rw [if_pos h0, if_pos (by rw [hg]; exact h0)]; rfl
  rw [if_neg h0, if_neg (by rw [hg]; exact h0), hb, hb]
  by_cases c1 : bothG p (wayL (decide (l.h ≤ l.w)) l) = true
  · rw [if_pos c1, if_pos c1, move_way]; rfl
  rw [if_neg c1, if_neg c1]
  by_cases c2 : bothG p (wayL (decide (l.w < l.h)) l) = true
  · rw [if_pos c2, if_pos c2, move_way]; rfl
  · rw [if_neg c2, if_neg c2]; rfl
theorem move_leaves (p : Pl3) (x y : Int) : ∀ l, validL l → validL (moveL x y l) → leaves p (moveL x y l) = (leaves p l).map (moveL x y) := cut_ind (p := p)
  (fun l h h1 h2 => by
    rw [leaves_none h, leaves_none (by rw [move_cut h1 h2, h]; rfl)]; rfl)
  (fun l a b h ha hb h1 h2 => by
    have hm := move_cut (p := p) h1 h2
    rw [h] at hm
    obtain ⟨_, g2, g3, _⟩ := cutL_some h
    obtain ⟨_, k2, k3, _⟩ := cutL_some (a := moveL x y a) (b := moveL x y b) hm
    rw [leaves_some h, leaves_some (a := moveL x y a) (b := moveL x y b) hm, ha g2.1 k2.1, hb g3.1 k3.1, List.map_append])
/-! ### x and y change places -/
def turnF (f : Int) : Int := (if hasS f 1 = true then 4 else 0) + (if hasS f 2 = true then 8 else 0) + (if hasS f 4 = true then 1 else 0) + (if hasS f 8 = true then 2 else 0)
def turnL (l : Lot5) : Lot5 := ⟨fl4 l.r, turnF l.f⟩
theorem turn_all : ∀ n ∈ List.range 16, (1 ≤ turnF (n : Int) ↔ 1 ≤ (n : Int)) ∧ turnF (n : Int) ≤ 15 ∧ hasS (turnF (n : Int)) 1 = hasS (n : Int) 4 ∧ hasS (turnF (n : Int)) 2 = hasS (n : Int) 8 ∧ hasS (turnF (n : Int)) 4 = hasS (n : Int) 1 ∧ hasS (turnF (n : Int)) 8 = hasS (n : Int) 2 ∧
    lessS (turnF (n : Int)) 1 = turnF (lessS (n : Int) 4) ∧ lessS (turnF (n : Int)) 2 = turnF (lessS (n : Int) 8) ∧ lessS (turnF (n : Int)) 4 = turnF (lessS (n : Int) 1) ∧ lessS (turnF (n : Int)) 8 = turnF (lessS (n : Int) 2) := by decide
theorem turn_wh (l : Lot5) : (turnL l).w = l.h ∧ (turnL l).h = l.w := ⟨rfl, rfl⟩
theorem turn_valid {l : Lot5} (h : 0 ≤ l.f ∧ l.f ≤ 15) : validL (turnL l) ↔ validL l := by
  obtain ⟨n, hn, e⟩ := f16 h
  have t := turn_all n hn
  rw [← e] at t
  simp only [validL, okR, inR, turnL, fl4]
  omega
theorem turn_long {l : Lot5} (h : 0 ≤ l.f ∧ l.f ≤ 15) : longL (turnL l) = longL l := by
  obtain ⟨n, hn, e⟩ := f16 h
  have t := turn_all n hn
  rw [← e] at t
  unfold longL
  rw [(turn_wh l).1, (turn_wh l).2]
  show max (if hasS (turnF l.f) 1 = true ∨ hasS (turnF l.f) 2 = true then l.w else 0) (if hasS (turnF l.f) 4 = true ∨ hasS (turnF l.f) 8 = true then l.h else 0) = _
  rw [t.2.2.1, t.2.2.2.1, t.2.2.2.2.1, t.2.2.2.2.2.1]
  exact Int.max_comm _ _
theorem turn_good {p : Pl3} {l : Lot5} (h : 0 ≤ l.f ∧ l.f ≤ 15) : goodL p (turnL l) ↔ goodL p l := by
  unfold goodL
  rw [turn_long h, (turn_wh l).1, (turn_wh l).2, turn_valid h]
  constructor <;> rintro ⟨a, b, c, d⟩ <;> exact ⟨a, b, d, c⟩
theorem turn_way (d : Bool) {l : Lot5} (h : 0 ≤ l.f ∧ l.f ≤ 15) : wayL d (turnL l) = (turnL (wayL (!d) l).1, turnL (wayL (!d) l).2) := by
  obtain ⟨n, hn, e⟩ := f16 h
  have t := turn_all n hn
  rw [← e] at t
  unfold wayL
  cases d
  · simp only [Bool.false_eq_true, if_false, Bool.not_false, if_true]
    simp only [highL, wideL, (turn_wh l).2]
    simp only [turnL, fl4, t.2.2.2.2.2.2.2.2.1, t.2.2.2.2.2.2.2.2.2]
  · simp only [Bool.false_eq_true, if_false, Bool.not_true, if_true]
    simp only [highL, wideL, (turn_wh l).1]
    simp only [turnL, fl4, t.2.2.2.2.2.2.1, t.2.2.2.2.2.2.2.1]
theorem way_15 {l : Lot5} (h : 0 ≤ l.f ∧ l.f ≤ 15) (d : Bool) : (0 ≤ (wayL d l).1.f ∧ (wayL d l).1.f ≤ 15) ∧ (0 ≤ (wayL d l).2.f ∧ (wayL d l).2.f ≤ 15) := by
  unfold wayL
  cases d
  · exact ⟨less_15 h (.inr (.inr (.inr rfl))), less_15 h (.inr (.inr (.inl rfl)))⟩
  · exact ⟨less_15 h (.inr (.inl rfl)), less_15 h (.inl rfl)⟩
theorem turn_cut {p : Pl3} {l : Lot5} (h : 0 ≤ l.f ∧ l.f ≤ 15) (hne : l.w ≠ l.h) : cutL p (turnL l) = (cutL p l).map fun q => (turnL q.1, turnL q.2) := by
  obtain ⟨e1, e2⟩ := turn_wh l
  have hg := turn_good (p := p) h
  have hb : ∀ d, bothG p (wayL d (turnL l)) = bothG p (wayL (!d) l) := fun d => by
    rw [turn_way d h]
    obtain ⟨m1, m2⟩ := way_15 h (!d)
    unfold bothG
    rw [decide_eq_decide.2 (turn_good (p := p) m1), decide_eq_decide.2 (turn_good (p := p) m2)]
  have d1 : (!decide (l.w ≤ l.h)) = decide (l.h ≤ l.w) := by
    rw [← decide_not]; exact decide_eq_decide.2 (by omega)
  have d2 : (!decide (l.h < l.w)) = decide (l.w < l.h) := by
    rw [← decide_not]; exact decide_eq_decide.2 (by omega)
  unfold cutL
  rw [e1, e2, hb, hb, turn_way _ h, turn_way _ h, d1, d2]
  by_cases h0 : l.w * l.h ≤ p.ma ∨ ¬ goodL p l
  · rw [if_pos h0, if_pos (by rw [hg, Int.mul_comm]; exact h0)]; rfl
  rw [if_neg h0, if_neg (by rw [hg, Int.mul_comm]; exact h0)]
  by_cases c1 : bothG p (wayL (decide (l.h ≤ l.w)) l) = true
  · rw [if_pos c1, if_pos c1]; rfl
  rw [if_neg c1, if_neg c1]
  by_cases c2 : bothG p (wayL (decide (l.w < l.h)) l) = true
  · rw [if_pos c2, if_pos c2]; rfl
  · rw [if_neg c2, if_neg c2]; rfl
end Go.Proofs.YtdolpeljengpaaaGreat

/- slices.Sort and slices.Compact on a row of the call's own. -/
namespace Go.Proofs.YtdolpeljengpaaaGreat
open Go.RowKit Go.Sort
set_option linter.unusedVariables false
set_option linter.unusedSimpArgs false

abbrev iv (x : Int) : Value := .int .i64 x
theorem own_grow {w : World} {base size : Nat} {e : TypeId} {v : Value} {n : Nat} {xs : List Value} (h : w.ownsRow base e size v n xs) (os : Array Obj) : (grow w os).ownsRow base e size v n xs := by
  refine ⟨h.1, ?_⟩
  rcases h.2 with hn | ⟨g, cap, cur, hv, hg, hh, r⟩
  · exact .inl hn
  · refine .inr ⟨g, cap, cur, hv, hg, ?_, r⟩
    show (w.heap ++ os)[g]? = _
    rw [Array.getElem?_append_left (Array.getElem?_eq_some_iff.1 hh).1]
    exact hh
theorem putRow_grown {α : Type} [Inhabited α] {enc : α → Value} (w : World) (q g : Nat) (d : Array α) (os : Array Obj) : w.grownBy (grow (putRow enc (Sort.ahead w q) g 0 d) os) (some g) := by
  refine ⟨rfl, rfl, rfl, ?_, fun k hk hne => ?_⟩
  · show w.heap.size ≤ (_ ++ os).size
    simp [putRow, mapBlock, Sort.ahead]
  · have hg : g ≠ k := fun e => hne (by rw [e])
    show ((putRow enc (Sort.ahead w q) g 0 d).heap ++ os)[k]? = _
    rw [Array.getElem?_append_left (by simpa [putRow, mapBlock, Sort.ahead] using hk)]
    simp [putRow, mapBlock, Sort.ahead, Array.getElem?_modify, hg]
theorem grown_self (w : World) (row : Option Nat) : w.grownBy w row := ⟨rfl, rfl, rfl, Nat.le_refl _, fun _ _ _ => rfl⟩
theorem own_form {w : World} {base size : Nat} {e : TypeId} {v : Value} {n : Nat} {xs : List Value} (h : w.ownsRow base e size v n xs) : ∃ A c, v = .slice A n c := by
  rcases h.2 with ⟨rfl, rfl⟩ | ⟨g, cap, cur, rfl, _⟩
  · exact ⟨_, _, rfl⟩
  · exact ⟨_, _, rfl⟩

theorem sortI_any (base : Nat) (v : Value) (zs : List Int) (w : World) (hown : w.ownsRow base 3 1 v zs.length (zs.map iv)) (hsz : zs.length < 4611686018427387904) :
    Calls Tryz.prog 178 #[v] w fun e w' => e = .returned (.tuple #[]) ∧ w'.ownsRow base 3 1 v zs.length ((zs.mergeSort fun x y => decide (x ≤ y)).map iv) ∧ w.grownBy w' v.ownBlock := by
  by_cases h0 : zs = []
  · subst h0
    obtain ⟨A, c, rfl⟩ := own_form hown
    refine (Tryz.slices_Sort_int_none A c w).mono ?_
    rintro e w' ⟨rfl, rfl⟩
    exact ⟨rfl, by simpa using hown, grown_self _ _⟩
  · have hv : v ≠ .slice none 0 0 := by
      rintro rfl
      rcases hown.2 with ⟨_, h⟩ | ⟨g, cap, cur, h, _⟩
      · exact h0 (List.eq_nil_of_length_eq_zero h)
      · cases h
    obtain ⟨g, cap, rfl, hb, hg, hn, hm, _, hH⟩ := Lib.holds_of_ownsRow hown hv
    refine (Tryz.slices_Sort_int g 0 cap zs w hH hg hsz).mono ?_
    rintro e w' ⟨rfl, n, os, rfl⟩
    refine ⟨rfl, own_grow ?_ os, putRow_grown _ _ _ _ _⟩
    have hl : (zs.mergeSort fun x y => decide (x ≤ y)).length = zs.length := List.length_mergeSort zs
    have := Lib.ownsRow_putRow (enc := iv) (q := n) (k := zs.length) (ys := zs.mergeSort fun x y => decide (x ≤ y)) hown hl (Nat.le_refl _)
    rw [List.take_of_length_le (by omega)] at this
    exact this

theorem compI_any (base : Nat) (v : Value) (zs : List Int) (w : World) (hown : w.ownsRow base 3 1 v zs.length (zs.map iv)) (hsz : zs.length < 4611686018427387904) :
    Calls Tryz.prog 179 #[v] w fun e w' => ∃ v', e = .returned v' ∧ v'.ownBlock = v.ownBlock ∧ w'.ownsRow base 3 1 v' (Lib.compact zs).length ((Lib.compact zs).map iv) ∧ w.grownBy w' v.ownBlock := by
  by_cases h0 : zs = []
  · subst h0
    obtain ⟨A, c, rfl⟩ := own_form hown
    refine (Tryz.slices_Compact_int_empty A c w).mono ?_
    rintro e w' ⟨rfl, rfl⟩
    exact ⟨_, rfl, rfl, hown, grown_self _ _⟩
  · have hv : v ≠ .slice none 0 0 := by
      rintro rfl
      rcases hown.2 with ⟨_, h⟩ | ⟨g, cap, cur, h, _⟩
      · exact h0 (List.eq_nil_of_length_eq_zero h)
      · cases h
    obtain ⟨g, cap, rfl, hb, hg, hn, hm, _, hH⟩ := Lib.holds_of_ownsRow hown hv
    refine (Tryz.slices_Compact_int g 0 cap zs w hH (by omega) hn).mono ?_
    rintro e w' ⟨rfl, q, rfl⟩
    have hle : (Lib.compact zs).length ≤ zs.length := Lib.compact_length_le zs
    have := Lib.ownsRow_putRow (enc := iv) (q := q) (k := (Lib.compact zs).length) (ys := Lib.compact zs ++ List.replicate (zs.length - (Lib.compact zs).length) 0) hown (by simp; omega) hle
    rw [List.take_left] at this
    refine ⟨_, rfl, rfl, this, ?_⟩
    have h2 := putRow_grown (enc := iv) w q g (Lib.compact zs ++ List.replicate (zs.length - (Lib.compact zs).length) 0).toArray #[]
    rwa [Go.Sort.grow_empty] at h2
end Go.Proofs.YtdolpeljengpaaaGreat

/- A region that draws its order: reads that stay as they are under a condition S, and a tail in one order. The operation L, which waits for all reads (the store at the end), may break S. -/
namespace Go.Proofs.YtdolpeljengpaaaGreat
open Go.RowKit
set_option linter.unusedVariables false
set_option linter.unusedSimpArgs false

section
variable {P : Program} {ops : Array Oper} {Q : Exit → Act → World → Prop} {md : Region.Mode} {S : World → Prop}

/-- Whatever order is picked from here on, and S holds behind each operation but L. -/
def wpAnyE (P : Program) (md : Region.Mode) (ops : Array Oper) (Q : Exit → Act → World → Prop) (S : World → Prop) (L : Nat) : Nat → Array Bool → Act → World → Prop
  | 0, listed, a, w => Region.ready md ops listed = [] ∧ Q .normal a w
  | fuel + 1, listed, a, w =>
    (Region.ready md ops listed = [] → Q .normal a w) ∧
    ∀ i ∈ Region.ready md ops listed, wpOp P ops Q i (fun a' w' => (i ≠ L → S w') ∧ wpAnyE P md ops Q S L fuel (listed.setIfInBounds i true) a' w') a w

variable {L : Nat}
theorem wpAny_of_E : ∀ (fuel : Nat) (listed : Array Bool) (a : Act) (w : World), wpAnyE P md ops Q S L fuel listed a w → wpAny P md ops Q fuel listed a w
  | 0, _, _, _, h => h
  | fuel + 1, _, _, _, h => ⟨h.1, fun i hi => wpOp_mono (fun a' w' h' => wpAny_of_E fuel _ a' w' h'.2) (h.2 i hi)⟩

theorem wpAnyE_first {i : Nat} {oi : Oper} {v : Value} (hi : ops[i]? = some oi) (hsel : ∀ (j : Nat) (o : Oper) cs b, ops[j]? = some o → o.op ≠ .select cs b)
    (hQ : ∀ c a w, Q (.panic c) (a.put oi.dst v) w → Q (.panic c) a w) (hL : ∀ o, ops[L]? = some o → ∃ e ∈ o.after, Region.binds md e = true ∧ e.on = i) :
    ∀ (fuel : Nat) (listed : Array Bool) (a : Act) (w : World),
      (∀ j oj, ops[j]? = some oj → j ≠ i → listed.getD j true = false → (∀ e ∈ oj.after, Region.binds md e = true → e.on ≠ i) → oi.apart ops oj = true) →
      i ∈ Region.ready md ops listed → YieldsIf P ops S oi v a → S w →
      wpAnyE P md ops Q S L fuel (listed.setIfInBounds i true) (a.put oi.dst v) w → wpAnyE P md ops Q S L (fuel + 1) listed a w := by
  intro fuel
  induction fuel with
  | zero =>
    intro listed a w _ hr hy hS H
    refine ⟨fun h => (by rw [h] at hr; cases hr), fun j hj => ?_⟩
    by_cases hji : j = i
    · subst hji; exact hy.wpOp hi hS ⟨fun _ => hS, H⟩
    · have := ready_mono hj hji
      rw [H.1] at this
      cases this
  | succ fuel ih =>
    intro listed a w hfree hr hy hS H
    refine ⟨fun h => (by rw [h] at hr; cases hr), fun j hj => ?_⟩
    by_cases hji : j = i
    · subst hji; exact hy.wpOp hi hS ⟨fun _ => hS, H⟩
    · have h1 := H.2 j (ready_mono hj hji)
      obtain ⟨hjun, oj, hoj, hall⟩ := mem_ready.1 hj
      have hnot : ∀ e ∈ oj.after, Region.binds md e = true → e.on ≠ i := fun e he hb heq => by
        have g1 := hall e he hb
        have g0 := (mem_ready.1 hr).1
        rw [heq] at g1
        rcases Nat.lt_or_ge i listed.size with h' | h'
        · simp [h'] at g0 g1; rw [g0] at g1; cases g1
        · simp [Array.getElem?_eq_none h'] at g1
      have hjL : j ≠ L := by
        rintro rfl
        obtain ⟨e, he, hb, hon⟩ := hL oj hoj
        exact hnot e he hb hon
      have h2 := wpOp_putIf hoj (hfree j oj hoj hji hjun hnot) (fun cs b => hsel i oi cs b hi) (fun cs b => hsel j oj cs b hoj) hQ hy h1
      have hfree' : ∀ k ok, ops[k]? = some ok → k ≠ i → (listed.setIfInBounds j true).getD k true = false →
          (∀ e ∈ ok.after, Region.binds md e = true → e.on ≠ i) → oi.apart ops ok = true := fun k ok hk hki hun hno => by
        refine hfree k ok hk hki ?_ hno
        by_cases hjk : j = k
        · subst hjk; exact hjun
        · rw [getD_set_ne true hjk] at hun; exact hun
      refine wpOp_mono (fun a' w' h3 => ⟨fun _ => h3.2.1 hjL, ih (listed.setIfInBounds j true) a' w' hfree' (ready_mono hr (Ne.symm hji)) h3.1 (h3.2.1 hjL) ?_⟩) h2
      rw [Array.setIfInBounds_comm _ _ hji]
      exact h3.2.2

/-! ### One law for the whole region: n reads, in the order of the text, then a tail in one order -/
def pre (m : Nat) : Nat → Array Bool
  | 0 => Array.replicate m false
  | k + 1 => (pre m k).setIfInBounds k true
def waitsFor (md : Region.Mode) (ops : Array Oper) (L i : Nat) : Bool := match ops[L]? with | some o => o.after.any (fun e => Region.binds md e && e.on == i) | none => true
def heldB (md : Region.Mode) (ops : Array Oper) (n : Nat) : Bool :=
  Region.noSelect ops && decide (n < ops.size) && (List.range n).all (fun i => Region.free md ops (pre ops.size i) i && (Region.ready md ops (pre ops.size i)).contains i && waitsFor md ops (ops.size - 1) i) &&
    (List.range (ops.size - n)).all (fun j => Region.ready md ops (pre ops.size (n + j)) == [n + j]) && (Region.ready md ops (pre ops.size ops.size)).isEmpty

/-- The reads, one behind the other: each yields its value in every world that meets S. -/
def wpReads (P : Program) (ops : Array Oper) (S : World → Prop) (K : Act → Prop) : List Oper → Act → Prop
  | [], a => K a
  | o :: r, a => ∃ v, YieldsIf P ops S o v a ∧ wpReads P ops S K r (a.put o.dst v)
/-- The tail, one operation behind the other; behind each but the last S is shown anew. -/
def wpTail (P : Program) (ops : Array Oper) (S : World → Prop) (Q : Exit → Act → World → Prop) : List Oper → Act → World → Prop
  | [], a, w => Q .normal a w
  | o :: r, a, w => ∀ K : Act → World → Prop, (∀ a' w', (r ≠ [] → S w') → wpTail P ops S Q r a' w' → K a' w') → if Region.wanted o (yielded ops a.tmps) = true then o.wp P a w K Q else K (a.put o.dst undef) w
theorem wpTail_E {n : Nat} {l : List Oper} (hT : ∀ j, j < l.length - n → Region.ready md l.toArray (pre l.length (n + j)) = [n + j]) (hE : Region.ready md l.toArray (pre l.length l.length) = []) :
    ∀ (r : List Oper) (k : Nat) (a : Act) (w : World), n ≤ k → k + r.length = l.length → l.drop k = r → wpTail P l.toArray S Q r a w → wpAnyE P md l.toArray Q S (l.length - 1) r.length (pre l.length k) a w
  | [], k, a, w, hk, hl, hd, h => by
    obtain rfl : k = l.length := by simpa using hl
    exact ⟨hE, h⟩
  | o :: r, k, a, w, hk, hl, hd, h => by
    have hkl : k < l.length := by simp at hl; omega
    have hr := hT (k - n) (by omega)
    rw [show n + (k - n) = k by omega] at hr
    have ho : l.toArray[k]? = some o := by
      have : (l.drop k)[0]? = some o := by rw [hd]; rfl
      simpa using this
    have hd' : l.drop (k + 1) = r := by rw [← List.drop_drop, hd]; rfl
    refine ⟨fun h0 => (by rw [hr] at h0; cases h0), fun i hi => ?_⟩
    rw [hr] at hi
    obtain rfl : i = k := by simpa using hi
    refine wpOp_step ho fun K' hK => h K' fun a' w' hS hT' => hK a' w' ⟨fun hne => hS ?_, ?_⟩
    · rintro rfl
      simp at hl
      omega
    · exact wpTail_E hT hE r (i + 1) a' w' (by omega) (by simp at hl; omega) hd' hT'
theorem wpReads_E {n : Nat} {l : List Oper} (hsel : ∀ (j : Nat) (o : Oper) cs b, l.toArray[j]? = some o → o.op ≠ .select cs b) (hQ : ∀ c a a' w, Q (.panic c) a w → Q (.panic c) a' w)
    (hF : ∀ i, i < n → Region.free md l.toArray (pre l.length i) i = true ∧ i ∈ Region.ready md l.toArray (pre l.length i) ∧ waitsFor md l.toArray (l.length - 1) i = true) (hn : n ≤ l.length)
    {w : World} (hS : S w) (K : Act → Prop) (hK : ∀ a, K a → wpAnyE P md l.toArray Q S (l.length - 1) (l.length - n) (pre l.length n) a w) :
    ∀ (r : List Oper) (i : Nat) (a : Act), i + r.length = n → (l.take n).drop i = r → wpReads P l.toArray S K r a → wpAnyE P md l.toArray Q S (l.length - 1) (l.length - i) (pre l.length i) a w
  | [], i, a, hi, hd, h => by
    obtain rfl : i = n := by simpa using hi
    exact hK a h
  | o :: r, i, a, hi, hd, h => by
    have hin : i < n := by simp at hi; omega
    obtain ⟨f1, f2, f3⟩ := hF i hin
    obtain ⟨v, hy, h⟩ := h
    have ho : l.toArray[i]? = some o := by
      have : ((l.take n).drop i)[0]? = some o := by rw [hd]; rfl
      rw [List.getElem?_drop, List.getElem?_take] at this
      simpa [hin] using this
    have hd' : (l.take n).drop (i + 1) = r := by rw [← List.drop_drop, hd]; rfl
    have ih := wpReads_E hsel hQ hF hn hS K hK r (i + 1) (a.put o.dst v) (by simp at hi; omega) hd' h
    have e : l.length - i = (l.length - (i + 1)) + 1 := by omega
    rw [e]
    refine wpAnyE_first ho hsel (fun c a w h => hQ c _ _ w h) ?_ _ _ _ _ (Region.free_spec ho f1) f2 hy hS ih
    intro oL hoL
    unfold waitsFor at f3
    rw [hoL] at f3
    obtain ⟨e, he, h2⟩ := Array.any_eq_true'.1 f3
    simp only [Bool.and_eq_true, beq_iff_eq] at h2
    exact ⟨e, he, h2.1, h2.2⟩
/-- **The law.** -/
theorem wp_region_reads {id : Nat} {a : Act} {w : World} {l : List Oper} (n : Nat) (S : World → Prop) (hm : P.follows .mixedOrders = true) (hB : heldB .any l.toArray n = true) (hS : S w.drew)
    (h : wpReads P l.toArray S (fun a' => wpTail P l.toArray S (NoPanic Q) (l.drop n) a' w.drew) (l.take n) a) : (Code.region id l.toArray true).wp P Q a w := by
  refine wp_region_noPanic (wp_region_any hm (wpAny_of_E (S := S) (L := l.length - 1) _ _ _ _ ?_))
  simp only [heldB, Bool.and_eq_true, decide_eq_true_eq, List.all_eq_true, List.mem_range, beq_iff_eq, List.isEmpty_iff, List.size_toArray, List.contains_iff_mem] at hB
  obtain ⟨⟨⟨⟨b1, b2⟩, b3⟩, b4⟩, b5⟩ := hB
  have := wpReads_E (Q := NoPanic Q) (S := S) (n := n) (l := l) (w := w.drew) (Region.noSelect_spec b1) (fun _ _ _ _ h => h) (fun i hi => ⟨(b3 i hi).1.1, (b3 i hi).1.2, (b3 i hi).2⟩) (by omega) hS _
    (fun a' h' => by
      have h2 := wpTail_E (S := S) (n := n) b4 b5 (l.drop n) n a' w.drew (Nat.le_refl _) (by simp; omega) rfl h'
      rw [List.length_drop] at h2
      exact h2) (l.take n) 0 a (by simp; omega) rfl h
  simpa [pre] using this

/-! ### The same, where the reads hang on no cell: nothing is to be kept -/
def heldB0 (md : Region.Mode) (ops : Array Oper) (n : Nat) : Bool :=
  Region.noSelect ops && decide (n ≤ ops.size) && (List.range n).all (fun i => Region.free md ops (pre ops.size i) i && (Region.ready md ops (pre ops.size i)).contains i) &&
    (List.range (ops.size - n)).all (fun j => Region.ready md ops (pre ops.size (n + j)) == [n + j]) && (Region.ready md ops (pre ops.size ops.size)).isEmpty
theorem wpTail_E0 {n : Nat} {l : List Oper} (hT : ∀ j, j < l.length - n → Region.ready md l.toArray (pre l.length (n + j)) = [n + j]) (hE : Region.ready md l.toArray (pre l.length l.length) = []) :
    ∀ (r : List Oper) (k : Nat) (a : Act) (w : World), n ≤ k → k + r.length = l.length → l.drop k = r → wpTail P l.toArray (fun _ => True) Q r a w → wpAnyE P md l.toArray Q (fun _ => True) l.length r.length (pre l.length k) a w
  | [], k, a, w, hk, hl, hd, h => by
    obtain rfl : k = l.length := by simpa using hl
    exact ⟨hE, h⟩
  | o :: r, k, a, w, hk, hl, hd, h => by
    have hkl : k < l.length := by simp at hl; omega
    have hr := hT (k - n) (by omega)
    rw [show n + (k - n) = k by omega] at hr
    have ho : l.toArray[k]? = some o := by
      have : (l.drop k)[0]? = some o := by rw [hd]; rfl
      simpa using this
    have hd' : l.drop (k + 1) = r := by rw [← List.drop_drop, hd]; rfl
    refine ⟨fun h0 => (by rw [hr] at h0; cases h0), fun i hi => ?_⟩
    rw [hr] at hi
    obtain rfl : i = k := by simpa using hi
    refine wpOp_step ho fun K' hK => h K' fun a' w' hS hT' => hK a' w' ⟨fun _ => trivial, ?_⟩
    exact wpTail_E0 hT hE r (i + 1) a' w' (by omega) (by simp at hl; omega) hd' hT'
theorem wpReads_E0 {n : Nat} {l : List Oper} (hsel : ∀ (j : Nat) (o : Oper) cs b, l.toArray[j]? = some o → o.op ≠ .select cs b) (hQ : ∀ c a a' w, Q (.panic c) a w → Q (.panic c) a' w)
    (hF : ∀ i, i < n → Region.free md l.toArray (pre l.length i) i = true ∧ i ∈ Region.ready md l.toArray (pre l.length i)) (hn : n ≤ l.length)
    {w : World} (K : Act → Prop) (hK : ∀ a, K a → wpAnyE P md l.toArray Q (fun _ => True) l.length (l.length - n) (pre l.length n) a w) :
    ∀ (r : List Oper) (i : Nat) (a : Act), i + r.length = n → (l.take n).drop i = r → wpReads P l.toArray (fun _ => True) K r a → wpAnyE P md l.toArray Q (fun _ => True) l.length (l.length - i) (pre l.length i) a w
  | [], i, a, hi, hd, h => by
    obtain rfl : i = n := by simpa using hi
    exact hK a h
  | o :: r, i, a, hi, hd, h => by
    have hin : i < n := by simp at hi; omega
    obtain ⟨f1, f2⟩ := hF i hin
    obtain ⟨v, hy, h⟩ := h
    have ho : l.toArray[i]? = some o := by
      have : ((l.take n).drop i)[0]? = some o := by rw [hd]; rfl
      rw [List.getElem?_drop, List.getElem?_take] at this
      simpa [hin] using this
    have hd' : (l.take n).drop (i + 1) = r := by rw [← List.drop_drop, hd]; rfl
    have ih := wpReads_E0 hsel hQ hF hn K hK r (i + 1) (a.put o.dst v) (by simp at hi; omega) hd' h
    have e : l.length - i = (l.length - (i + 1)) + 1 := by omega
    rw [e]
    refine wpAnyE_first ho hsel (fun c a w h => hQ c _ _ w h) ?_ _ _ _ _ (Region.free_spec ho f1) f2 hy trivial ih
    intro oL hoL
    have := (Array.getElem?_eq_some_iff.1 hoL).1
    simp at this
/-- **The law without a condition.** -/
theorem wp_region_reads0 {id : Nat} {a : Act} {w : World} {l : List Oper} (n : Nat) (hm : P.follows .mixedOrders = true) (hB : heldB0 .any l.toArray n = true)
    (h : wpReads P l.toArray (fun _ => True) (fun a' => wpTail P l.toArray (fun _ => True) (NoPanic Q) (l.drop n) a' w.drew) (l.take n) a) : (Code.region id l.toArray true).wp P Q a w := by
  refine wp_region_noPanic (wp_region_any hm (wpAny_of_E (S := fun _ => True) (L := l.length) _ _ _ _ ?_))
  simp only [heldB0, Bool.and_eq_true, decide_eq_true_eq, List.all_eq_true, List.mem_range, beq_iff_eq, List.isEmpty_iff, List.size_toArray, List.contains_iff_mem] at hB
  obtain ⟨⟨⟨⟨b1, b2⟩, b3⟩, b4⟩, b5⟩ := hB
  have := wpReads_E0 (Q := NoPanic Q) (n := n) (l := l) (w := w.drew) (Region.noSelect_spec b1) (fun _ _ _ _ h => h) (fun i hi => ⟨(b3 i hi).1, (b3 i hi).2⟩) (by omega) _
    (fun a' h' => by
      have h2 := wpTail_E0 (n := n) b4 b5 (l.drop n) n a' w.drew (Nat.le_refl _) (by simp; omega) rfl h'
      rw [List.length_drop] at h2
      exact h2) (l.take n) 0 a (by simp; omega) rfl h
  simpa [pre] using this

/-! ### Reads that stand between calls: R, the reads, in an order in which they may come up; T, all else, in the one order that it has -/
def opAt (l : List Oper) (i : Nat) : Oper := (l[i]?).getD ⟨none, .move (.const undef), 0, "", #[], none⟩
def mixTB (md : Region.Mode) (ops : Array Oper) : List Nat → Array Bool → Bool
  | [], l => (Region.ready md ops l).isEmpty
  | t :: r, l => (Region.ready md ops l == [t]) && mixTB md ops r (l.setIfInBounds t true)
def mixRB (md : Region.Mode) (ops : Array Oper) (T : List Nat) : List Nat → Array Bool → Bool
  | [], l => mixTB md ops T l
  | i :: r, l => Region.free md ops l i && (Region.ready md ops l).contains i && waitsFor md ops (ops.size - 1) i && mixRB md ops T r (l.setIfInBounds i true)
def mixB (md : Region.Mode) (ops : Array Oper) (R T : List Nat) : Bool := Region.noSelect ops && decide (R.length + T.length = ops.size) && (T.getLast? == some (ops.size - 1)) && mixRB md ops T R (Array.replicate ops.size false)
theorem opAt_some {l : List Oper} {i : Nat} {o : Oper} (h : l[i]? = some o) : opAt l i = o := by simp [opAt, h]
theorem wpTail_mix {l : List Oper} : ∀ (T : List Nat) (listed : Array Bool) (a : Act) (w : World), (∀ t, T.getLast? = some t → t = l.length - 1) → mixTB md l.toArray T listed = true → wpTail P l.toArray S Q (T.map (opAt l)) a w → wpAnyE P md l.toArray Q S (l.length - 1) T.length listed a w
  | [], listed, a, w, _, hT, h => by
    simp only [mixTB, List.isEmpty_iff] at hT
    exact ⟨hT, h⟩
  | t :: r, listed, a, w, hL, hT, h => by
    simp only [mixTB, Bool.and_eq_true, beq_iff_eq] at hT
    refine ⟨fun h0 => (by rw [hT.1] at h0; cases h0), fun i hi => ?_⟩
    obtain ⟨_, o, ho, _⟩ := mem_ready.1 hi
    rw [hT.1] at hi
    obtain rfl : i = t := by simpa using hi
    have ho' : l[i]? = some o := by simpa using ho
    simp only [List.map_cons, opAt_some ho'] at h
    refine wpOp_step ho fun K' hK => h K' fun a' w' hS hT' => hK a' w' ⟨fun hne => hS fun hr => hne ?_, ?_⟩
    · have : r = [] := by simpa using hr
      subst this
      exact hL i rfl
    · refine wpTail_mix r _ a' w' (fun q hq => ?_) hT.2 hT'
      cases r with
      | nil => cases hq
      | cons x r => exact hL q (by rw [List.getLast?_cons_cons]; exact hq)
theorem wpReads_mix {l : List Oper} {T : List Nat} (hsel : ∀ (j : Nat) (o : Oper) cs b, l.toArray[j]? = some o → o.op ≠ .select cs b) (hQ : ∀ c a a' w, Q (.panic c) a w → Q (.panic c) a' w) (hL : ∀ t, T.getLast? = some t → t = l.length - 1)
    {w : World} (hS : S w) : ∀ (R : List Nat) (listed : Array Bool) (a : Act), mixRB md l.toArray T R listed = true → wpReads P l.toArray S (fun a' => wpTail P l.toArray S Q (T.map (opAt l)) a' w) (R.map (opAt l)) a →
      wpAnyE P md l.toArray Q S (l.length - 1) (R.length + T.length) listed a w
  | [], listed, a, hR, h => by
    rw [List.length_nil, Nat.zero_add]
    exact wpTail_mix T listed a w hL hR h
  | i :: r, listed, a, hR, h => by
    simp only [mixRB, Bool.and_eq_true, List.contains_iff_mem] at hR
    obtain ⟨⟨⟨f1, f2⟩, f3⟩, f4⟩ := hR
    obtain ⟨_, o, ho, _⟩ := mem_ready.1 f2
    have ho' : l[i]? = some o := by simpa using ho
    simp only [List.map_cons, opAt_some ho'] at h
    obtain ⟨v, hy, h⟩ := h
    have ih := wpReads_mix hsel hQ hL hS r _ _ f4 h
    rw [List.length_cons, Nat.add_right_comm]
    refine wpAnyE_first ho hsel (fun c a w h => hQ c _ _ w h) ?_ _ _ _ _ (Region.free_spec ho f1) f2 hy hS ih
    intro oL hoL
    unfold waitsFor at f3
    simp only [List.size_toArray] at f3
    rw [hoL] at f3
    obtain ⟨e, he, h2⟩ := Array.any_eq_true'.1 f3
    simp only [Bool.and_eq_true, beq_iff_eq] at h2
    exact ⟨e, he, h2.1, h2.2⟩
/-- **The law.** -/
theorem wp_region_mix {id : Nat} {a : Act} {w : World} {l : List Oper} (R T : List Nat) (S : World → Prop) (hm : P.follows .mixedOrders = true) (hB : mixB .any l.toArray R T = true) (hS : S w.drew)
    (h : wpReads P l.toArray S (fun a' => wpTail P l.toArray S (NoPanic Q) (T.map (opAt l)) a' w.drew) (R.map (opAt l)) a) : (Code.region id l.toArray true).wp P Q a w := by
  refine wp_region_noPanic (wp_region_any hm (wpAny_of_E (S := S) (L := l.length - 1) _ _ _ _ ?_))
  simp only [mixB, Bool.and_eq_true, decide_eq_true_eq, beq_iff_eq, List.size_toArray] at hB
  obtain ⟨⟨⟨b1, b2⟩, b3⟩, b4⟩ := hB
  have := wpReads_mix (Q := NoPanic Q) (S := S) (l := l) (T := T) (w := w.drew) (Region.noSelect_spec b1) (fun _ _ _ _ h => h) (fun t ht => by rw [b3] at ht; injection ht with ht; exact ht.symm) hS R _ a b4 h
  rw [b2] at this
  exact this
end
end Go.Proofs.YtdolpeljengpaaaGreat

/- slices.Equal at []Span: two lists are one. -/
namespace Go.Proofs.YtdolpeljengpaaaGreat
open Go.RowKit
set_option linter.unusedVariables false
set_option linter.unusedSimpArgs false

set_option maxHeartbeats 2000000 in
theorem eqSpan_any {w : World} {vs vt : Value} {s t : List Sp} {B C : Nat} (hs : RdK encS 2 w B vs s) (ht : RdK encS 2 w C vt t) (ns : s.length ≤ 100000000) (hB : B ≤ w.heap.size) (hC : C ≤ w.heap.size) :
    Calls Tryz.prog 186 #[vs, vt] w fun e w' => e = .returned (.bool (decide (s = t))) ∧ Below w.heap.size w w' := by
  obtain ⟨A1, c1, rfl, h1⟩ := hs
  obtain ⟨A2, c2, rfl, h2⟩ := ht
  have g : Tryz.prog.eqGuardType Tryz.prog.depth 188 = false := by kernel_rfl
  have H1 := hide h1
  have H2 := hide h2
  clear h1 h2
  go_enter Tryz.func186, Tryz.ntmps186
  by_cases hl : s.length = t.length
  · have hne : ((s.length : Int) != (t.length : Int)) = false := by rw [hl]; simp
    have HL := hide hl
    clear hl
    go_wp2
    go_loopw [13] (fun i wr => ∃ k : Nat, k ≤ s.length ∧ i = .int .i64 k ∧ Hid (s.take k = t.take k) ∧ Below w.heap.size w wr) (fun i _ => s.length - (intOf i).toNat)
    case atStart => exact ⟨0, Nat.zero_le _, rfl, hide rfl, Below.refl _ _⟩
    case round =>
      obtain ⟨k, hk, rfl, HT, hb⟩ := hrel
      by_cases hlt : k < s.length
      · obtain ⟨⟨a, b⟩, hp⟩ : ∃ p, s[k]? = some p := ⟨_, List.getElem?_eq_getElem hlt⟩
        have hlt2 : k < t.length := by rw [← HL.out]; exact hlt
        obtain ⟨⟨c, d⟩, hq⟩ : ∃ p, t[k]? = some p := ⟨_, List.getElem?_eq_getElem hlt2⟩
        obtain ⟨b1, o1, rfl, hb1, k1⟩ := H1.out (by intro e; rw [e] at hlt; simp at hlt)
        obtain ⟨b2, o2, rfl, hb2, k2⟩ := H2.out (by intro e; rw [e] at hlt2; simp at hlt2)
        have x0 : wr.cell? ⟨b1, o1 + k * 2, none⟩ = some (.int .i64 a) := (hb.cell (p := ⟨b1, _, none⟩) (by show b1 < _; omega)).trans (k1 k _ hp 0 _ rfl)
        have x1 : wr.cell? ⟨b1, o1 + k * 2 + 1, none⟩ = some (.int .i64 b) := (hb.cell (p := ⟨b1, _, none⟩) (by show b1 < _; omega)).trans (k1 k _ hp 1 _ rfl)
        have y0 : wr.cell? ⟨b2, o2 + k * 2, none⟩ = some (.int .i64 c) := (hb.cell (p := ⟨b2, _, none⟩) (by show b2 < _; omega)).trans (k2 k _ hq 0 _ rfl)
        have y1 : wr.cell? ⟨b2, o2 + k * 2 + 1, none⟩ = some (.int .i64 d) := (hb.cell (p := ⟨b2, _, none⟩) (by show b2 < _; omega)).trans (k2 k _ hq 1 _ rfl)
        have z1 : (k : Int) < (s.length : Int) := by omega
        have z2 : (k : Int) < (t.length : Int) := by omega
        have HP := hide hp
        have HQ := hide hq
        clear hp hq k1 k2
        by_cases hac : a = c
        · by_cases hbd : b = d
          · subst hac; subst hbd
            go_wp2
            go_region
            go_wp2
            go_roundw
            case rel =>
              refine ⟨k + 1, by omega, by go_num, hide ?_, hb.drew⟩
              obtain ⟨i1, e1⟩ := List.getElem?_eq_some_iff.1 HP.out
              obtain ⟨i2, e2⟩ := List.getElem?_eq_some_iff.1 HQ.out
              rw [List.take_succ_eq_append_getElem i1, List.take_succ_eq_append_getElem i2, HT.out, e1, e2]
            case measure => simp [intOf]; omega
          · subst hac
            have hd : decide (s = t) = false := decide_eq_false fun e => by
              subst e
              have := HP.out.symm.trans HQ.out
              injection this with this
              injection this with _ h2
              exact hbd h2
            have HD := hide hd
            clear hd
            go_wp2
            go_region
            go_wp2
            go_ret
            exact ⟨ret_eq (bool_eq HD.out.symm), hb.drew⟩
        · have hd : decide (s = t) = false := decide_eq_false fun e => by
            subst e
            have := HP.out.symm.trans HQ.out
            injection this with this
            injection this with h2 _
            exact hac h2
          have HD := hide hd
          clear hd
          go_wp2
          go_region
          go_wp2
          go_ret
          exact ⟨ret_eq (bool_eq HD.out.symm), hb.drew⟩
      · have hlz : ¬ (k : Int) < (s.length : Int) := by omega
        have hd : decide (s = t) = true := decide_eq_true (by
          have := HT.out
          rw [List.take_of_length_le (by omega), List.take_of_length_le (by rw [← HL.out]; omega)] at this
          exact this)
        have HD := hide hd
        clear hd
        go_wp2
        go_ret
        exact ⟨ret_eq (bool_eq HD.out.symm), hb⟩
  · have hne : ((s.length : Int) != (t.length : Int)) = true := by simp; omega
    have hd : decide (s = t) = false := decide_eq_false fun e => hl (by rw [e])
    rw [hd]
    clear hl hd
    go_wp2
    go_ret
    exact ⟨rfl, Below.refl _ _⟩
end Go.Proofs.YtdolpeljengpaaaGreat

/- region's builder: its cells, and 'result'. -/
namespace Go.Proofs.YtdolpeljengpaaaGreat
open Go.RowKit
set_option linter.unusedVariables false
set_option linter.unusedSimpArgs false

/-- The builder in block bb has put the slabs S together; its rows lie at or above Bo. -/
structure BW (bb Bo : Nat) (S : List Slab) (last : List Sp) (first : Nat) (e : Int) (W : World) : Prop where
  low : bb < Bo
  size : Bo ≤ W.heap.size
  out : ∃ vo, W.cell? ⟨bb, 0, none⟩ = some vo ∧ W.ownsRow Bo 69 4 vo (flat S).length ((flat S).flatMap encR)
  la : ∃ vl, W.cell? ⟨bb, 1, none⟩ = some vl ∧ W.ownsRow Bo 188 2 vl last.length (last.flatMap encS)
  fi : W.cell? ⟨bb, 2, none⟩ = some (.int .i64 first)
  en : W.cell? ⟨bb, 3, none⟩ = some (.int .i64 e)
  fz : ∀ j, W.frozen? ⟨bb, j, none⟩ = false
  inv : BInv S last first e

set_option maxHeartbeats 1000000 in
theorem result_any {bb Bo : Nat} {S : List Slab} {last : List Sp} {first : Nat} {e : Int} {w : World} (h : BW bb Bo S last first e w) (hn : (flat S).length ≤ 1000000000) :
    Calls Tryz.prog 145 #[.pointer (some ⟨bb, 0, none⟩)] w fun r w' => w = w' ∧
      ((400 < (flat S).length ∧ r = .returned (.tuple #[.slice none 0 0, .int .i64 4])) ∨ ((flat S).length ≤ 400 ∧ ∃ A c, r = .returned (.tuple #[.slice A (flat S).length c, .int .i64 0]) ∧ w.ownsRow Bo 69 4 (.slice A (flat S).length c) (flat S).length ((flat S).flatMap encR))) := by
  obtain ⟨vo, h0, ho⟩ := h.out
  obtain ⟨A, c, hv, _⟩ := own_rd ho (fun _ => rfl)
  subst hv
  have HO := hide ho
  clear ho
  generalize (flat S).length = n at *
  by_cases h4 : 400 < n
  · have hz : (400 : Int) < (n : Int) := by omega
    go_enter Tryz.func145, Tryz.ntmps145
    go_wp2
    go_ret2
    exact ⟨rfl, .inl ⟨h4, rfl⟩⟩
  · have hz : (n : Int) ≤ 400 := by omega
    go_enter Tryz.func145, Tryz.ntmps145
    go_wp2
    go_ret2
    exact ⟨rfl, .inr ⟨by omega, A, c, rfl, HO.out⟩⟩
end Go.Proofs.YtdolpeljengpaaaGreat

/- region.slabs: the cuts of some lists, and the iterator bound to them. -/
namespace Go.Proofs.YtdolpeljengpaaaGreat
open Go.RowKit
set_option linter.unusedVariables false
set_option linter.unusedSimpArgs false

theorem infoIA : (Tryz.prog.info? 3).map (fun i => (i.zero, i.size, i.bytes)) = some (some (.int .i64 0), 1, 8) := by kernel_rfl
theorem cutsL_take (l : List R4) (m : Nat) (r : R4) (h : l[m]? = some r) : cutsL (l.take (m + 1)) = cutsL (l.take m) ++ [r.x0, r.x1] := by
  obtain ⟨hm, hp⟩ := List.getElem?_eq_some_iff.1 h
  rw [List.take_succ_eq_append_getElem hm, hp]
  simp [cutsL]
theorem cutsL_len (l : List R4) : (cutsL l).length = 2 * l.length := by
  induction l with
  | nil => rfl
  | cons p s ih => simp [cutsL] at ih ⊢; omega
theorem flat_take (ls : List (List R4)) (k : Nat) (l : List R4) (h : ls[k]? = some l) : (ls.take (k + 1)).flatMap cutsL = (ls.take k).flatMap cutsL ++ cutsL l := by
  obtain ⟨hm, hp⟩ := List.getElem?_eq_some_iff.1 h
  rw [List.take_succ_eq_append_getElem hm, hp]
  simp
theorem len_take (ls : List (List R4)) (k : Nat) (l : List R4) (h : ls[k]? = some l) : ((ls.take k).flatMap cutsL).length + (cutsL l).length ≤ (ls.flatMap cutsL).length := by
  rw [← List.length_append, ← flat_take ls k l h]
  conv => rhs; rw [← List.take_append_drop (k + 1) ls]
  rw [List.flatMap_append, List.length_append]; omega

/-- 'x = append(x, ..)' at a variable in a box o, ahead of whose rows (from B on) it lies. -/
theorem box_fin {B o : Nat} {w1 wa w2 : World} {row : Option Nat} {v2 x : Value} {e : TypeId} {size n : Nat} {xs : List Value} (ks : B ≤ w1.heap.size) (hoB : o < B) (k3 : w1.cell? ⟨o, 0, none⟩ = some x) (k4 : w1.frozen? ⟨o, 0, none⟩ = false)
    (ha : Below w1.heap.size w1 wa) (hgrow : wa.grownBy w2 row) (hr : ∀ k, row = some k → B ≤ k) (hown2 : w2.ownsRow B e size v2 n xs) :
    w2.cell? ⟨o, 0, none⟩ = some x ∧ w2.frozen? ⟨o, 0, none⟩ = false ∧ Hid ((w2.setCell ⟨o, 0, none⟩ v2).cell? ⟨o, 0, none⟩ = some v2 ∧ (w2.setCell ⟨o, 0, none⟩ v2).frozen? ⟨o, 0, none⟩ = false ∧
      (w2.setCell ⟨o, 0, none⟩ v2).ownsRow B e size v2 n xs ∧ Below o w1 (w2.setCell ⟨o, 0, none⟩ v2) ∧ (∀ q off, q < B → q ≠ o → (w2.setCell ⟨o, 0, none⟩ v2).cell? ⟨q, off, none⟩ = w1.cell? ⟨q, off, none⟩) ∧ w1.heap.size ≤ (w2.setCell ⟨o, 0, none⟩ v2).heap.size) := by
  have hb : Below B w1 w2 := (ha.mono ks).grown hgrow (by have := ha.size; omega) hr
  have c := (hb.cell (p := ⟨o, 0, none⟩) hoB).trans k3
  have f := (hb.frozen (p := ⟨o, 0, none⟩) hoB).trans k4
  refine ⟨c, f, hide ⟨by simp [go_sem, c], by simp [go_sem, f], ownsRow_setCell_below hown2 hoB _, (hb.mono (Nat.le_of_lt hoB)).setCell (p := ⟨o, 0, none⟩) (Nat.le_refl o) _, fun q off hq hne => ?_, ?_⟩⟩
  · refine (World.cell?_of_block (w := w2) (a := ⟨q, off, none⟩) (Below.heap_setCell _ _ _ _ hne)).trans (hb.cell (p := ⟨q, off, none⟩) hq)
  · have := hb.size
    simpa [World.setCell] using this

set_option maxHeartbeats 2000000 in
theorem slabsA_any (ls : List (List R4)) (L c : Nat) (w : World) (hL : L < w.heap.size) (hv : ∀ k l, ls[k]? = some l → ∃ v, w.cell? ⟨L, k, none⟩ = some v ∧ RdK encR 4 w w.heap.size v l) (hn : (ls.flatMap cutsL).length ≤ 100000000) (hls : ls.length ≤ 1000) :
    Calls Tryz.prog 142 #[.slice (some ⟨L, 0, none⟩) ls.length c] w fun e w' => ∃ v, e = .returned (.func (.func 180) #[] #[.pointer (some ⟨w.heap.size + 1, 0, none⟩), .pointer (some ⟨w.heap.size, 0, none⟩)]) ∧
      w'.cell? ⟨w.heap.size, 0, none⟩ = some (.slice (some ⟨L, 0, none⟩) ls.length c) ∧ w'.cell? ⟨w.heap.size + 1, 0, none⟩ = some v ∧ w'.ownsRow (w.heap.size + 2) 3 1 v (cutsOf (ls.flatMap cutsL)).length ((cutsOf (ls.flatMap cutsL)).map iv) ∧ Below w.heap.size w w' := by
  obtain ⟨i0, hi, hz0, hz1, hz2⟩ := info_parts infoIA
  have HV := hide hv
  clear hv
  go_enter Tryz.func142, Tryz.ntmps142
  go_wp2
  go_loopw [10] (fun i wr => ∃ k : Nat, k ≤ ls.length ∧ i = .int .i64 k ∧ ∃ v, wr.cell? ⟨w.heap.size + 1, 0, none⟩ = some v ∧ wr.frozen? ⟨w.heap.size + 1, 0, none⟩ = false ∧ wr.cell? ⟨w.heap.size, 0, none⟩ = some (.slice (some ⟨L, 0, none⟩) ls.length c) ∧
      wr.ownsRow (w.heap.size + 2) 3 1 v ((ls.take k).flatMap cutsL).length (((ls.take k).flatMap cutsL).map iv) ∧ Below w.heap.size w wr ∧ w.heap.size + 2 ≤ wr.heap.size)
    (fun i _ => ls.length - (intOf i).toNat)
  case atStart =>
    refine ⟨0, Nat.zero_le _, rfl, .slice none 0 0, by simp [go_sem], by simp [go_sem], by simp [go_sem], World.ownsRow_nil _ _ _ _, ((Below.refl _ _).alloc (Nat.le_refl _) _).alloc (by simp) _, by simp⟩
  case round =>
    obtain ⟨k, hk, rfl, v, hc1, hf1, hc0, hown, hb, hsz⟩ := hrel
    by_cases hlt : k < ls.length
    · obtain ⟨l, hlk⟩ : ∃ l, ls[k]? = some l := ⟨_, List.getElem?_eq_getElem hlt⟩
      obtain ⟨vl, hcl, A, c0, rfl, hrd⟩ := HV.out k l hlk
      have hcl' : wr.cell? ⟨L, k, none⟩ = some (.slice A l.length c0) := (hb.cell (p := ⟨L, k, none⟩) hL).trans hcl
      have hle := len_take ls k l hlk
      have HK := hide (flat_take ls k l hlk)
      have HR := hide hrd
      have hkz : (k : Int) < (ls.length : Int) := by omega
      rw [cutsL_len] at hle
      generalize (ls.take k).flatMap cutsL = P at *
      generalize wr = w1 at *
      clear hcl hrd
      go_wp2
      go_loopw [16] (fun j wi => ∃ m : Nat, m ≤ l.length ∧ j = .int .i64 m ∧ ∃ v, wi.cell? ⟨w.heap.size + 1, 0, none⟩ = some v ∧ wi.frozen? ⟨w.heap.size + 1, 0, none⟩ = false ∧ wi.cell? ⟨w.heap.size, 0, none⟩ = some (.slice (some ⟨L, 0, none⟩) ls.length c) ∧
          wi.ownsRow (w.heap.size + 2) 3 1 v (P ++ cutsL (l.take m)).length ((P ++ cutsL (l.take m)).map iv) ∧ Below w.heap.size w wi ∧ w.heap.size + 2 ≤ wi.heap.size)
        (fun j _ => l.length - (intOf j).toNat)
      case atStart => exact ⟨0, by omega, rfl, v, hc1, hf1, hc0, by simpa [cutsL] using hown, hb, hsz⟩
      case round =>
        clear hc1 hf1 hc0 hown
        obtain ⟨m, hm, rfl, v, hc1, hf1, hc0, hownm, hbm, hszm⟩ := hrel
        by_cases hml : m < l.length
        · obtain ⟨⟨x0, y0, x1, y1⟩, hp⟩ : ∃ p, l[m]? = some p := ⟨_, List.getElem?_eq_getElem hml⟩
          have hne : l ≠ [] := by intro e; rw [e] at hml; simp at hml
          obtain ⟨bk, off, rfl, hbk, hcell⟩ := HR.out hne
          have d0 : wr.cell? ⟨bk, off + m * 4, none⟩ = some (.int .i64 x0) := (hbm.cell hbk).trans (hcell m _ hp 0 _ rfl)
          have d1 : wr.cell? ⟨bk, off + m * 4 + 1, none⟩ = some (.int .i64 y0) := (hbm.cell hbk).trans (hcell m _ hp 1 _ rfl)
          have d2 : wr.cell? ⟨bk, off + m * 4 + 2, none⟩ = some (.int .i64 x1) := (hbm.cell hbk).trans (hcell m _ hp 2 _ rfl)
          have d3 : wr.cell? ⟨bk, off + m * 4 + 3, none⟩ = some (.int .i64 y1) := (hbm.cell hbk).trans (hcell m _ hp 3 _ rfl)
          have hmz : (m : Int) < (l.length : Int) := by omega
          have hlenE : (P ++ cutsL (l.take m)).length ≤ 100000000 := by rw [List.length_append, cutsL_len, List.length_take]; omega
          have HE : Hid (P ++ cutsL (l.take (m + 1)) = P ++ cutsL (l.take m) ++ [x0, x1]) := hide (by rw [cutsL_take l m _ hp, List.append_assoc])
          obtain ⟨Av, cv, rfl⟩ := own_form hownm
          have hlt1 : w.heap.size + 1 < wr.heap.size := by omega
          have hlt0 : w.heap.size < wr.heap.size := by omega
          clear hcell
          generalize P ++ cutsL (l.take m) = E0 at *
          go_wp2_with (at_builtin; go_loud (refine wpList_append_lies _ rfl (.tmp 20) (.tmp 25) 156 rfl (w.heap.size + 2) 3 i0 (.int .i64 0) 1 8 Tryz.underlying156 hi hz0 hz1 hz2 rfl (by decide) _ _ _ rfl ((hownm.alloc _).alloc _) ⟨wr.heap.size + 1, 0, none⟩ 2 2 [.int .i64 x0, .int .i64 x1] rfl rfl (news_new (wr.alloc _) _ _ _ (by simp)) (ints_one rfl) (by omega) (by unfold maxLen; omega) (by omega) (by simp; omega) _ rfl ?_))
          intro g cap w2 hown2 hgrow _ _
          have hx2 : E0.map iv ++ [.int .i64 x0, .int .i64 x1] = (E0 ++ [x0, x1]).map iv := by simp
          have HL : Hid (E0.length + 2 = (P ++ cutsL (l.take (m + 1))).length) := hide (by rw [HE.out]; simp)
          rw [hx2, ← HE.out] at hown2
          obtain ⟨k3, k4, HF⟩ := box_fin hszm (Nat.lt_succ_self _) hc1 hf1 (((Below.refl _ wr).alloc (Nat.le_refl _) _).alloc (by simp) _) hgrow (fun k h => (hownm.lt k h).1) hown2
          have HC := hide hc0
          clear hown2 hgrow hownm hx2 hc1 hf1 hc0 d0 d1 d2 d3
          go_wp2
          go_roundw
          case rel =>
            obtain ⟨z1, z2, z3, z4, z5, z6⟩ := HF.out
            exact ⟨m + 1, by omega, by go_num, _, z1, z2, (z5 _ _ (by omega) (by omega)).trans HC.out, own_n z3 HL.out, hbm.trans (z4.mono (by omega)), by omega⟩
          case measure => simp [intOf]; omega
        · have hme : ¬ (m : Int) < (l.length : Int) := by omega
          have hmt : l.take m = l := List.take_of_length_le (by omega)
          rw [hmt, ← HK.out] at hownm
          have HO := hide hownm
          clear hmt hownm
          go_wp2
          go_roundw
          case rel => exact ⟨k + 1, by omega, by go_num, v, hc1, hf1, hc0, HO.out, hbm, hszm⟩
          case measure => simp [intOf]; omega
    · have hkz : ¬ (k : Int) < (ls.length : Int) := by omega
      have hkt : ls.take k = ls := List.take_of_length_le (by omega)
      rw [hkt] at hown
      have HO := hide hown
      clear hkt hown
      have hl : (ls.flatMap cutsL).length < 4611686018427387904 := by omega
      have hlm : ((ls.flatMap cutsL).mergeSort fun x y => decide (x ≤ y)).length = (ls.flatMap cutsL).length := List.length_mergeSort _
      have HM := hide hlm
      have HC0 := hide hc0
      clear hc0 hlm
      go_wp2_with (first
        | (go_at_call 178; refine (sortI_any _ v _ wr HO.out hl).mono ?_; rintro e w1 ⟨rfl, ho1, hg1⟩; have hb1 : Below (w.heap.size + 2) wr w1 := (Below.refl _ _).grown hg1 hsz (fun k h => (HO.out.lt k h).1); have e1 := (hb1.cell (p := ⟨w.heap.size + 1, 0, none⟩) (Nat.lt_succ_self _)).trans hc1; have HO1 := hide ho1; have HB1 := hide hb1; clear ho1 hg1 hb1)
        | (go_at_call 179; refine (compI_any _ v _ w1 (own_n HO1.out HM.out.symm) (by rw [HM.out]; exact hl)).mono ?_; rintro e w2 ⟨v2, rfl, hv2, ho2, hg2⟩; have hb2 : Below (w.heap.size + 2) w1 w2 := (Below.refl _ _).grown hg2 (Nat.le_trans hsz HB1.out.size) (fun k h => (HO1.out.lt k h).1); have e2 := (hb2.cell (p := ⟨w.heap.size + 1, 0, none⟩) (Nat.lt_succ_self _)).trans e1; have f2 := ((HB1.out.trans hb2).frozen (p := ⟨w.heap.size + 1, 0, none⟩) (Nat.lt_succ_self _)).trans hf1; have HO2 := hide ho2; have HB2 := hide hb2; clear ho2 hg2 hb2; obtain ⟨Av, cv, hv2⟩ := own_form HO2.out; subst hv2))
      go_ret
      have hB : Below (w.heap.size + 2) wr w2 := HB1.out.trans HB2.out
      refine ⟨_, rfl, ?_, by simp [go_sem, e2], ownsRow_setCell_below HO2.out (Nat.lt_succ_self _) _, (hb.trans (hB.mono (by omega))).setCell (p := ⟨w.heap.size + 1, 0, none⟩) (Nat.le_succ _) _⟩
      exact (World.cell?_of_block (w := w2) (a := ⟨w.heap.size, 0, none⟩) (Below.heap_setCell _ _ _ _ (Nat.ne_of_lt (Nat.lt_succ_self _)))).trans ((hB.cell (p := ⟨w.heap.size, 0, none⟩) (by show w.heap.size < _; omega)).trans HC0.out)
end Go.Proofs.YtdolpeljengpaaaGreat

/- region.slabs's iterator: the slabs between neighbouring cuts. -/
namespace Go.Proofs.YtdolpeljengpaaaGreat
open Go.RowKit
set_option linter.unusedVariables false
set_option linter.unusedSimpArgs false
attribute [local go_sem] Oper.semAt_some

/-- What a round keeps for an iterator: the old blocks, but for bb. -/
def KpX (bb n : Nat) (A B : World) : Prop := A.heap.size ≤ B.heap.size ∧ ∀ b o, b < n → b ≠ bb → B.cell? ⟨b, o, none⟩ = A.cell? ⟨b, o, none⟩
theorem KpX.trans {b n : Nat} {A B C : World} (h : KpX b n A B) (k : KpX b n B C) : KpX b n A C := ⟨Nat.le_trans h.1 k.1, fun q o h1 h2 => (k.2 q o h1 h2).trans (h.2 q o h1 h2)⟩

/-- What a round is handed: the slab from x.1 to x.2, with the cross-sections of the lists. -/
def OkSlab (ls : List (List R4)) (x : Int × Int) (args : Array Value) (W : World) : Prop :=
  ∃ Rw, args = #[.agg #[.int .i64 x.1, .int .i64 x.2, .slice (some ⟨Rw, 0, none⟩) ls.length ls.length]] ∧ Rw < W.heap.size ∧ ∀ k l, ls[k]? = some l → ∃ v, W.cell? ⟨Rw, k, none⟩ = some v ∧ RdK encS 2 W W.heap.size v (crossL l x.1)

/-- Between two lists of a round: the slab's cells, and the cross-sections gathered so far. -/
structure SMid (ls : List (List R4)) (c d : Int) (Rw S k : Nat) (wi wr : World) : Prop where
  ne : S ≠ Rw
  lowR : wi.heap.size ≤ Rw
  lowS : wi.heap.size ≤ S
  topR : Rw < wr.heap.size
  topS : S < wr.heap.size
  below : Below wi.heap.size wi wr
  s0 : wr.cell? ⟨S, 0, none⟩ = some (.int .i64 c)
  s1 : wr.cell? ⟨S, 1, none⟩ = some (.int .i64 d)
  s2 : wr.cell? ⟨S, 2, none⟩ = some (.slice (some ⟨Rw, 0, none⟩) ls.length ls.length)
  done : ∀ j l, j < k → ls[j]? = some l → ∃ v, wr.cell? ⟨Rw, j, none⟩ = some v ∧ wr.ownsRow (Rw + 1) 188 2 v (crossL l c).length ((crossL l c).flatMap encS)
  left : ∀ j, k ≤ j → j < ls.length → wr.cell? ⟨Rw, j, none⟩ = some (.slice none 0 0)
  fz : ∀ j, wr.frozen? ⟨Rw, j, none⟩ = false
/-- Between two rectangles of list l = ls[k]: wk, the world ahead of the list. -/
structure SIn (l : List R4) (c : Int) (Rw k m : Nat) (wk wr : World) : Prop where
  upd : Upd Rw none wk wr
  oth : ∀ j, j ≠ k → wr.cell? ⟨Rw, j, none⟩ = wk.cell? ⟨Rw, j, none⟩
  fz : ∀ j, wr.frozen? ⟨Rw, j, none⟩ = wk.frozen? ⟨Rw, j, none⟩
  cur : ∃ v, wr.cell? ⟨Rw, k, none⟩ = some v ∧ wr.ownsRow wk.heap.size 188 2 v (crossL (l.take m) c).length ((crossL (l.take m) c).flatMap encS)

theorem SIn.start {ls : List (List R4)} {l : List R4} {c d : Int} {Rw S k : Nat} {wi wk : World} (h : SMid ls c d Rw S k wi wk) (hk : k < ls.length) : SIn l c Rw k 0 wk wk :=
  ⟨Upd.refl _ _ _, fun _ _ => rfl, fun _ => rfl, ⟨_, h.left k (Nat.le_refl _) hk, World.ownsRow_nil _ _ _ _⟩⟩
theorem SIn.fin {ls : List (List R4)} {l : List R4} {c d : Int} {Rw S k : Nat} {wi wk wr : World} (h : SMid ls c d Rw S k wi wk) (hl : ls[k]? = some l) (g : SIn l c Rw k l.length wk wr) : SMid ls c d Rw S (k + 1) wi wr := by
  have hne := h.ne
  have hlR := h.lowR
  have htR := h.topR
  have hbs := h.below.size
  have key : ∀ {b o v}, b ≠ Rw → wk.cell? ⟨b, o, none⟩ = some v → wr.cell? ⟨b, o, none⟩ = some v := fun {b o v} hb e => (g.upd.cell (lt_of_cell e) hb (by simp)).trans e
  refine ⟨hne, hlR, h.lowS, Nat.lt_of_lt_of_le htR g.upd.size, Nat.lt_of_lt_of_le h.topS g.upd.size, h.below.trans (g.upd.below hlR hbs (by simp)), key hne h.s0, key hne h.s1, key hne h.s2, ?_, ?_, fun j => (g.fz j).trans (h.fz j)⟩
  · intro j l' hj hl'
    by_cases hjk : j = k
    · subst hjk
      rw [hl] at hl'
      injection hl' with hl'
      subst hl'
      obtain ⟨v, c1, c2⟩ := g.cur
      rw [List.take_length] at c2
      exact ⟨v, c1, own_base c2 (by omega)⟩
    · obtain ⟨v, c1, c2⟩ := h.done j l' (by omega) hl'
      refine ⟨v, (g.oth j hjk).trans c1, c2.1, ?_⟩
      rcases c2.2 with hn | ⟨gg, cap, cur, hv, hg, hh, r⟩
      · exact .inl hn
      · exact .inr ⟨gg, cap, cur, hv, hg, (g.upd.block gg (Array.getElem?_eq_some_iff.1 hh).1 (by omega) (by simp)).trans hh, r⟩
  · intro j hj hjn
    exact (g.oth j (by omega)).trans (h.left j (by omega) hjn)
theorem crossL_take {l : List R4} {c : Int} {m : Nat} {r : R4} (h : l[m]? = some r) : crossL (l.take (m + 1)) c = crossL (l.take m) c ++ (if r.x0 ≤ c ∧ c < r.x1 then [(r.y0, r.y1)] else []) := by
  obtain ⟨hm, hp⟩ := List.getElem?_eq_some_iff.1 h
  rw [List.take_succ_eq_append_getElem hm, hp]
  unfold crossL
  rw [List.filter_append, List.map_append]
  congr 1
  by_cases hc : r.x0 ≤ c ∧ c < r.x1
  · simp [hc.1, hc.2]
  · rw [if_neg hc]
    have : (decide (r.x0 ≤ c) && decide (c < r.x1)) = false := by
      rw [Bool.and_eq_false_iff]
      by_cases h1 : r.x0 ≤ c
      · exact .inr (decide_eq_false fun h2 => hc ⟨h1, h2⟩)
      · exact .inl (decide_eq_false h1)
    simp [List.filter_cons, this]
theorem SIn.skip {l : List R4} {c : Int} {Rw k m : Nat} {wk wr wr' : World} {r : R4} (g : SIn l c Rw k m wk wr) (hr : l[m]? = some r) (hc : ¬ (r.x0 ≤ c ∧ c < r.x1)) (hb : Below wr.heap.size wr wr') (hR : Rw < wr.heap.size) : SIn l c Rw k (m + 1) wk wr' := by
  obtain ⟨v, c1, c2⟩ := g.cur
  refine ⟨g.upd.trans (Upd.of_below hb), fun j hj => (hb.cell (p := ⟨Rw, j, none⟩) hR).trans (g.oth j hj), fun j => (hb.frozen (p := ⟨Rw, j, none⟩) hR).trans (g.fz j), v, (hb.cell (p := ⟨Rw, k, none⟩) hR).trans c1, ?_⟩
  rw [crossL_take hr, if_neg hc, List.append_nil]
  refine ⟨c2.1, ?_⟩
  rcases c2.2 with hn | ⟨gg, cap, cur, hv, hg, hh, r⟩
  · exact .inl hn
  · exact .inr ⟨gg, cap, cur, hv, hg, (hb.block gg (Array.getElem?_eq_some_iff.1 hh).1).trans hh, r⟩
theorem SIn.push {l : List R4} {c : Int} {Rw k m n : Nat} {wk wr wa w2 : World} {r : R4} {v v2 : Value} (g : SIn l c Rw k m wk wr) (hr : l[m]? = some r) (hc : r.x0 ≤ c ∧ c < r.x1) (hv : wr.cell? ⟨Rw, k, none⟩ = some v) (hR : Rw < wk.heap.size)
    (ha : Below wr.heap.size wr wa) (hgrow : wa.grownBy w2 v.ownBlock) (hrow : ∀ k, v.ownBlock = some k → wk.heap.size ≤ k) (hown2 : w2.ownsRow wk.heap.size 188 2 v2 n ((crossL (l.take m) c ++ [(r.y0, r.y1)]).flatMap encS)) (hf : wk.frozen? ⟨Rw, k, none⟩ = false) :
    w2.cell? ⟨Rw, k, none⟩ = some v ∧ w2.frozen? ⟨Rw, k, none⟩ = false ∧ Hid (SIn l c Rw k (m + 1) wk (w2.setCell ⟨Rw, k, none⟩ v2)) := by
  have hws := g.upd.size
  have hb : Below wk.heap.size wr w2 := (ha.mono hws).grown hgrow (by have := ha.size; omega) hrow
  have hcell : ∀ j, w2.cell? ⟨Rw, j, none⟩ = wr.cell? ⟨Rw, j, none⟩ := fun j => hb.cell (p := ⟨Rw, j, none⟩) hR
  have hfr : ∀ j, w2.frozen? ⟨Rw, j, none⟩ = wk.frozen? ⟨Rw, j, none⟩ := fun j => (hb.frozen (p := ⟨Rw, j, none⟩) hR).trans (g.fz j)
  have hk2 := (hcell k).trans hv
  refine ⟨hk2, (hfr k).trans hf, hide ⟨?_, fun j hj => ?_, fun j => ?_, v2, by simp [go_sem, hk2], ?_⟩⟩
  · refine Upd.setCell ⟨hb.os.trans g.upd.os, hb.tape.trans g.upd.tape, hb.output.trans g.upd.output, Nat.le_trans hws hb.size, fun b h1 h2 h3 => (hb.block b h1).trans (g.upd.block b h1 h2 h3)⟩ _ _
  · refine Eq.trans ?_ ((hcell j).trans (g.oth j hj))
    simp [go_sem, hj]
  · rw [World.frozen?_setCell]; exact hfr j
  · have hl := own_len (k := 2) hown2 (fun _ => rfl) (by omega)
    subst hl
    rw [crossL_take hr, if_pos hc]
    exact ownsRow_setCell_below hown2 hR _
/-- The slab as it is laid, in either order. -/
theorem smid_first1 {ls : List (List R4)} {c d : Int} {w : World} {CS : Array Value} {t1 t2 : TypeId} (hCS : ∀ j, j < ls.length → CS[j]? = some (.slice none 0 0)) :
    SMid ls c d w.heap.size (w.heap.size + 1) 0 w ((w.alloc (.cells CS t1)).alloc (.cells #[.int .i64 c, .int .i64 d, .slice (some ⟨w.heap.size, 0, none⟩) ls.length ls.length] t2)).drew := by
  refine ⟨by omega, Nat.le_refl _, by omega, by simp; omega, by simp, (((Below.refl _ _).alloc (Nat.le_refl _) _).alloc (by simp) _).drew, by simp [go_sem], by simp [go_sem], by simp [go_sem], fun j _ h => by omega, fun j _ hj => ?_, fun j => by simp [go_sem]⟩
  refine (World.cell?_alloc_lt (w.alloc (.cells CS t1)) _ ⟨w.heap.size, j, none⟩ (by simp)).trans ?_
  have := news_new w CS.toList t1 w.heap.size rfl j _ (by simpa using hCS j hj)
  rw [addr_add] at this
  simpa using this
theorem smid_first2 {ls : List (List R4)} {c d : Int} {w : World} {CS : Array Value} {t1 t2 : TypeId} (hCS : ∀ j, j < ls.length → CS[j]? = some (.slice none 0 0)) :
    SMid ls c d (w.heap.size + 1) w.heap.size 0 w ((w.alloc (.cells #[.int .i64 c, .int .i64 d, .slice (some ⟨w.heap.size + 1, 0, none⟩) ls.length ls.length] t2)).alloc (.cells CS t1)).drew := by
  refine ⟨by omega, by omega, Nat.le_refl _, by simp, by simp; omega, (((Below.refl _ _).alloc (Nat.le_refl _) _).alloc (by simp) _).drew, by simp [go_sem], by simp [go_sem], by simp [go_sem], fun j _ h => by omega, fun j _ hj => ?_, fun j => by simp [go_sem]⟩
  have := news_new (w.alloc (.cells #[.int .i64 c, .int .i64 d, .slice (some ⟨w.heap.size + 1, 0, none⟩) ls.length ls.length] t2)) CS.toList t1 (w.heap.size + 1) (by simp) j _ (by simpa using hCS j hj)
  rw [addr_add] at this
  simpa using this
end Go.Proofs.YtdolpeljengpaaaGreat

/- region.slabs's iterator: the walk. -/
namespace Go.Proofs.YtdolpeljengpaaaGreat
open Go.RowKit
set_option linter.unusedVariables false
set_option linter.unusedSimpArgs false
attribute [local go_sem] Oper.semAt_some

theorem infoSS : (Tryz.prog.info? 182).map (fun i => (i.zero, i.size, i.bytes)) = some (some (.slice none 0 0), 1, 24) := by kernel_rfl
theorem infoSp : (Tryz.prog.info? 188).map (fun i => (i.zero, i.size, i.bytes)) = some (some (.agg #[.int .i64 0, .int .i64 0]), 2, 16) := by kernel_rfl

theorem own_drew {w : World} {base size : Nat} {e : TypeId} {v : Value} {n : Nat} {xs : List Value} (h : w.ownsRow base e size v n xs) : w.drew.ownsRow base e size v n xs := h
theorem news_drew (w : World) (cs : List Value) (t : TypeId) (B : Nat) (hB : w.heap.size = B) : ∀ j u, cs[j]? = some u → (w.alloc (.cells cs.toArray t)).drew.cell? ((⟨B, 0, none⟩ : Addr).add j) = some u := news_new w cs t B hB
theorem app_after {l : List R4} {c : Int} {Rw k m n S : Nat} {wk wr wb w2 : World} {r : R4} {v v2 a b1 b3 : Value} (g : SIn l c Rw k m wk wr) (hr : l[m]? = some r) (hc : r.x0 ≤ c ∧ c < r.x1) (hv : wr.cell? ⟨Rw, k, none⟩ = some v) (hR : Rw < wk.heap.size) (hbw : Below wr.heap.size wr wb) (o : Obj)
    (hvo : wr.ownsRow wk.heap.size 188 2 v (crossL (l.take m) c).length ((crossL (l.take m) c).flatMap encS)) (hgrow : (wb.alloc o).drew.grownBy w2 v.ownBlock) (hown2 : w2.ownsRow wk.heap.size 188 2 v2 n ((crossL (l.take m) c).flatMap encS ++ [.int .i64 r.y0, .int .i64 r.y1])) (hf : wk.frozen? ⟨Rw, k, none⟩ = false)
    (hS : S < wk.heap.size) (f2 : wb.cell? ⟨S, 2, none⟩ = some a) (f1 : wb.cell? ⟨wr.heap.size, 1, none⟩ = some b1) (f3 : wb.cell? ⟨wr.heap.size, 3, none⟩ = some b3) :
    w2.cell? ⟨S, 2, none⟩ = some a ∧ w2.cell? ⟨Rw, k, none⟩ = some v ∧ w2.cell? ⟨wr.heap.size, 1, none⟩ = some b1 ∧ w2.cell? ⟨wr.heap.size, 3, none⟩ = some b3 ∧ w2.frozen? ⟨Rw, k, none⟩ = false ∧ Hid (SIn l c Rw k (m + 1) wk (w2.setCell ⟨Rw, k, none⟩ v2)) := by
  have hrow := hvo.lt
  have ha : Below wr.heap.size wr (wb.alloc o).drew := (hbw.alloc hbw.size o).drew
  have hx : (crossL (l.take m) c).flatMap encS ++ [.int .i64 r.y0, .int .i64 r.y1] = (crossL (l.take m) c ++ [(r.y0, r.y1)]).flatMap encS := by simp [encS]
  rw [hx] at hown2
  obtain ⟨p1, p2, p3⟩ := g.push hr hc hv hR ha hgrow (fun q hq => (hrow q hq).1) hown2 hf
  have far : ∀ (q i : Nat) (u : Value), wb.cell? ⟨q, i, none⟩ = some u → v.ownBlock ≠ some q → w2.cell? ⟨q, i, none⟩ = some u := fun q i u hu hq =>
    World.grownBy.cell hgrow (a := ⟨q, i, none⟩) ((World.cell?_alloc_lt wb o ⟨q, i, none⟩ (lt_of_cell hu)).trans hu) (fun e => hq e.symm)
  exact ⟨far S 2 a f2 (fun e => by have := hrow S e; omega), p1, far _ 1 b1 f1 (fun e => by have := hrow _ e; omega), far _ 3 b3 f3 (fun e => by have := hrow _ e; omega), p2, p3⟩
/-- 'make([][]Span, n)', to the cell. -/
theorem make_ss (n : Nat) (hn : n ≤ 1000) : ∃ CS : Array Value, (∀ j, j < n → CS[j]? = some (.slice none 0 0)) ∧ ∀ W : World, (Instr.makeSlice 208 (.int .i64 (n : Int)) (.int .i64 (n : Int))).run Tryz.prog W = .ok (.slice (some ⟨W.heap.size, 0, none⟩) n n) (W.alloc (.cells CS 182)) := by
  obtain ⟨i0, hi, hz0, hz1, hz2⟩ := info_parts infoSS
  refine ⟨madeCells (Value.slice none 0 0).cells (n * i0.size), ?_, fun W => ?_⟩
  · intro j hj
    rw [hz1]
    have : (madeCells #[Value.slice none 0 0] n).toList[j]? = some (.slice none 0 0) := by rw [toList_madeCells_one]; simp [hj]
    rw [Nat.mul_one]
    rw [Array.getElem?_toList] at this
    exact this
  · have := run_make (P := Tryz.prog) W 208 182 i0 _ Tryz.underlying208 hi hz0 .i64 .i64 (n : Int) (n : Int) (by omega) (Int.le_refl _) (by rw [hz2]; omega) (by omega)
    simpa using this

set_option maxRecDepth 100000 in
set_option maxHeartbeats 4000000 in
theorem slabsItA (ls : List (List R4)) (cs : List Int) (bc bl L cc cv bb base : Nat) (A : Option Addr) (w0 : World) (hbl : bl < w0.heap.size) (hbc : bc < w0.heap.size) (hLs : L < w0.heap.size) (n1 : bl ≠ bb) (n2 : bc ≠ bb) (n3 : L ≠ bb) (n4 : bb < base) (n5 : bb ≤ w0.heap.size)
    (hlb : w0.cell? ⟨bl, 0, none⟩ = some (.slice (some ⟨L, 0, none⟩) ls.length cc)) (hcb : w0.cell? ⟨bc, 0, none⟩ = some (.slice A cs.length cv)) (hown : w0.ownsRow base 3 1 (.slice A cs.length cv) cs.length (cs.map iv))
    (hv : ∀ k l, ls[k]? = some l → l.length ≤ 100000000 ∧ ∃ v, w0.cell? ⟨L, k, none⟩ = some v ∧ RdK encR 4 w0 bb v l) (hls : ls.length ≤ 1000) (hcs : cs.length ≤ 100000000) :
    Iter Tryz.prog 180 #[.pointer (some ⟨bc, 0, none⟩), .pointer (some ⟨bl, 0, none⟩)] (prs cs) (OkSlab ls) (KpX bb w0.heap.size) w0 := by
  intro l J Jx W hW hJ hY h0
  obtain ⟨i0, hi, hz0, hz1, hz2⟩ := info_parts infoSS
  obtain ⟨i1, gi, gz0, gz1, gz2⟩ := info_parts infoSp
  refine callsIn_of_wp Tryz.func180 rfl trivial ?_
  simp only [Tryz.ntmps180, List.size_toArray, List.length_cons, List.length_nil, Nat.reduceAdd, Nat.reduceSub, Array.replicate_succ, Array.replicate_zero, List.push_toArray, List.append_toArray, List.nil_append, List.cons_append]
  have HV := hide hv
  have HY := hide hY
  have HJ := hide hJ
  clear hv hY hJ
  gi_wp2
  gi_loopw [4] (fun p wr => ∃ k : Nat, k ≤ (prs cs).length ∧ p = .int .i64 ((k : Int) + 1) ∧ Hid (J ((prs cs).take k) wr) ∧ Hid (∀ b o, b < w0.heap.size → b ≠ bb → wr.cell? ⟨b, o, none⟩ = w0.cell? ⟨b, o, none⟩) ∧ w0.heap.size ≤ wr.heap.size)
    (fun p _ => ((prs cs).length + 1) - (intOf p).toNat)
  case atStart => exact ⟨0, Nat.zero_le _, rfl, hide (by simpa using h0), hide fun b o h _ => hW.cell (p := ⟨b, o, none⟩) h, hW.size⟩
  case round =>
    obtain ⟨k, hk, rfl, HJk, HC, hsz⟩ := hrel
    have hpl := prs_len cs
    have kb := (HC.out bl 0 hbl n1).trans hlb
    have kc := (HC.out bc 0 hbc n2).trans hcb
    by_cases hlt : k < (prs cs).length
    · have hltz : (k : Int) + 1 < (cs.length : Int) := by omega
      obtain ⟨c, hc⟩ : ∃ c, cs[k]? = some c := ⟨_, List.getElem?_eq_getElem (by omega)⟩
      obtain ⟨d, hd⟩ : ∃ d, cs[k + 1]? = some d := ⟨_, List.getElem?_eq_getElem (by omega)⟩
      obtain ⟨g, cv', hf, hbg, hgw⟩ := hown.form (by omega)
      injection hf with e1 _ e3
      subst e1; subst e3
      have kc0 : wr.cell? ⟨g, k, none⟩ = some (.int .i64 c) := by
        have := (hown.cells (g := g) rfl) k (iv c) (by simp [hc])
        rw [addr_add] at this
        exact (HC.out g k hgw (by omega)).trans this
      have kc1 : wr.cell? ⟨g, k + 1, none⟩ = some (.int .i64 d) := by
        have := (hown.cells (g := g) rfl) (k + 1) (iv d) (by simp [hd])
        rw [addr_add] at this
        exact (HC.out g (k + 1) hgw (by omega)).trans this
      have HP := hide (prs_get cs k c d hc hd)
      gi_wp2
      obtain ⟨CS, hCS, hmk⟩ := make_ss ls.length hls
      have HS := hide hCS
      clear hCS
      refine wpIn_wide.2 ?_
      have q1 : (0 : Int) ≤ (k : Int) := by omega
      have q2 : (k : Int) < (cs.length : Int) := by omega
      have q3 : (0 : Int) ≤ (k : Int) + 1 := by omega
      have hcsz : (cs.length : Int) ≤ 100000000 := by omega
      have hw1 : IntKind.i64.wrap (k : Int) = k := by simp [IntKind.wrap, IntKind.bits, IntKind.signed]; omega
      have hw2 : IntKind.i64.wrap ((k : Int) + 1) = (k : Int) + 1 := by simp [IntKind.wrap, IntKind.bits, IntKind.signed]; omega
      have t1 : ((k : Int) + 1).toNat = k + 1 := by omega
      go_region_held3 (fun w' => w'.cell? ⟨bc, 0, none⟩ = some (.slice (some ⟨g, 0, none⟩) cs.length cv) ∧ w'.cell? ⟨bl, 0, none⟩ = some (.slice (some ⟨L, 0, none⟩) ls.length cc) ∧ w'.cell? ⟨g, k, none⟩ = some (.int .i64 c) ∧ w'.cell? ⟨g, k + 1, none⟩ = some (.int .i64 d)) (go_keep) (fail)
      case' refine_2.refine_3.refine_3.refine_3.refine_3.refine_3.refine_3.refine_3.refine_3.refine_3.refine_3.refine_3.refine_1.refine_2.refine_3.refine_1.refine_2.refine_1.refine_2 =>
        have M := smid_first1 (ls := ls) (c := c) (d := d) (w := wr) (t1 := 182) (t2 := 210) HS.out
        generalize World.drew (World.alloc (World.alloc _ _) _) = w3 at M ⊢
        obtain ⟨S, hS⟩ : ∃ S, wr.heap.size + 1 = S := ⟨_, rfl⟩
        obtain ⟨Rw, hR⟩ : ∃ Rw, wr.heap.size = Rw := ⟨_, rfl⟩
        rw [hS] at M ⊢
        rw [hR] at M ⊢
        clear hS hR
      case' refine_2.refine_3.refine_3.refine_3.refine_3.refine_3.refine_3.refine_3.refine_3.refine_3.refine_3.refine_3.refine_2.refine_1.refine_2.refine_1.refine_2.refine_3.refine_1.refine_2 =>
        have M := smid_first2 (ls := ls) (c := c) (d := d) (w := wr) (t1 := 182) (t2 := 210) HS.out
        generalize World.drew (World.alloc (World.alloc _ _) _) = w3 at M ⊢
        obtain ⟨Rw, hR⟩ : ∃ S, wr.heap.size + 1 = S := ⟨_, rfl⟩
        obtain ⟨S, hS⟩ : ∃ Rw, wr.heap.size = Rw := ⟨_, rfl⟩
        rw [hR] at M ⊢
        rw [hS] at M ⊢
        clear hS hR
      all_goals
        generalize wr = wi at *
        clear hlb hcb hmk q1 q2 q3 hw1 hw2 t1 kc kc0 kc1 hltz hown HS h0 hW
        have hlsz : (ls.length : Int) ≤ 1000 := by omega
        have hbl' : bl < wi.heap.size := by omega
        have m0 := (M.below.cell (p := ⟨bl, 0, none⟩) hbl').trans kb
        gi_wp2
        refine wpIn_wide.2 ?_
        go_loopw [31] (fun i wx => ∃ j : Nat, j ≤ ls.length ∧ i = .int .i64 j ∧ SMid ls c d Rw S j wi wx) (fun i _ => ls.length - (intOf i).toNat)
        case atStart => exact ⟨0, Nat.zero_le _, rfl, M⟩
        case round =>
          clear m0 M
          obtain ⟨j, hj, rfl, M⟩ := hrel
          by_cases hjl : j < ls.length
          · have hjz : (j : Int) < (ls.length : Int) := by omega
            obtain ⟨r, hr⟩ : ∃ r, ls[j]? = some r := ⟨_, List.getElem?_eq_getElem hjl⟩
            obtain ⟨hrl, v, hvc, Av, cr, rfl, hrd⟩ := HV.out j r hr
            have hL2 : wr.cell? ⟨L, j, none⟩ = some (.slice Av r.length cr) := (M.below.cell (p := ⟨L, j, none⟩) (by show L < _; omega)).trans ((HC.out L j hLs n3).trans hvc)
            have HR := hide hrd
            clear hvc hrd
            go_wp2
            have hRk := M.topR
            have hSk := M.topS
            have hne := M.ne
            have hwk := M.below.size
            have hlR := M.lowR
            have SS := SIn.start (l := r) M hjl
            have HM := hide M
            have e0 := M.s0
            have e2 := M.s2
            clear M hL2
            generalize wr = wk at *
            go_loopw [38] (fun i wx => ∃ m : Nat, m ≤ r.length ∧ i = .int .i64 m ∧ SIn r c Rw j m wk wx) (fun i _ => r.length - (intOf i).toNat)
            case atStart => exact ⟨0, Nat.zero_le _, rfl, SS⟩
            case round =>
              clear SS
              obtain ⟨m, hm, rfl, SS⟩ := hrel
              by_cases hml : m < r.length
              · obtain ⟨⟨x0, y0, x1, y1⟩, hp⟩ : ∃ p, r[m]? = some p := ⟨_, List.getElem?_eq_getElem hml⟩
                have hner : r ≠ [] := by intro e; rw [e] at hml; simp at hml
                obtain ⟨bk, off, rfl, hbk, hcell⟩ := HR.out hner
                have tr : ∀ o, wr.cell? ⟨bk, o, none⟩ = w0.cell? ⟨bk, o, none⟩ := fun o =>
                  (SS.upd.cell (by omega) (by omega) (by simp)).trans ((HM.out.below.cell (p := ⟨bk, o, none⟩) (by show bk < _; omega)).trans (HC.out bk o (by omega) (by omega)))
                have d0 : wr.cell? ⟨bk, off + m * 4, none⟩ = some (.int .i64 x0) := (tr _).trans (hcell m _ hp 0 _ rfl)
                have d1 : wr.cell? ⟨bk, off + m * 4 + 1, none⟩ = some (.int .i64 y0) := (tr _).trans (hcell m _ hp 1 _ rfl)
                have d2 : wr.cell? ⟨bk, off + m * 4 + 2, none⟩ = some (.int .i64 x1) := (tr _).trans (hcell m _ hp 2 _ rfl)
                have d3 : wr.cell? ⟨bk, off + m * 4 + 3, none⟩ = some (.int .i64 y1) := (tr _).trans (hcell m _ hp 3 _ rfl)
                have f0 := (SS.upd.cell (off := 0) hSk hne (by simp)).trans e0
                have f2 := (SS.upd.cell (off := 2) hSk hne (by simp)).trans e2
                have hws := SS.upd.size
                have hmz : (m : Int) < (r.length : Int) := by omega
                have HE0 := hide e0
                have HE2 := hide e2
                have HSS := hide SS
                have hSw : S < wr.heap.size := by omega
                clear hcell tr e0 e2 SS
                by_cases c1 : x0 ≤ c
                · by_cases c2 : c < x1
                  · go_wp2
                    obtain ⟨wb, hwb⟩ : ∃ wb, wb = wr.alloc (.cells #[.int .i64 x0, .int .i64 y0, .int .i64 x1, .int .i64 y1] 69) := ⟨_, rfl⟩
                    rw [← hwb]
                    obtain ⟨v, v1, v2⟩ := HSS.out.cur
                    obtain ⟨Av2, cv2, hv2⟩ := own_form v2
                    subst hv2
                    have hRw : Rw < wr.heap.size := by omega
                    have hj63 : (0 : Int) ≤ (j : Int) := by omega
                    have g2 : wb.cell? ⟨S, 2, none⟩ = some (.slice (some ⟨Rw, 0, none⟩) ls.length ls.length) := by rw [hwb]; exact (World.cell?_alloc_lt _ _ ⟨S, 2, none⟩ hSw).trans f2
                    have gv : wb.cell? ⟨Rw, j, none⟩ = some (.slice Av2 (crossL (r.take m) c).length cv2) := by rw [hwb]; exact (World.cell?_alloc_lt _ _ ⟨Rw, j, none⟩ hRw).trans v1
                    have gy0 : wb.cell? ⟨wr.heap.size, 1, none⟩ = some (.int .i64 y0) := by rw [hwb]; simp [go_sem]
                    have gy1 : wb.cell? ⟨wr.heap.size, 3, none⟩ = some (.int .i64 y1) := by rw [hwb]; simp [go_sem]
                    have gs : wb.heap.size = wr.heap.size + 1 := by rw [hwb]; simp
                    have hbw : Below wr.heap.size wr wb := by rw [hwb]; exact (Below.refl _ _).alloc (Nat.le_refl _) _
                    have gown : wb.ownsRow wk.heap.size 188 2 (.slice Av2 (crossL (r.take m) c).length cv2) (crossL (r.take m) c).length ((crossL (r.take m) c).flatMap encS) := by rw [hwb]; exact v2.alloc _
                    have hcl : (crossL (r.take m) c).length ≤ 100000000 := by
                      unfold crossL
                      rw [List.length_map]
                      refine Nat.le_trans (List.length_filter_le _ _) ?_
                      rw [List.length_take]; omega
                    have HFZ := hide (HM.out.fz j)
                    have HV1 := hide v1
                    have HV2 := hide v2
                    have HGV := hide gv
                    have HBW := hide hbw
                    have HG2 := hide g2
                    have HY0 := hide gy0
                    have HY1 := hide gy1
                    have HO := hide gown
                    have HGS := hide gs
                    have hRwb : Rw < wb.heap.size := by omega
                    have hSwb : S < wb.heap.size := by omega
                    have hwrb : wr.heap.size < wb.heap.size := by omega
                    have nR1 : Rw ≠ S := fun e => hne e.symm
                    have nR2 : Rw ≠ wr.heap.size := by omega
                    have hwkb : wk.heap.size ≤ wb.heap.size := by omega
                    clear gs d0 d1 d2 d3 f0 f2 v1 v2 gown hwb
                    refine wp_region_reads 13 (fun w' => w'.cell? ⟨S, 2, none⟩ = some (.slice (some ⟨Rw, 0, none⟩) ls.length ls.length) ∧ w'.cell? ⟨Rw, j, none⟩ = some (.slice Av2 (crossL (r.take m) c).length cv2) ∧ w'.cell? ⟨wr.heap.size, 1, none⟩ = some (.int .i64 y0) ∧ w'.cell? ⟨wr.heap.size, 3, none⟩ = some (.int .i64 y1)) (by kernel_rfl) (by kernel_rfl) ⟨g2, gv, gy0, gy1⟩ ?_
                    simp only [List.take_succ_cons, List.take_zero, List.drop_succ_cons, List.drop_zero]
                    iterate 13
                      refine ⟨?_, Or.inl ⟨by rfl, ?_⟩, ?_⟩
                      rotate_left 1
                      · intro w' hSw
                        obtain ⟨z1, z2, z3, z4⟩ := hSw
                        go_simp
                        first | done | with_reducible rfl
                      simp only [Act.put, List.setIfInBounds_toArray, List.set_cons_zero, List.set_cons_succ]
                    simp only [wpReads]
                    intro K hK
                    go_simp
                    refine hK _ _ (fun _ => ⟨by go_keep, by go_keep, by go_keep, by go_keep⟩) ?_
                    clear hK K
                    intro K hK
                    refine step_append_lies _ rfl (.tmp 61) (.tmp 67) 182 rfl wk.heap.size 188 i1 (.agg #[.int .i64 0, .int .i64 0]) 2 16 Tryz.underlying182 gi gz0 gz1 gz2 rfl (by decide) (.slice Av2 (crossL (r.take m) c).length cv2) (crossL (r.take m) c).length _ rfl (own_drew (World.ownsRow.alloc (w := wb) HO.out _)) ⟨wb.heap.size, 0, none⟩ 1 1 [.int .i64 y0, .int .i64 y1] rfl rfl (news_drew wb _ _ _ rfl) (ints_one rfl) (by omega) (by unfold maxLen; omega) (by omega) (by simp; omega) _ rfl ?_
                    intro g9 cap9 w9 hown9 hgrow9 _ _
                    obtain ⟨s1, s2, s3, s4, s5, HF9⟩ := app_after HSS.out hp ⟨c1, c2⟩ HV1.out hRk HBW.out _ HV2.out hgrow9 hown9 HFZ.out hSk HG2.out HY0.out HY1.out
                    clear hown9 hgrow9
                    refine hK _ _ (fun _ => ⟨s1, s2, s3, s4⟩) ?_
                    clear hK K
                    intro K hK
                    simp only [Act.put, List.setIfInBounds_toArray, List.set_cons_zero, List.set_cons_succ] at hK ⊢
                    go_simp
                    refine hK _ _ (fun _ => ⟨s1, s2, s3, s4⟩) ?_
                    clear hK K
                    intro K hK
                    simp only [Act.put, List.setIfInBounds_toArray, List.set_cons_zero, List.set_cons_succ] at hK ⊢
                    go_simp
                    refine hK _ _ (fun h => absurd rfl h) ?_
                    clear hK K
                    refine NoPanic.normal ?_
                    have HF9' := hide HF9.out
                    go_wp2
                    go_roundw
                    case rel => exact ⟨m + 1, by omega, by go_num, HF9'.out⟩
                    case measure => simp [intOf]; omega
                  · have c2' : x1 ≤ c := by omega
                    go_wp2
                    go_roundw
                    case rel => exact ⟨m + 1, by omega, by go_num, HSS.out.skip hp (fun h => by have := h.2; simp at this; omega) ((Below.refl _ _).alloc (Nat.le_refl _) _) (by omega)⟩
                    case measure => simp [intOf]; omega
                · have c1' : c < x0 := by omega
                  go_wp2
                  go_roundw
                  case rel => exact ⟨m + 1, by omega, by go_num, HSS.out.skip hp (fun h => by have := h.1; simp at this; omega) ((Below.refl _ _).alloc (Nat.le_refl _) _) (by omega)⟩
                  case measure => simp [intOf]; omega
              · obtain rfl : m = r.length := by omega
                have hmz : ¬ (r.length : Int) < (r.length : Int) := by omega
                have HF := hide (SIn.fin HM.out hr SS)
                clear SS e0 e2
                go_wp2
                go_roundw
                case rel => exact ⟨j + 1, by omega, by go_num, HF.out⟩
                case measure => simp [intOf]; omega
          · obtain rfl : j = ls.length := by omega
            have hjz : ¬ (ls.length : Int) < (ls.length : Int) := by omega
            have e0 := M.s0
            have e1 := M.s1
            have e2 := M.s2
            have hJ2 := HJ.out _ _ _ HJk.out M.below
            have hx : (prs cs)[k]? = some (c, d) := HP.out
            obtain ⟨hkp, hxe⟩ := List.getElem?_eq_some_iff.1 hx
            have hfi : (prs cs).take (k + 1) = (prs cs).take k ++ [(c, d)] := by rw [List.take_succ_eq_append_getElem hkp, hxe]
            have hpost : ∃ post, prs cs = (prs cs).take k ++ (c, d) :: post := ⟨(prs cs).drop (k + 1), by rw [← hxe, ← List.drop_eq_getElem_cons hkp, List.take_append_drop]⟩
            have hok : OkSlab ls (c, d) #[.agg #[.int .i64 c, .int .i64 d, .slice (some ⟨Rw, 0, none⟩) ls.length ls.length]] wr := by
              refine ⟨Rw, rfl, M.topR, fun q l hl => ?_⟩
              obtain ⟨v, v1, v2⟩ := M.done q l (List.getElem?_eq_some_iff.1 hl).1 hl
              exact ⟨v, v1, own_rd v2 (fun _ => rfl)⟩
            obtain ⟨fn, tmps, assign, body, hy, hR⟩ := HY.out ((prs cs).take k) (c, d) #[.agg #[.int .i64 c, .int .i64 d, .slice (some ⟨Rw, 0, none⟩) ls.length ls.length]] wr hJ2 hpost hok
            have FI := hide hfi
            have HM := hide M
            clear hx hxe hfi hpost hJ2 hok HJ HY M
            have hk2 : (k : Int) + 1 + 1 ≤ 100000001 := by omega
            have hk3' : (0 : Int) ≤ (k : Int) := by omega
            go_wp2
            gi_wp2
            refine ⟨rfl, hR.mono ?_⟩
            rintro e W3 (⟨rfl, hJ3, hk3⟩ | ⟨rfl, hJx3⟩)
            · have HJ3 := hide hJ3
              have HK3 := hide hk3
              clear hJ3 hk3 hR
              gi_wp2
              go_roundw
              case rel =>
                refine ⟨k + 1, by omega, by go_num, hide (by rw [FI.out]; exact HJ3.out), hide fun b o h1 h2 => (HK3.out.2 b o h1 h2).trans ((HM.out.below.cell (p := ⟨b, o, none⟩) (by show b < _; omega)).trans (HC.out b o h1 h2)), ?_⟩
                have := HK3.out.1
                have := HM.out.below.size
                omega
              case measure => simp [intOf]; omega
            · have HJx := hide hJx3
              clear hJx3 hR
              gi_wp2
              refine bodyPost_ret (results_none rfl _ _ _) rfl ?_
              exact ⟨⟨_, rfl⟩, .inr ⟨_, HJx.out⟩⟩
    · have hltz : ¬ (k : Int) + 1 < (cs.length : Int) := by omega
      have hk' : (prs cs).take k = prs cs := List.take_of_length_le (by omega)
      have HK := hide hk'
      clear hk' HJ HY h0
      gi_wp2
      go_end0
      exact ⟨⟨_, rfl⟩, .inl (by have := HJk.out; rw [HK.out] at this; exact this)⟩
end Go.Proofs.YtdolpeljengpaaaGreat
