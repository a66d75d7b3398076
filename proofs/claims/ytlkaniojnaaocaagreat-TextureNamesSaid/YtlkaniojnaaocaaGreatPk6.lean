/- Texts laid together: MArea, MAlg, MTexA, MTexB, App, RoundR, Grp, CopyN. Lemmas for the statements of this seat; no condition. -/
import Derived.Test.YtlkaniojnaaocaaGreatPk1
import Derived.Test.YtlkaniojnaaocaaGreatPk5
import Derived.Test.YtlkaniojnaaocaaGreatPk3
import Derived.Maps.AppendAt
import Derived.Laws.AppendOwnNone
import Derived.Test.YtlkaniojnaaocaaGreatPk2
import Derived.Maps.OwnSet
import Derived.WideKeyEntry
import Derived.DeepKeys4
import Derived.Laws.CopyOwn

/- Plain law: sums over the lattice; how many points of it a list of rectangles has. -/
namespace Go.Proofs.YtlkaniojnaaocaaGreat
set_option linter.unusedVariables false
set_option linter.unusedSimpArgs false

/-- The sum of f over lo ≤ i < lo + n. -/
def sumZ (f : Int → Int) (lo : Int) : Nat → Int
  | 0 => 0
  | n + 1 => sumZ f lo n + f (lo + n)
theorem sumZ_congr {f g : Int → Int} {lo : Int} : ∀ {n : Nat}, (∀ i, lo ≤ i → i < lo + n → f i = g i) → sumZ f lo n = sumZ g lo n
  | 0, _ => rfl
  | n + 1, h => by
    have h1 := sumZ_congr (f := f) (g := g) (lo := lo) (n := n) (fun i a b => h i a (by omega))
    have h2 := h (lo + n) (by omega) (by omega)
    simp only [sumZ, h1, h2]
theorem sumZ_add (f g : Int → Int) (lo : Int) : ∀ n : Nat, sumZ (fun i => f i + g i) lo n = sumZ f lo n + sumZ g lo n
  | 0 => rfl
  | n + 1 => by simp only [sumZ, sumZ_add f g lo n]; omega
theorem sumZ_sub (f g : Int → Int) (lo : Int) : ∀ n : Nat, sumZ (fun i => f i - g i) lo n = sumZ f lo n - sumZ g lo n
  | 0 => rfl
  | n + 1 => by simp only [sumZ, sumZ_sub f g lo n]; omega
theorem sumZ_zero (lo : Int) : ∀ n : Nat, sumZ (fun _ => 0) lo n = 0
  | 0 => rfl
  | n + 1 => by simp only [sumZ, sumZ_zero lo n]; omega
theorem sumZ_mul (c : Int) (f : Int → Int) (lo : Int) : ∀ n : Nat, sumZ (fun i => c * f i) lo n = c * sumZ f lo n
  | 0 => by simp [sumZ]
  | n + 1 => by simp only [sumZ, sumZ_mul c f lo n, Int.mul_add]
theorem sumZ_const (c : Int) (lo : Int) : ∀ n : Nat, sumZ (fun _ => c) lo n = n * c
  | 0 => by simp [sumZ]
  | n + 1 => by simp only [sumZ, sumZ_const c lo n]; rw [Int.natCast_succ, Int.add_mul]; omega
theorem sumZ_split (f : Int → Int) (lo : Int) (n : Nat) : ∀ m : Nat, sumZ f lo (n + m) = sumZ f lo n + sumZ f (lo + n) m
  | 0 => by simp [sumZ]
  | m + 1 => by
    have h := sumZ_split f lo n m
    have e : lo + ((n + m : Nat) : Int) = lo + n + m := by omega
    rw [← Nat.add_assoc]
    simp only [sumZ, h, e]
    omega
theorem sumZ_shift (f : Int → Int) (d lo : Int) : ∀ n : Nat, sumZ (fun i => f (i + d)) lo n = sumZ f (lo + d) n
  | 0 => rfl
  | n + 1 => by
    have e : lo + n + d = lo + d + n := by omega
    simp only [sumZ, sumZ_shift f d lo n, e]
theorem sumZ_le {f g : Int → Int} {lo : Int} : ∀ {n : Nat}, (∀ i, lo ≤ i → i < lo + n → f i ≤ g i) → sumZ f lo n ≤ sumZ g lo n
  | 0, _ => Int.le_refl _
  | n + 1, h => by
    have h1 := sumZ_le (f := f) (g := g) (lo := lo) (n := n) (fun i a b => h i a (by omega))
    have h2 := h (lo + n) (by omega) (by omega)
    simp only [sumZ]; omega
theorem sumZ_nonneg {f : Int → Int} {lo : Int} {n : Nat} (h : ∀ i, lo ≤ i → i < lo + n → 0 ≤ f i) : 0 ≤ sumZ f lo n := by
  have := sumZ_le (f := fun _ => 0) (g := f) (lo := lo) (n := n) h
  rwa [sumZ_zero] at this
/-- Nothing but an interval counts. -/
theorem sumZ_in (f : Int → Int) {lo a b : Int} {n : Nat} (h1 : lo ≤ a) (h2 : a ≤ b) (h3 : b ≤ lo + n) (h : ∀ i, lo ≤ i → i < lo + n → ¬ (a ≤ i ∧ i < b) → f i = 0) : sumZ f lo n = sumZ f a (b - a).toNat := by
  have e : n = (a - lo).toNat + ((b - a).toNat + (lo + n - b).toNat) := by omega
  rw [e, sumZ_split, sumZ_split]
  have e1 : lo + ((a - lo).toNat : Int) = a := by omega
  have e2 : a + ((b - a).toNat : Int) = b := by omega
  rw [e1, e2]
  have z1 : sumZ f lo (a - lo).toNat = 0 := by
    rw [← sumZ_zero lo (a - lo).toNat]
    exact sumZ_congr fun i q1 q2 => h i q1 (by omega) (by omega)
  have z2 : sumZ f b (lo + n - b).toNat = 0 := by
    rw [← sumZ_zero b (lo + n - b).toNat]
    exact sumZ_congr fun i q1 q2 => h i (by omega) (by omega) (by omega)
  omega
theorem sumZ_comm (f : Int → Int → Int) (lo mo : Int) (n : Nat) : ∀ m : Nat, sumZ (fun i => sumZ (fun j => f i j) mo m) lo n = sumZ (fun j => sumZ (fun i => f i j) lo n) mo m
  | 0 => by simp only [sumZ]; exact sumZ_zero lo n
  | m + 1 => by
    simp only [sumZ]
    rw [sumZ_add, sumZ_comm f lo mo n m]

/-- 1 where it holds. -/
def ind (p : Prop) [Decidable p] : Int := if p then 1 else 0
theorem ind_01 (p : Prop) [Decidable p] : ind p = 0 ∨ ind p = 1 := by unfold ind; split <;> simp
theorem ind_t {p : Prop} [Decidable p] (h : p) : ind p = 1 := if_pos h
theorem ind_f {p : Prop} [Decidable p] (h : ¬ p) : ind p = 0 := if_neg h
theorem ind_and (p q : Prop) [Decidable p] [Decidable q] : ind (p ∧ q) = ind p * ind q := by
  unfold ind
  by_cases hp : p <;> by_cases hq : q <;> simp [hp, hq]
theorem ind_iff {p q : Prop} [Decidable p] [Decidable q] (h : p ↔ q) : ind p = ind q := by
  unfold ind
  by_cases hp : p
  · rw [if_pos hp, if_pos (h.1 hp)]
  · rw [if_neg hp, if_neg (fun x => hp (h.2 x))]
/-- An interval's points. -/
theorem sumZ_ival {lo a b : Int} {n : Nat} (h1 : lo ≤ a) (h3 : b ≤ lo + n) : sumZ (fun i => ind (a ≤ i ∧ i < b)) lo n = max 0 (b - a) := by
  by_cases hab : a ≤ b
  · rw [sumZ_in _ h1 hab h3 (fun i _ _ h => ind_f h)]
    rw [sumZ_congr (g := fun _ => 1) (fun i q1 q2 => ind_t ⟨q1, by omega⟩), sumZ_const]
    omega
  · rw [sumZ_congr (g := fun _ => 0) (fun i q1 q2 => ind_f (by omega)), sumZ_zero]
    omega

/-- The sum over the square of the lattice from -m to m. -/
def vol (m : Nat) (f : Int → Int → Int) : Int := sumZ (fun x => sumZ (fun y => f x y) (-m) (2 * m)) (-m) (2 * m)
theorem vol_congr {m : Nat} {f g : Int → Int → Int} (h : ∀ x y, -(m : Int) ≤ x → x < m → -(m : Int) ≤ y → y < m → f x y = g x y) : vol m f = vol m g :=
  sumZ_congr fun x a b => sumZ_congr fun y c d => h x y a (by omega) c (by omega)
theorem vol_add (m : Nat) (f g : Int → Int → Int) : vol m (fun x y => f x y + g x y) = vol m f + vol m g := by
  unfold vol
  rw [← sumZ_add]
  exact sumZ_congr fun x _ _ => sumZ_add _ _ _ _
theorem vol_sub (m : Nat) (f g : Int → Int → Int) : vol m (fun x y => f x y - g x y) = vol m f - vol m g := by
  unfold vol
  rw [← sumZ_sub]
  exact sumZ_congr fun x _ _ => sumZ_sub _ _ _ _
theorem vol_zero (m : Nat) : vol m (fun _ _ => 0) = 0 := by
  unfold vol
  rw [sumZ_congr (g := fun _ => 0) (fun x _ _ => sumZ_zero _ _), sumZ_zero]
theorem vol_le {m : Nat} {f g : Int → Int → Int} (h : ∀ x y, f x y ≤ g x y) : vol m f ≤ vol m g := sumZ_le fun x _ _ => sumZ_le fun y _ _ => h x y
theorem vol_nonneg {m : Nat} {f : Int → Int → Int} (h : ∀ x y, 0 ≤ f x y) : 0 ≤ vol m f := by
  have := vol_le (m := m) (f := fun _ _ => 0) (g := f) h
  rwa [vol_zero] at this
theorem vol_one (m : Nat) : vol m (fun _ _ => 1) = (2 * m) * (2 * m) := by
  unfold vol
  rw [sumZ_congr (g := fun _ => ((2 * m : Nat) : Int)) (fun x _ _ => by rw [sumZ_const]; omega), sumZ_const]
  simp
theorem vol_bd {m : Nat} {f : Int → Int → Int} (h0 : ∀ x y, 0 ≤ f x y) (h : ∀ x y, f x y ≤ 1) : 0 ≤ vol m f ∧ vol m f ≤ (2 * m) * (2 * m) :=
  ⟨vol_nonneg h0, by rw [← vol_one]; exact vol_le h⟩
/-- What is 0 outside of a frame counts alike when it is moved inside of it. -/
theorem vol_move {m : Nat} {f : Int → Int → Int} {k : Nat} (hk : k ≤ m) (a b : Int) (ha : -(k : Int) ≤ a ∧ a ≤ k) (hb : -(k : Int) ≤ b ∧ b ≤ k)
    (h0 : ∀ x y, ¬ (-((m - k : Nat) : Int) ≤ x ∧ x < ((m - k : Nat) : Int) ∧ -((m - k : Nat) : Int) ≤ y ∧ y < ((m - k : Nat) : Int)) → f x y = 0) : vol m (fun x y => f (x + a) (y + b)) = vol m f := by
  unfold vol
  have hy : ∀ x, sumZ (fun y => f x (y + b)) (-m) (2 * m) = sumZ (fun y => f x y) (-m) (2 * m) := fun x => by
    rw [sumZ_shift (fun y => f x y) b, sumZ_in (fun y => f x y) (lo := -m) (a := -((m - k : Nat) : Int)) (b := ((m - k : Nat) : Int)) (by omega) (by omega) (by omega) (fun y _ _ h => h0 x y (by omega)),
      sumZ_in (fun y => f x y) (lo := -m + b) (a := -((m - k : Nat) : Int)) (b := ((m - k : Nat) : Int)) (by omega) (by omega) (by omega) (fun y _ _ h => h0 x y (by omega))]
  have hx : ∀ x, ¬ (-((m - k : Nat) : Int) ≤ x ∧ x < ((m - k : Nat) : Int)) → sumZ (fun y => f x y) (-m) (2 * m) = 0 := fun x h => by
    rw [sumZ_congr (g := fun _ => 0) (fun y _ _ => h0 x y (by omega)), sumZ_zero]
  rw [sumZ_congr (g := fun x => sumZ (fun y => f (x + a) y) (-m) (2 * m)) (fun x _ _ => hy (x + a)), sumZ_shift (fun x => sumZ (fun y => f x y) (-m) (2 * m)) a,
    sumZ_in (fun x => sumZ (fun y => f x y) (-m) (2 * m)) (lo := -m) (a := -((m - k : Nat) : Int)) (b := ((m - k : Nat) : Int)) (by omega) (by omega) (by omega) (fun x _ _ h => hx x h),
    sumZ_in (fun x => sumZ (fun y => f x y) (-m) (2 * m)) (lo := -m + a) (a := -((m - k : Nat) : Int)) (b := ((m - k : Nat) : Int)) (by omega) (by omega) (by omega) (fun x _ _ h => hx x h)]

/-- A rectangle's points: of any four numbers. -/
def box (r : R4) : Int := max 0 (r.x1 - r.x0) * max 0 (r.y1 - r.y0)
theorem rin_ind (r : R4) (x y : Int) : ind (rin r x y) = ind (r.x0 ≤ x ∧ x < r.x1) * ind (r.y0 ≤ y ∧ y < r.y1) := by
  rw [← ind_and]
  exact ind_iff ⟨fun h => ⟨⟨h.1, h.2.1⟩, h.2.2⟩, fun h => ⟨h.1.1, h.1.2, h.2⟩⟩
theorem vol_rect {m : Nat} {r : R4} (h1 : -(m : Int) ≤ r.x0) (h2 : r.x1 ≤ m) (h3 : -(m : Int) ≤ r.y0) (h4 : r.y1 ≤ m) : vol m (fun x y => ind (rin r x y)) = box r := by
  unfold vol
  have e : ∀ x, sumZ (fun y => ind (rin r x y)) (-m) (2 * m) = max 0 (r.y1 - r.y0) * ind (r.x0 ≤ x ∧ x < r.x1) := fun x => by
    rw [sumZ_congr (g := fun y => ind (r.x0 ≤ x ∧ x < r.x1) * ind (r.y0 ≤ y ∧ y < r.y1)) (fun y _ _ => rin_ind r x y), sumZ_mul, sumZ_ival h3 (by omega), Int.mul_comm]
  rw [sumZ_congr (fun x _ _ => e x), sumZ_mul, sumZ_ival h1 (by omega)]
  unfold box
  rw [Int.mul_comm]
/-- The common part of two rectangles, any numbers. -/
def meet4 (p q : R4) : R4 := ⟨max p.x0 q.x0, max p.y0 q.y0, min p.x1 q.x1, min p.y1 q.y1⟩
theorem rin_meet (p q : R4) (x y : Int) : rin (meet4 p q) x y ↔ rin p x y ∧ rin q x y := by
  simp only [rin, meet4]; omega
theorem ind_meet (p q : R4) (x y : Int) : ind (rin (meet4 p q) x y) = ind (rin p x y) * ind (rin q x y) := by
  rw [← ind_and]; exact ind_iff (rin_meet p q x y)
/-- How many rectangles of a list have a point. -/
def cntP (l : List R4) (x y : Int) : Int := (l.map fun r => ind (rin r x y)).sum
theorem cntP_nil (x y : Int) : cntP [] x y = 0 := rfl
theorem cntP_cons (r : R4) (l : List R4) (x y : Int) : cntP (r :: l) x y = ind (rin r x y) + cntP l x y := by simp [cntP]
theorem cntP_append (a b : List R4) (x y : Int) : cntP (a ++ b) x y = cntP a x y + cntP b x y := by simp [cntP, List.sum_append]
theorem cntP_nonneg (l : List R4) (x y : Int) : 0 ≤ cntP l x y := by
  induction l with
  | nil => simp [cntP_nil]
  | cons r l ih => rw [cntP_cons]; have := ind_01 (rin r x y); omega
/-- No two rectangles have a common point. -/
def apart4 (a b : R4) : Prop := ∀ x y, ¬ (rin a x y ∧ rin b x y)
theorem cntP_ind {l : List R4} (h : l.Pairwise apart4) (x y : Int) : cntP l x y = ind (pmem l x y) := by
  induction l with
  | nil => rw [cntP_nil, ind_f pmem_nil]
  | cons r l ih =>
    obtain ⟨h1, h2⟩ := List.pairwise_cons.1 h
    rw [cntP_cons, ih h2]
    by_cases hr : rin r x y
    · have hn : ¬ pmem l x y := fun ⟨s, hs, hx⟩ => h1 s hs x y ⟨hr, hx⟩
      rw [ind_t hr, ind_f hn, ind_t (pmem_cons.2 (.inl hr))]; rfl
    · rw [ind_f hr, Int.zero_add]
      exact ind_iff ⟨fun h => pmem_cons.2 (.inr h), fun h => (pmem_cons.1 h).resolve_left hr⟩
/-- 1 at the points of a list. -/
def one (a : List R4) (x y : Int) : Int := ind (pmem a x y)
theorem one_01 (a : List R4) (x y : Int) : one a x y = 0 ∨ one a x y = 1 := ind_01 _
/-- The rectangles of a list within a frame. -/
def inFr (m : Nat) (r : R4) : Prop := -(m : Int) ≤ r.x0 ∧ r.x1 ≤ m ∧ -(m : Int) ≤ r.y0 ∧ r.y1 ≤ m
theorem vol_cntP {m : Nat} {l : List R4} (h : ∀ r ∈ l, inFr m r) : vol m (cntP l) = (l.map box).sum := by
  induction l with
  | nil => exact vol_zero m
  | cons r l ih =>
    have e : cntP (r :: l) = fun x y => ind (rin r x y) + cntP l x y := by funext x y; exact cntP_cons r l x y
    obtain ⟨a, b, c, d⟩ := h r (by simp)
    rw [e, vol_add, ih (fun s hs => h s (by simp [hs])), vol_rect a b c d]
    simp
/-- The points that a rectangle has in common with those of a list. -/
theorem vol_rect_cnt {m : Nat} {p : R4} {b : List R4} (hp : inFr m p) : vol m (fun x y => ind (rin p x y) * cntP b x y) = (b.map fun q => box (meet4 p q)).sum := by
  induction b with
  | nil => simp only [cntP_nil, Int.mul_zero, List.map_nil, List.sum_nil]; exact vol_zero m
  | cons q b ih =>
    have e : (fun x y => ind (rin p x y) * cntP (q :: b) x y) = fun x y => ind (rin (meet4 p q) x y) + ind (rin p x y) * cntP b x y := by
      funext x y; rw [cntP_cons, Int.mul_add, ind_meet]
    obtain ⟨h1, h2, h3, h4⟩ := hp
    rw [e, vol_add, ih, vol_rect (by simp only [meet4]; omega) (by simp only [meet4]; omega) (by simp only [meet4]; omega) (by simp only [meet4]; omega)]
    simp
theorem vol_cnt_cnt {m : Nat} {a b : List R4} (ha : ∀ r ∈ a, inFr m r) : vol m (fun x y => cntP a x y * cntP b x y) = (a.map fun p => (b.map fun q => box (meet4 p q)).sum).sum := by
  induction a with
  | nil => simp only [cntP_nil, Int.zero_mul, List.map_nil, List.sum_nil]; exact vol_zero m
  | cons p a ih =>
    have e : (fun x y => cntP (p :: a) x y * cntP b x y) = fun x y => ind (rin p x y) * cntP b x y + cntP a x y * cntP b x y := by
      funext x y; rw [cntP_cons, Int.add_mul]
    rw [e, vol_add, ih (fun s hs => ha s (by simp [hs])), vol_rect_cnt (ha p (by simp))]
    simp
/-- A canonical list has each point in one rectangle. -/
theorem SCan.apart {s : List Sp} (h : SCan s) : s.Pairwise fun p q => p.2 ≤ q.1 := h.2.imp fun h => by omega
theorem flat_apart : ∀ {S : List Slab}, SOK S → (flat S).Pairwise apart4
  | [], _ => List.Pairwise.nil
  | a :: S, h => by
    have ih := flat_apart h.tail
    have e : flat (a :: S) = flat1 a ++ flat S := by simp [flat]
    rw [e, List.pairwise_append]
    refine ⟨?_, ih, fun r hr s hs x y ⟨h1, h2⟩ => ?_⟩
    · unfold flat1
      rw [List.pairwise_map]
      exact h.head.2.2.apart.imp fun {p q} hpq x y ⟨h1, h2⟩ => by
        simp only [rin] at h1 h2; omega
    · obtain ⟨p, hp, rfl⟩ := List.mem_map.1 hr
      obtain ⟨b, hb, hs⟩ := List.mem_flatMap.1 hs
      obtain ⟨q, hq, rfl⟩ := List.mem_map.1 hs
      have := h.after b hb
      simp only [rin] at h1 h2; omega
theorem RCan.apart {l : List R4} (h : RCan l) : l.Pairwise apart4 := by
  obtain ⟨S, hS, rfl⟩ := h
  exact flat_apart hS
end Go.Proofs.YtlkaniojnaaocaaGreat

/- Plain law: what makes a list a region; joins of regions are regions; areas count points. -/
namespace Go.Proofs.YtlkaniojnaaocaaGreat
set_option linter.unusedVariables false
set_option linter.unusedSimpArgs false

theorem can_wf {l : List R4} (h : RCan l) : ∀ r ∈ l, wf4 r := by
  obtain ⟨S, hS, rfl⟩ := h
  intro r hr
  obtain ⟨a, ha, hr⟩ := List.mem_flatMap.1 hr
  obtain ⟨p, hp, rfl⟩ := List.mem_map.1 hr
  have := hS.all a ha
  exact ⟨this.1, this.2.2.1 p hp⟩
/-- A list whose points belong to valid rectangles has valid rectangles. -/
theorem sub_valid {l m : List R4} (hl : ∀ r ∈ l, wf4 r) (hm : ∀ r ∈ m, valid4 r) (h : ∀ x y, pmem l x y → pmem m x y) : ∀ r ∈ l, valid4 r := by
  intro r hr
  obtain ⟨w1, w2⟩ := hl r hr
  obtain ⟨s, hs, h1⟩ := h r.x0 r.y0 ⟨r, hr, by simp only [rin]; omega⟩
  obtain ⟨t, ht, h2⟩ := h (r.x1 - 1) (r.y1 - 1) ⟨r, hr, by simp only [rin]; omega⟩
  have v1 := hm s hs
  have v2 := hm t ht
  simp only [rin, valid4, fineP] at h1 h2 v1 v2 ⊢
  omega
theorem made_self {l : List R4} (hc : RCan l) : rjoin hFst l [] = l :=
  (rjoin_eq (h := hFst) rfl (can_wf hc) (by simp) hc fun x y => by simp [hFst]).symm
theorem can_check {l : List R4} (hc : RCan l) (hv : ∀ r ∈ l, valid4 r) (hn : l.length ≤ 400) : checkF l = 0 := by
  have ha : l.any (fun r => !decide (valid4 r)) = false := by
    rw [List.any_eq_false]
    intro r hr
    simp [hv r hr]
  rw [checkF_valid (by omega) ha, if_pos (made_self hc)]
theorem check_frame {l : List R4} (h : checkF l = 0) {m : Nat} (hm : 1000000 ≤ m) : ∀ r ∈ l, inFr m r := fun r hr => by
  have := (checkF_ok h).2.1 r hr
  simp only [valid4, fineP, inFr] at this ⊢
  omega
theorem join_pts {h : Bool → Bool → Bool} (h0 : h false false = false) {a b : List R4} (ha : checkF a = 0) (hb : checkF b = 0) (x y : Int) : pmem (rjoin h a b) x y ↔ h (decide (pmem a x y)) (decide (pmem b x y)) = true :=
  (rjoin_ok h0 (check_wf ha) (check_wf hb)).2 x y
theorem join_check {h : Bool → Bool → Bool} (h0 : h false false = false) {a b : List R4} (ha : checkF a = 0) (hb : checkF b = 0) (hn : (rjoin h a b).length ≤ 400) : checkF (rjoin h a b) = 0 := by
  have hc := (rjoin_ok h0 (check_wf ha) (check_wf hb)).1
  refine can_check hc (sub_valid (m := a ++ b) (can_wf hc) (fun r hr => ?_) fun x y hx => ?_) hn
  · rcases List.mem_append.1 hr with hr | hr
    · exact (checkF_ok ha).2.1 r hr
    · exact (checkF_ok hb).2.1 r hr
  · rw [join_pts h0 ha hb] at hx
    rw [pmem_append]
    by_cases p1 : pmem a x y
    · exact .inl p1
    · by_cases p2 : pmem b x y
      · exact .inr p2
      · rw [decide_eq_false p1, decide_eq_false p2, h0] at hx; cases hx
theorem joinF_ok {h : Bool → Bool → Bool} {a b : List R4} (ha : checkF a = 0) (hb : checkF b = 0) : joinF h a b = if 400 < (rjoin h a b).length then ([], 4) else (rjoin h a b, 0) := by
  have : bothF a b = 0 := by unfold bothF; rw [if_pos ha]; exact hb
  unfold joinF
  rw [if_pos this]
theorem can_eq {a b : List R4} (ha : checkF a = 0) (hb : checkF b = 0) (h : ∀ x y, pmem a x y ↔ pmem b x y) : a = b := (check_rcan ha).ext (check_rcan hb) h
theorem area_vol {l : List R4} (h : checkF l = 0) {m : Nat} (hm : 1000000 ≤ m) : areaS l = vol m (one l) := by
  have e : vol m (one l) = vol m (cntP l) := vol_congr fun x y _ _ _ _ => (cntP_ind (check_rcan h).apart x y).symm
  rw [e, vol_cntP (check_frame h hm)]
  unfold areaS
  congr 1
  refine List.map_congr_left fun r hr => ?_
  obtain ⟨w1, w2⟩ := check_wf h r hr
  unfold area4 box
  rw [Int.max_eq_right (by omega), Int.max_eq_right (by omega)]
/-- The areas of the union and of the common part. -/
theorem area_sum {a b u c : List R4} (ha : checkF a = 0) (hb : checkF b = 0) (hu : checkF u = 0) (hc : checkF c = 0) (pu : ∀ x y, pmem u x y ↔ pmem a x y ∨ pmem b x y) (pc : ∀ x y, pmem c x y ↔ pmem a x y ∧ pmem b x y) : areaS u + areaS c = areaS a + areaS b := by
  obtain ⟨m, hm⟩ : ∃ m : Nat, m = 1000000 := ⟨_, rfl⟩
  rw [area_vol ha (m := m) (by omega), area_vol hb (m := m) (by omega), area_vol hu (m := m) (by omega), area_vol hc (m := m) (by omega), ← vol_add, ← vol_add]
  refine vol_congr fun x y _ _ _ _ => ?_
  unfold one
  rw [ind_iff (pu x y), ind_iff (pc x y)]
  unfold ind
  by_cases h1 : pmem a x y <;> by_cases h2 : pmem b x y <;> simp [h1, h2]
end Go.Proofs.YtlkaniojnaaocaaGreat

/- Plain law: the bricks that a region meets, in order; the part of a region on a brick. -/
namespace Go.Proofs.YtlkaniojnaaocaaGreat
set_option linter.unusedVariables false
set_option linter.unusedSimpArgs false

/-- A brick's row and column. -/
abbrev Ky := Int × Int
def klt (a b : Ky) : Prop := a.1 < b.1 ∨ (a.1 = b.1 ∧ a.2 < b.2)
instance (a b : Ky) : Decidable (klt a b) := by unfold klt; infer_instance
theorem klt_irr (a : Ky) : ¬ klt a a := by unfold klt; omega
theorem klt_trans {a b c : Ky} (h : klt a b) (g : klt b c) : klt a c := by unfold klt at *; omega
theorem klt_total (a b : Ky) : klt a b ∨ a = b ∨ klt b a := by
  obtain ⟨a1, a2⟩ := a; obtain ⟨b1, b2⟩ := b
  unfold klt
  by_cases h1 : a1 < b1
  · exact .inl (.inl h1)
  · by_cases h2 : b1 < a1
    · exact .inr (.inr (.inl h2))
    · obtain rfl : a1 = b1 := by omega
      by_cases h3 : a2 < b2
      · exact .inl (.inr ⟨rfl, h3⟩)
      · by_cases h4 : b2 < a2
        · exact .inr (.inr (.inr ⟨rfl, h4⟩))
        · obtain rfl : a2 = b2 := by omega
          exact .inr (.inl rfl)
theorem ksort_ext : ∀ {a b : List Ky}, a.Pairwise klt → b.Pairwise klt → (∀ k, k ∈ a ↔ k ∈ b) → a = b
  | [], [], _, _, _ => rfl
  | [], y :: b, _, _, h => absurd ((h y).2 (by simp)) (by simp)
  | x :: a, [], _, _, h => absurd ((h x).1 (by simp)) (by simp)
  | x :: a, y :: b, ha, hb, h => by
    obtain ⟨a1, a2⟩ := List.pairwise_cons.1 ha
    obtain ⟨b1, b2⟩ := List.pairwise_cons.1 hb
    have e : x = y := by
      rcases List.mem_cons.1 ((h x).1 (by simp)) with e | hx
      · exact e
      · rcases List.mem_cons.1 ((h y).2 (by simp)) with e | hy
        · exact e.symm
        · exact absurd (klt_trans (a1 y hy) (b1 x hx)) (klt_irr x)
    subst e
    rw [ksort_ext a2 b2 fun k => ?_]
    constructor
    · intro hk
      rcases List.mem_cons.1 ((h k).1 (List.mem_cons_of_mem _ hk)) with e | hk2
      · subst e; exact absurd (a1 k hk) (klt_irr k)
      · exact hk2
    · intro hk
      rcases List.mem_cons.1 ((h k).2 (List.mem_cons_of_mem _ hk)) with e | hk2
      · subst e; exact absurd (b1 k hk) (klt_irr k)
      · exact hk2
def insK (k : Ky) : List Ky → List Ky
  | [] => [k]
  | a :: l => if klt k a then k :: a :: l else if k = a then a :: l else a :: insK k l
theorem mem_insK (k : Ky) : ∀ (l : List Ky) (x : Ky), x ∈ insK k l ↔ x = k ∨ x ∈ l
  | [], x => by simp [insK]
  | a :: l, x => by
    unfold insK
    split
    · simp
    · split
      · rename_i e; subst e; simp
      · simp only [List.mem_cons, mem_insK k l x]
        constructor
        · rintro (h | h | h)
          · exact .inr (.inl h)
          · exact .inl h
          · exact .inr (.inr h)
        · rintro (h | h | h)
          · exact .inr (.inl h)
          · exact .inl h
          · exact .inr (.inr h)
theorem insK_sorted (k : Ky) : ∀ (l : List Ky), l.Pairwise klt → (insK k l).Pairwise klt
  | [], _ => by simp [insK]
  | a :: l, h => by
    obtain ⟨h1, h2⟩ := List.pairwise_cons.1 h
    unfold insK
    split
    · rename_i hk
      refine List.pairwise_cons.2 ⟨fun x hx => ?_, h⟩
      rcases List.mem_cons.1 hx with rfl | hx
      · exact hk
      · exact klt_trans hk (h1 x hx)
    · split
      · exact h
      · rename_i hk he
        refine List.pairwise_cons.2 ⟨fun x hx => ?_, insK_sorted k l h2⟩
        rcases (mem_insK k l x).1 hx with rfl | hx
        · rcases klt_total x a with h3 | h3 | h3
          · exact absurd h3 hk
          · exact absurd h3 he
          · exact h3
        · exact h1 x hx
def srtK (l : List Ky) : List Ky := l.foldl (fun a k => insK k a) []
theorem srtK_from : ∀ (l a : List Ky), a.Pairwise klt → (l.foldl (fun a k => insK k a) a).Pairwise klt ∧ ∀ x, x ∈ l.foldl (fun a k => insK k a) a ↔ x ∈ l ∨ x ∈ a
  | [], a, h => ⟨h, by simp⟩
  | k :: l, a, h => by
    obtain ⟨h1, h2⟩ := srtK_from l (insK k a) (insK_sorted k a h)
    refine ⟨h1, fun x => ?_⟩
    rw [List.foldl_cons, h2, mem_insK]
    simp only [List.mem_cons]
    constructor
    · rintro (h | h | h)
      · exact .inl (.inr h)
      · exact .inl (.inl h)
      · exact .inr h
    · rintro ((h | h) | h)
      · exact .inr (.inl h)
      · exact .inl h
      · exact .inr (.inr h)
theorem srtK_ok (l : List Ky) : (srtK l).Pairwise klt ∧ ∀ x, x ∈ srtK l ↔ x ∈ l := by
  obtain ⟨h1, h2⟩ := srtK_from l [] (by simp)
  exact ⟨h1, fun x => by unfold srtK; rw [h2]; simp⟩
theorem klt_nodup {l : List Ky} (h : l.Pairwise klt) : l.Nodup := by
  unfold List.Nodup
  exact h.imp fun {a b} h (e : a = b) => klt_irr b (by rw [e] at h; exact h)
/-- Keys as they come, each once. -/
def onceK (l : List Ky) : List Ky := l.foldl (fun a k => if k ∈ a then a else a ++ [k]) []
theorem onceK_snoc (l : List Ky) (k : Ky) : onceK (l ++ [k]) = if k ∈ onceK l then onceK l else onceK l ++ [k] := by
  unfold onceK
  rw [List.foldl_append]
  rfl
theorem snoc_ind {α : Type} {M : List α → Prop} (h0 : M []) (hs : ∀ l a, M l → M (l ++ [a])) (l : List α) : M l := by
  rw [← List.reverse_reverse l]
  induction l.reverse with
  | nil => exact h0
  | cons a r ih => rw [List.reverse_cons]; exact hs _ _ ih
theorem onceK_ok (l : List Ky) : (onceK l).Nodup ∧ ∀ x, x ∈ onceK l ↔ x ∈ l := by
  refine snoc_ind (M := fun l => (onceK l).Nodup ∧ ∀ x, x ∈ onceK l ↔ x ∈ l) (by simp [onceK]) (fun l k ih => ?_) l
  · rw [onceK_snoc]
    split
    · rename_i h
      refine ⟨ih.1, fun x => ?_⟩
      rw [ih.2, List.mem_append, List.mem_singleton]
      constructor
      · exact .inl
      · rintro (h1 | rfl)
        · exact h1
        · exact (ih.2 _).1 h
    · rename_i h
      refine ⟨?_, fun x => ?_⟩
      · rw [List.nodup_append]
        refine ⟨ih.1, by simp, fun a ha b hb e => ?_⟩
        rw [List.mem_singleton] at hb
        subst hb; subst e
        exact h ha
      · rw [List.mem_append, List.mem_append, ih.2]
theorem onceK_mono (l m : List Ky) : (onceK l).length ≤ (onceK (l ++ m)).length := by
  refine snoc_ind (M := fun m => (onceK l).length ≤ (onceK (l ++ m)).length) (by simp) (fun m k ih => ?_) m
  · rw [← List.append_assoc, onceK_snoc]
    split
    · exact ih
    · simp; omega
theorem onceK_len (l : List Ky) : (onceK l).length = (srtK l).length := by
  refine List.Perm.length_eq ((List.perm_ext_iff_of_nodup (onceK_ok l).1 (klt_nodup (srtK_ok l).1)).2 fun x => ?_)
  rw [(onceK_ok l).2, (srtK_ok l).2]
/-! ### Bricks -/
def irange (a b : Int) : List Int := (List.range (b + 1 - a).toNat).map fun i : Nat => a + (i : Int)
theorem mem_irange {a b x : Int} : x ∈ irange a b ↔ a ≤ x ∧ x ≤ b := by
  unfold irange
  rw [List.mem_map]
  constructor
  · rintro ⟨i, hi, rfl⟩
    rw [List.mem_range] at hi
    omega
  · rintro ⟨h1, h2⟩
    exact ⟨(x - a).toNat, List.mem_range.2 (by omega), by omega⟩
def brR (W H S : Int) (k : Ky) : R4 := ⟨brX W H S k.2 k.1, k.1 * H, brX W H S k.2 k.1 + W, (k.1 + 1) * H⟩
def keyP (W H S x y : Int) : Ky := (rowI H y, colI W H S x y)
theorem div_is {x n q : Int} (hn : 0 < n) : x / n = q ↔ q * n ≤ x ∧ x < q * n + n := by
  have h1 := Int.emod_add_mul_ediv x n
  have h2 := Int.emod_nonneg x (Int.ne_of_gt hn)
  have h3 := Int.emod_lt_of_pos x hn
  constructor
  · rintro rfl
    rw [Int.mul_comm]
    omega
  · rintro ⟨h4, h5⟩
    apply Int.le_antisymm
    · apply Int.le_of_lt_add_one
      rw [Int.ediv_lt_iff_lt_mul hn, Int.add_mul]
      omega
    · rw [Int.le_ediv_iff_mul_le hn]
      exact h4
theorem rin_brR {W H S : Int} (hp : okPat W H S) (k : Ky) (x y : Int) : rin (brR W H S k) x y ↔ keyP W H S x y = k := by
  obtain ⟨r, c⟩ := k
  have hW : 0 < W := by have := hp.1; omega
  have hH : 0 < H := by have := hp.2.2.1; omega
  unfold rin brR keyP rowI colI brX
  simp only [Prod.mk.injEq]
  constructor
  · rintro ⟨h1, h2, h3, h4⟩
    rw [Int.add_mul] at h4
    have e : y / H = r := (div_is hH).2 ⟨h3, by omega⟩
    refine ⟨e, ?_⟩
    rw [show rowI H y = r from e]
    exact (div_is hW).2 ⟨by omega, by omega⟩
  · rintro ⟨e, h⟩
    rw [show rowI H y = r from e] at h
    obtain ⟨h1, h2⟩ := (div_is hH).1 e
    obtain ⟨h3, h4⟩ := (div_is hW).1 h
    rw [Int.add_mul]
    omega
theorem brR_wf {W H S : Int} (hp : okPat W H S) (k : Ky) : wf4 (brR W H S k) := by
  unfold wf4 brR
  have h1 := hp.1
  have h2 := hp.2.2.1
  simp only
  rw [Int.add_mul]
  omega
/-- The bricks of a rectangle, as the code comes to them. -/
def colsR (W H S : Int) (t : R4) (row : Int) : List Ky := (irange ((t.x0 - shiftI W S row) / W) ((t.x1 - 1 - shiftI W S row) / W)).map fun col => (row, col)
def keysR (W H S : Int) (t : R4) : List Ky := (irange (t.y0 / H) ((t.y1 - 1) / H)).flatMap (colsR W H S t)
theorem meet_wf {p q : R4} : wf4 (meet4 p q) ↔ ∃ x y, rin p x y ∧ rin q x y := by
  constructor
  · intro h
    refine ⟨(meet4 p q).x0, (meet4 p q).y0, (rin_meet p q _ _).1 ⟨Int.le_refl _, h.1, Int.le_refl _, h.2⟩⟩
  · rintro ⟨x, y, h⟩
    obtain ⟨h1, h2, h3, h4⟩ := (rin_meet p q x y).2 h
    exact ⟨by omega, by omega⟩
theorem mem_keysR {W H S : Int} (hp : okPat W H S) {t : R4} (ht : wf4 t) (k : Ky) : k ∈ keysR W H S t ↔ wf4 (meet4 (brR W H S k) t) := by
  obtain ⟨r, c⟩ := k
  have hW : 0 < W := by have := hp.1; omega
  have hH : 0 < H := by have := hp.2.2.1; omega
  obtain ⟨t1, t2⟩ := ht
  have e1 : (r, c) ∈ keysR W H S t ↔ (t.y0 / H ≤ r ∧ r ≤ (t.y1 - 1) / H) ∧ (t.x0 - shiftI W S r) / W ≤ c ∧ c ≤ (t.x1 - 1 - shiftI W S r) / W := by
    unfold keysR colsR
    simp only [List.mem_flatMap, List.mem_map, mem_irange, Prod.mk.injEq]
    constructor
    · rintro ⟨row, h1, col, h2, rfl, rfl⟩
      exact ⟨h1, h2⟩
    · rintro ⟨h1, h2⟩
      exact ⟨r, h1, c, h2, rfl, rfl⟩
  rw [e1]
  unfold wf4 meet4 brR brX
  simp only
  rw [Int.le_ediv_iff_mul_le hH, Int.le_ediv_iff_mul_le hW]
  have e2 : t.y0 / H ≤ r ↔ t.y0 < r * H + H := by
    rw [← Int.lt_add_one_iff, Int.ediv_lt_iff_lt_mul hH, Int.add_mul]
    omega
  have e3 : (t.x0 - shiftI W S r) / W ≤ c ↔ t.x0 - shiftI W S r < c * W + W := by
    rw [← Int.lt_add_one_iff, Int.ediv_lt_iff_lt_mul hW, Int.add_mul]
    omega
  rw [e2, e3, Int.add_mul]
  generalize r * H = rh
  generalize c * W = cw
  generalize shiftI W S r = s
  omega
theorem keysR_nodup (W H S : Int) (t : R4) : (keysR W H S t).Pairwise klt := by
  have hi : ∀ a b : Int, (irange a b).Pairwise (· < ·) := fun a b => by
    unfold irange
    rw [List.pairwise_map]
    exact List.pairwise_lt_range.imp fun h => by omega
  unfold keysR
  rw [List.pairwise_flatMap]
  constructor
  · intro row _
    unfold colsR
    rw [List.pairwise_map]
    exact (hi _ _).imp fun h => .inr ⟨rfl, h⟩
  · refine (hi _ _).imp fun {a b} h x hx y hy => ?_
    unfold colsR at hx hy
    obtain ⟨_, _, rfl⟩ := List.mem_map.1 hx
    obtain ⟨_, _, rfl⟩ := List.mem_map.1 hy
    exact .inl h
def allK (W H S : Int) (l : List R4) : List Ky := l.flatMap (keysR W H S)
theorem mem_allK {W H S : Int} (hp : okPat W H S) {l : List R4} (hl : ∀ r ∈ l, wf4 r) (k : Ky) : k ∈ allK W H S l ↔ ∃ x y, pmem l x y ∧ keyP W H S x y = k := by
  unfold allK
  rw [List.mem_flatMap]
  constructor
  · rintro ⟨t, ht, hk⟩
    obtain ⟨x, y, h1, h2⟩ := meet_wf.1 ((mem_keysR hp (hl t ht) k).1 hk)
    exact ⟨x, y, ⟨t, ht, h2⟩, (rin_brR hp k x y).1 h1⟩
  · rintro ⟨x, y, ⟨t, ht, h2⟩, h1⟩
    exact ⟨t, ht, (mem_keysR hp (hl t ht) k).2 (meet_wf.2 ⟨x, y, (rin_brR hp k x y).2 h1, h2⟩)⟩
/-- The rectangles on a brick. -/
def prt (W H S : Int) (l : List R4) (k : Ky) : List R4 := (l.filter fun t => decide (k ∈ keysR W H S t)).map (meet4 (brR W H S k))
theorem prt_snoc (W H S : Int) (l : List R4) (t : R4) (k : Ky) : prt W H S (l ++ [t]) k = prt W H S l k ++ if k ∈ keysR W H S t then [meet4 (brR W H S k) t] else [] := by
  unfold prt
  rw [List.filter_append, List.map_append]
  by_cases h : k ∈ keysR W H S t
  · simp [h]
  · simp [h]
theorem prt_len (W H S : Int) (l : List R4) (k : Ky) : (prt W H S l k).length ≤ l.length := by
  unfold prt
  rw [List.length_map]
  exact List.length_filter_le _ _
theorem prt_wf {W H S : Int} (hp : okPat W H S) {l : List R4} (hl : ∀ r ∈ l, wf4 r) (k : Ky) : ∀ r ∈ prt W H S l k, wf4 r := by
  intro r hr
  obtain ⟨t, ht, rfl⟩ := List.mem_map.1 hr
  obtain ⟨h1, h2⟩ := List.mem_filter.1 ht
  exact (mem_keysR hp (hl t h1) k).1 (by simpa using h2)
theorem prt_pts {W H S : Int} (hp : okPat W H S) {l : List R4} (hl : ∀ r ∈ l, wf4 r) (k : Ky) (x y : Int) : pmem (prt W H S l k) x y ↔ pmem l x y ∧ rin (brR W H S k) x y := by
  constructor
  · rintro ⟨r, hr, h⟩
    obtain ⟨t, ht, rfl⟩ := List.mem_map.1 hr
    obtain ⟨h1, h2⟩ := (rin_meet _ _ x y).1 h
    exact ⟨⟨t, (List.mem_filter.1 ht).1, h2⟩, h1⟩
  · rintro ⟨⟨t, ht, h2⟩, h1⟩
    refine ⟨meet4 (brR W H S k) t, List.mem_map.2 ⟨t, List.mem_filter.2 ⟨ht, ?_⟩, rfl⟩, (rin_meet _ _ x y).2 ⟨h1, h2⟩⟩
    simpa using (mem_keysR hp (hl t ht) k).2 (meet_wf.2 ⟨x, y, h1, h2⟩)
/-- A list whose cross-sections are canonical, and no rectangle of which goes on beyond another's end, has no more rectangles than it when it is made a region. -/
theorem count_of {C : List R4} (hwC : ∀ r ∈ C, wf4 r) (hS : ∀ c, SCan (crossL C c)) (hcut : ∀ r ∈ C, ∀ s ∈ C, ∀ c, (c = s.x0 ∨ c = s.x1) → r.x0 ≤ c → c < r.x1 → r.x0 = c) : (rjoin hFst C []).length ≤ C.length := by
  have hcs := cutsOf_ok (cutsL C)
  have hg : ∀ c, sjoin hFst (crossL C c) (crossL [] c) = crossL C c := fun c => by
    refine (sjoin_eq (h := hFst) rfl (crossL_wf hwC c) (by simp [crossL]) (hS c) fun x => by simp [hFst]).symm
  rw [← swp_join (h := hFst) rfl hwC (b := []) (by simp) hcs.1 (fun c hc => (hcs.2 c).2 hc) (by simp [cutsL])]
  have h1 := swp_sum_from (fun c => sjoin hFst (crossL C c) (crossL [] c)) (prs (cutsOf (cutsL C))) []
  simp only [hg] at h1
  have h2 := prs_sum (fun c => (crossL C c).length) (cutsOf (cutsL C))
  have h3 := sum_cross hcs.1 (C := C) (fun r hr c hc q1 q2 => by
    have hc2 := (hcs.2 c).1 hc
    obtain ⟨s, hs, he⟩ : ∃ s ∈ C, c = s.x0 ∨ c = s.x1 := by simpa [cutsL] using hc2
    exact hcut r hr s hs c he q1 q2)
  have h4 : (flat ([] : List Slab)).length = 0 := rfl
  unfold swp
  simp only [hg]
  omega
theorem clip_can {s : List Sp} (h : SCan s) (a b : Int) : SCan ((s.filter fun p => decide (max a p.1 < min b p.2)).map fun p => (max a p.1, min b p.2)) := by
  constructor
  · intro p hp
    obtain ⟨q, hq, rfl⟩ := List.mem_map.1 hp
    simpa using (List.mem_filter.1 hq).2
  · rw [List.pairwise_map]
    refine (h.2.filter _).imp fun {p q} h => ?_
    simp only
    omega
theorem prt_cross {W H S : Int} (hp : okPat W H S) {l : List R4} (hl : ∀ r ∈ l, wf4 r) (k : Ky) (c : Int) (hc : (brR W H S k).x0 ≤ c ∧ c < (brR W H S k).x1) :
    crossL (prt W H S l k) c = ((crossL l c).filter fun p => decide (max (brR W H S k).y0 p.1 < min (brR W H S k).y1 p.2)).map fun p => (max (brR W H S k).y0 p.1, min (brR W H S k).y1 p.2) := by
  induction l with
  | nil => simp [prt, crossL]
  | cons t l ih =>
    have ht := hl t (by simp)
    have ih := ih fun r hr => hl r (List.mem_cons_of_mem _ hr)
    have hm := mem_keysR hp ht k
    have e : prt W H S (t :: l) k = (if k ∈ keysR W H S t then [meet4 (brR W H S k) t] else []) ++ prt W H S l k := by
      unfold prt
      by_cases h : k ∈ keysR W H S t
      · simp [h]
      · simp [h]
    have e2 : ∀ (a b : List R4) (x : Int), crossL (a ++ b) x = crossL a x ++ crossL b x := fun a b x => by simp [crossL]
    rw [e, e2, show t :: l = [t] ++ l from rfl, e2, List.filter_append, List.map_append, ih]
    congr 1
    by_cases hx : t.x0 ≤ c ∧ c < t.x1
    · have e3 : crossL [t] c = [(t.y0, t.y1)] := by simp [crossL, hx.1, hx.2]
      rw [e3]
      by_cases hy : max (brR W H S k).y0 t.y0 < min (brR W H S k).y1 t.y1
      · have hk : k ∈ keysR W H S t := hm.2 ⟨by simp only [meet4]; omega, hy⟩
        rw [if_pos hk]
        have h5 : (meet4 (brR W H S k) t).x0 ≤ c ∧ c < (meet4 (brR W H S k) t).x1 := by simp only [meet4]; omega
        simp [crossL, h5.1, h5.2, hy]
        simp [meet4]
      · have hk : ¬ k ∈ keysR W H S t := fun h => hy (hm.1 h).2
        rw [if_neg hk]
        simp [crossL, hy]
    · have e3 : crossL [t] c = [] := by
        simp only [crossL, List.map_eq_nil_iff, List.filter_eq_nil_iff, List.mem_singleton]
        rintro r rfl
        simpa using hx
      rw [e3]
      split
      · have h5 : ¬ ((meet4 (brR W H S k) t).x0 ≤ c ∧ c < (meet4 (brR W H S k) t).x1) := by simp only [meet4]; omega
        simp only [crossL, List.filter_nil, List.map_nil, List.map_eq_nil_iff, List.filter_eq_nil_iff, List.mem_singleton]
        rintro r rfl
        simpa using h5
      · simp [crossL]
theorem prt_count {W H S : Int} (hp : okPat W H S) {l : List R4} (hc : RCan l) (hl : ∀ r ∈ l, wf4 r) (k : Ky) : (rjoin hFst (prt W H S l k) []).length ≤ (prt W H S l k).length := by
  refine count_of (prt_wf hp hl k) (fun c => ?_) ?_
  · by_cases h : (brR W H S k).x0 ≤ c ∧ c < (brR W H S k).x1
    · rw [prt_cross hp hl k c h]
      exact clip_can (crossL_can hc c) _ _
    · have : crossL (prt W H S l k) c = [] := by
        simp only [crossL, List.map_eq_nil_iff, List.filter_eq_nil_iff]
        intro r hr
        obtain ⟨t, _, rfl⟩ := List.mem_map.1 hr
        simp only [meet4, Bool.and_eq_true, decide_eq_true_eq]
        rintro ⟨h1, h2⟩
        have h3 : max (brR W H S k).x0 t.x0 ≤ c := of_decide_eq_true h1
        have h4 : c < min (brR W H S k).x1 t.x1 := of_decide_eq_true h2
        exact h ⟨by omega, by omega⟩
      rw [this]
      exact SCan.nil
  · intro r hr s hs c he q1 q2
    obtain ⟨r', hr', rfl⟩ := List.mem_map.1 hr
    obtain ⟨s', hs', rfl⟩ := List.mem_map.1 hs
    have mr := (List.mem_filter.1 hr').1
    have ms := (List.mem_filter.1 hs').1
    simp only [meet4] at he q1 q2 ⊢
    have h0 := fun h1 h2 => can_cut hc mr ms (c := s'.x0) (.inl rfl) h1 h2
    have h1 := fun h1 h2 => can_cut hc mr ms (c := s'.x1) (.inr rfl) h1 h2
    rcases he with he | he
    · by_cases g : (brR W H S k).x0 ≤ s'.x0
      · have : c = s'.x0 := by omega
        subst this
        have := h0 (by omega) (by omega)
        omega
      · omega
    · by_cases g : s'.x1 < (brR W H S k).x1
      · have : c = s'.x1 := by omega
        subst this
        have := h1 (by omega) (by omega)
        omega
      · omega
/-- The piece on a brick. -/
def pieceR (W H S : Int) (l : List R4) (k : Ky) : List R4 := rjoin hAnd l [brR W H S k]
theorem piece_ok {W H S : Int} (hp : okPat W H S) {l : List R4} (hl : ∀ r ∈ l, wf4 r) (k : Ky) : RCan (pieceR W H S l k) ∧ ∀ x y, pmem (pieceR W H S l k) x y ↔ pmem l x y ∧ keyP W H S x y = k := by
  obtain ⟨h1, h2⟩ := rjoin_ok (h := hAnd) rfl hl (b := [brR W H S k]) (fun r hr => by rw [List.mem_singleton] at hr; subst hr; exact brR_wf hp k)
  refine ⟨h1, fun x y => ?_⟩
  unfold pieceR
  rw [h2, ← rin_brR hp k x y]
  have e : decide (pmem [brR W H S k] x y) = decide (rin (brR W H S k) x y) := decide_eq_decide.2 (by simp [pmem])
  rw [e]
  simp [hAnd]
theorem prt_piece {W H S : Int} (hp : okPat W H S) {l : List R4} (hl : ∀ r ∈ l, wf4 r) (k : Ky) : rjoin hFst (prt W H S l k) [] = pieceR W H S l k := by
  obtain ⟨h1, h2⟩ := rjoin_ok (h := hFst) rfl (prt_wf hp hl k) (b := []) (by simp)
  obtain ⟨h3, h4⟩ := piece_ok hp hl k
  refine h1.ext h3 fun x y => ?_
  rw [h2, h4, ← rin_brR hp k x y, ← prt_pts hp hl k]
  simp [hFst]
theorem prt_valid {W H S : Int} (hp : okPat W H S) {l : List R4} (hv : ∀ r ∈ l, valid4 r) (k : Ky) : ∀ r ∈ prt W H S l k, valid4 r := by
  intro r hr
  have hw := prt_wf hp (fun r hr => ⟨(hv r hr).1, (hv r hr).2.1⟩) k r hr
  obtain ⟨t, ht, rfl⟩ := List.mem_map.1 hr
  have h := hv t (List.mem_filter.1 ht).1
  obtain ⟨w1, w2⟩ := hw
  unfold valid4 fineP at *
  simp only [meet4] at *
  omega
theorem piece_len {W H S : Int} (hp : okPat W H S) {l : List R4} (h : checkF l = 0) (k : Ky) : (pieceR W H S l k).length ≤ 400 := by
  obtain ⟨h1, h2, _⟩ := checkF_ok h
  have hw : ∀ r ∈ l, wf4 r := fun r hr => ⟨(h2 r hr).1, (h2 r hr).2.1⟩
  rw [← prt_piece hp hw k]
  have := prt_count hp (check_rcan h) hw k
  have := prt_len W H S l k
  omega
theorem prt_make {W H S : Int} (hp : okPat W H S) {l : List R4} (h : checkF l = 0) (k : Ky) : makeF (prt W H S l k) = (pieceR W H S l k, 0) := by
  obtain ⟨h1, h2, _⟩ := checkF_ok h
  have hw : ∀ r ∈ l, wf4 r := fun r hr => ⟨(h2 r hr).1, (h2 r hr).2.1⟩
  have hv := prt_valid hp h2 k
  have := prt_len W H S l k
  have hn := piece_len hp h k
  unfold makeF
  rw [if_neg (by omega), if_neg (by simpa using hv)]
  unfold madeF
  rw [prt_piece hp hw k, if_neg (by omega)]
/-- The tiling: error, or the pieces in order. -/
def keysT (W H S : Int) (l : List R4) : List Ky := srtK (allK W H S l)
def tileF (W H S : Int) (l : List R4) : List (Ky × List R4) × Int :=
  if checkF l = 0 then (if okPat W H S then (if 400 < (keysT W H S l).length then ([], 4) else ((keysT W H S l).map fun k => (k, pieceR W H S l k), 0)) else ([], 8)) else ([], checkF l)
end Go.Proofs.YtlkaniojnaaocaaGreat

/- Plain law: insertion of a key at its place; the scan over points; the map of parts while the code goes over bricks. -/
namespace Go.Proofs.YtlkaniojnaaocaaGreat
set_option linter.unusedVariables false
set_option linter.unusedSimpArgs false

theorem insK_at (k : Ky) : ∀ (S : List Ky) (n : Nat), S.Pairwise klt → n ≤ S.length → (∀ j x, n ≤ j → S[j]? = some x → klt k x) → (∀ x, n ≠ 0 → S[n - 1]? = some x → klt x k) → insK k S = S.take n ++ k :: S.drop n
  | [], n, _, hn, _, _ => by
    have : n = 0 := by simpa using hn
    subst this
    rfl
  | a :: S, 0, hs, _, hg, _ => by
    have := hg 0 a (Nat.le_refl _) rfl
    simp [insK, this]
  | a :: S, n + 1, hs, hn, hg, hl => by
    obtain ⟨h1, h2⟩ := List.pairwise_cons.1 hs
    have hn2 : n ≤ S.length := by simpa using hn
    have hak : klt a k := by
      rcases Nat.eq_zero_or_pos n with h0 | h0
      · subst h0; exact hl a (by omega) rfl
      · obtain ⟨y, hy⟩ : ∃ y, S[n - 1]? = some y := ⟨_, List.getElem?_eq_getElem (by omega)⟩
        have hx := hl y (by omega) (by rw [show n + 1 - 1 = (n - 1) + 1 by omega]; simpa using hy)
        exact klt_trans (h1 y (List.mem_of_getElem? hy)) hx
    have ih := insK_at k S n h2 hn2 (fun j x h3 h4 => hg (j + 1) x (by omega) (by simpa using h4)) (fun x h3 h4 => hl x (by omega) (by rw [show n + 1 - 1 = (n - 1) + 1 by omega]; simpa using h4))
    unfold insK
    rw [if_neg (fun h => klt_irr _ (klt_trans hak h)), if_neg (fun e => by subst e; exact klt_irr _ hak), ih]
    simp
theorem insK_there (k : Ky) : ∀ (S : List Ky), S.Pairwise klt → k ∈ S → insK k S = S
  | [], _, h => by cases h
  | a :: S, hs, h => by
    obtain ⟨h1, h2⟩ := List.pairwise_cons.1 hs
    unfold insK
    rcases List.mem_cons.1 h with rfl | hk
    · rw [if_neg (klt_irr _), if_pos rfl]
    · have := h1 k hk
      rw [if_neg (fun h => klt_irr _ (klt_trans this h)), if_neg (fun e => by subst e; exact klt_irr _ this), insK_there k S h2 hk]
/-- A list is a key's own by its place. -/
theorem klt_lt {S : List Ky} (hs : S.Pairwise klt) {i j : Nat} {a b : Ky} (hi : S[i]? = some a) (hj : S[j]? = some b) (h : i < j) : klt a b := by
  obtain ⟨h1, e1⟩ := List.getElem?_eq_some_iff.1 hi
  obtain ⟨h2, e2⟩ := List.getElem?_eq_some_iff.1 hj
  rw [← e1, ← e2]
  exact List.pairwise_iff_getElem.1 hs i j h1 h2 h
/-- The keys of the points that the reference has looked at. -/
def Scn (h : R4) (y x u v : Int) : Prop := (h.y0 ≤ v ∧ v < y ∧ h.x0 ≤ u ∧ u < h.x1) ∨ (v = y ∧ h.x0 ≤ u ∧ u < x)
structure SK (W H S : Int) (l : List R4) (h : R4) (y x : Int) (L : List Ky) : Prop where
  srt : L.Pairwise klt
  mem : ∀ k, k ∈ L ↔ ∃ u v, Scn h y x u v ∧ pmem l u v ∧ keyP W H S u v = k
theorem SK.start (W H S : Int) (l : List R4) (h : R4) : SK W H S l h h.y0 h.x0 [] := ⟨by simp, fun k => by
  constructor
  · intro h; cases h
  · rintro ⟨u, v, h, _⟩; unfold Scn at h; omega⟩
theorem SK.line {W H S : Int} {l : List R4} {h : R4} {y : Int} {L : List Ky} (q : SK W H S l h y h.x1 L) (hy : h.y0 ≤ y) : SK W H S l h (y + 1) h.x0 L := ⟨q.srt, fun k => by
  rw [q.mem]
  constructor
  · rintro ⟨u, v, h1, h2⟩; refine ⟨u, v, ?_, h2⟩; unfold Scn at *; omega
  · rintro ⟨u, v, h1, h2⟩; refine ⟨u, v, ?_, h2⟩; unfold Scn at *; omega⟩
theorem SK.off {W H S : Int} {l : List R4} {h : R4} {y x : Int} {L : List Ky} (q : SK W H S l h y x L) (hx : h.x0 ≤ x) (hn : ¬ pmem l x y) : SK W H S l h y (x + 1) L := ⟨q.srt, fun k => by
  rw [q.mem]
  constructor
  · rintro ⟨u, v, h1, h2⟩; refine ⟨u, v, ?_, h2⟩; unfold Scn at *; omega
  · rintro ⟨u, v, h1, h2, h3⟩
    refine ⟨u, v, ?_, h2, h3⟩
    by_cases e : u = x ∧ v = y
    · obtain ⟨rfl, rfl⟩ := e; exact absurd h2 hn
    · unfold Scn at *; omega⟩
theorem SK.on {W H S : Int} {l : List R4} {h : R4} {y x : Int} {L : List Ky} (q : SK W H S l h y x L) (hx : h.x0 ≤ x) (hm : pmem l x y) : SK W H S l h y (x + 1) (insK (keyP W H S x y) L) := ⟨insK_sorted _ _ q.srt, fun k => by
  rw [mem_insK, q.mem]
  constructor
  · rintro (rfl | ⟨u, v, h1, h2⟩)
    · exact ⟨x, y, .inr ⟨rfl, hx, by omega⟩, hm, rfl⟩
    · refine ⟨u, v, ?_, h2⟩; unfold Scn at *; omega
  · rintro ⟨u, v, h1, h2, h3⟩
    by_cases e : u = x ∧ v = y
    · obtain ⟨rfl, rfl⟩ := e; exact .inl h3.symm
    · refine .inr ⟨u, v, ?_, h2, h3⟩; unfold Scn at *; omega⟩
theorem SK.all {W H S : Int} (hp : okPat W H S) {l : List R4} (hl : ∀ r ∈ l, wf4 r) {h : R4} (hh : IsHull l h) {y : Int} (hy : h.y1 ≤ y) {L : List Ky} (q : SK W H S l h y h.x0 L) : L = keysT W H S l := by
  have hk := srtK_ok (allK W H S l)
  refine ksort_ext q.srt hk.1 fun k => ?_
  rw [q.mem, show (k ∈ keysT W H S l) ↔ _ from hk.2 k, mem_allK hp hl]
  constructor
  · rintro ⟨u, v, _, h2, h3⟩; exact ⟨u, v, h2, h3⟩
  · rintro ⟨u, v, h2, h3⟩
    refine ⟨u, v, ?_, h2, h3⟩
    obtain ⟨r, hr, h4⟩ := h2
    have := hh.b r hr
    unfold rin at h4
    unfold Scn
    omega
theorem keysT_nil (W H S : Int) : keysT W H S [] = [] := rfl
/-! ### The code's way -/
/-- Keys done when m rectangles are, and the bricks pre of the next one. -/
def doneK (W H S : Int) (l : List R4) (m : Nat) (pre : List Ky) : List Ky := allK W H S (l.take m) ++ pre
theorem doneK_next (W H S : Int) {l : List R4} {m : Nat} {t : R4} (h : l[m]? = some t) : doneK W H S l m (keysR W H S t) = doneK W H S l (m + 1) [] := by
  unfold doneK allK
  rw [List.take_add_one, h]
  simp
theorem doneK_all (W H S : Int) {l : List R4} {m : Nat} (h : l.length ≤ m) : doneK W H S l m [] = allK W H S l := by
  unfold doneK
  rw [List.take_of_length_le h]
  simp
theorem doneK_prefix (W H S : Int) {l : List R4} {m : Nat} {t : R4} (h : l[m]? = some t) {pre post : List Ky} {k : Ky} (hk : keysR W H S t = pre ++ k :: post) : (onceK (doneK W H S l m (pre ++ [k]))).length ≤ (keysT W H S l).length := by
  have e : allK W H S l = doneK W H S l m (pre ++ [k]) ++ (post ++ allK W H S (l.drop (m + 1))) := by
    obtain ⟨hm, ht⟩ := List.getElem?_eq_some_iff.1 h
    have e1 : l = l.take m ++ t :: l.drop (m + 1) := by rw [← ht, ← List.drop_eq_getElem_cons hm, List.take_append_drop]
    conv => lhs; rw [e1]
    unfold doneK allK
    rw [List.flatMap_append, List.flatMap_cons, hk]
    simp
  have h1 := onceK_mono (doneK W H S l m (pre ++ [k])) (post ++ allK W H S (l.drop (m + 1)))
  rw [← e, onceK_len (allK W H S l)] at h1
  exact h1
theorem doneK_snoc (W H S : Int) (l : List R4) (m : Nat) (pre : List Ky) (k : Ky) : onceK (doneK W H S l m (pre ++ [k])) = if k ∈ onceK (doneK W H S l m pre) then onceK (doneK W H S l m pre) else onceK (doneK W H S l m pre) ++ [k] := by
  have e : doneK W H S l m (pre ++ [k]) = doneK W H S l m pre ++ [k] := by unfold doneK; rw [List.append_assoc]
  rw [e, onceK_snoc]
def partK (W H S : Int) (l : List R4) (m : Nat) (t : R4) (pre : List Ky) (k : Ky) : List R4 := prt W H S (l.take m) k ++ if k ∈ pre then [meet4 (brR W H S k) t] else []
theorem partK_next (W H S : Int) {l : List R4} {m : Nat} {t : R4} (h : l[m]? = some t) (k : Ky) (t' : R4) : partK W H S l m t (keysR W H S t) k = partK W H S l (m + 1) t' [] k := by
  unfold partK
  rw [List.take_add_one, h]
  simp only [Option.toList_some, prt_snoc]
  simp
theorem partK_len (W H S : Int) (l : List R4) (m : Nat) (t : R4) (pre : List Ky) (k : Ky) : (partK W H S l m t pre k).length ≤ m + 1 := by
  unfold partK
  have h1 := prt_len W H S (l.take m) k
  have h2 := List.length_take_le m l
  split <;> simp <;> omega
theorem partK_push (W H S : Int) (l : List R4) (m : Nat) (t : R4) {pre : List Ky} {k : Ky} (h : k ∉ pre) (k' : Ky) : partK W H S l m t (pre ++ [k]) k' = partK W H S l m t pre k' ++ if k' = k then [meet4 (brR W H S k) t] else [] := by
  unfold partK
  rw [List.append_assoc]
  congr 1
  by_cases e : k' = k
  · subst e; simp [h]
  · simp [e]
theorem mem_doneK {W H S : Int} {l : List R4} {m : Nat} {t : R4} {pre : List Ky} {k : Ky} : k ∈ doneK W H S l m pre ↔ partK W H S l m t pre k ≠ [] := by
  unfold doneK partK allK prt
  rw [List.mem_append, List.mem_flatMap]
  constructor
  · rintro (⟨r, hr, hk⟩ | hk) e
    · rw [List.append_eq_nil_iff, List.map_eq_nil_iff, List.filter_eq_nil_iff] at e
      exact e.1 r hr (by simpa using hk)
    · simp [hk] at e
  · intro h
    by_cases hk : k ∈ pre
    · exact .inr hk
    · left
      simp only [hk, if_false, List.append_nil, ne_eq, List.map_eq_nil_iff] at h
      obtain ⟨r, hr⟩ := List.exists_mem_of_ne_nil _ h
      exact ⟨r, (List.mem_filter.1 hr).1, by simpa using (List.mem_filter.1 hr).2⟩
/-- Keys in their order, by the code's sort of keys as they came. -/
theorem sorted_once {l s : List Ky} (h1 : s.Perm (onceK l)) (h2 : s.Pairwise fun a b => ¬ klt b a) : s = srtK l := by
  have hk := srtK_ok l
  have ho := onceK_ok l
  have hn : s.Nodup := h1.nodup_iff.2 ho.1
  refine ksort_ext ?_ hk.1 fun k => ?_
  · refine (List.Pairwise.and h2 hn).imp fun {a b} h => ?_
    rcases klt_total a b with h3 | h3 | h3
    · exact h3
    · exact absurd h3 h.2
    · exact absurd h3 h.1
  · rw [h1.mem_iff, ho.2, hk.2]
end Go.Proofs.YtlkaniojnaaocaaGreat

/- append(x, y...) where y reads as a list, empty or nil let in; and the reference's Twin. -/
namespace Go.Proofs.YtlkaniojnaaocaaGreat
open Go.RowKit
set_option linter.unusedVariables false
set_option linter.unusedSimpArgs false

section
variable {P : Program} {α : Type} {enc : α → List Value} {k : Nat}
theorem run_app_rd (w : World) (henc : ∀ x, (enc x).length = k) (hint : ∀ (l : List α), ∀ u ∈ l.flatMap enc, u.oneCell' = true) (base : Nat) (t ty e : TypeId) (i : TypeInfo) (z : Value) (bytes : Nat)
    (ht : P.underlying t = some (.slice e)) (hi : P.info? e = some i) (hz : i.zero = some z) (hsize : i.size = k) (hby : i.bytes = bytes) (hzs : z.cells.size = k) (hsz : 0 < k)
    (v : Value) (n : Nat) (xs : List Value) (hown : w.ownsRow base e k v n xs) (B : Nat) (x : Value) (l : List α) (hr : RdK enc k w B x l) (h63 : n + l.length ≤ maxLen) (hbytes : (n + l.length) * bytes ≤ 140737488355328) (hbase : base ≤ w.heap.size) :
    ∃ v' w', (Builtin.append_ #[t, t] ty #[v, x]).run P w = .ok v' w' ∧ w'.ownsRow base e k v' (n + l.length) (xs ++ l.flatMap enc) ∧ w.grownBy w' v.ownBlock := by
  obtain ⟨A, c, rfl, hc⟩ := hr
  have key : ∀ ad : Addr, (∀ j u, (l.flatMap enc)[j]? = some u → w.cell? (ad.add j) = some u) → ∃ v' w', (Builtin.append_ #[t, t] ty #[v, .slice (some ad) l.length c]).run P w = .ok v' w' ∧ w'.ownsRow base e k v' (n + l.length) (xs ++ l.flatMap enc) ∧ w.grownBy w' v.ownBlock := by
    intro ad had
    obtain ⟨v', w', h1, h2, h3, _, _⟩ := run_append_own_at (P := P) w base t ty e i z k bytes ht hi hz hsize hby hzs hsz v n xs hown ad l.length c (l.flatMap enc) (by rw [flat_len henc]) had (hint l) h63 hbytes hbase
    exact ⟨v', w', h1, h2, h3⟩
  by_cases hl : l = []
  · subst hl
    cases A with
    | some ad => exact key ad (by simp)
    | none =>
      refine ⟨v, w, ?_, by simpa using hown, grown_refl _ _⟩
      rcases hown.2 with ⟨rfl, rfl⟩ | ⟨g, cap, cur, rfl, _, _, hnc, _⟩
      · simp [Builtin.append_, run_underlying ht, sizeOf, typeInfo, hi, Builtin.lenOf, Builtin.firstCells]
      · simp [Builtin.append_, run_underlying ht, sizeOf, typeInfo, hi, Builtin.lenOf, Builtin.firstCells, hnc, storeCells]
  · obtain ⟨b, off, rfl, hb, hcell⟩ := hc hl
    refine key _ fun j u hu => ?_
    have hj : j < (l.flatMap enc).length := (List.getElem?_eq_some_iff.1 hu).1
    rw [flat_len henc] at hj
    have hq : j / k < l.length := (Nat.div_lt_iff_lt_mul hsz).2 hj
    have e1 : j / k * k + j % k = j := by rw [Nat.mul_comm]; exact Nat.div_add_mod j k
    have hu2 : (enc l[j / k])[j % k]? = some u := by
      have h1 := List.getElem?_eq_getElem (l := enc l[j / k]) (i := j % k) (by rw [henc]; exact Nat.mod_lt _ hsz)
      have h2 := flat_get henc l (j / k) _ (j % k) _ (List.getElem?_eq_getElem hq) h1
      rw [e1, hu] at h2
      rw [h1]; exact h2.symm
    have := hcell (j / k) _ (List.getElem?_eq_getElem hq) (j % k) u hu2
    rw [Nat.add_assoc, e1] at this
    have e2 : (⟨b, off, none⟩ : Addr).add j = ⟨b, off + j, none⟩ := by unfold Addr.add; split <;> simp_all
    rw [e2]; exact this

theorem wp_app_rd (w : World) {o : Oper} {a : Act} {K : Act → World → Prop} {Q : Exit → Act → World → Prop} (henc : ∀ x, (enc x).length = k) (hint : ∀ (l : List α), ∀ u ∈ l.flatMap enc, u.oneCell' = true) (s x : Operand) (t : TypeId)
    (ho : o.op = .call { callee := .builtin .append, args := #[s, x], argTypes := #[t, t] }) (base : Nat) (e : TypeId) (i : TypeInfo) (z : Value) (bytes : Nat)
    (ht : P.underlying t = some (.slice e)) (hi : P.info? e = some i) (hz : i.zero = some z) (hsize : i.size = k) (hby : i.bytes = bytes) (hzs : z.cells.size = k) (hsz : 0 < k)
    (v : Value) (n : Nat) (xs : List Value) (hs : a.eval s = v) (hown : w.ownsRow base e k v n xs) (B : Nat) (l : List α) (hr : RdK enc k w B (a.eval x) l) (h63 : n + l.length ≤ maxLen) (hbytes : (n + l.length) * bytes ≤ 140737488355328) (hbase : base ≤ w.heap.size)
    (h : ∀ v' w', w'.ownsRow base e k v' (n + l.length) (xs ++ l.flatMap enc) → w.grownBy w' v.ownBlock → K (a.put o.dst v') w') : o.wp P a w K Q := by
  obtain ⟨v', w', hrun, h2, h3⟩ := run_app_rd (P := P) w henc hint base t o.type e i z bytes ht hi hz hsize hby hzs hsz v n xs hown B _ l hr h63 hbytes hbase
  unfold Oper.wp execOp
  simp only [ho, resolve, invoke, builtin, Sem.run_bind, Sem.run_pure, Result.andThen_ok, List.map_toArray, List.map_cons, List.map_nil, hs, hrun]
  exact h v' w' h2 h3
theorem wpList_app_rd {w : World} {ops : Array Oper} {rest : List Oper} {o : Oper} {a : Act} {Q : Exit → Act → World → Prop} (hgd : o.guard = none) (henc : ∀ x, (enc x).length = k) (hint : ∀ (l : List α), ∀ u ∈ l.flatMap enc, u.oneCell' = true) (s x : Operand) (t : TypeId)
    (ho : o.op = .call { callee := .builtin .append, args := #[s, x], argTypes := #[t, t] }) (base : Nat) (e : TypeId) (i : TypeInfo) (z : Value) (bytes : Nat)
    (ht : P.underlying t = some (.slice e)) (hi : P.info? e = some i) (hz : i.zero = some z) (hsize : i.size = k) (hby : i.bytes = bytes) (hzs : z.cells.size = k) (hsz : 0 < k)
    (v : Value) (n : Nat) (xs : List Value) (hs : a.eval s = v) (hown : w.ownsRow base e k v n xs) (B : Nat) (l : List α) (hr : RdK enc k w B (a.eval x) l) (h63 : n + l.length ≤ maxLen) (hbytes : (n + l.length) * bytes ≤ 140737488355328) (hbase : base ≤ w.heap.size)
    (h : ∀ v' w', w'.ownsRow base e k v' (n + l.length) (xs ++ l.flatMap enc) → w.grownBy w' v.ownBlock → wpList P ops Q rest (a.put o.dst v') w') : wpList P ops Q (o :: rest) a w :=
  wpList_plain hgd fun _ hK => wp_app_rd w henc hint s x t ho base e i z bytes ht hi hz hsize hby hzs hsz v n xs hs hown B l hr h63 hbytes hbase fun v' w' h2 h3 => hK _ _ (h v' w' h2 h3)
end
theorem one_encR (l : List R4) : ∀ u ∈ l.flatMap encR, u.oneCell' = true := by
  intro u hu
  obtain ⟨r, _, hr⟩ := List.mem_flatMap.1 hu
  simp only [encR, List.mem_cons, List.not_mem_nil, or_false] at hr
  rcases hr with rfl | rfl | rfl | rfl <;> rfl

end Go.Proofs.YtlkaniojnaaocaaGreat

/- Regions inside a round, by the walks that serve outside of one: plain ones, and those that draw their order (reads under a condition, then a tail). -/
namespace Go.Proofs.YtlkaniojnaaocaaGreat
open Go.RowKit
set_option linter.unusedVariables false
set_option linter.unusedSimpArgs false

theorem wpList_round {P : Program} {ops : Array Oper} {Q : Exit → Act → World → Prop} {r n : Nat} (hout : ∀ a w, ¬ Q .outgrown a w) :
    ∀ (l : List Oper) (a : Act) (w : World), noDefer l = true → wpList P ops Q l a w → wpListIn (Fence.wide.inRound r) n P ops Q l a w
  | [], _, _, _, h => h
  | o :: l, a, w, hn, h => by
    simp only [noDefer, List.all_cons, Bool.and_eq_true] at hn
    unfold wpList at h
    unfold wpListIn
    by_cases hw : Region.wanted o (yielded ops a.tmps) = true
    · simp only [hw, if_true] at h ⊢
      rcases h with h | ⟨_, a0, w0, hq⟩
      · exact oper_round (fun c hc => by have := hn.1; rw [hc] at this; cases this) (fun a' w' h' => wpList_round hout l a' w' hn.2 h') h
      · exact (hout _ _ hq).elim
    · simp only [hw] at h ⊢
      exact ⟨fun _ _ => trivial, wpList_round hout l _ w hn.2 h⟩
/-- A plain region in a round. -/
theorem wpIn_region_plain_round {P : Program} {id r n : Nat} {Q : Exit → Act → World → Prop} {a : Act} {w : World} {l : List Oper} (hnd : noDefer l = true) (hout : ∀ a w, ¬ Q .outgrown a w) (h : wpList P l.toArray Q l a w) :
    (Code.region id l.toArray false).wpIn (Fence.wide.inRound r) n P Q a w := wpIn_region_lit (wpList_round hout l a w hnd h)
/-- A region that draws its order, in a round: reads under S, then a tail. -/
theorem wpIn_region_mix_round {P : Program} {id r n : Nat} {Q : Exit → Act → World → Prop} {a : Act} {w : World} {l : List Oper} (R T : List Nat) (S : World → Prop) (hm : P.follows .mixedOrders = true) (hB : mixB .any l.toArray R T = true) (hnd : noDefer l = true) (hout : ∀ a w, ¬ Q .outgrown a w) (hS : S w.drew)
    (h : wpReads P l.toArray S (fun a' => wpTail P l.toArray S (NoPanic Q) (T.map (opAt l)) a' w.drew) (R.map (opAt l)) a) : (Code.region id l.toArray true).wpIn (Fence.wide.inRound r) n P Q a w := by
  refine wpIn_mono (Q := NoPanic Q) (wpIn_region_any hm (wpAny_round (Q := NoPanic Q) (noDefer_spec hnd) (fun a w h => hout a w h) _ _ _ _ (wpAny_of_E (S := S) (L := l.length - 1) _ _ _ _ ?_))) NoPanic.imp
  simp only [mixB, Bool.and_eq_true, decide_eq_true_eq, beq_iff_eq, List.size_toArray] at hB
  obtain ⟨⟨⟨b1, b2⟩, b3⟩, b4⟩ := hB
  have := wpReads_mix (Q := NoPanic Q) (S := S) (l := l) (T := T) (w := w.drew) (Region.noSelect_spec b1) (fun _ _ _ _ h => h) (fun t ht => by rw [b3] at ht; injection ht with ht; exact ht.symm) hS R _ a b4 h
  rw [b2] at this
  exact this
end Go.Proofs.YtlkaniojnaaocaaGreat

/- A map from bricks' keys to slices of rectangles that the call itself has made: what lies in it, and the laws at its operations. -/
namespace Go.Proofs.YtlkaniojnaaocaaGreat
open Go.RowKit Go.Maps Go.WideElems
open Go.ChangeMaps (setBlock heap_setBlock_same heap_setBlock_other)
set_option linter.unusedVariables false
set_option linter.unusedSimpArgs false

theorem laidOutT : laidOutB Tryz.prog = true := by kernel_rfl
theorem rowKT : 77 < Tryz.prog.types.size := of_decide_eq_true (by kernel_rfl)
theorem lawKT : WideMaps.KeyLaw Tryz.prog 77 := deep_law_laid laidOutT (m := 2) (by omega) rowKT (by kernel_rfl) (by rw [Tryz.underlying77])
theorem lawK : Keyed Tryz.prog 77 := Keyed.of_law lawKT
def kv (k : Ky) : Value := .agg #[.int .i64 k.1, .int .i64 k.2]
def kl (k : Ky) : Lit := .string (keyBytes [.int .i64 k.1, .int .i64 k.2])
def kin (k : Ky) : Prop := -1000000000 ≤ k.1 ∧ k.1 ≤ 1000000000 ∧ -1000000000 ≤ k.2 ∧ k.2 ≤ 1000000000
theorem keyLits_kv {k : Ky} (h : kin k) (d : Nat) : Tryz.prog.keyLits (d + 2) 77 [.int .i64 k.1, .int .i64 k.2] = some [.int .i64 k.1, .int .i64 k.2] := by
  obtain ⟨h1, h2, h3, h4⟩ := h
  have w1 : (Lit.int .i64 k.1).wf = true := WalkArith.wf_i64 (by omega)
  have w2 : (Lit.int .i64 k.2).wf = true := WalkArith.wf_i64 (by omega)
  have c1 : Tryz.prog.cellsOf 77 = 2 := by kernel_rfl
  have c2 : Tryz.prog.cellsOf 3 = 1 := by kernel_rfl
  simp [Program.keyLits, Tryz.underlying77, Tryz.underlying3, c1, c2, w1, w2, List.range, List.range.loop]
theorem keyOf_kv {k : Ky} (h : kin k) : keyOf Tryz.prog 77 (kv k) = some (kl k) := by
  have h1 : Tryz.prog.keyType 77 = true := by kernel_rfl
  have c1 : Tryz.prog.cellsOf 77 = 2 := by kernel_rfl
  obtain ⟨d, hd⟩ : ∃ d, Tryz.prog.types.size + 1 = d + 2 := by
    have := Nat.lt_of_le_of_lt (Nat.zero_le _) rowKT
    exact ⟨Tryz.prog.types.size - 1, by omega⟩
  have h2 := keyLits_kv h d
  unfold keyOf kv
  rw [Tryz.underlying77, hd]
  have h3 : (Value.agg #[.int .i64 k.1, .int .i64 k.2]).formed Tryz.prog 77 = true := by simp [Value.formed, Tryz.underlying77, c1]
  have h4 : (Value.agg #[.int .i64 k.1, .int .i64 k.2]).cells.toList = [.int .i64 k.1, .int .i64 k.2] := rfl
  simp only [h1, h3, h4, h2, Bool.and_true, if_true, Option.map_some]
  rfl
theorem kl_inj {a b : Ky} (ha : kin a) (hb : kin b) (h : kl a = kl b) : a = b := by
  have h1 := keyOf_kv ha
  have h2 := keyOf_kv hb
  rw [h] at h1
  have := lawK.inj h1 h2
  unfold kv at this
  simp only [Value.agg.injEq, Array.mk.injEq, List.cons.injEq, Value.int.injEq, true_and, and_true] at this
  exact Prod.ext this.1 this.2
theorem kl_ne {a b : Ky} (ha : kin a) (hb : kin b) (h : a ≠ b) : kl a ≠ kl b := fun e => h (kl_inj ha hb e)
/-- A slice's words, whatever lies behind it. -/
def sliE : Value → DataW Unit
  | .slice none n c => .agg [.lit (.int .i64 n), .lit (.int .i64 c)]
  | .slice (some ⟨g, o, none⟩) n c => .agg [.lit (.int .i64 g), .lit (.int .i64 o), .lit (.int .i64 n), .lit (.int .i64 c)]
  | _ => .nil
def sliD : Value → Option (DataW Unit × List MemPlace)
  | .slice none n c => some (sliE (.slice none n c), [])
  | .slice (some ⟨g, o, none⟩) n c => some (sliE (.slice (some ⟨g, o, none⟩) n c), [])
  | _ => none
theorem sliD_inj {u v : Value} {d : DataW Unit} {p q : List MemPlace} (h1 : sliD u = some (d, p)) (h2 : sliD v = some (d, q)) : u = v := by
  unfold sliD at h1 h2
  split at h1 <;> split at h2 <;> simp only [Option.some.injEq, Prod.mk.injEq, reduceCtorEq] at h1 h2 <;> obtain ⟨e1, _⟩ := h1 <;> obtain ⟨e2, _⟩ := h2 <;> rw [← e1] at e2 <;> simp only [sliE, DataW.agg.injEq, List.cons.injEq, DataW.lit.injEq, Lit.int.injEq, true_and, and_true, reduceCtorEq, and_false, Int.natCast_inj] at e2
  · obtain ⟨rfl, rfl⟩ := e2; rfl
  · obtain ⟨rfl, rfl, rfl, rfl⟩ := e2; rfl
abbrev ownsG (b n : Nat) (D : DataW Unit) (w : World) : Prop := w.ownsMap Tryz.prog 77 sliD b n D
theorem zeroG (w : World) : (zeroValue 46).run Tryz.prog w = .ok (.slice none 0 0) w := by kernel_rfl

/-- What is at a key: the slice, or nil. -/
def gv (K : List Ky) (vals : Ky → Value) (k : Ky) : Value := if k ∈ K then vals k else .slice none 0 0
def addK (K : List Ky) (k : Ky) : List Ky := if k ∈ K then K else K ++ [k]
/-- Block bM maps each key of K to a slice that owns the rectangles p; no two lie in one row; none lies from n0 up to n1. -/
structure Gs (B bM n0 n1 : Nat) (K : List Ky) (p : Ky → List R4) (vals : Ky → Value) (w : World) : Prop where
  map : ∃ D, (ownsG bM K.length D w ∧ Maps.size D = K.length) ∧ (∀ k ∈ K, ∀ z, D.atKey (kl k) z = sliE (vals k)) ∧ ∀ l, Maps.has D l = true ↔ ∃ k ∈ K, l = kl k
  vs : ∀ k ∈ K, ∃ g c, vals k = .slice (some ⟨g, 0, none⟩) (p k).length c ∧ (g < n0 ∨ n1 ≤ g) ∧ w.ownsRow B 42 4 (vals k) (p k).length ((p k).flatMap encR)
  apart : ∀ a ∈ K, ∀ b ∈ K, a ≠ b → (vals a).ownBlock ≠ (vals b).ownBlock
  rng : ∀ k ∈ K, kin k
  nd : K.Nodup
theorem Gs.made (w : World) (B n0 n1 : Nat) (p : Ky → List R4) (vals : Ky → Value) : Gs B w.heap.size n0 n1 [] p vals (w.alloc (.map #[] 0)) :=
  ⟨⟨.map [], ⟨World.ownsMap_made w _ _ _, rfl⟩, fun k h => (List.not_mem_nil h).elim, fun l => by rw [has_eq]; simp⟩, fun k h => (List.not_mem_nil h).elim, fun a h => (List.not_mem_nil h).elim, fun k h => (List.not_mem_nil h).elim, by simp⟩
theorem Gs.same {B bM n0 n1 : Nat} {K : List Ky} {p q : Ky → List R4} {vals : Ky → Value} {w : World} (h : Gs B bM n0 n1 K p vals w) (e : ∀ k, p k = q k) : Gs B bM n0 n1 K q vals w := by
  obtain rfl : p = q := funext e
  exact h
theorem Gs.lt {B bM n0 n1 : Nat} {K : List Ky} {p : Ky → List R4} {vals : Ky → Value} {w : World} (h : Gs B bM n0 n1 K p vals w) {k : Ky} (hk : k ∈ K) {g : Nat} (hg : (vals k).ownBlock = some g) : B ≤ g ∧ g < w.heap.size := by
  obtain ⟨_, _, _, _, hr⟩ := h.vs k hk
  exact hr.lt g hg
theorem Gs.gap {B bM n0 n1 : Nat} {K : List Ky} {p : Ky → List R4} {vals : Ky → Value} {w : World} (h : Gs B bM n0 n1 K p vals w) {m0 m1 : Nat} (hm : w.heap.size ≤ m0) : Gs B bM m0 m1 K p vals w :=
  ⟨h.map, fun k hk => by
    obtain ⟨g, c, e, _, hr⟩ := h.vs k hk
    exact ⟨g, c, e, .inl (Nat.lt_of_lt_of_le (hr.lt g (by rw [e]; rfl)).2 hm), hr⟩, h.apart, h.rng, h.nd⟩
theorem Gs.grown {B bM n0 n1 : Nat} {K : List Ky} {p : Ky → List R4} {vals : Ky → Value} {w w' : World} (h : Gs B bM n0 n1 K p vals w) {row : Option Nat} (hg : w.grownBy w' row) (h1 : some bM ≠ row) (h2 : ∀ k ∈ K, (vals k).ownBlock ≠ row) : Gs B bM n0 n1 K p vals w' := by
  obtain ⟨D, d1, d2, d3⟩ := h.map
  exact ⟨⟨D, ⟨d1.1.kept hg h1, d1.2⟩, d2, d3⟩, fun k hk => by
    obtain ⟨g, c, e, hgap, hr⟩ := h.vs k hk
    exact ⟨g, c, e, hgap, hr.kept hg (.inr (h2 k hk))⟩, h.apart, h.rng, h.nd⟩
theorem Gs.someB {B bM n0 n1 : Nat} {K : List Ky} {p : Ky → List R4} {vals : Ky → Value} {w : World} (h : Gs B bM n0 n1 K p vals w) {k : Ky} (hk : k ∈ K) : (vals k).ownBlock ≠ none := by
  obtain ⟨g, c, e, _, _⟩ := h.vs k hk
  rw [e]; simp [Value.ownBlock]
theorem Gs.below {B bM n0 n1 : Nat} {K : List Ky} {p : Ky → List R4} {vals : Ky → Value} {w w' : World} (h : Gs B bM n0 n1 K p vals w) (hb : Below w.heap.size w w') : Gs B bM n0 n1 K p vals w' :=
  h.grown ⟨hb.os, hb.tape, hb.output, hb.size, fun k hk _ => hb.block k hk⟩ (by simp) fun k hk => h.someB hk
theorem Gs.bM_lt {B bM n0 n1 : Nat} {K : List Ky} {p : Ky → List R4} {vals : Ky → Value} {w : World} (h : Gs B bM n0 n1 K p vals w) : bM < w.heap.size := by
  obtain ⟨D, d1, _⟩ := h.map
  exact d1.1.lt
/-- The map's block holds no cells: no row is it. -/
theorem Gs.not_map {B bM n0 n1 : Nat} {K : List Ky} {p : Ky → List R4} {vals : Ky → Value} {w : World} (h : Gs B bM n0 n1 K p vals w) {b n : Nat} {e : TypeId} {s : Nat} {v : Value} {xs : List Value} (ho : w.ownsRow b e s v n xs) : some bM ≠ v.ownBlock := by
  obtain ⟨D, ⟨⟨es, clock, hb, _⟩, _⟩, _⟩ := h.map
  rcases ho.2 with ⟨rfl, _⟩ | ⟨g, cap, cur, rfl, _, hg, _⟩
  · simp [Value.ownBlock]
  · intro e1
    have : g = bM := by simpa [Value.ownBlock] using e1.symm
    subst this
    rw [hg] at hb
    cases hb
theorem Gs.setCell {B bM n0 n1 : Nat} {K : List Ky} {p : Ky → List R4} {vals : Ky → Value} {w : World} (h : Gs B bM n0 n1 K p vals w) {q : Nat} (off : Nat) (u : Value) (h1 : bM ≠ q) (h2 : ∀ k ∈ K, (vals k).ownBlock ≠ some q) : Gs B bM n0 n1 K p vals (w.setCell ⟨q, off, none⟩ u) :=
  h.grown (row := some q) ⟨rfl, rfl, rfl, by simp, fun k _ hk => Below.heap_setCell _ _ _ _ (fun e => hk (by rw [e]))⟩ (by simpa using h1) h2
theorem Gs.look {B bM n0 n1 : Nat} {K : List Ky} {p : Ky → List R4} {vals : Ky → Value} {w : World} (h : Gs B bM n0 n1 K p vals w) {k : Ky} (hk : kin k) : (Instr.lookup 73 (.map (some bM)) (kv k) false).run Tryz.prog w = .ok (gv K vals k) w := by
  obtain ⟨D, ⟨d1, _⟩, d2, d3⟩ := h.map
  obtain ⟨v, ps, hrun, hR⟩ := d1.lookup lawK Tryz.underlying73 (zeroG w) (show sliD (.slice none 0 0) = some (sliE (.slice none 0 0), []) from rfl) (keyOf_kv hk)
  suffices e : v = gv K vals k by rw [← e]; exact hrun
  by_cases hm : k ∈ K
  · rw [d2 k hm] at hR
    obtain ⟨g, c, e, _, _⟩ := h.vs k hm
    unfold gv
    rw [if_pos hm]
    refine sliD_inj hR (q := []) ?_
    rw [e]; rfl
  · have hno : Maps.has D (kl k) = false := by
      rw [← Bool.not_eq_true, d3]
      rintro ⟨k', hk', e⟩
      exact hm (kl_inj hk (h.rng k' hk') e ▸ hk')
    rw [atKey_of_not_has hno] at hR
    unfold gv
    rw [if_neg hm]
    exact sliD_inj hR (q := []) rfl
/-- 'm[k]' at the operation. -/
theorem wpList_look_grp {w : World} {ops : Array Oper} {rest : List Oper} {o : Oper} {a : Act} {Q : Exit → Act → World → Prop} (hg : o.guard = none) (m x : Operand) (hop : o.op = Op.lookup 73 m x false) {B bM n0 n1 : Nat} {K : List Ky} {p : Ky → List R4} {vals : Ky → Value}
    (hm : a.eval m = .map (some bM)) (h : Gs B bM n0 n1 K p vals w) (k : Ky) (hx : a.eval x = kv k) (hk : kin k) (v : Value) (hv : gv K vals k = v) (hK : wpList Tryz.prog ops Q rest (a.put o.dst v) w) : wpList Tryz.prog ops Q (o :: rest) a w := by
  refine wpList_plain hg fun K' hK' => ?_
  unfold Oper.wp
  subst hv
  simp [execOp, hop, hm, hx, h.look hk, Result.andThen]
  exact hK' _ _ hK

/-- Between 'm[k]' taken for a store and the store. -/
def GMid (B bM n0 n1 : Nat) (K : List Ky) (p : Ky → List R4) (vals : Ky → Value) (k : Ky) (st : Nat) (w1 : World) : Prop :=
  bM < w1.heap.size ∧ ∀ (w2 : World) (r : R4) (g c : Nat), w1.grownBy w2 (gv K vals k).ownBlock → ((gv K vals k).ownBlock = some g ∨ w1.heap.size ≤ g) → (g < n0 ∨ n1 ≤ g) → w2.ownsRow B 42 4 (.slice (some ⟨g, 0, none⟩) ((p k).length + 1) c) ((p k).length + 1) ((p k ++ [r]).flatMap encR) →
    ∃ w3, (Instr.entryStore 73 (.map (some bM)) (goInt st) (.slice (some ⟨g, 0, none⟩) ((p k).length + 1) c)).run Tryz.prog w2 = .ok () w3 ∧ w2.grownBy w3 (some bM) ∧
      Gs B bM n0 n1 (addK K k) (fun k' => p k' ++ if k' = k then [r] else []) (fun k' => if k' = k then .slice (some ⟨g, 0, none⟩) ((p k).length + 1) c else vals k') w3
theorem setBlock_grown {w : World} {b : Nat} {es : Array MapEntry} {clock : Nat} (hb : w.heap[b]? = some (.map es clock)) (o' : Obj) : w.grownBy (setBlock w b o') (some b) :=
  ⟨rfl, rfl, rfl, by simp [setBlock], fun i _ hi => heap_setBlock_other hb _ (fun e => hi (by rw [e]))⟩
theorem Gs.entry {B bM n0 n1 : Nat} {K : List Ky} {p : Ky → List R4} {vals : Ky → Value} {w : World} (h : Gs B bM n0 n1 K p vals w) {k : Ky} (hk : kin k) (hn : K.length < maxLen) (hp : k ∉ K → p k = []) (hn1 : n1 ≤ w.heap.size) :
    ∃ (st : Nat) (w1 : World), (Instr.mapEntry 73 (.map (some bM)) (kv k)).run Tryz.prog w = .ok (.tuple #[gv K vals k, goInt st]) w1 ∧ w.grownBy w1 (some bM) ∧ w1.heap.size = w.heap.size ∧ GMid B bM n0 n1 K p vals k st w1 := by
  have hlook := h.look hk
  obtain ⟨D, ⟨d1, hKs⟩, d2, d3⟩ := h.map
  obtain ⟨es, clock, hb, F, hs, hD⟩ := id d1
  have hblt := d1.lt
  obtain ⟨v0, st, es1, clock1, hrun, hv0, hst⟩ := entry_then_store lawKT Tryz.underlying73 zeroG hb F (keyOf_kv hk)
  have hgw := setBlock_grown hb (.map es1 clock1)
  have e0 : v0 = gv K vals k := by
    rcases Maps.fit_look false lawK Tryz.underlying73 (zeroG w) hb F (keyOf_kv hk) with ⟨hr, hno, _⟩ | ⟨e0, y, hm0, hk0, hr, _⟩
    · rw [hlook] at hr
      simp only [Result.ok.injEq, and_true] at hr
      rcases hv0 with ⟨e1, h1, h2, h3⟩ | ⟨h1, h2⟩
      · exact absurd h2 (hno e1 h1)
      · rw [h2, hr]; rfl
    · rw [hlook] at hr
      simp only [Result.ok.injEq, and_true] at hr
      rcases hv0 with ⟨e1, h1, h2, h3⟩ | ⟨h1, h2⟩
      · have : e1 = e0 := by
          have hnd : es.toList.Pairwise (fun x y => x.key ≠ y.key) := ((MapKept.stamped_iff es clock).1 F.stamped).2.2
          rcases List.getElem_of_mem h1 with ⟨i, hi, ei⟩
          rcases List.getElem_of_mem hm0 with ⟨j, hj, ej⟩
          rcases Nat.lt_trichotomy i j with hij | hij | hij
          · exact absurd (by rw [ei, ej, h2, hk0]) (List.pairwise_iff_getElem.1 hnd i j hi hj hij)
          · subst hij; rw [← ei, ← ej]
          · exact absurd (by rw [ei, ej, h2, hk0]) (List.pairwise_iff_getElem.1 hnd j i hj hi hij)
        rw [h3, this, hr]; rfl
      · exact absurd hk0 (h1 e0 hm0)
  subst e0
  refine ⟨st, _, hrun, hgw, by simp [setBlock], by simpa [setBlock] using hblt, ?_⟩
  intro w2 r g c hg2 hloc hgap hown2
  have hbM2 : some bM ≠ (gv K vals k).ownBlock := by
    unfold gv
    split
    · rename_i hm
      obtain ⟨_, _, _, _, hr⟩ := h.vs k hm
      exact h.not_map hr
    · simp [Value.ownBlock]
  have hw2 : w2.heap[bM]? = some (.map es1 clock1) := (hg2.block bM (by simpa [setBlock] using hblt) hbM2).trans (heap_setBlock_same hb _)
  obtain ⟨es', clock', hrun2, hupd⟩ := hst w2 (.slice (some ⟨g, 0, none⟩) ((p k).length + 1) c) hw2
  obtain ⟨es'', clock'', hrun3, F'', hput, _⟩ := Maps.fit_store (R' := sliD) lawK Tryz.underlying73 hb F (Nat.lt_of_le_of_lt hs hn) (fun _ _ _ _ hz => hz) (keyOf_kv hk) (show sliD (.slice (some ⟨g, 0, none⟩) ((p k).length + 1) c) = some (sliE (.slice (some ⟨g, 0, none⟩) ((p k).length + 1) c), []) from rfl)
  rw [hupd] at hrun3
  simp only [Result.ok.injEq, true_and] at hrun3
  have hsame : es' = es'' ∧ clock' = clock'' := by
    have h1 := heap_setBlock_same hb (.map es' clock')
    have h2 := heap_setBlock_same hb (.map es'' clock'')
    rw [hrun3] at h1
    rw [h1] at h2
    simp only [Option.some.injEq, Obj.map.injEq] at h2
    exact h2
  obtain ⟨rfl, rfl⟩ := hsame
  have hg3 := setBlock_grown hw2 (.map es' clock')
  refine ⟨_, hrun2, hg3, ?_⟩
  have hlen : es'.size = Maps.size (D.put (kl k) (sliE (.slice (some ⟨g, 0, none⟩) ((p k).length + 1) c))) := by
    rw [hD, DataW.put_eq, Maps.size_eq, ← hput, length_sorted]
    simp
  have hhas : Maps.has D (kl k) = true ↔ k ∈ K := by
    rw [d3]
    constructor
    · rintro ⟨k', hk', e⟩
      exact kl_inj hk (h.rng k' hk') e ▸ hk'
    · intro hm; exact ⟨k, hm, rfl⟩
  have hrng : ∀ k' ∈ addK K k, kin k' := by
    intro k' hk'
    unfold addK at hk'
    split at hk'
    · exact h.rng k' hk'
    · rcases List.mem_append.1 hk' with h1 | h1
      · exact h.rng k' h1
      · rw [List.mem_singleton] at h1; subst h1; exact hk
  have hmem : ∀ k', k' ∈ addK K k ↔ k' = k ∨ k' ∈ K := by
    intro k'
    unfold addK
    split
    · rename_i hm
      constructor
      · exact .inr
      · rintro (rfl | h1)
        · exact hm
        · exact h1
    · rw [List.mem_append, List.mem_singleton]
      exact Or.comm
  have hoth : ∀ k' ∈ K, k' ≠ k → (vals k').ownBlock ≠ some g ∧ (vals k').ownBlock ≠ (gv K vals k).ownBlock := by
    intro k' hk' hne
    have hsm := h.someB hk'
    have h2 : (vals k').ownBlock ≠ (gv K vals k).ownBlock := by
      unfold gv
      split
      · rename_i hm; exact h.apart k' hk' k hm hne
      · exact hsm
    refine ⟨?_, h2⟩
    rcases hloc with hl | hl
    · rw [← hl]; exact h2
    · intro e
      have := (h.lt hk' e).2
      have : (setBlock w bM (.map es1 clock1)).heap.size = w.heap.size := by simp [setBlock]
      omega
  have hsz : Maps.size (D.put (kl k) (sliE (.slice (some ⟨g, 0, none⟩) ((p k).length + 1) c))) = (addK K k).length := by
    rw [size_put (d1.tidy lawK)]
    unfold addK
    by_cases hm : k ∈ K
    · rw [if_pos (hhas.2 hm), if_pos hm]; omega
    · rw [if_neg (fun e => hm (hhas.1 e)), if_neg hm]; simp; omega
  refine ⟨⟨D.put (kl k) (sliE (.slice (some ⟨g, 0, none⟩) ((p k).length + 1) c)), ⟨⟨es', clock', heap_setBlock_same hw2 _, F'', by omega, by rw [hD, DataW.put_eq, hput]⟩, hsz⟩, ?_, ?_⟩, ?_, ?_, hrng, ?_⟩
  · intro k' hk' z
    by_cases e : k' = k
    · subst e
      rw [if_pos rfl, atKey_put_same d1.isMap (lawK.key (keyOf_kv hk))]
    · rw [if_neg e, atKey_put_other (kl_ne (hrng k' hk') hk e)]
      rcases (hmem k').1 hk' with h1 | h1
      · exact absurd h1 e
      · exact d2 k' h1 z
  · intro l
    by_cases e : l = kl k
    · subst e
      rw [has_put_same d1.isMap (lawK.key (keyOf_kv hk))]
      exact ⟨fun _ => ⟨k, (hmem k).2 (.inl rfl), rfl⟩, fun _ => rfl⟩
    · rw [has_put_other e, d3]
      constructor
      · rintro ⟨k', h1, h2⟩; exact ⟨k', (hmem k').2 (.inr h1), h2⟩
      · rintro ⟨k', h1, h2⟩
        rcases (hmem k').1 h1 with h3 | h3
        · subst h3; exact absurd h2 e
        · exact ⟨k', h3, h2⟩
  · intro k' hk'
    by_cases e : k' = k
    · subst e
      refine ⟨g, c, by simp, hgap, ?_⟩
      simp only [if_true, List.length_append, List.length_singleton]
      refine hown2.kept hg3 (.inr ?_)
      have hno : some bM ≠ (Value.slice (some ⟨g, 0, none⟩) ((p k').length + 1) c).ownBlock := by
        intro e1
        have e2 : g = bM := by simpa [Value.ownBlock] using e1.symm
        subst e2
        rcases hown2.2 with ⟨e3, _⟩ | ⟨g', cap, cur, e3, _, hh, _⟩
        · cases e3
        · injection e3 with e4
          injection e4 with e4
          injection e4 with e4
          subst e4
          rw [hh] at hw2
          cases hw2
      exact fun e1 => hno e1.symm
    · rcases (hmem k').1 hk' with h1 | h1
      · exact absurd h1 e
      · obtain ⟨g', c', e', hgap', hr'⟩ := h.vs k' h1
        obtain ⟨o1, o2⟩ := hoth k' h1 e
        refine ⟨g', c', by simp [e, e'], hgap', ?_⟩
        simp only [e, if_false, List.append_nil]
        have hk1 : (vals k').ownBlock ≠ some bM := fun e1 => (h.not_map hr') e1.symm
        exact ((hr'.kept hgw (.inr hk1)).kept hg2 (.inr o2)).kept hg3 (.inr hk1)
  · intro a ha b hb' hne
    by_cases ea : a = k
    · subst ea
      rw [if_pos rfl, if_neg (Ne.symm hne)]
      rcases (hmem b).1 hb' with h1 | h1
      · exact absurd h1.symm hne
      · exact fun e => (hoth b h1 (Ne.symm hne)).1 e.symm
    · rw [if_neg ea]
      rcases (hmem a).1 ha with h1 | h1
      · exact absurd h1 ea
      · by_cases eb : b = k
        · subst eb
          rw [if_pos rfl]
          exact (hoth a h1 hne).1
        · rw [if_neg eb]
          rcases (hmem b).1 hb' with h2 | h2
          · exact absurd h2 eb
          · exact h.apart a h1 b h2 hne
  · unfold addK
    split
    · exact h.nd
    · rename_i hm
      rw [List.nodup_append]
      refine ⟨h.nd, by simp, fun a ha b hb e => ?_⟩
      rw [List.mem_singleton] at hb
      subst hb; subst e
      exact hm ha
theorem wpList_entry_grp {w : World} {ops : Array Oper} {rest : List Oper} {o : Oper} {a : Act} {Q : Exit → Act → World → Prop} (hg : o.guard = none) (m x : Operand) (hop : o.op = Op.mapEntry 73 m x) {B bM n0 n1 : Nat} {K : List Ky} {p : Ky → List R4} {vals : Ky → Value}
    (hm : a.eval m = .map (some bM)) (h : Gs B bM n0 n1 K p vals w) (k : Ky) (hx : a.eval x = kv k) (hk : kin k) (hn : K.length < maxLen) (hp : k ∉ K → p k = []) (hn1 : n1 ≤ w.heap.size) (v : Value) (hv : gv K vals k = v)
    (hK : ∀ (st : Nat) (w1 : World), w.grownBy w1 (some bM) → w1.heap.size = w.heap.size → GMid B bM n0 n1 K p vals k st w1 → wpList Tryz.prog ops Q rest (a.put o.dst (.tuple #[v, .int .i64 (st : Nat)])) w1) : wpList Tryz.prog ops Q (o :: rest) a w := by
  refine wpList_plain hg fun K' hK' => ?_
  obtain ⟨st, w1, hrun, h1, h2, h3⟩ := h.entry hk hn hp hn1
  subst hv
  unfold Oper.wp
  simp [execOp, hop, hm, hx, hrun, Result.andThen]
  exact hK' _ _ (hK st w1 h1 h2 h3)
theorem wpList_store_grp {w w1 : World} {ops : Array Oper} {rest : List Oper} {o : Oper} {a : Act} {Q : Exit → Act → World → Prop} (hg : o.guard = none) (m x y : Operand) (hop : o.op = Op.entryStore 73 m x y) {B bM n0 n1 : Nat} {K : List Ky} {p : Ky → List R4} {vals : Ky → Value} {k : Ky} {st : Nat} (h : GMid B bM n0 n1 K p vals k st w1)
    (hm : a.eval m = .map (some bM)) (hx : a.eval x = .int .i64 (st : Nat)) (r : R4) (g c : Nat) (hy : a.eval y = .slice (some ⟨g, 0, none⟩) ((p k).length + 1) c) (hgr : w1.grownBy w (gv K vals k).ownBlock) (hloc : (gv K vals k).ownBlock = some g ∨ w1.heap.size ≤ g) (hgap : g < n0 ∨ n1 ≤ g)
    (hown : w.ownsRow B 42 4 (.slice (some ⟨g, 0, none⟩) ((p k).length + 1) c) ((p k).length + 1) ((p k ++ [r]).flatMap encR))
    (hK : ∀ w3, w.grownBy w3 (some bM) → Gs B bM n0 n1 (addK K k) (fun k' => p k' ++ if k' = k then [r] else []) (fun k' => if k' = k then .slice (some ⟨g, 0, none⟩) ((p k).length + 1) c else vals k') w3 → wpList Tryz.prog ops Q rest (a.put o.dst undef) w3) : wpList Tryz.prog ops Q (o :: rest) a w := by
  refine wpList_plain hg fun K' hK' => ?_
  obtain ⟨w3, hrun, h1, h2⟩ := h.2 w r g c hgr hloc hgap hown
  unfold Oper.wp
  simp [execOp, hop, hm, hx, hy, goInt, hrun, Result.andThen]
  simp only [goInt] at hrun
  rw [hrun]
  exact hK' _ _ (hK w3 h1 h2)
end Go.Proofs.YtlkaniojnaaocaaGreat

/- copy on rows whose elements have any number of cells: the kit's laws with the size as a number of its own. -/
namespace Go.Proofs.YtlkaniojnaaocaaGreat
open Go.RowKit
set_option linter.unusedVariables false
set_option linter.unusedSimpArgs false

theorem setRow_grown (w : World) (g : Nat) (cs : Array Value) : w.grownBy (w.setRow g cs) (some g) := ⟨rfl, rfl, rfl, by simp [World.setRow], fun k _ hk => setRow_other w g k cs (fun e => hk (by rw [e]))⟩
theorem run_copy_row_n {P : Program} (w : World) (dT sT ty elem : TypeId) (g o dLen dCap : Nat) (a : Addr) (sLen sCap : Nat) (cur : Array Value) (t : TypeId) (cs : List Value) (k n : Nat)
    (hu : P.underlying dT = some (.slice elem)) (hs : (P.info? elem).map (·.size) = some k)
    (hg : w.heap[g]? = some (.cells cur t (0, 0))) (hm : n = Nat.min sLen dLen) (hn : cs.length = n * k)
    (hsrc : ∀ j v, cs[j]? = some v → w.cell? (a.add j) = some v) (hfit : o + cs.length ≤ cur.size) (h1 : ∀ v ∈ cs, v.oneCell' = true) :
    (Builtin.copy_ #[dT, sT] ty #[.slice (some ⟨g, o, none⟩) dLen dCap, .slice (some a) sLen sCap]).run P w =
      .ok (goInt n) (w.setRow g (cur.toList.take o ++ cs ++ cur.toList.drop (o + cs.length)).toArray) := by
  have hl := run_loadCells_list (P := P) w a cs hsrc
  have hst := run_storeCells_at P g o t cs 0 cur w hg (by simpa using hfit) h1
  cases hq : P.info? elem with
  | none => simp [hq] at hs
  | some i =>
    have hi : i.size = k := by simpa [hq] using hs
    simp [Builtin.copy_, run_underlying hu, Builtin.lenOf, Builtin.firstCells, sizeOf, typeInfo, hq, hi, ← hm, ← hn, hl, hst]
theorem run_copy_none_n {P : Program} (w : World) (dT sT ty elem : TypeId) (d a : Option Addr) (dLen dCap sLen sCap : Nat) (k : Nat) (hu : P.underlying dT = some (.slice elem)) (hs : (P.info? elem).map (·.size) = some k) (hn : Nat.min sLen dLen = 0) :
    (Builtin.copy_ #[dT, sT] ty #[.slice d dLen dCap, .slice a sLen sCap]).run P w = .ok (goInt 0) w := by
  cases hq : P.info? elem with
  | none => simp [hq] at hs
  | some i =>
    have hl : ∀ (x : Addr), (loadCells x 0).run P w = .ok #[] w := fun x => by simpa using run_loadCells_list (P := P) w x [] (by simp)
    cases d <;> cases a <;> simp [Builtin.copy_, run_underlying hu, Builtin.lenOf, Builtin.firstCells, sizeOf, typeInfo, hq, hn, storeCells, hl]
theorem wpList_copy_n {P : Program} {w : World} {ops : Array Oper} {rest : List Oper} {o : Oper} {a : Act} {Q : Exit → Act → World → Prop} (hgd : o.guard = none) (d s : Operand) (dT sT : TypeId)
    (ho : o.op = .call { callee := .builtin .copy, args := #[d, s], argTypes := #[dT, sT] }) (elem : TypeId) (hu : P.underlying dT = some (.slice elem)) (k : Nat) (hsz : (P.info? elem).map (·.size) = some k)
    (dp sp : Option Addr) (dLen dCap sLen sCap : Nat) (hd : a.eval d = .slice dp dLen dCap) (hs : a.eval s = .slice sp sLen sCap)
    (g off : Nat) (cur : List Value) (t : TypeId) (hg : w.heap[g]? = some (.cells cur.toArray t (0, 0))) (cs : List Value) (n : Nat) (hm : n = Nat.min sLen dLen) (hn : cs.length = n * k)
    (hpos : 0 < n → dp = some ⟨g, off, none⟩ ∧ ∃ ad, sp = some ad ∧ ∀ j v, cs[j]? = some v → w.cell? (ad.add j) = some v)
    (hfit : off + cs.length ≤ cur.length) (h1 : ∀ v ∈ cs, v.oneCell' = true) (B : Nat) (w0 : World) (hb : Below B w0 w) (hBg : B ≤ g)
    (h : ∀ w', Hid (w'.heap[g]? = some (.cells (splice cur off cs).toArray t (0, 0))) → Below B w0 w' → w.grownBy w' (some g) → wpList P ops Q rest (a.put o.dst (goInt n)) w') :
    wpList P ops Q (o :: rest) a w := by
  refine wpList_plain hgd fun K hK => ?_
  by_cases h0 : n = 0
  · subst h0
    obtain rfl : cs = [] := List.eq_nil_of_length_eq_zero (by simpa using hn)
    have hrun := run_copy_none_n (P := P) w dT sT o.type elem dp sp dLen dCap sLen sCap k hu hsz hm.symm
    unfold Oper.wp
    simp [execOp, ho, resolve, invoke, builtin, hd, hs, hrun, Result.andThen]
    exact hK _ _ (h w (show _ = _ by simpa [splice] using hg) hb ⟨rfl, rfl, rfl, Nat.le_refl _, fun _ _ _ => rfl⟩)
  · obtain ⟨rfl, ad, rfl, hsrc⟩ := hpos (by omega)
    have hrun := run_copy_row_n (P := P) w dT sT o.type elem g off dLen dCap ad sLen sCap cur.toArray t cs k n hu hsz hg hm hn hsrc (by simpa using hfit) h1
    unfold Oper.wp
    simp [execOp, ho, resolve, invoke, builtin, hd, hs, hrun, Result.andThen]
    exact hK _ _ (h _ (show _ = _ by simpa [splice] using setRow_heap w g _ _ t _ hg) (below_setRow hb hBg _) (setRow_grown _ _ _))
theorem step_copy_n {P : Program} {ops : Array Oper} {o : Oper} {a : Act} {w : World} {K : Act → World → Prop} {Q : Exit → Act → World → Prop} {E : Prop} (hgd : o.guard = none) (d s : Operand) (dT sT : TypeId)
    (ho : o.op = .call { callee := .builtin .copy, args := #[d, s], argTypes := #[dT, sT] }) (elem : TypeId) (hu : P.underlying dT = some (.slice elem)) (k : Nat) (hsz : (P.info? elem).map (·.size) = some k)
    (dp sp : Option Addr) (dLen dCap sLen sCap : Nat) (hd : a.eval d = .slice dp dLen dCap) (hs : a.eval s = .slice sp sLen sCap)
    (g off : Nat) (cur : List Value) (t : TypeId) (hg : w.heap[g]? = some (.cells cur.toArray t (0, 0))) (cs : List Value) (n : Nat) (hm : n = Nat.min sLen dLen) (hn : cs.length = n * k)
    (hpos : 0 < n → dp = some ⟨g, off, none⟩ ∧ ∃ ad, sp = some ad ∧ ∀ j v, cs[j]? = some v → w.cell? (ad.add j) = some v)
    (hfit : off + cs.length ≤ cur.length) (h1 : ∀ v ∈ cs, v.oneCell' = true) (B : Nat) (w0 : World) (hb : Below B w0 w) (hBg : B ≤ g)
    (h : ∀ w', Hid (w'.heap[g]? = some (.cells (splice cur off cs).toArray t (0, 0))) → Below B w0 w' → w.grownBy w' (some g) → K (a.put o.dst (goInt n)) w') :
    if Region.wanted o (yielded ops a.tmps) = true then Oper.wp P o a w K Q else E := by
  have hw : Region.wanted o (yielded ops a.tmps) = true := by simp [Region.wanted, hgd]
  rw [if_pos hw]
  by_cases h0 : n = 0
  · subst h0
    obtain rfl : cs = [] := List.eq_nil_of_length_eq_zero (by simpa using hn)
    have hrun := run_copy_none_n (P := P) w dT sT o.type elem dp sp dLen dCap sLen sCap k hu hsz hm.symm
    unfold Oper.wp
    simp [execOp, ho, resolve, invoke, builtin, hd, hs, hrun, Result.andThen]
    exact h w (show _ = _ by simpa [splice] using hg) hb ⟨rfl, rfl, rfl, Nat.le_refl _, fun _ _ _ => rfl⟩
  · obtain ⟨rfl, ad, rfl, hsrc⟩ := hpos (by omega)
    have hrun := run_copy_row_n (P := P) w dT sT o.type elem g off dLen dCap ad sLen sCap cur.toArray t cs k n hu hsz hg hm hn hsrc (by simpa using hfit) h1
    unfold Oper.wp
    simp [execOp, ho, resolve, invoke, builtin, hd, hs, hrun, Result.andThen]
    exact h _ (show _ = _ by simpa [splice] using setRow_heap w g _ _ t _ hg) (below_setRow hb hBg _) (setRow_grown _ _ _)
end Go.Proofs.YtlkaniojnaaocaaGreat
