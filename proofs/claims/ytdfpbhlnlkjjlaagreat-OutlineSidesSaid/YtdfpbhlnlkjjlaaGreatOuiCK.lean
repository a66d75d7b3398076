/- Outlines, plain: unit edges counted by the law and by the outline. -/
import Derived.Test.YtdfpbhlnlkjjlaaGreatXtsK
import Derived.Test.YtdfpbhlnlkjjlaaGreatOutUK
namespace Go.Proofs.YtdfpbhlnlkjjlaaGreat
set_option linter.unusedVariables false
set_option linter.unusedSimpArgs false

/-- The unit edges at a cell's lower left corner that have the region on one side alone. -/
def edN (l : List R4) (x y : Int) : Int := (if decide (pmem l x y) = decide (pmem l (x - 1) y) then 0 else 1) + (if decide (pmem l x y) = decide (pmem l x (y - 1)) then 0 else 1)
theorem edN_bd (l : List R4) (x y : Int) : 0 ≤ edN l x y ∧ edN l x y ≤ 2 := by
  unfold edN
  split <;> split <;> omega
theorem sumZ_bd {f : Int → Int} {c : Int} (h : ∀ i, 0 ≤ f i ∧ f i ≤ c) (a : Int) : ∀ n : Nat, 0 ≤ sumZ f a n ∧ sumZ f a n ≤ c * n
  | 0 => by simp [sumZ]
  | n + 1 => by
    have h1 := sumZ_bd h a n
    have h2 := h (a + n)
    simp only [sumZ]
    rw [Int.natCast_succ, Int.mul_add]
    omega
theorem edN_row (l : List R4) (i : Int) : 0 ≤ sumZ (fun y => edN l i y) (-41) 83 ∧ sumZ (fun y => edN l i y) (-41) 83 ≤ 166 := by
  have h : 0 ≤ sumZ (fun y => edN l i y) (-41) 83 ∧ sumZ (fun y => edN l i y) (-41) 83 ≤ 2 * ((83 : Nat) : Int) := sumZ_bd (edN_bd l i) (-41) 83
  omega
section
variable {l : List R4} {L : List (List Pt)}
theorem out_far (hs : ∀ r ∈ l, -40 ≤ r.x0 ∧ -40 ≤ r.y0 ∧ r.x1 ≤ 40 ∧ r.y1 ≤ 40) {x y : Int} (h : x < -40 ∨ 40 ≤ x ∨ y < -40 ∨ 40 ≤ y) : decide (pmem l x y) = false := by
  refine decide_eq_false ?_
  rintro ⟨r, hr, h1, h2, h3, h4⟩
  have := hs r hr
  omega
theorem edN_far (hs : ∀ r ∈ l, -40 ≤ r.x0 ∧ -40 ≤ r.y0 ∧ r.x1 ≤ 40 ∧ r.y1 ≤ 40) {x y : Int} (h : x < -40 ∨ y < -40) : edN l x y = 0 := by
  unfold edN
  rw [out_far hs (x := x) (y := y) (by omega), out_far hs (x := x - 1) (y := y) (by omega), out_far hs (x := x) (y := y - 1) (by omega)]
  rfl
theorem out_len (hs : ∀ r ∈ l, -40 ≤ r.x0 ∧ -40 ≤ r.y0 ∧ r.x1 ≤ 40 ∧ r.y1 ≤ 40) (hO : Outl (setR l) L) : sumZ (fun x => sumZ (fun y => edN l x y) (-41) 83) (-41) 83 = (L.map lnL).sum := by
  have hM : bdC (setR l) 41 := setR_bd fun t ht => by have := hs t ht; omega
  rw [hO.length hM]
  have e : vol (41 + 1) (fun x y => (if inC (setR l) (lc (edU true x y)) = inC (setR l) (rc (edU true x y)) then 0 else 1) + (if inC (setR l) (lc (edU false x y)) = inC (setR l) (rc (edU false x y)) then 0 else 1)) = vol (41 + 1) (fun x y => edN l x y) := by
    refine vol_congr fun x y _ _ _ _ => ?_
    unfold edN
    have a1 : (inC (setR l) (lc (edU true x y)) = inC (setR l) (rc (edU true x y))) = (decide (pmem l x y) = decide (pmem l x (y - 1))) := rfl
    have a2 : (inC (setR l) (lc (edU false x y)) = inC (setR l) (rc (edU false x y))) = (decide (pmem l (x - 1) y) = decide (pmem l x y)) := rfl
    simp only [a1, a2]
    rw [Int.add_comm]
    congr 1
    by_cases h : decide (pmem l x y) = decide (pmem l (x - 1) y)
    · rw [if_pos h, if_pos h.symm]
    · rw [if_neg h, if_neg (fun e => h e.symm)]
  rw [e]
  unfold vol
  show _ = sumZ (fun x => sumZ (fun y => edN l x y) (-42) (1 + 83)) (-42) (1 + 83)
  rw [sumZ_split]
  have z1 : sumZ (fun x => sumZ (fun y => edN l x y) (-42) (1 + 83)) (-42) 1 = 0 := by
    show 0 + sumZ (fun y => edN l (-42 + 0) y) (-42) (1 + 83) = 0
    rw [sumZ_congr (g := fun _ => 0) fun y _ _ => edN_far hs (.inl (by omega)), sumZ_zero]
    rfl
  rw [z1, Int.zero_add]
  refine sumZ_congr fun x _ _ => ?_
  rw [sumZ_split]
  have z2 : sumZ (fun y => edN l x y) (-42) 1 = 0 := by
    show 0 + edN l x (-42 + 0) = 0
    rw [edN_far hs (.inr (by omega))]
    rfl
  rw [z2, Int.zero_add]
  rfl
theorem out_cov (hO : Outl (setR l) L) (low : Bool) (x y : Int) : (L.map (cvL low x y)).sum = if decide (pmem l x y) = (if low then decide (pmem l x (y - 1)) else decide (pmem l (x - 1) y)) then 0 else 1 := by
  rw [hO.cover]
  cases low
  · show (if decide (pmem l (x - 1) y) = decide (pmem l x y) then (0 : Int) else 1) = if decide (pmem l x y) = decide (pmem l (x - 1) y) then 0 else 1
    by_cases h : decide (pmem l x y) = decide (pmem l (x - 1) y)
    · rw [if_pos h, if_pos h.symm]
    · rw [if_neg h, if_neg (fun e => h e.symm)]
  · rfl
/-- A coordinate less one, as the machine has it. -/
theorem wrap_less (hs : ∀ r ∈ l, -40 ≤ r.x0 ∧ -40 ≤ r.y0 ∧ r.x1 ≤ 40 ∧ r.y1 ≤ 40) {x y : Int} (hx : -9223372036854775808 ≤ x ∧ x ≤ 9223372036854775807) : decide (pmem l (IntKind.i64.wrap (x - 1)) y) = decide (pmem l (x - 1) y) := by
  by_cases h : x = -9223372036854775808
  · subst h
    rw [out_far hs (x := -9223372036854775808 - 1) (.inl (by omega)), out_far hs (.inr (.inl (by decide)))]
  · rw [IntWalk.i64_in _ (by omega)]
theorem wrap_less2 (hs : ∀ r ∈ l, -40 ≤ r.x0 ∧ -40 ≤ r.y0 ∧ r.x1 ≤ 40 ∧ r.y1 ≤ 40) {x y : Int} (hy : -9223372036854775808 ≤ y ∧ y ≤ 9223372036854775807) : decide (pmem l x (IntKind.i64.wrap (y - 1))) = decide (pmem l x (y - 1)) := by
  by_cases h : y = -9223372036854775808
  · subst h
    rw [out_far hs (y := -9223372036854775808 - 1) (.inr (.inr (.inl (by omega)))), out_far hs (.inr (.inr (.inr (by decide))))]
  · rw [IntWalk.i64_in _ (by omega)]
theorem out_lnl (hk : checkF l = 0) (hO : Outl (setR l) L) {p : List Pt} (hp : p ∈ L) : lenO p = (lnL p, 0) ∧ 0 ≤ lnL p ∧ lnL p ≤ 8000000000 := by
  have hc := out_chk hk hO p hp
  have h1 := lenS_bd hc p.length (Nat.le_refl _)
  have h2 := (chkO_ok hc).1
  refine ⟨by unfold lenO; rw [if_pos hc]; rfl, h1.1, ?_⟩
  show lenS p p.length ≤ _
  omega
theorem covP_01 (low : Bool) (x y : Int) (p q : Pt) : 0 ≤ covP low x y p q ∧ covP low x y p q ≤ 1 := by unfold covP; split <;> omega
theorem cvN_bd (low : Bool) (x y : Int) (p : List Pt) : ∀ m : Nat, 0 ≤ smN (fun i => covP low x y (pAt p i) (qAt p i)) m ∧ smN (fun i => covP low x y (pAt p i) (qAt p i)) m ≤ m
  | 0 => by simp [smN]
  | m + 1 => by
    have h1 := cvN_bd low x y p m
    have h2 := covP_01 low x y (pAt p m) (qAt p m)
    rw [smN_succ]
    omega
theorem covP_t {x y px py qx qy : Int} : covP true x y (px, py) (qx, qy) = 1 ↔ py = qy ∧ py = y ∧ min px qx ≤ x ∧ x < max px qx := by
  unfold covP covQ
  simp only [true_and, Bool.true_eq_false, false_and, or_false]
  split
  · rename_i h; exact ⟨fun _ => h, fun _ => rfl⟩
  · rename_i h; exact ⟨fun e => by omega, fun e => absurd e h⟩
theorem covP_f {x y px py qx qy : Int} : covP false x y (px, py) (qx, qy) = 1 ↔ px = qx ∧ px = x ∧ min py qy ≤ y ∧ y < max py qy := by
  unfold covP covQ
  simp only [true_and, Bool.false_eq_true, false_and, false_or]
  split
  · rename_i h; exact ⟨fun _ => h, fun _ => rfl⟩
  · rename_i h; exact ⟨fun e => by omega, fun e => absurd e h⟩
theorem sumL_step {f : List Pt → Int} {k : Nat} {p : List Pt} (h : L[k]? = some p) : ((L.take (k + 1)).map f).sum = ((L.take k).map f).sum + f p := by
  rw [List.take_add_one, h, Option.toList_some, List.map_append, List.sum_append]
  simp
end
end Go.Proofs.YtdfpbhlnlkjjlaaGreat
