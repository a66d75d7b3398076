/- Texts laid together: MLotB, RdLit, ParA, OpenL, MLots, ParB, ParC, ParD, ParE, ParF, ParR, ParS, ParG, ParH, MLotsB, Regs, OpenP. Lemmas for the statements of this seat; no condition. -/
import Derived.Test.YteojjihgmmecpaaPk6
import Derived.Test.YteojjihgmmecpaaPk3
import Derived.Test.YteojjihgmmecpaaPk1
import Derived.Test.YteojjihgmmecpaaPk4
import Derived.Test.YteojjihgmmecpaaPk2
import Derived.Deep.RegionHeld3
import Derived.Deep.DeepCutAuto
import Derived.WalkSmall

/- Plain law: the fronts of a lot's lots; lots that are turned or moved. -/
namespace Go.Proofs.Yteojjihgmmecpaa
set_option linter.unusedVariables false
set_option linter.unusedSimpArgs false

def isSide (s : Int) : Prop := s = 1 ∨ s = 2 ∨ s = 4 ∨ s = 8
def onS (a b : R4) (s : Int) : Bool := if s = 1 then decide (a.x0 = b.x0) else if s = 2 then decide (a.x1 = b.x1) else if s = 4 then decide (a.y0 = b.y0) else decide (a.y1 = b.y1)
theorem f16 {f : Int} (h : 0 ≤ f ∧ f ≤ 15) : ∃ n : Nat, n ∈ List.range 16 ∧ f = (n : Int) := ⟨f.toNat, by simp; omega, by omega⟩
theorem less_all : ∀ n ∈ List.range 16, ∀ s ∈ ([1, 2, 4, 8] : List Int), ∀ t ∈ ([1, 2, 4, 8] : List Int), hasS (lessS (n : Int) t) s = (hasS (n : Int) s && decide (s ≠ t)) ∧ 0 ≤ lessS (n : Int) t ∧ lessS (n : Int) t ≤ 15 := by decide
theorem side_mem {s : Int} (h : isSide s) : s ∈ ([1, 2, 4, 8] : List Int) := by
  rcases h with rfl | rfl | rfl | rfl <;> simp
theorem has_less {f s t : Int} (h : 0 ≤ f ∧ f ≤ 15) (hs : isSide s) (ht : isSide t) : hasS (lessS f t) s = (hasS f s && decide (s ≠ t)) := by
  obtain ⟨n, hn, rfl⟩ := f16 h
  exact (less_all n hn s (side_mem hs) t (side_mem ht)).1
theorem less_15 {f t : Int} (h : 0 ≤ f ∧ f ≤ 15) (ht : isSide t) : 0 ≤ lessS f t ∧ lessS f t ≤ 15 := by
  obtain ⟨n, hn, rfl⟩ := f16 h
  exact (less_all n hn 1 (by simp) t (side_mem ht)).2
theorem cut_front {p : Pl3} {l a b : Lot5} (h : cutL p l = some (a, b)) {s : Int} (hs : isSide s) : hasS a.f s = (hasS l.f s && onS a.r l.r s) ∧ hasS b.f s = (hasS l.f s && onS b.r l.r s) := by
  obtain ⟨h1, h2, h3, _, h4⟩ := cutL_some h
  have q1 := h1.1.1
  have q2 := h2.1.1
  have q3 := h3.1.1
  have hf : 0 ≤ l.f ∧ l.f ≤ 15 := by have := h1.1.2; omega
  rcases h4 with h4 | h4
  · simp only [wideL, Prod.mk.injEq] at h4
    obtain ⟨rfl, rfl⟩ := h4
    simp only [okR] at q1 q2 q3
    dsimp only
    rw [has_less hf hs (.inr (.inl rfl)), has_less hf hs (.inl rfl)]
    unfold onS
    generalize l.w / 2 = t at *
    have n1 : ¬ l.r.x0 + t = l.r.x1 := by omega
    have n2 : ¬ l.r.x0 + t = l.r.x0 := by omega
    rcases hs with rfl | rfl | rfl | rfl <;> simp [n1, n2]
  · simp only [highL, Prod.mk.injEq] at h4
    obtain ⟨rfl, rfl⟩ := h4
    simp only [okR] at q1 q2 q3
    dsimp only
    rw [has_less hf hs (.inr (.inr (.inr rfl))), has_less hf hs (.inr (.inr (.inl rfl)))]
    unfold onS
    generalize l.h / 2 = t at *
    have n1 : ¬ l.r.y0 + t = l.r.y1 := by omega
    have n2 : ¬ l.r.y0 + t = l.r.y0 := by omega
    rcases hs with rfl | rfl | rfl | rfl <;> simp [n1, n2]
theorem on_trans {a b c : R4} {s : Int} (h1 : b.x0 ≤ a.x0 ∧ b.y0 ≤ a.y0 ∧ a.x1 ≤ b.x1 ∧ a.y1 ≤ b.y1) (h2 : c.x0 ≤ b.x0 ∧ c.y0 ≤ b.y0 ∧ b.x1 ≤ c.x1 ∧ b.y1 ≤ c.y1) : (onS b c s && onS a b s) = onS a c s := by
  unfold onS
  have k : ∀ p q r : Prop, [Decidable p] → [Decidable q] → [Decidable r] → (p ∧ q ↔ r) → (decide p && decide q) = decide r := fun p q r _ _ _ h => by
    rw [← Bool.decide_and]; exact decide_eq_decide.2 h
  split
  · exact k _ _ _ (by omega)
  · split
    · exact k _ _ _ (by omega)
    · split
      · exact k _ _ _ (by omega)
      · exact k _ _ _ (by omega)
theorem cut_in {p : Pl3} {l a b : Lot5} (hv : validL l) (h : cutL p l = some (a, b)) : (l.r.x0 ≤ a.r.x0 ∧ l.r.y0 ≤ a.r.y0 ∧ a.r.x1 ≤ l.r.x1 ∧ a.r.y1 ≤ l.r.y1) ∧ (l.r.x0 ≤ b.r.x0 ∧ l.r.y0 ≤ b.r.y0 ∧ b.r.x1 ≤ l.r.x1 ∧ b.r.y1 ≤ l.r.y1) := by
  obtain ⟨_, h2, h3, _, h4⟩ := cutL_some h
  have q1 := hv.1
  have q2 := h2.1.1
  have q3 := h3.1.1
  rcases h4 with h4 | h4 <;>
  · simp only [wideL, highL, Prod.mk.injEq] at h4
    obtain ⟨rfl, rfl⟩ := h4
    simp only [okR] at q1 q2 q3
    dsimp only
    generalize l.w / 2 = t at *
    generalize l.h / 2 = t2 at *
    omega
/-- A side in the front of one of the lots lies on a side in the front of the lot, and the other way round. -/
theorem leaves_front (p : Pl3) {s : Int} (hs : isSide s) : ∀ l, validL l → ∀ x ∈ leaves p l, hasS x.f s = (hasS l.f s && onS x.r l.r s) := cut_ind (p := p)
  (fun l h _ => by
    rw [leaves_none h]; intro x hx; rw [List.mem_singleton] at hx; subst hx
    have : onS x.r x.r s = true := by unfold onS; split <;> (try split) <;> (try split) <;> simp
    rw [this, Bool.and_true])
  (fun l a b h ha hb hv => by
    obtain ⟨_, h2, h3, _⟩ := cutL_some h
    obtain ⟨f1, f2⟩ := cut_front h hs
    obtain ⟨i1, i2⟩ := cut_in hv h
    rw [leaves_some h]
    intro x hx
    rcases List.mem_append.1 hx with hx | hx
    · rw [ha h2.1 x hx, f1, Bool.and_assoc, on_trans (leaves_in p a h2.1 x hx) i1]
    · rw [hb h3.1 x hx, f2, Bool.and_assoc, on_trans (leaves_in p b h3.1 x hx) i2])
/-! ### moved -/
def moveL (x y : Int) (l : Lot5) : Lot5 := ⟨mvA x y l.r, l.f⟩
theorem move_wh (x y : Int) (l : Lot5) : (moveL x y l).w = l.w ∧ (moveL x y l).h = l.h := by
  simp only [moveL, mvA, Lot5.w, Lot5.h]; omega
theorem move_long (x y : Int) (l : Lot5) : longL (moveL x y l) = longL l := by
  unfold longL
  rw [(move_wh x y l).1, (move_wh x y l).2]
  rfl
theorem move_good {p : Pl3} {x y : Int} {l : Lot5} (h : validL (moveL x y l) ↔ validL l) : goodL p (moveL x y l) ↔ goodL p l := by
  unfold goodL
  rw [move_long, (move_wh x y l).1, (move_wh x y l).2, h]
theorem move_way (x y : Int) (d : Bool) (l : Lot5) : wayL d (moveL x y l) = (moveL x y (wayL d l).1, moveL x y (wayL d l).2) := by
  obtain ⟨e1, e2⟩ := move_wh x y l
  unfold wayL
  cases d
  · simp only [Bool.false_eq_true, if_false]
    simp only [highL, e2]
    simp only [moveL, mvA, Prod.mk.injEq, Lot5.mk.injEq, R4.mk.injEq, true_and, and_true]
    omega
  · simp only [if_true]
    simp only [wideL, e1]
    simp only [moveL, mvA, Prod.mk.injEq, Lot5.mk.injEq, R4.mk.injEq, true_and, and_true]
    omega
theorem move_part {x y : Int} {l : Lot5} (h1 : validL l) (h2 : validL (moveL x y l)) (d : Bool) : (validL (moveL x y (wayL d l).1) ↔ validL (wayL d l).1) ∧ (validL (moveL x y (wayL d l).2) ↔ validL (wayL d l).2) := by
  have q := valid_pos h1
  unfold wayL
  cases d
  · simp only [Bool.false_eq_true, if_false, validL, okR, inR, moveL, mvA, highL] at h1 h2 ⊢
    simp only [Lot5.w, Lot5.h] at q ⊢
    omega
  · simp only [if_true, validL, okR, inR, moveL, mvA, wideL] at h1 h2 ⊢
    simp only [Lot5.w, Lot5.h] at q ⊢
    omega
theorem move_cut {p : Pl3} {x y : Int} {l : Lot5} (h1 : validL l) (h2 : validL (moveL x y l)) : cutL p (moveL x y l) = (cutL p l).map fun q => (moveL x y q.1, moveL x y q.2) := by
  obtain ⟨e1, e2⟩ := move_wh x y l
  have hg := move_good (p := p) (x := x) (y := y) (l := l) ⟨fun _ => h1, fun _ => h2⟩
  have hb : ∀ d, bothG p (wayL d (moveL x y l)) = bothG p (wayL d l) := fun d => by
    rw [move_way]
    obtain ⟨m1, m2⟩ := move_part h1 h2 d
    unfold bothG
    rw [decide_eq_decide.2 (move_good (p := p) m1), decide_eq_decide.2 (move_good (p := p) m2)]
  unfold cutL
  rw [e1, e2]
  by_cases h0 : l.w * l.h ≤ p.ma ∨ ¬ goodL p l
  · rw [if_pos h0, if_pos (by rw [hg]; exact h0)]; rfl
  rw [if_neg h0, if_neg (by rw [hg]; exact h0), hb, hb]
  by_cases c1 : bothG p (wayL (decide (l.h ≤ l.w)) l) = true
  · rw [if_pos c1, if_pos c1, move_way]; rfl
  rw [if_neg c1, if_neg c1]
  by_cases c2 : bothG p (wayL (decide (l.w < l.h)) l) = true
  · rw [if_pos c2, if_pos c2, move_way]; rfl
  · rw [if_neg c2, if_neg c2]; rfl
theorem move_leaves (p : Pl3) (x y : Int) : ∀ l, validL l → validL (moveL x y l) → leaves p (moveL x y l) = (leaves p l).map (moveL x y) := cut_ind (p := p)
  (fun l h h1 h2 => by
    rw [leaves_none h, leaves_none (by rw [move_cut h1 h2, h]; rfl)]; rfl)
  (fun l a b h ha hb h1 h2 => by
    have hm := move_cut (p := p) h1 h2
    rw [h] at hm
    obtain ⟨_, g2, g3, _⟩ := cutL_some h
    obtain ⟨_, k2, k3, _⟩ := cutL_some (a := moveL x y a) (b := moveL x y b) hm
    rw [leaves_some h, leaves_some (a := moveL x y a) (b := moveL x y b) hm, ha g2.1 k2.1, hb g3.1 k3.1, List.map_append])
/-! ### x and y change places -/
def turnF (f : Int) : Int := (if hasS f 1 = true then 4 else 0) + (if hasS f 2 = true then 8 else 0) + (if hasS f 4 = true then 1 else 0) + (if hasS f 8 = true then 2 else 0)
def turnL (l : Lot5) : Lot5 := ⟨fl4 l.r, turnF l.f⟩
theorem turn_all : ∀ n ∈ List.range 16, (1 ≤ turnF (n : Int) ↔ 1 ≤ (n : Int)) ∧ turnF (n : Int) ≤ 15 ∧ hasS (turnF (n : Int)) 1 = hasS (n : Int) 4 ∧ hasS (turnF (n : Int)) 2 = hasS (n : Int) 8 ∧ hasS (turnF (n : Int)) 4 = hasS (n : Int) 1 ∧ hasS (turnF (n : Int)) 8 = hasS (n : Int) 2 ∧
    lessS (turnF (n : Int)) 1 = turnF (lessS (n : Int) 4) ∧ lessS (turnF (n : Int)) 2 = turnF (lessS (n : Int) 8) ∧ lessS (turnF (n : Int)) 4 = turnF (lessS (n : Int) 1) ∧ lessS (turnF (n : Int)) 8 = turnF (lessS (n : Int) 2) := by decide
theorem turn_wh (l : Lot5) : (turnL l).w = l.h ∧ (turnL l).h = l.w := ⟨rfl, rfl⟩
theorem turn_valid {l : Lot5} (h : 0 ≤ l.f ∧ l.f ≤ 15) : validL (turnL l) ↔ validL l := by
  obtain ⟨n, hn, e⟩ := f16 h
  have t := turn_all n hn
  rw [← e] at t
  simp only [validL, okR, inR, turnL, fl4]
  omega
theorem turn_long {l : Lot5} (h : 0 ≤ l.f ∧ l.f ≤ 15) : longL (turnL l) = longL l := by
  obtain ⟨n, hn, e⟩ := f16 h
  have t := turn_all n hn
  rw [← e] at t
  unfold longL
  rw [(turn_wh l).1, (turn_wh l).2]
  show max (if hasS (turnF l.f) 1 = true ∨ hasS (turnF l.f) 2 = true then l.w else 0) (if hasS (turnF l.f) 4 = true ∨ hasS (turnF l.f) 8 = true then l.h else 0) = _
  rw [t.2.2.1, t.2.2.2.1, t.2.2.2.2.1, t.2.2.2.2.2.1]
  exact Int.max_comm _ _
theorem turn_good {p : Pl3} {l : Lot5} (h : 0 ≤ l.f ∧ l.f ≤ 15) : goodL p (turnL l) ↔ goodL p l := by
  unfold goodL
  rw [turn_long h, (turn_wh l).1, (turn_wh l).2, turn_valid h]
  constructor <;> rintro ⟨a, b, c, d⟩ <;> exact ⟨a, b, d, c⟩
theorem turn_way (d : Bool) {l : Lot5} (h : 0 ≤ l.f ∧ l.f ≤ 15) : wayL d (turnL l) = (turnL (wayL (!d) l).1, turnL (wayL (!d) l).2) := by
  obtain ⟨n, hn, e⟩ := f16 h
  have t := turn_all n hn
  rw [← e] at t
  unfold wayL
  cases d
  · simp only [Bool.false_eq_true, if_false, Bool.not_false, if_true]
    simp only [highL, wideL, (turn_wh l).2]
    simp only [turnL, fl4, t.2.2.2.2.2.2.2.2.1, t.2.2.2.2.2.2.2.2.2]
  · simp only [Bool.false_eq_true, if_false, Bool.not_true, if_true]
    simp only [highL, wideL, (turn_wh l).1]
    simp only [turnL, fl4, t.2.2.2.2.2.2.1, t.2.2.2.2.2.2.2.1]
theorem way_15 {l : Lot5} (h : 0 ≤ l.f ∧ l.f ≤ 15) (d : Bool) : (0 ≤ (wayL d l).1.f ∧ (wayL d l).1.f ≤ 15) ∧ (0 ≤ (wayL d l).2.f ∧ (wayL d l).2.f ≤ 15) := by
  unfold wayL
  cases d
  · exact ⟨less_15 h (.inr (.inr (.inr rfl))), less_15 h (.inr (.inr (.inl rfl)))⟩
  · exact ⟨less_15 h (.inr (.inl rfl)), less_15 h (.inl rfl)⟩
theorem turn_cut {p : Pl3} {l : Lot5} (h : 0 ≤ l.f ∧ l.f ≤ 15) (hne : l.w ≠ l.h) : cutL p (turnL l) = (cutL p l).map fun q => (turnL q.1, turnL q.2) := by
  obtain ⟨e1, e2⟩ := turn_wh l
  have hg := turn_good (p := p) h
  have hb : ∀ d, bothG p (wayL d (turnL l)) = bothG p (wayL (!d) l) := fun d => by
    rw [turn_way d h]
    obtain ⟨m1, m2⟩ := way_15 h (!d)
    unfold bothG
    rw [decide_eq_decide.2 (turn_good (p := p) m1), decide_eq_decide.2 (turn_good (p := p) m2)]
  have d1 : (!decide (l.w ≤ l.h)) = decide (l.h ≤ l.w) := by
    rw [← decide_not]; exact decide_eq_decide.2 (by omega)
  have d2 : (!decide (l.h < l.w)) = decide (l.w < l.h) := by
    rw [← decide_not]; exact decide_eq_decide.2 (by omega)
  unfold cutL
  rw [e1, e2, hb, hb, turn_way _ h, turn_way _ h, d1, d2]
  by_cases h0 : l.w * l.h ≤ p.ma ∨ ¬ goodL p l
  · rw [if_pos h0, if_pos (by rw [hg, Int.mul_comm]; exact h0)]; rfl
  rw [if_neg h0, if_neg (by rw [hg, Int.mul_comm]; exact h0)]
  by_cases c1 : bothG p (wayL (decide (l.h ≤ l.w)) l) = true
  · rw [if_pos c1, if_pos c1]; rfl
  rw [if_neg c1, if_neg c1]
  by_cases c2 : bothG p (wayL (decide (l.w < l.h)) l) = true
  · rw [if_pos c2, if_pos c2]; rfl
  · rw [if_neg c2, if_neg c2]; rfl
end Go.Proofs.Yteojjihgmmecpaa

/- A list of rectangles that has just been written out is read as a list. -/
namespace Go.Proofs.Yteojjihgmmecpaa
open Go.RowKit
set_option linter.unusedVariables false
set_option linter.unusedSimpArgs false

theorem rd_lit (w : World) (l : List R4) (t : TypeId) (c : Nat) : RdK encR 4 (w.alloc (.cells (l.flatMap encR).toArray t)) (w.alloc (.cells (l.flatMap encR).toArray t)).heap.size (.slice (some ⟨w.heap.size, 0, none⟩) l.length c) l := by
  refine ⟨_, c, rfl, fun _ => ⟨w.heap.size, 0, rfl, by simp, fun j x hx i u hu => ?_⟩⟩
  have := news_new w (l.flatMap encR) t w.heap.size rfl _ _ (flat_get (k := 4) (fun _ => rfl) l j x i u hx hu)
  rw [addr_add] at this
  rwa [Nat.zero_add]
theorem rd_lit_at {w : World} {B : Nat} (hB : w.heap.size = B) (l : List R4) (t : TypeId) (c : Nat) : RdK encR 4 (w.alloc (.cells (l.flatMap encR).toArray t)) (w.alloc (.cells (l.flatMap encR).toArray t)).heap.size (.slice (some ⟨B, 0, none⟩) l.length c) l := by
  subst hB
  exact rd_lit w l t c
end Go.Proofs.Yteojjihgmmecpaa

/- The walks of parcel's small functions. -/
namespace Go.Proofs.Yteojjihgmmecpaa
open Go.RowKit
set_option linter.unusedVariables false
set_option linter.unusedSimpArgs false

def encL (l : Lot5) : List Value := [.int .i64 l.r.x0, .int .i64 l.r.y0, .int .i64 l.r.x1, .int .i64 l.r.y1, .int .u8 l.f]
def encP (p : Pl3) : List Value := [.int .i64 p.mf, .int .i64 p.ms, .int .i64 p.ma]
theorem make_one (r : R4) : (makeF [r]).2 = if okR r then 0 else 8 := by
  by_cases h : okR r
  · rw [if_pos h]
    have hv : valid4 r := by simp only [okR, inR] at h; simp only [valid4, fineP]; exact h
    have hw : ∀ s ∈ [r], wf4 s := fun s hs => by rw [List.mem_singleton] at hs; subst hs; exact ⟨hv.1, hv.2.1⟩
    have hc : RCan [r] := ⟨[⟨r.x0, r.x1, [(r.y0, r.y1)]⟩], ⟨hv.1, by simp, by simp [SCan]; exact hv.2.1⟩, by simp [flat, flat1]⟩
    have e : rjoin hFst [r] [] = [r] := (rjoin_eq (h := hFst) rfl hw (by simp) hc fun x y => by simp [hFst]).symm
    unfold makeF madeF
    rw [e]
    simp [hv]
  · rw [if_neg h]
    have hv : ¬ valid4 r := fun g => h (by simp only [valid4, fineP] at g; simp only [okR, inR]; exact g)
    unfold makeF
    simp [hv]
end Go.Proofs.Yteojjihgmmecpaa

/- Arguments that are a lot, or wishes, read as such. -/
namespace Go.Proofs.Yteojjihgmmecpaa
open Go.ChangeShapes Go.WideShapes Go.ChangeAt Go.RowKit Go.Joins Go.Deep
set_option linter.unusedVariables false
set_option linter.unusedSimpArgs false

theorem u8_bd {n : Int} (h : (Lit.int .u8 n).wf = true) : 0 ≤ n ∧ n ≤ 255 := by
  simp [Lit.wf, IntKind.min, IntKind.max, IntKind.signed, IntKind.bits] at h
  omega
section
variable {H : Type} {enc : TypeId × Value → H} {w : World} {base : Nat} {spare : Nat → Bool} {held : Bool}
theorem array5 {α : Type} {a : Array α} (h : a.size = 5) : ∃ x0 x1 x2 x3 x4, a = #[x0, x1, x2, x3, x4] := by
  obtain ⟨l⟩ := a
  match l, h with
  | [x0, x1, x2, x3, x4], _ => exact ⟨x0, x1, x2, x3, x4, rfl⟩
end
end Go.Proofs.Yteojjihgmmecpaa

/- Plain: how many points of a rectangle a canonical region has; the front of a rectangle; what is reached. -/
namespace Go.Proofs.Yteojjihgmmecpaa
open Go.RowKit
set_option linter.unusedVariables false
set_option linter.unusedSimpArgs false

/-- The points next to a side. -/
def besF (r : R4) (i : Nat) : R4 := match i with
  | 0 => ⟨r.x0 - 1, r.y0, r.x0, r.y1⟩
  | 1 => ⟨r.x1, r.y0, r.x1 + 1, r.y1⟩
  | 2 => ⟨r.x0, r.y0 - 1, r.x1, r.y0⟩
  | _ => ⟨r.x0, r.y1, r.x1, r.y1 + 1⟩
def onQ (r q : R4) : Int := if 0 < min r.x1 q.x1 - max r.x0 q.x0 ∧ 0 < min r.y1 q.y1 - max r.y0 q.y0 then (min r.x1 q.x1 - max r.x0 q.x0) * (min r.y1 q.y1 - max r.y0 q.y0) else 0
def onF (r : R4) (s : List R4) : Int := (s.map (onQ r)).sum
def arQ (r : R4) : Int := (r.x1 - r.x0) * (r.y1 - r.y0)
def bitF (r : R4) (s : List R4) (i : Nat) : Bool := decide (onF (besF r i) s = arQ (besF r i))
def frF (r : R4) (s : List R4) : Int := (if bitF r s 0 = true then 1 else 0) + (if bitF r s 1 = true then 2 else 0) + (if bitF r s 2 = true then 4 else 0) + (if bitF r s 3 = true then 8 else 0)
theorem onQ_box (r q : R4) : onQ r q = box (meet4 r q) := by
  unfold onQ box meet4
  simp only
  by_cases h : 0 < min r.x1 q.x1 - max r.x0 q.x0 ∧ 0 < min r.y1 q.y1 - max r.y0 q.y0
  · rw [if_pos h, show max 0 (min r.x1 q.x1 - max r.x0 q.x0) = min r.x1 q.x1 - max r.x0 q.x0 by omega, show max 0 (min r.y1 q.y1 - max r.y0 q.y0) = min r.y1 q.y1 - max r.y0 q.y0 by omega]
  · rw [if_neg h]
    by_cases h1 : 0 < min r.x1 q.x1 - max r.x0 q.x0
    · rw [show max 0 (min r.y1 q.y1 - max r.y0 q.y0) = 0 by omega, Int.mul_zero]
    · rw [show max 0 (min r.x1 q.x1 - max r.x0 q.x0) = 0 by omega, Int.zero_mul]
theorem bes_wf {r : R4} (h : wf4 r) (i : Nat) : wf4 (besF r i) := by
  obtain ⟨h1, h2⟩ := h
  unfold besF wf4
  split <;> (simp only; omega)
theorem bes_fr {m : Nat} {r : R4} (h : inFr m r) (i : Nat) (hw : wf4 r) : inFr (m + 1) (besF r i) := by
  obtain ⟨h1, h2⟩ := hw
  unfold besF inFr at *
  split <;> (simp only; omega)
theorem onF_vol {m : Nat} {r : R4} {s : List R4} (hr : inFr m r) (hs : s.Pairwise apart4) : onF r s = vol m (fun x y => ind (rin r x y) * one s x y) := by
  have e : onF r s = (s.map fun q => box (meet4 r q)).sum := by
    unfold onF
    congr 1
    exact List.map_congr_left fun q _ => onQ_box r q
  rw [e, ← vol_rect_cnt hr]
  exact vol_congr fun x y _ _ _ _ => by rw [cntP_ind hs]; rfl
theorem arQ_box {r : R4} (h : wf4 r) : arQ r = box r := by
  unfold arQ box
  obtain ⟨h1, h2⟩ := h
  rw [Int.max_eq_right (by omega), Int.max_eq_right (by omega)]
theorem arQ_vol {m : Nat} {r : R4} (hr : inFr m r) (h : wf4 r) : arQ r = vol m (fun x y => ind (rin r x y)) := by
  obtain ⟨h1, h2, h3, h4⟩ := hr
  rw [arQ_box h, vol_rect h1 h2 h3 h4]
/-- What the reference counts. -/
theorem on_ref {m : Nat} {r : R4} {s : List R4} (hr : inFr m r) (hw : wf4 r) (hs : RCan s) (hf : ∀ q ∈ s, inFr m q) : ((rjoin hAnd [r] s).map arQ).sum = onF r s := by
  have h1 : ∀ q ∈ [r], wf4 q := fun q hq => by rw [List.mem_singleton] at hq; subst hq; exact hw
  obtain ⟨hc, hp⟩ := rjoin_ok (h := hAnd) rfl h1 (can_wf hs)
  have hin : ∀ q ∈ rjoin hAnd [r] s, inFr m q := fun q hq => by
    have hq' := can_wf hc q hq
    have a1 : pmem (rjoin hAnd [r] s) q.x0 q.y0 := ⟨q, hq, by unfold rin; unfold wf4 at hq'; omega⟩
    have a2 : pmem (rjoin hAnd [r] s) (q.x1 - 1) (q.y1 - 1) := ⟨q, hq, by unfold rin; unfold wf4 at hq'; omega⟩
    rw [hp] at a1 a2
    simp only [hAnd, Bool.and_eq_true, decide_eq_true_eq] at a1 a2
    obtain ⟨⟨p, hp1, hp2⟩, _⟩ := a1
    obtain ⟨⟨p', hp1', hp2'⟩, _⟩ := a2
    rw [List.mem_singleton] at hp1 hp1'
    subst hp1; subst hp1'
    unfold rin at hp2 hp2'
    unfold inFr at hr ⊢
    omega
  have e : ((rjoin hAnd [r] s).map arQ).sum = ((rjoin hAnd [r] s).map box).sum := by
    congr 1
    exact List.map_congr_left fun q hq => arQ_box (can_wf hc q hq)
  rw [e, ← vol_cntP hin, onF_vol hr hs.apart]
  refine vol_congr fun x y _ _ _ _ => ?_
  rw [cntP_ind hc.apart]
  unfold one
  rw [← ind_and]
  refine ind_iff ?_
  rw [hp]
  simp [hAnd, pmem]
  intro _
  exact decide_eq_true_iff
theorem sumZ_all {f : Int → Int} {lo : Int} : ∀ {n : Nat}, (∀ i, lo ≤ i → i < lo + n → 0 ≤ f i) → sumZ f lo n = 0 → ∀ i, lo ≤ i → i < lo + n → f i = 0
  | 0, _, _, i, a, b => by omega
  | n + 1, h, e, i, a, b => by
    have h0 := sumZ_nonneg (f := f) (lo := lo) (n := n) fun i a b => h i a (by omega)
    have h1 := h (lo + n) (by omega) (by omega)
    have e' : sumZ f lo n + f (lo + n) = 0 := e
    by_cases hi : i < lo + n
    · exact sumZ_all (fun i a b => h i a (by omega)) (by omega) i a hi
    · have : i = lo + n := by omega
      subst this
      omega
theorem vol_all {m : Nat} {f : Int → Int → Int} (h : ∀ x y, 0 ≤ f x y) (e : vol m f = 0) : ∀ x y, -(m : Int) ≤ x → x < m → -(m : Int) ≤ y → y < m → f x y = 0 := fun x y a b c d =>
  sumZ_all (fun j _ _ => h x j) (sumZ_all (fun i _ _ => sumZ_nonneg fun j _ _ => h i j) e x a (by omega)) y c (by omega)
/-- A rectangle is full exactly if the region has all its points. -/
theorem full_iff {m : Nat} {r : R4} {s : List R4} (hr : inFr m r) (hw : wf4 r) (hs : s.Pairwise apart4) : onF r s = arQ r ↔ ∀ x y, rin r x y → pmem s x y := by
  rw [onF_vol hr hs, arQ_vol hr hw]
  constructor
  · intro e x y hx
    have e' : vol m (fun x y => ind (rin r x y) - ind (rin r x y) * one s x y) = 0 := by rw [vol_sub, e]; omega
    have hz := vol_all (m := m) (fun x y => by
      rcases one_01 s x y with h | h <;> rcases ind_01 (rin r x y) with g | g <;> simp [h, g]) e' x y (by unfold inFr at hr; unfold rin at hx; omega) (by unfold inFr at hr; unfold rin at hx; omega) (by unfold inFr at hr; unfold rin at hx; omega) (by unfold inFr at hr; unfold rin at hx; omega)
    rw [ind_t hx] at hz
    by_cases hp : pmem s x y
    · exact hp
    · have : one s x y = 0 := ind_f hp
      rw [this] at hz
      omega
  · intro h
    refine vol_congr fun x y _ _ _ _ => ?_
    by_cases hx : rin r x y
    · have : one s x y = 1 := ind_t (h x y hx)
      rw [this, Int.mul_one]
    · rw [ind_f hx, Int.zero_mul]
theorem onQ_bd (r q : R4) (h1 : r.x1 - r.x0 ≤ 2000000) (h2 : r.y1 - r.y0 ≤ 2000000) : 0 ≤ onQ r q ∧ onQ r q ≤ 4000000000000 := by
  unfold onQ
  split
  · rename_i h
    obtain ⟨a, b⟩ := h
    refine ⟨Int.mul_nonneg (by omega) (by omega), ?_⟩
    have := Int.mul_le_mul (show min r.x1 q.x1 - max r.x0 q.x0 ≤ 2000000 by omega) (show min r.y1 q.y1 - max r.y0 q.y0 ≤ 2000000 by omega) (by omega) (by omega)
    omega
  · omega
theorem onF_bd {r : R4} (h1 : r.x1 - r.x0 ≤ 2000000) (h2 : r.y1 - r.y0 ≤ 2000000) : ∀ (s : List R4), 0 ≤ onF r s ∧ onF r s ≤ 4000000000000 * s.length
  | [] => by simp [onF]
  | q :: s => by
    have := onF_bd h1 h2 s
    have hq := onQ_bd r q h1 h2
    simp only [onF, List.map_cons, List.sum_cons, List.length_cons] at this ⊢
    omega
/-- What is reached: over the sides of a front. -/
def rchF (l : Lot5) (s : List R4) : Int := (if hasS l.f 1 = true then onF (besF l.r 0) s else 0) + (if hasS l.f 2 = true then onF (besF l.r 1) s else 0) + (if hasS l.f 4 = true then onF (besF l.r 2) s else 0) + (if hasS l.f 8 = true then onF (besF l.r 3) s else 0)
theorem bits4 : ∀ a b c d : Bool, let f : Int := (if a = true then 1 else 0) + (if b = true then 2 else 0) + (if c = true then 4 else 0) + (if d = true then 8 else 0)
    hasS f 1 = a ∧ hasS f 2 = b ∧ hasS f 4 = c ∧ hasS f 8 = d ∧ 0 ≤ f ∧ f ≤ 15 := by decide
theorem fr_has (r : R4) (s : List R4) : hasS (frF r s) 1 = bitF r s 0 ∧ hasS (frF r s) 2 = bitF r s 1 ∧ hasS (frF r s) 4 = bitF r s 2 ∧ hasS (frF r s) 8 = bitF r s 3 ∧ 0 ≤ frF r s ∧ frF r s ≤ 15 := bits4 _ _ _ _
theorem onF_take {r q : R4} {s : List R4} {m : Nat} (h : s[m]? = some q) : onF r (s.take (m + 1)) = onF r (s.take m) + onQ r q := by
  unfold onF
  rw [List.take_add_one, h, List.map_append, List.sum_append]
  simp
end Go.Proofs.Yteojjihgmmecpaa

/- The walk of parcel's longest side. -/
namespace Go.Proofs.Yteojjihgmmecpaa
open Go.RowKit
set_option linter.unusedVariables false
set_option linter.unusedSimpArgs false

theorem bits_has : ∀ n ∈ List.range 16, ∀ s ∈ ([1, 2, 4, 8] : List Int), (bits .and .u8 (n : Int) s != 0) = hasS (n : Int) s := by decide
theorem bits_less : ∀ n ∈ List.range 16, ∀ s ∈ ([1, 2, 4, 8] : List Int), bits .andNot .u8 (n : Int) s = lessS (n : Int) s := by decide
theorem bit_has {f s : Int} (h : 0 ≤ f ∧ f ≤ 15) (hs : isSide s) : (bits .and .u8 f s != 0) = hasS f s := by
  obtain ⟨n, hn, rfl⟩ := f16 h
  exact bits_has n hn s (side_mem hs)
theorem bit_less {f s : Int} (h : 0 ≤ f ∧ f ≤ 15) (hs : isSide s) : bits .andNot .u8 f s = lessS f s := by
  obtain ⟨n, hn, rfl⟩ := f16 h
  exact bits_less n hn s (side_mem hs)
theorem grown_store {w wr w6 : World} {bo : Nat} (h : w.grownBy wr (some bo)) (hb : Below wr.heap.size wr w6) (v : Value) : w.grownBy (w6.setCell ⟨bo, 0, none⟩ v) (some bo) :=
  ⟨hb.os.trans h.os, hb.tape.trans h.tape, hb.output.trans h.output, by have := h.size; have := hb.size; simp [World.setCell]; omega, fun k hk hne => (Below.heap_setCell _ _ _ _ (fun e => hne (by rw [e]))).trans ((hb.block k (by have := h.size; omega)).trans (h.block k hk hne))⟩
/-- What stands in the closure's variable after so many sides. -/
def accS (h1 h2 : Bool) (n0 n : Int) : Nat → Int
  | 0 => n0
  | 1 => if h1 = true then max n0 n else n0
  | _ => if h2 = true then max (if h1 = true then max n0 n else n0) n else (if h1 = true then max n0 n else n0)
theorem acc_side (h1 h2 : Bool) (n0 n : Int) (h0 : 0 ≤ n0) (hn : 0 ≤ n) : accS h1 h2 n0 n 2 = max n0 (if h1 = true ∨ h2 = true then n else 0) := by
  unfold accS
  cases h1 <;> cases h2 <;> simp <;> omega
theorem acc_long {l : Lot5} (h : validL l) : accS (hasS l.f 4) (hasS l.f 8) (accS (hasS l.f 1) (hasS l.f 2) 0 l.h 2) l.w 2 = longL l := by
  have hp := valid_pos h
  have e1 := acc_side (hasS l.f 1) (hasS l.f 2) 0 l.h (by omega) (by omega)
  have h0 : 0 ≤ (if hasS l.f 1 = true ∨ hasS l.f 2 = true then l.h else 0) := by split <;> omega
  rw [acc_side (hasS l.f 4) (hasS l.f 8) _ l.w (by rw [e1]; omega) (by omega), e1]
  unfold longL
  omega
end Go.Proofs.Yteojjihgmmecpaa

/- The walks of parcel.good, Check, Good and Front. -/
namespace Go.Proofs.Yteojjihgmmecpaa
open Go.RowKit
set_option linter.unusedVariables false
set_option linter.unusedSimpArgs false

def okP (p : Pl3) : Prop := 1 ≤ p.mf ∧ p.mf ≤ 1000000 ∧ 1 ≤ p.ms ∧ p.ms ≤ 1000000 ∧ 1 ≤ p.ma ∧ p.ma ≤ 1000000000000
instance (p : Pl3) : Decidable (okP p) := by unfold okP; infer_instance
def checkL (l : Lot5) (p : Pl3) : Int := if validL l then (if okP p then 0 else 2) else 8
end Go.Proofs.Yteojjihgmmecpaa

/- The walks of parcel.Good and Front. -/
namespace Go.Proofs.Yteojjihgmmecpaa
open Go.RowKit
set_option linter.unusedVariables false
set_option linter.unusedSimpArgs false

def goodR (l : Lot5) (p : Pl3) : Bool × Int := if checkL l p = 0 then (decide (goodL p l), 0) else (false, checkL l p)
def frontR (l : Lot5) : Int × Int := if validL l then (longL l, 0) else (0, 8)
end Go.Proofs.Yteojjihgmmecpaa

/- The walk of the closure of parcel.cut. -/
namespace Go.Proofs.Yteojjihgmmecpaa
open Go.RowKit
set_option linter.unusedVariables false
set_option linter.unusedSimpArgs false

theorem exit_name {Q : Exit → Act → World → Prop} {e : Exit} {a : Act} {W : World} (h : ∀ w, w = W → Q e a w) : Q e a W := h W rfl
theorem calls_name {P : Program} {F : Nat} {A : Array Value} {W : World} {Q : Ending → World → Prop} (h : ∀ w, w = W → Calls P F A w Q) : Calls P F A W Q := h W rfl
theorem upd_drew {o : Nat} {row : Option Nat} {a b : World} (h : Upd o row a b) : Upd o row a b.drew := ⟨h.os, h.tape, h.output, h.size, h.block⟩
/-- A box of five cells, and none of them frozen. -/
structure Box5 (w : World) (b : Nat) (v0 v1 v2 v3 v4 : Value) : Prop where
  c0 : w.cell? ⟨b, 0, none⟩ = some v0
  c1 : w.cell? ⟨b, 1, none⟩ = some v1
  c2 : w.cell? ⟨b, 2, none⟩ = some v2
  c3 : w.cell? ⟨b, 3, none⟩ = some v3
  c4 : w.cell? ⟨b, 4, none⟩ = some v4
  z0 : w.frozen? ⟨b, 0, none⟩ = false
  z1 : w.frozen? ⟨b, 1, none⟩ = false
  z2 : w.frozen? ⟨b, 2, none⟩ = false
  z3 : w.frozen? ⟨b, 3, none⟩ = false
  z4 : w.frozen? ⟨b, 4, none⟩ = false
theorem Box5.below {w w' : World} {b : Nat} {v0 v1 v2 v3 v4 : Value} (h : Box5 w b v0 v1 v2 v3 v4) (hb : Below w.heap.size w w') : Box5 w' b v0 v1 v2 v3 v4 := by
  have hs := lt_of_cell h.c0
  exact ⟨(hb.cell (p := ⟨b, 0, none⟩) hs).trans h.c0, (hb.cell (p := ⟨b, 1, none⟩) hs).trans h.c1, (hb.cell (p := ⟨b, 2, none⟩) hs).trans h.c2, (hb.cell (p := ⟨b, 3, none⟩) hs).trans h.c3, (hb.cell (p := ⟨b, 4, none⟩) hs).trans h.c4, (hb.frozen (p := ⟨b, 0, none⟩) hs).trans h.z0, (hb.frozen (p := ⟨b, 1, none⟩) hs).trans h.z1, (hb.frozen (p := ⟨b, 2, none⟩) hs).trans h.z2, (hb.frozen (p := ⟨b, 3, none⟩) hs).trans h.z3, (hb.frozen (p := ⟨b, 4, none⟩) hs).trans h.z4⟩
def Box5L (w : World) (b : Nat) (l : Lot5) : Prop := Box5 w b (.int .i64 l.r.x0) (.int .i64 l.r.y0) (.int .i64 l.r.x1) (.int .i64 l.r.y1) (.int .u8 l.f)
theorem less_range {f s : Int} (h : 1 ≤ f ∧ f ≤ 15) (hs : isSide s) : 0 ≤ lessS f s ∧ lessS f s ≤ 255 := by
  have h16 : 0 ≤ f ∧ f ≤ 15 := by omega
  obtain ⟨n, hn, rfl⟩ := f16 h16
  have key : ∀ n ∈ List.range 16, ∀ s ∈ ([1, 2, 4, 8] : List Int), 0 ≤ lessS (n : Int) s ∧ lessS (n : Int) s ≤ 255 := by decide
  exact key n hn s (side_mem hs)
theorem half_wrap {x d : Int} (hx : inR x) (hd : 0 < d ∧ d ≤ 2000000) : wrap64 (x + wrap64 (d.tdiv 2)) = x + d / 2 := by
  unfold inR at hx
  rw [Int.tdiv_eq_ediv_of_nonneg (by omega), show wrap64 (d / 2) = d / 2 from by unfold wrap64; omega]
  unfold wrap64; omega
end Go.Proofs.Yteojjihgmmecpaa

/- The walk of parcel.cut. -/
namespace Go.Proofs.Yteojjihgmmecpaa
open Go.RowKit
set_option linter.unusedVariables false
set_option linter.unusedSimpArgs false

theorem keepS {n : Nat} {A B : World} {v0 v1 v2 v3 v4 : Value} (hb : Below A.heap.size A B) (h : A.cell? ⟨n, 0, none⟩ = some v0 ∧ A.cell? ⟨n, 1, none⟩ = some v1 ∧ A.cell? ⟨n, 2, none⟩ = some v2 ∧ A.cell? ⟨n, 3, none⟩ = some v3 ∧ A.cell? ⟨n, 4, none⟩ = some v4) : B.cell? ⟨n, 0, none⟩ = some v0 ∧ B.cell? ⟨n, 1, none⟩ = some v1 ∧ B.cell? ⟨n, 2, none⟩ = some v2 ∧ B.cell? ⟨n, 3, none⟩ = some v3 ∧ B.cell? ⟨n, 4, none⟩ = some v4 :=
  have hs := lt_of_cell h.1
  ⟨(hb.cell (p := ⟨n, 0, none⟩) hs).trans h.1, (hb.cell (p := ⟨n, 1, none⟩) hs).trans h.2.1, (hb.cell (p := ⟨n, 2, none⟩) hs).trans h.2.2.1, (hb.cell (p := ⟨n, 3, none⟩) hs).trans h.2.2.2.1, (hb.cell (p := ⟨n, 4, none⟩) hs).trans h.2.2.2.2⟩
theorem keepD {n : Nat} {A : World} {v0 v1 v2 v3 v4 : Value} (h : A.cell? ⟨n, 0, none⟩ = some v0 ∧ A.cell? ⟨n, 1, none⟩ = some v1 ∧ A.cell? ⟨n, 2, none⟩ = some v2 ∧ A.cell? ⟨n, 3, none⟩ = some v3 ∧ A.cell? ⟨n, 4, none⟩ = some v4) : A.drew.cell? ⟨n, 0, none⟩ = some v0 ∧ A.drew.cell? ⟨n, 1, none⟩ = some v1 ∧ A.drew.cell? ⟨n, 2, none⟩ = some v2 ∧ A.drew.cell? ⟨n, 3, none⟩ = some v3 ∧ A.drew.cell? ⟨n, 4, none⟩ = some v4 := h
theorem keepA {n : Nat} {A : World} {v0 v1 v2 v3 v4 : Value} {o : Obj} (h : A.cell? ⟨n, 0, none⟩ = some v0 ∧ A.cell? ⟨n, 1, none⟩ = some v1 ∧ A.cell? ⟨n, 2, none⟩ = some v2 ∧ A.cell? ⟨n, 3, none⟩ = some v3 ∧ A.cell? ⟨n, 4, none⟩ = some v4) : (A.alloc o).cell? ⟨n, 0, none⟩ = some v0 ∧ (A.alloc o).cell? ⟨n, 1, none⟩ = some v1 ∧ (A.alloc o).cell? ⟨n, 2, none⟩ = some v2 ∧ (A.alloc o).cell? ⟨n, 3, none⟩ = some v3 ∧ (A.alloc o).cell? ⟨n, 4, none⟩ = some v4 := keepS ((Below.refl _ _).alloc (Nat.le_refl _) o) h
theorem keepC {n : Nat} {A : World} {v0 v1 v2 v3 v4 : Value} {g k : Nat} {v : Value} (h : A.cell? ⟨n, 0, none⟩ = some v0 ∧ A.cell? ⟨n, 1, none⟩ = some v1 ∧ A.cell? ⟨n, 2, none⟩ = some v2 ∧ A.cell? ⟨n, 3, none⟩ = some v3 ∧ A.cell? ⟨n, 4, none⟩ = some v4) (hg : n ≠ g) : (A.setCell ⟨g, k, none⟩ v).cell? ⟨n, 0, none⟩ = some v0 ∧ (A.setCell ⟨g, k, none⟩ v).cell? ⟨n, 1, none⟩ = some v1 ∧ (A.setCell ⟨g, k, none⟩ v).cell? ⟨n, 2, none⟩ = some v2 ∧ (A.setCell ⟨g, k, none⟩ v).cell? ⟨n, 3, none⟩ = some v3 ∧ (A.setCell ⟨g, k, none⟩ v).cell? ⟨n, 4, none⟩ = some v4 := by
  refine ⟨?_, ?_, ?_, ?_, ?_⟩ <;> simp [go_sem, hg, hg.symm, h]
theorem wp_name5 {P : Program} {c : Code} {Q : Exit → Act → World → Prop} {a : Act} {W : World} (h : ∀ w, w = W → c.wp P Q a w) : c.wp P Q a W := h W rfl
def zeroL : Lot5 := ⟨⟨0, 0, 0, 0⟩, 0⟩
def cutR (l : Lot5) (p : Pl3) : Lot5 × Lot5 × Bool := match cutL p l with
  | some x => (x.1, x.2, true)
  | none => (zeroL, zeroL, false)
theorem cutR_eq (l : Lot5) (p : Pl3) : cutR l p = if decide (l.w * l.h ≤ p.ma) = true then (zeroL, zeroL, false) else if decide (goodL p l) = false then (zeroL, zeroL, false) else if bothG p (wayL (decide (l.h ≤ l.w)) l) = true then ((wayL (decide (l.h ≤ l.w)) l).1, (wayL (decide (l.h ≤ l.w)) l).2, true) else if bothG p (wayL (decide (l.w < l.h)) l) = true then ((wayL (decide (l.w < l.h)) l).1, (wayL (decide (l.w < l.h)) l).2, true) else (zeroL, zeroL, false) := by
  unfold cutR cutL
  by_cases h1 : l.w * l.h ≤ p.ma
  · simp [h1]
  · by_cases h2 : goodL p l
    · simp only [h1, h2, decide_true, decide_false, not_true_eq_false, or_self, if_false, Bool.false_eq_true, Bool.true_eq_false]
      repeat' split
      all_goals first | rfl | simp_all
    · simp [h1, h2]
end Go.Proofs.Yteojjihgmmecpaa

/- The reference of lots: sides, checks, lengths, good lots. -/
namespace Go.Proofs.Yteojjihgmmecpaa
open Go.RowKit
set_option linter.unusedVariables false
set_option linter.unusedSimpArgs false

theorem ok_valid (r : R4) : okR r ↔ valid4 r := by simp only [okR, inR, valid4, fineP]
theorem ok_pos {r : R4} (h : okR r) : 0 < r.x1 - r.x0 ∧ 0 < r.y1 - r.y0 ∧ r.x1 - r.x0 ≤ 2000000 ∧ r.y1 - r.y0 ≤ 2000000 := by
  obtain ⟨h1, h2, h3, h4, h5, h6⟩ := h
  unfold inR at h3 h4 h5 h6
  omega
end Go.Proofs.Yteojjihgmmecpaa

/- The reference of lots: the longest side in a front, good lots. -/
namespace Go.Proofs.Yteojjihgmmecpaa
open Go.RowKit
set_option linter.unusedVariables false
set_option linter.unusedSimpArgs false

structure Box3 (w : World) (b : Nat) (v0 v1 v2 : Value) : Prop where
  c0 : w.cell? ⟨b, 0, none⟩ = some v0
  c1 : w.cell? ⟨b, 1, none⟩ = some v1
  c2 : w.cell? ⟨b, 2, none⟩ = some v2
theorem Box3.below {w w' : World} {b : Nat} {v0 v1 v2 : Value} (h : Box3 w b v0 v1 v2) (hb : Below w.heap.size w w') : Box3 w' b v0 v1 v2 := by
  have hs := lt_of_cell h.c0
  exact ⟨(hb.cell (p := ⟨b, 0, none⟩) hs).trans h.c0, (hb.cell (p := ⟨b, 1, none⟩) hs).trans h.c1, (hb.cell (p := ⟨b, 2, none⟩) hs).trans h.c2⟩
theorem Box5L.below {w w' : World} {b : Nat} {l : Lot5} (h : Box5L w b l) (hb : Below w.heap.size w w') : Box5L w' b l := Box5.below h hb
end Go.Proofs.Yteojjihgmmecpaa

/- The walk of parcel.Cut. -/

namespace Go.Proofs.Yteojjihgmmecpaa
open Go.RowKit
set_option linter.unusedVariables false
set_option linter.unusedSimpArgs false

def cutE (l : Lot5) (p : Pl3) : Lot5 × Lot5 × Int := if checkL l p = 0 then (if (cutR l p).2.2 = true then ((cutR l p).1, (cutR l p).2.1, 0) else (zeroL, zeroL, 6)) else (zeroL, zeroL, checkL l p)
theorem cutE_ok {l : Lot5} {p : Pl3} (h : checkL l p = 0) : cutE l p = if (cutR l p).2.2 = true then ((cutR l p).1, (cutR l p).2.1, 0) else (zeroL, zeroL, 6) := if_pos h
theorem cutE_bad {l : Lot5} {p : Pl3} (h : ¬ checkL l p = 0) : cutE l p = (zeroL, zeroL, checkL l p) := if_neg h
theorem checkL_valid {l : Lot5} {p : Pl3} (h : checkL l p = 0) : validL l := by
  unfold checkL at h
  by_cases hv : validL l
  · exact hv
  · rw [if_neg hv] at h; cases h
end Go.Proofs.Yteojjihgmmecpaa

/- parcel.Split: what holds between its rounds; no walk yet. -/
namespace Go.Proofs.Yteojjihgmmecpaa
open Go.RowKit
set_option linter.unusedVariables false
set_option linter.unusedSimpArgs false

def splitR (l : Lot5) (p : Pl3) : List Lot5 × Int := if checkL l p = 0 then (if (leaves p l).length ≤ 400 then (leaves p l, 0) else ([], 4)) else ([], checkL l p)
/-- The lots on the stack, the next one last. -/
def stackL (p : Pl3) (S : List Lot5) : List Lot5 := S.reverse.flatMap (leaves p)
def nodesS (p : Pl3) (S : List Lot5) : Nat := (S.map (nodes p)).sum
structure StackOk (l : Lot5) (p : Pl3) (O S : List Lot5) : Prop where
  eq : O ++ stackL p S = leaves p l
  ok : ∀ (i : Nat) (x : Lot5), S[i]? = some x → validL x ∧ i + sizeL x ≤ sizeL l
  lenO : O.length ≤ 400
theorem StackOk.start {l : Lot5} {p : Pl3} (h : validL l) : StackOk l p [] [l] := ⟨by simp [stackL], fun i x hx => by
  cases i with
  | zero => simp at hx; subst hx; exact ⟨h, by omega⟩
  | succ i => simp at hx, by simp⟩
theorem StackOk.top {l x : Lot5} {p : Pl3} {O S : List Lot5} (h : StackOk l p O (S ++ [x])) : validL x ∧ S.length + sizeL x ≤ sizeL l := h.ok S.length x (by simp)
theorem StackOk.leaf {l x : Lot5} {p : Pl3} {O S : List Lot5} (h : StackOk l p O (S ++ [x])) (hc : cutL p x = none) (hn : O.length + 1 ≤ 400) : StackOk l p (O ++ [x]) S := ⟨by
  have := h.eq
  simp only [stackL, List.reverse_append, List.reverse_cons, List.reverse_nil, List.nil_append, List.cons_append, List.flatMap_cons, leaves_none hc] at this
  rw [← this]
  simp [stackL], fun i y hy => h.ok i y (by rw [List.getElem?_append_left (List.getElem?_eq_some_iff.1 hy).1]; exact hy), by simpa using hn⟩
theorem StackOk.many {l x : Lot5} {p : Pl3} {O S : List Lot5} (h : StackOk l p O (S ++ [x])) (hn : 400 < O.length + 1) : 400 < (leaves p l).length := by
  have h1 := h.eq
  have h2 := leaves_ne p x
  simp only [stackL, List.reverse_append, List.reverse_cons, List.reverse_nil, List.nil_append, List.cons_append, List.flatMap_cons] at h1
  rw [← h1]
  simp only [List.length_append]
  omega
theorem StackOk.cut {l x a b : Lot5} {p : Pl3} {O S : List Lot5} (h : StackOk l p O (S ++ [x])) (hc : cutL p x = some (a, b)) : StackOk l p O (S ++ [b, a]) := ⟨by
  have := h.eq
  simp only [stackL, List.reverse_append, List.reverse_cons, List.reverse_nil, List.nil_append, List.cons_append, List.flatMap_cons, leaves_some hc] at this
  rw [← this]
  simp [stackL], fun i y hy => by
    obtain ⟨_, g1, g2, _⟩ := cutL_some hc
    have hlt := cutL_lt hc
    obtain ⟨t1, t2⟩ := h.top
    by_cases hi : i < S.length
    · rw [List.getElem?_append_left hi] at hy
      exact h.ok i y (by rw [List.getElem?_append_left hi]; exact hy)
    · rw [List.getElem?_append_right (by omega)] at hy
      have : i = S.length ∨ i = S.length + 1 := by
        have := (List.getElem?_eq_some_iff.1 hy).1
        simp at this
        omega
      rcases this with rfl | rfl
      · simp at hy; subst hy; exact ⟨g2.1, by omega⟩
      · simp at hy; subst hy; exact ⟨g1.1, by omega⟩, h.lenO⟩
theorem nodes_leaf {p : Pl3} {x : Lot5} {S : List Lot5} (hc : cutL p x = none) : nodesS p (S ++ [x]) = nodesS p S + 1 := by
  simp [nodesS, nodes_none hc]
theorem nodes_cut {p : Pl3} {x a b : Lot5} {S : List Lot5} (hc : cutL p x = some (a, b)) : nodesS p (S ++ [x]) = nodesS p (S ++ [b, a]) + 1 := by
  simp [nodesS, nodes_some hc]; omega
theorem sizeL_le {l : Lot5} (h : validL l) : sizeL l ≤ 4000000 := by
  have := valid_pos h
  unfold sizeL; omega
theorem cutR_true {l a b : Lot5} {p : Pl3} (h : cutR l p = (a, b, true)) : cutL p l = some (a, b) := by
  unfold cutR at h
  split at h
  · rename_i x hx
    rw [hx]
    obtain ⟨x1, x2⟩ := x
    simp at h
    rw [h.1, h.2]
  · simp at h
theorem cutR_false {l a b : Lot5} {p : Pl3} (h : cutR l p = (a, b, false)) : cutL p l = none := by
  unfold cutR at h
  split at h
  · simp at h
  · rename_i hx; exact hx
theorem Rows2.grow {n : Nat} {w wr w' : World} {row : Option Nat} (hb : Below n w wr) (hs : n + 2 ≤ wr.heap.size) (hg : wr.grownBy w' row) (hr : ∀ q, row = some q → n + 2 ≤ q) : Below n w w' ∧ n + 2 ≤ w'.heap.size :=
  ⟨hb.grown hg (by omega) (fun q hq => by have := hr q hq; omega), Nat.le_trans hs hg.size⟩
theorem box_grown {w w' : World} {b : Nat} {v0 v1 v2 : Value} {row : Option Nat} (h : Box3 w b v0 v1 v2) (hg : w.grownBy w' row) (hr : ∀ q, row = some q → q ≠ b) : Box3 w' b v0 v1 v2 := by
  have hs := lt_of_cell h.c0
  have hb : w'.heap[b]? = w.heap[b]? := hg.block b hs (fun e => hr b e.symm rfl)
  exact ⟨(World.cell?_of_block (a := ⟨b, 0, none⟩) hb).trans h.c0, (World.cell?_of_block (a := ⟨b, 1, none⟩) hb).trans h.c1, (World.cell?_of_block (a := ⟨b, 2, none⟩) hb).trans h.c2⟩
theorem row_cap {w : World} {base : Nat} {e : TypeId} {size g n cap : Nat} {xs : List Value} (h : w.ownsRow base e size (.slice (some ⟨g, 0, none⟩) n cap) n xs) : n ≤ cap := by
  rcases h.2 with ⟨h0, _⟩ | ⟨g', cap', cur, hv, _, _, hn, _⟩
  · cases h0
  · cases hv; exact hn
end Go.Proofs.Yteojjihgmmecpaa

/- Plain: the parcels of blocks, and what the laws say of them. -/
namespace Go.Proofs.Yteojjihgmmecpaa
open Go.RowKit
set_option linter.unusedVariables false
set_option linter.unusedSimpArgs false

structure Par6 where
  b : Int
  l : Lot5
deriving DecidableEq
def encQ (x : Par6) : List Value := .int .i64 x.b :: encL x.l
/-- The lots of one rectangle, with the code. -/
def rectR (s : List R4) (p : Pl3) (r : R4) : List Lot5 × Int := if frF r s = 0 then ([⟨r, 0⟩], 0) else splitR ⟨r, frF r s⟩ p
def pcR (s : List R4) (p : Pl3) (k : Nat) (r : R4) : List Par6 := (rectR s p r).1.map (Par6.mk (k : Int))
def pcB (s : List R4) (p : Pl3) (k : Nat) (b : List R4) : List Par6 := b.flatMap (pcR s p k)
def pcA (s : List R4) (p : Pl3) : Nat → List (List R4) → List Par6
  | _, [] => []
  | k, b :: bs => pcB s p k b ++ pcA s p (k + 1) bs
def fewF (s : List R4) (p : Pl3) (bs : List (List R4)) : Bool := bs.all fun b => b.all fun r => decide ((rectR s p r).2 = 0)
/-- The first error among the blocks. -/
def badF : List (List R4) → Int
  | [] => 0
  | b :: bs => if checkF b = 0 then badF bs else checkF b
def okW (p : Pl3) : Int := checkL ⟨⟨0, 0, 1, 1⟩, 1⟩ p
def lotsF (bs : List (List R4)) (s : List R4) (p : Pl3) : List Par6 × Int :=
  if checkF s ≠ 0 then ([], checkF s) else if 400 < bs.length then ([], 4) else if badF bs ≠ 0 then ([], badF bs) else if okW p ≠ 0 then ([], 2)
  else if fewF s p bs = true ∧ (pcA s p 0 bs).length ≤ 600 then (pcA s p 0 bs, 0) else ([], 4)
theorem pcA_append (s : List R4) (p : Pl3) : ∀ (k : Nat) (a b : List (List R4)), pcA s p k (a ++ b) = pcA s p k a ++ pcA s p (k + a.length) b
  | k, [], b => rfl
  | k, x :: a, b => by
    simp only [List.cons_append, pcA, pcA_append s p (k + 1) a b, List.append_assoc, List.length_cons]
    rw [show k + 1 + a.length = k + (a.length + 1) by omega]
theorem pcA_at (s : List R4) (p : Pl3) {bs : List (List R4)} {m : Nat} {b : List R4} (h : bs[m]? = some b) : pcA s p 0 (bs.take (m + 1)) = pcA s p 0 (bs.take m) ++ pcB s p m b := by
  have hm : m < bs.length := (List.getElem?_eq_some_iff.1 h).1
  rw [List.take_add_one, h, pcA_append]
  simp [pcA, List.length_take, Nat.min_eq_left (Nat.le_of_lt hm)]
theorem pcB_at (s : List R4) (p : Pl3) (k : Nat) {b : List R4} {j : Nat} {r : R4} (h : b[j]? = some r) : pcB s p k (b.take (j + 1)) = pcB s p k (b.take j) ++ pcR s p k r := by
  unfold pcB
  rw [List.take_add_one, h, List.flatMap_append]
  simp
/-- What has come so far is a first part of all. -/
theorem pcA_le (s : List R4) (p : Pl3) {bs : List (List R4)} {m : Nat} {b : List R4} (h : bs[m]? = some b) (j : Nat) : (pcA s p 0 (bs.take m)).length + (pcB s p m (b.take j)).length ≤ (pcA s p 0 bs).length := by
  have h1 : pcA s p 0 bs = pcA s p 0 (bs.take (m + 1)) ++ pcA s p (0 + (bs.take (m + 1)).length) (bs.drop (m + 1)) := by rw [← pcA_append, List.take_append_drop]
  have h2 : pcB s p m b = pcB s p m (b.take j) ++ pcB s p m (b.drop j) := by unfold pcB; rw [← List.flatMap_append, List.take_append_drop]
  rw [h1, pcA_at s p h, h2]
  simp only [List.length_append]
  omega
theorem few_at {s : List R4} {p : Pl3} {bs : List (List R4)} {m j : Nat} {b : List R4} {r : R4} (h : bs[m]? = some b) (hr : b[j]? = some r) (hn : (rectR s p r).2 ≠ 0) : fewF s p bs = false := by
  unfold fewF
  rw [List.all_eq_false]
  refine ⟨b, List.mem_of_getElem? h, ?_⟩
  rw [Bool.not_eq_true, List.all_eq_false]
  exact ⟨r, List.mem_of_getElem? hr, by simpa using hn⟩
theorem bad_of {bs : List (List R4)} {m : Nat} {b : List R4} (h0 : ∀ j x, j < m → bs[j]? = some x → checkF x = 0) (h : bs[m]? = some b) (hb : checkF b ≠ 0) : badF bs = checkF b := by
  induction bs generalizing m with
  | nil => cases h
  | cons a bs ih =>
    cases m with
    | zero => simp at h; subst h; simp [badF, hb]
    | succ m =>
      have := h0 0 a (by omega) rfl
      simp only [badF, this, if_true]
      exact ih (m := m) (fun j x hj hx => h0 (j + 1) x (Nat.succ_lt_succ hj) (by simpa using hx)) (by simpa using h)
theorem bad_none {bs : List (List R4)} (h0 : ∀ j x, j < bs.length → bs[j]? = some x → checkF x = 0) : badF bs = 0 := by
  induction bs with
  | nil => rfl
  | cons a bs ih =>
    have := h0 0 a (by simp) rfl
    simp only [badF, this, if_true]
    exact ih fun j x hj hx => h0 (j + 1) x (by simpa using hj) (by simpa using hx)
theorem okW_eq (p : Pl3) : okW p = if okP p then 0 else 2 := by
  unfold okW checkL
  rw [if_pos (by decide)]
theorem check_lot {r : R4} {f : Int} {p : Pl3} (hr : okR r) (hf : 1 ≤ f ∧ f ≤ 15) (hp : okW p = 0) : checkL ⟨r, f⟩ p = 0 := by
  unfold checkL
  rw [if_pos ⟨hr, hf⟩, ← okW_eq, hp]
theorem fr_pos {r : R4} {s : List R4} (h : frF r s ≠ 0) : 1 ≤ frF r s ∧ frF r s ≤ 15 := by
  obtain ⟨_, _, _, _, h1, h2⟩ := fr_has r s
  omega
theorem rect_len (s : List R4) (p : Pl3) (r : R4) : (rectR s p r).1.length ≤ 400 := by
  unfold rectR
  split
  · simp
  · unfold splitR
    split
    · split
      · assumption
      · simp
    · simp
theorem rect_code {s : List R4} {p : Pl3} {r : R4} (hr : okR r) (hp : okW p = 0) (h : frF r s ≠ 0) : rectR s p r = if (leaves p ⟨r, frF r s⟩).length ≤ 400 then (leaves p ⟨r, frF r s⟩, 0) else ([], 4) := by
  unfold rectR splitR
  rw [if_neg h, if_pos (check_lot hr (fr_pos h) hp)]
/-- A parcel's lot: the whole rectangle without a front, or one of its lots. -/
def ofRect (s : List R4) (p : Pl3) (r : R4) (l : Lot5) : Prop := (frF r s = 0 ∧ l = ⟨r, 0⟩) ∨ (frF r s ≠ 0 ∧ l ∈ leaves p ⟨r, frF r s⟩)
theorem rect_of {s : List R4} {p : Pl3} {r : R4} {l : Lot5} (hr : okR r) (hp : okW p = 0) (h : l ∈ (rectR s p r).1) : ofRect s p r l := by
  by_cases h0 : frF r s = 0
  · unfold rectR at h
    rw [if_pos h0, List.mem_singleton] at h
    exact .inl ⟨h0, h⟩
  · rw [rect_code hr hp h0] at h
    split at h
    · exact .inr ⟨h0, h⟩
    · cases h
theorem pcB_mem {s : List R4} {p : Pl3} {k : Nat} {b : List R4} {x : Par6} : x ∈ pcB s p k b ↔ x.b = k ∧ ∃ r ∈ b, x.l ∈ (rectR s p r).1 := by
  unfold pcB pcR
  simp only [List.mem_flatMap, List.mem_map]
  constructor
  · rintro ⟨r, hr, l, hl, rfl⟩
    exact ⟨rfl, r, hr, hl⟩
  · rintro ⟨hb, r, hr, hl⟩
    exact ⟨r, hr, x.l, hl, by rw [← hb]⟩
theorem pcA_mem {s : List R4} {p : Pl3} {x : Par6} : ∀ {k : Nat} {bs : List (List R4)}, x ∈ pcA s p k bs ↔ ∃ j b, bs[j]? = some b ∧ x.b = ((k + j : Nat) : Int) ∧ ∃ r ∈ b, x.l ∈ (rectR s p r).1
  | k, [] => by simp [pcA]
  | k, b :: bs => by
    simp only [pcA, List.mem_append, pcB_mem, pcA_mem (k := k + 1) (bs := bs)]
    constructor
    · rintro (⟨h1, h2⟩ | ⟨j, c, h1, h2, h3⟩)
      · exact ⟨0, b, rfl, h1, h2⟩
      · exact ⟨j + 1, c, by simpa using h1, by rw [h2]; congr 1; omega, h3⟩
    · rintro ⟨j, c, h1, h2, h3⟩
      cases j with
      | zero => simp at h1; subst h1; exact .inl ⟨h2, h3⟩
      | succ j => exact .inr ⟨j, c, by simpa using h1, by rw [h2]; congr 1; omega, h3⟩
/-! What is reached -/
def sidesF (l : Lot5) : Int := (if hasS l.f 1 = true then l.h else 0) + (if hasS l.f 2 = true then l.h else 0) + (if hasS l.f 4 = true then l.w else 0) + (if hasS l.f 8 = true then l.w else 0)
def sideE (x r : R4) (i : Nat) : Prop := match i with | 0 => x.x0 = r.x0 | 1 => x.x1 = r.x1 | 2 => x.y0 = r.y0 | _ => x.y1 = r.y1
theorem one_side {m : Nat} {r x : R4} {s : List R4} (hs : s.Pairwise apart4) (hr : inFr m r) (hw : wf4 r) (hx : inFr m x) (hxw : wf4 x) (hin : r.x0 ≤ x.x0 ∧ r.y0 ≤ x.y0 ∧ x.x1 ≤ r.x1 ∧ x.y1 ≤ r.y1) {i : Nat}
    (hb : bitF r s i = true) (hon : sideE x r i) : onF (besF x i) s = arQ (besF x i) := by
  unfold bitF at hb
  rw [decide_eq_true_eq, full_iff (bes_fr hr i hw) (bes_wf hw i) hs] at hb
  rw [full_iff (bes_fr hx i hxw) (bes_wf hxw i) hs]
  intro X Y h
  refine hb X Y ?_
  obtain ⟨w1, w2⟩ := hw
  obtain ⟨w3, w4⟩ := hxw
  clear hb
  match i, hon, h with
  | 0, hon, h => unfold besF rin sideE at *; simp only at hon h ⊢; omega
  | 1, hon, h => unfold besF rin sideE at *; simp only at hon h ⊢; omega
  | 2, hon, h => unfold besF rin sideE at *; simp only at hon h ⊢; omega
  | n + 3, hon, h => unfold besF rin sideE at *; simp only at hon h ⊢; omega
theorem bes_ar (r : R4) (i : Nat) : arQ (besF r i) = match i with | 0 => r.y1 - r.y0 | 1 => r.y1 - r.y0 | 2 => r.x1 - r.x0 | _ => r.x1 - r.x0 := by
  unfold besF arQ
  split
  · simp only; rw [show r.x0 - (r.x0 - 1) = 1 by omega, Int.one_mul]
  · simp only; rw [show r.x1 + 1 - r.x1 = 1 by omega, Int.one_mul]
  · simp only; rw [show r.y0 - (r.y0 - 1) = 1 by omega, Int.mul_one]
  · simp only; rw [show r.y1 + 1 - r.y1 = 1 by omega, Int.mul_one]
theorem okR_fr {r : R4} (h : okR r) : inFr 1000000 r ∧ wf4 r := by
  unfold okR inR at h
  unfold inFr wf4
  exact ⟨by omega, h.1, h.2.1⟩
theorem of_reach {s : List R4} {p : Pl3} {r : R4} {l : Lot5} (hs : s.Pairwise apart4) (hr : okR r) (h : ofRect s p r l) : okR l.r ∧ 0 ≤ l.f ∧ l.f ≤ 15 ∧ rchF l s = sidesF l ∧
    (hasS l.f 1 = true → hasS (frF l.r s) 1 = true) ∧ (hasS l.f 2 = true → hasS (frF l.r s) 2 = true) ∧ (hasS l.f 4 = true → hasS (frF l.r s) 4 = true) ∧ (hasS l.f 8 = true → hasS (frF l.r s) 8 = true) := by
  rcases h with ⟨h0, rfl⟩ | ⟨h0, hl⟩
  · refine ⟨hr, by simp, by simp, by simp [rchF, sidesF, hasS], ?_, ?_, ?_, ?_⟩ <;> simp [hasS]
  · have hv : validL ⟨r, frF r s⟩ := ⟨hr, fr_pos h0⟩
    have hlv := leaves_valid hv l hl
    have hin := leaves_in p _ hv l hl
    simp only at hin
    obtain ⟨f1, f2, f4, f8, _, _⟩ := fr_has r s
    obtain ⟨g1, g2, g4, g8, _, _⟩ := fr_has l.r s
    obtain ⟨hm, hw⟩ := okR_fr hr
    obtain ⟨hm', hw'⟩ := okR_fr hlv.1
    have k : ∀ sd, isSide sd → hasS l.f sd = true → hasS (frF r s) sd = true ∧ onS l.r r sd = true := fun sd hsd hh => by
      rw [leaves_front p hsd _ hv l hl, Bool.and_eq_true] at hh
      exact hh
    have k1 : hasS l.f 1 = true → onF (besF l.r 0) s = arQ (besF l.r 0) := fun hh => by
      obtain ⟨a, b⟩ := k 1 (.inl rfl) hh
      rw [f1] at a
      exact one_side hs hm hw hm' hw' hin a (by simpa [sideE, onS] using b)
    have k2 : hasS l.f 2 = true → onF (besF l.r 1) s = arQ (besF l.r 1) := fun hh => by
      obtain ⟨a, b⟩ := k 2 (.inr (.inl rfl)) hh
      rw [f2] at a
      exact one_side hs hm hw hm' hw' hin a (by simpa [sideE, onS] using b)
    have k4 : hasS l.f 4 = true → onF (besF l.r 2) s = arQ (besF l.r 2) := fun hh => by
      obtain ⟨a, b⟩ := k 4 (.inr (.inr (.inl rfl))) hh
      rw [f4] at a
      exact one_side hs hm hw hm' hw' hin a (by simpa [sideE, onS] using b)
    have k8 : hasS l.f 8 = true → onF (besF l.r 3) s = arQ (besF l.r 3) := fun hh => by
      obtain ⟨a, b⟩ := k 8 (.inr (.inr (.inr rfl))) hh
      rw [f8] at a
      exact one_side hs hm hw hm' hw' hin a (by simpa [sideE, onS] using b)
    refine ⟨hlv.1, by have := hlv.2; omega, hlv.2.2, ?_, fun hh => ?_, fun hh => ?_, fun hh => ?_, fun hh => ?_⟩
    · unfold rchF sidesF
      have e : ∀ (c : Bool) (x y : Int), (c = true → x = y) → (if c = true then x else 0) = (if c = true then y else 0) := fun c x y h => by
        cases c
        · rfl
        · simp [h rfl]
      rw [e (hasS l.f 1) (onF (besF l.r 0) s) l.h fun hh => by rw [k1 hh, bes_ar]; rfl, e (hasS l.f 2) (onF (besF l.r 1) s) l.h fun hh => by rw [k2 hh, bes_ar]; rfl, e (hasS l.f 4) (onF (besF l.r 2) s) l.w fun hh => by rw [k4 hh, bes_ar]; rfl, e (hasS l.f 8) (onF (besF l.r 3) s) l.w fun hh => by rw [k8 hh, bes_ar]; rfl]
    · rw [g1]; unfold bitF; exact decide_eq_true (k1 hh)
    · rw [g2]; unfold bitF; exact decide_eq_true (k2 hh)
    · rw [g4]; unfold bitF; exact decide_eq_true (k4 hh)
    · rw [g8]; unfold bitF; exact decide_eq_true (k8 hh)
/-! They fill the block -/
theorem of_cover {s : List R4} {p : Pl3} {r : R4} (hr : okR r) (hp : okW p = 0) (hc : (rectR s p r).2 = 0) (x y : Int) : pmem ((rectR s p r).1.map Lot5.r) x y ↔ rin r x y := by
  by_cases h0 : frF r s = 0
  · unfold rectR
    rw [if_pos h0]
    simp [pmem]
  · rw [rect_code hr hp h0] at hc ⊢
    split at hc
    · rename_i h4
      rw [if_pos h4]
      exact leaves_cover p x y _
    · cases hc
theorem of_area {s : List R4} {p : Pl3} {r : R4} (hr : okR r) (hp : okW p = 0) (hc : (rectR s p r).2 = 0) : ((rectR s p r).1.map areaL).sum = arQ r := by
  by_cases h0 : frF r s = 0
  · unfold rectR
    rw [if_pos h0]
    simp [areaL, arQ, Lot5.w, Lot5.h]
  · rw [rect_code hr hp h0] at hc ⊢
    split at hc
    · rename_i h4
      rw [if_pos h4]
      exact leaves_area p _
    · cases hc
end Go.Proofs.Yteojjihgmmecpaa

/- A slice that reads as a list of lists of rectangles; an argument that is one, read as such. -/
namespace Go.Proofs.Yteojjihgmmecpaa
open Go.ChangeShapes Go.WideShapes Go.ChangeAt Go.RowKit Go.Joins Go.Deep
set_option linter.unusedVariables false
set_option linter.unusedSimpArgs false

/-- The slice v reads as the lists bs, all of it below block B. -/
def RdRR (w : World) (B : Nat) (v : Value) (bs : List (List R4)) : Prop :=
  ∃ A c, v = .slice A bs.length c ∧ (bs ≠ [] → ∃ b off, A = some ⟨b, off, none⟩ ∧ b < B ∧ ∀ j x, bs[j]? = some x → ∃ u, w.cell? ⟨b, off + j, none⟩ = some u ∧ RdK encR 4 w B u x)
theorem RdRR.keep {w w' : World} {B : Nat} {v : Value} {bs : List (List R4)} (h : RdRR w B v bs) (hk : ∀ b o, b < B → w'.cell? ⟨b, o, none⟩ = w.cell? ⟨b, o, none⟩) : RdRR w' B v bs := by
  obtain ⟨A, c, hv, h⟩ := h
  refine ⟨A, c, hv, fun hl => ?_⟩
  obtain ⟨b, off, hA, hb, hc⟩ := h hl
  refine ⟨b, off, hA, hb, fun j x hx => ?_⟩
  obtain ⟨u, h1, h2⟩ := hc j x hx
  exact ⟨u, (hk b _ hb).trans h1, h2.keep hk⟩
theorem RdRR.mono {w : World} {B B' : Nat} {v : Value} {bs : List (List R4)} (h : RdRR w B v bs) (hB : B ≤ B') : RdRR w B' v bs := by
  obtain ⟨A, c, hv, h⟩ := h
  refine ⟨A, c, hv, fun hl => ?_⟩
  obtain ⟨b, off, hA, hb, hc⟩ := h hl
  refine ⟨b, off, hA, by omega, fun j x hx => ?_⟩
  obtain ⟨u, h1, h2⟩ := hc j x hx
  exact ⟨u, h1, h2.mono hB⟩
theorem RdRR.below {w w' : World} {B : Nat} {v : Value} {bs : List (List R4)} (h : RdRR w B v bs) (hb : Below B w w') : RdRR w' B v bs := h.keep fun b o hlt => hb.cell (p := ⟨b, o, none⟩) hlt
section
variable {H : Type} {enc : TypeId × Value → H} {P : Program} {w : World} {base : Nat} {spare : Nat → Bool} {held : Bool}
theorem cell_plain {a : Addr} {u : Value} (h : w.cell? a = some u) : ∃ b off, a = ⟨b, off, none⟩ ∧ b < w.heap.size := by
  obtain ⟨b, off, sp⟩ := a
  have hsp : sp = none := by
    unfold World.cell? at h
    cases sp with
    | none => rfl
    | some x => split at h <;> simp at h
  subst hsp
  refine ⟨b, off, rfl, ?_⟩
  unfold World.cell? at h
  split at h
  · rename_i hh
    exact (Array.getElem?_eq_some_iff.1 hh).1
  · cases h
/-- One value that reads as a list of rectangles. -/
theorem trod_rects1 {t e : TypeId} {fs : Array Field} {v : Value} {fuel : Nat} {x : DataW H × List MemPlace} (ht : P.underlying t = some (.slice e)) (he : P.underlying e = some (.struct fs)) (hone : oneCellFields P fs = true)
    (hint : ∀ (j : Nat) (f : Field), fs[j]? = some f → P.underlying f.type = some (.int .i64)) (hC : P.cellsOf e = 4) (hk : fs.size = 4) (hf : DataW.trod enc P w base spare held fuel t [v] = some x) :
    ∃ l : List R4, RdK encR 4 w w.heap.size v l ∧ l.length ≤ maxLen := by
  rcases open_slice ht hf with ⟨hcs, _⟩ | ⟨a, n, cap, m, nn, D, Pl, hcs, hb, hl, hm, hmm, hx, hi⟩
  · simp at hcs
    subst hcs
    exact ⟨[], RdK.nil _ _, Nat.zero_le _⟩
  · simp at hcs
    subst hcs
    have hlm : n ≤ m := by rw [hmm]; split <;> omega
    have key : ∀ i, i < n → ∀ j, j < 4 → ∃ z : Int, w.cell? (a.add (i * 4 + j)) = some (.int .i64 z) := by
      intro i hin j hj
      obtain ⟨cs', hc, ht'⟩ := hi i (by omega)
      rw [hC] at hc
      obtain ⟨_, hcl, hat⟩ := World.cells?_some hc
      obtain ⟨z, hz⟩ := trod_int_fields he hone hint (by rw [hk]; exact hcl) ht' j (by omega)
      have := hat j hj
      rw [← Go.Deep.add_add, this, hz]
      exact ⟨z, rfl⟩
    refine ⟨(List.range n).map fun i => ⟨if h : i < n then Classical.choose (key i h 0 (by omega)) else 0, if h : i < n then Classical.choose (key i h 1 (by omega)) else 0, if h : i < n then Classical.choose (key i h 2 (by omega)) else 0, if h : i < n then Classical.choose (key i h 3 (by omega)) else 0⟩, ⟨some a, cap, by simp, fun hl0 => ?_⟩, by simp; omega⟩
    have hn : 0 < n := by
      rcases Nat.eq_zero_or_pos n with h | h
      · subst h; exact absurd rfl hl0
      · exact h
    obtain ⟨z0, h0⟩ := key 0 hn 0 (by omega)
    have hadd0 : a.add (0 * 4 + 0) = a := by simp [Addr.add]
    rw [hadd0] at h0
    obtain ⟨b, off, rfl, hbs⟩ := cell_plain h0
    refine ⟨b, off, rfl, hbs, fun j x hj i u hu => ?_⟩
    have hjn : j < n := by have := (List.getElem?_eq_some_iff.1 hj).1; simpa using this
    rw [List.getElem?_map, List.getElem?_range hjn] at hj
    simp only [Option.map_some, Option.some.injEq, dif_pos hjn] at hj
    subst hj
    have e1 : ∀ k, (⟨b, off, none⟩ : Addr).add (j * 4 + k) = ⟨b, off + j * 4 + k, none⟩ := fun k => by unfold Addr.add; split <;> simp_all [Nat.add_assoc]
    have hi : i < 4 := (List.getElem?_eq_some_iff.1 hu).1
    rw [← e1]
    match i, hi with
    | 0, _ => rw [Classical.choose_spec (key j hjn 0 (by omega))]; exact hu
    | 1, _ => rw [Classical.choose_spec (key j hjn 1 (by omega))]; exact hu
    | 2, _ => rw [Classical.choose_spec (key j hjn 2 (by omega))]; exact hu
    | 3, _ => rw [Classical.choose_spec (key j hjn 3 (by omega))]; exact hu
/-- An argument that is a list of lists of rectangles. -/
theorem trod_regs {t e ee : TypeId} {fs : Array Field} {v : Value} {d : DataW H} {p : List MemPlace} {r : Reach} {b0 : Nat} (ht : P.underlying t = some (.slice e)) (hE : P.underlying e = some (.slice ee)) (hC1 : P.cellsOf e = 1) (he : P.underlying ee = some (.struct fs)) (hone : oneCellFields P fs = true)
    (hint : ∀ (j : Nat) (f : Field), fs[j]? = some f → P.underlying f.type = some (.int .i64)) (hC : P.cellsOf ee = 4) (hk : fs.size = 4) (hv : Value.okWide P w r b0 t v) (h : DataW.Trod enc P w base spare held t v d p) :
    ∃ bs : List (List R4), RdRR w w.heap.size v bs ∧ bs.length ≤ maxLen ∧ ∀ b ∈ bs, b.length ≤ maxLen := by
  obtain ⟨A, n, c, rfl⟩ := okWide_slice ht hv
  obtain ⟨fuel, hf⟩ := h
  rcases open_slice1 ht hC1 hf with ⟨hcs, _⟩ | ⟨a, len, cap, m, nn, V, D, Pl, hcs, hb, hl, hm, hmm, hx, hi⟩
  · simp [Value.cells] at hcs
    obtain ⟨rfl, rfl, rfl⟩ := hcs
    exact ⟨[], ⟨none, 0, rfl, fun h => absurd rfl h⟩, Nat.zero_le _, by simp⟩
  · simp [Value.cells] at hcs
    obtain ⟨rfl, rfl, rfl⟩ := hcs
    have hlm : n ≤ m := by rw [hmm]; split <;> omega
    have key : ∀ i, ∃ l : List R4, i < n → RdK encR 4 w w.heap.size (V i) l ∧ l.length ≤ maxLen := fun i => by
      by_cases h : i < n
      · obtain ⟨l, h1⟩ := trod_rects1 hE he hone hint hC hk (hi i (by omega)).2
        exact ⟨l, fun _ => h1⟩
      · exact ⟨[], fun g => absurd g h⟩
    refine ⟨(List.range n).map fun i => Classical.choose (key i), ⟨some a, c, by simp, fun hl0 => ?_⟩, by simp; omega, fun b hb => ?_⟩
    · have hn : 0 < n := by
        rcases Nat.eq_zero_or_pos n with h | h
        · subst h; exact absurd rfl hl0
        · exact h
      have h0 := (hi 0 (by omega)).1
      have hadd0 : a.add 0 = a := by simp [Addr.add]
      rw [hadd0] at h0
      obtain ⟨b, off, rfl, hbs⟩ := cell_plain h0
      refine ⟨b, off, rfl, hbs, fun j x hj => ?_⟩
      have hjn : j < n := by have := (List.getElem?_eq_some_iff.1 hj).1; simpa using this
      rw [List.getElem?_map, List.getElem?_range hjn] at hj
      simp only [Option.map_some, Option.some.injEq] at hj
      subst hj
      have e1 : (⟨b, off, none⟩ : Addr).add j = ⟨b, off + j, none⟩ := by unfold Addr.add; split <;> simp_all
      exact ⟨V j, e1 ▸ (hi j (by omega)).1, (Classical.choose_spec (key j) hjn).1⟩
    · obtain ⟨i, hi', rfl⟩ := List.mem_map.1 hb
      exact (Classical.choose_spec (key i) (by simpa using hi')).2
end
end Go.Proofs.Yteojjihgmmecpaa

/- Arguments that are a rectangle, or a parcel, read as such. -/
namespace Go.Proofs.Yteojjihgmmecpaa
open Go.ChangeShapes Go.WideShapes Go.ChangeAt Go.RowKit Go.Joins Go.Deep
set_option linter.unusedVariables false
set_option linter.unusedSimpArgs false

section
variable {H : Type} {enc : TypeId × Value → H} {w : World} {base : Nat} {spare : Nat → Bool} {held : Bool}
theorem array4 {α : Type} {a : Array α} (h : a.size = 4) : ∃ x0 x1 x2 x3, a = #[x0, x1, x2, x3] := by
  obtain ⟨l⟩ := a
  match l, h with
  | [x0, x1, x2, x3], _ => exact ⟨x0, x1, x2, x3, rfl⟩
theorem array6 {α : Type} {a : Array α} (h : a.size = 6) : ∃ x0 x1 x2 x3 x4 x5, a = #[x0, x1, x2, x3, x4, x5] := by
  obtain ⟨l⟩ := a
  match l, h with
  | [x0, x1, x2, x3, x4, x5], _ => exact ⟨x0, x1, x2, x3, x4, x5, rfl⟩
set_option maxRecDepth 100000 in
theorem open_rect {v : Value} {d : DataW H} {p : List MemPlace} {r : Reach} {b0 : Nat} (hv : Value.okWide Try.prog w r b0 33 v) (h : DataW.Trod enc Try.prog w base spare held 33 v d p) : ∃ q : R4, v = .agg (encR q).toArray := by
  obtain ⟨cs, rfl, hsz⟩ := okWide_struct Try.underlying33 hv
  have h4 : Try.prog.cellsOf 33 = 4 := by kernel_rfl
  obtain ⟨v0, v1, v2, v3, rfl⟩ := array4 (hsz.trans h4)
  obtain ⟨fuel, hf⟩ := h
  simp only [Value.cells] at hf
  have hr := trod_int_fields Try.underlying33 (by kernel_rfl) rect_fields rfl hf
  obtain ⟨z0, e0⟩ := hr 0 (by decide)
  obtain ⟨z1, e1⟩ := hr 1 (by decide)
  obtain ⟨z2, e2⟩ := hr 2 (by decide)
  obtain ⟨z3, e3⟩ := hr 3 (by decide)
  simp at e0 e1 e2 e3
  subst e0 e1 e2 e3
  exact ⟨⟨z0, z1, z2, z3⟩, rfl⟩
end
end Go.Proofs.Yteojjihgmmecpaa
