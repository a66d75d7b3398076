/- Texts laid together: MLotsB, LotB, LotR, LotQ, Row, Open, Regs, LotL, ParI, OpenL, OpenP, LotM, MixTwo, ParT, ParU, ParW, LotN. Lemmas for the statements of this seat; no condition. -/
import Derived.Test.YtdolpeljengpaaaGreatPk5
import Derived.Test.YtdolpeljengpaaaGreatPk6
import Derived.Test.YtdolpeljengpaaaGreatPk1
import Derived.ProofKit
import Derived.Lib.SmallJoins
import Derived.Deep.Slices
import Derived.Deep.Fields
import Derived.ChangeSame
import Derived.Test.YtdolpeljengpaaaGreatPk3

/- Plain: the parcels of blocks, and what the laws say of them. -/
namespace Go.Proofs.YtdolpeljengpaaaGreat
open Go.RowKit
set_option linter.unusedVariables false
set_option linter.unusedSimpArgs false

structure Par6 where
  b : Int
  l : Lot5
deriving DecidableEq
def encQ (x : Par6) : List Value := .int .i64 x.b :: encL x.l
/-- The lots of one rectangle, with the code. -/
def rectR (s : List R4) (p : Pl3) (r : R4) : List Lot5 × Int := if frF r s = 0 then ([⟨r, 0⟩], 0) else splitR ⟨r, frF r s⟩ p
def pcR (s : List R4) (p : Pl3) (k : Nat) (r : R4) : List Par6 := (rectR s p r).1.map (Par6.mk (k : Int))
def pcB (s : List R4) (p : Pl3) (k : Nat) (b : List R4) : List Par6 := b.flatMap (pcR s p k)
def pcA (s : List R4) (p : Pl3) : Nat → List (List R4) → List Par6
  | _, [] => []
  | k, b :: bs => pcB s p k b ++ pcA s p (k + 1) bs
def fewF (s : List R4) (p : Pl3) (bs : List (List R4)) : Bool := bs.all fun b => b.all fun r => decide ((rectR s p r).2 = 0)
/-- The first error among the blocks. -/
def badF : List (List R4) → Int
  | [] => 0
  | b :: bs => if checkF b = 0 then badF bs else checkF b
def okW (p : Pl3) : Int := checkL ⟨⟨0, 0, 1, 1⟩, 1⟩ p
def lotsF (bs : List (List R4)) (s : List R4) (p : Pl3) : List Par6 × Int :=
  if checkF s ≠ 0 then ([], checkF s) else if 400 < bs.length then ([], 4) else if badF bs ≠ 0 then ([], badF bs) else if okW p ≠ 0 then ([], 2)
  else if fewF s p bs = true ∧ (pcA s p 0 bs).length ≤ 600 then (pcA s p 0 bs, 0) else ([], 4)
theorem pcA_append (s : List R4) (p : Pl3) : ∀ (k : Nat) (a b : List (List R4)), pcA s p k (a ++ b) = pcA s p k a ++ pcA s p (k + a.length) b
  | k, [], b => rfl
  | k, x :: a, b => by
    simp only [List.cons_append, pcA, pcA_append s p (k + 1) a b, List.append_assoc, List.length_cons]
    rw [show k + 1 + a.length = k + (a.length + 1) by omega]
theorem pcA_at (s : List R4) (p : Pl3) {bs : List (List R4)} {m : Nat} {b : List R4} (h : bs[m]? = some b) : pcA s p 0 (bs.take (m + 1)) = pcA s p 0 (bs.take m) ++ pcB s p m b := by
  have hm : m < bs.length := (List.getElem?_eq_some_iff.1 h).1
  rw [List.take_add_one, h, pcA_append]
  simp [pcA, List.length_take, Nat.min_eq_left (Nat.le_of_lt hm)]
theorem pcB_at (s : List R4) (p : Pl3) (k : Nat) {b : List R4} {j : Nat} {r : R4} (h : b[j]? = some r) : pcB s p k (b.take (j + 1)) = pcB s p k (b.take j) ++ pcR s p k r := by
  unfold pcB
  rw [List.take_add_one, h, List.flatMap_append]
  simp
/-- What has come so far is a first part of all. -/
theorem pcA_le (s : List R4) (p : Pl3) {bs : List (List R4)} {m : Nat} {b : List R4} (h : bs[m]? = some b) (j : Nat) : (pcA s p 0 (bs.take m)).length + (pcB s p m (b.take j)).length ≤ (pcA s p 0 bs).length := by
  have h1 : pcA s p 0 bs = pcA s p 0 (bs.take (m + 1)) ++ pcA s p (0 + (bs.take (m + 1)).length) (bs.drop (m + 1)) := by rw [← pcA_append, List.take_append_drop]
  have h2 : pcB s p m b = pcB s p m (b.take j) ++ pcB s p m (b.drop j) := by unfold pcB; rw [← List.flatMap_append, List.take_append_drop]
  rw [h1, pcA_at s p h, h2]
  simp only [List.length_append]
  omega
theorem few_at {s : List R4} {p : Pl3} {bs : List (List R4)} {m j : Nat} {b : List R4} {r : R4} (h : bs[m]? = some b) (hr : b[j]? = some r) (hn : (rectR s p r).2 ≠ 0) : fewF s p bs = false := by
  unfold fewF
  rw [List.all_eq_false]
  refine ⟨b, List.mem_of_getElem? h, ?_⟩
  rw [Bool.not_eq_true, List.all_eq_false]
  exact ⟨r, List.mem_of_getElem? hr, by simpa using hn⟩
theorem bad_of {bs : List (List R4)} {m : Nat} {b : List R4} (h0 : ∀ j x, j < m → bs[j]? = some x → checkF x = 0) (h : bs[m]? = some b) (hb : checkF b ≠ 0) : badF bs = checkF b := by
  induction bs generalizing m with
  | nil => cases h
  | cons a bs ih =>
    cases m with
    | zero => simp at h; subst h; simp [badF, hb]
    | succ m =>
      have := h0 0 a (by omega) rfl
      simp only [badF, this, if_true]
      exact ih (m := m) (fun j x hj hx => h0 (j + 1) x (Nat.succ_lt_succ hj) (by simpa using hx)) (by simpa using h)
theorem bad_none {bs : List (List R4)} (h0 : ∀ j x, j < bs.length → bs[j]? = some x → checkF x = 0) : badF bs = 0 := by
  induction bs with
  | nil => rfl
  | cons a bs ih =>
    have := h0 0 a (by simp) rfl
    simp only [badF, this, if_true]
    exact ih fun j x hj hx => h0 (j + 1) x (by simpa using hj) (by simpa using hx)
theorem okW_eq (p : Pl3) : okW p = if okP p then 0 else 2 := by
  unfold okW checkL
  rw [if_pos (by decide)]
theorem check_lot {r : R4} {f : Int} {p : Pl3} (hr : okR r) (hf : 1 ≤ f ∧ f ≤ 15) (hp : okW p = 0) : checkL ⟨r, f⟩ p = 0 := by
  unfold checkL
  rw [if_pos ⟨hr, hf⟩, ← okW_eq, hp]
theorem fr_pos {r : R4} {s : List R4} (h : frF r s ≠ 0) : 1 ≤ frF r s ∧ frF r s ≤ 15 := by
  obtain ⟨_, _, _, _, h1, h2⟩ := fr_has r s
  omega
theorem rect_len (s : List R4) (p : Pl3) (r : R4) : (rectR s p r).1.length ≤ 400 := by
  unfold rectR
  split
  · simp
  · unfold splitR
    split
    · split
      · assumption
      · simp
    · simp
theorem rect_code {s : List R4} {p : Pl3} {r : R4} (hr : okR r) (hp : okW p = 0) (h : frF r s ≠ 0) : rectR s p r = if (leaves p ⟨r, frF r s⟩).length ≤ 400 then (leaves p ⟨r, frF r s⟩, 0) else ([], 4) := by
  unfold rectR splitR
  rw [if_neg h, if_pos (check_lot hr (fr_pos h) hp)]
/-- A parcel's lot: the whole rectangle without a front, or one of its lots. -/
def ofRect (s : List R4) (p : Pl3) (r : R4) (l : Lot5) : Prop := (frF r s = 0 ∧ l = ⟨r, 0⟩) ∨ (frF r s ≠ 0 ∧ l ∈ leaves p ⟨r, frF r s⟩)
theorem rect_of {s : List R4} {p : Pl3} {r : R4} {l : Lot5} (hr : okR r) (hp : okW p = 0) (h : l ∈ (rectR s p r).1) : ofRect s p r l := by
  by_cases h0 : frF r s = 0
  · unfold rectR at h
    rw [if_pos h0, List.mem_singleton] at h
    exact .inl ⟨h0, h⟩
  · rw [rect_code hr hp h0] at h
    split at h
    · exact .inr ⟨h0, h⟩
    · cases h
theorem pcB_mem {s : List R4} {p : Pl3} {k : Nat} {b : List R4} {x : Par6} : x ∈ pcB s p k b ↔ x.b = k ∧ ∃ r ∈ b, x.l ∈ (rectR s p r).1 := by
  unfold pcB pcR
  simp only [List.mem_flatMap, List.mem_map]
  constructor
  · rintro ⟨r, hr, l, hl, rfl⟩
    exact ⟨rfl, r, hr, hl⟩
  · rintro ⟨hb, r, hr, hl⟩
    exact ⟨r, hr, x.l, hl, by rw [← hb]⟩
theorem pcA_mem {s : List R4} {p : Pl3} {x : Par6} : ∀ {k : Nat} {bs : List (List R4)}, x ∈ pcA s p k bs ↔ ∃ j b, bs[j]? = some b ∧ x.b = ((k + j : Nat) : Int) ∧ ∃ r ∈ b, x.l ∈ (rectR s p r).1
  | k, [] => by simp [pcA]
  | k, b :: bs => by
    simp only [pcA, List.mem_append, pcB_mem, pcA_mem (k := k + 1) (bs := bs)]
    constructor
    · rintro (⟨h1, h2⟩ | ⟨j, c, h1, h2, h3⟩)
      · exact ⟨0, b, rfl, h1, h2⟩
      · exact ⟨j + 1, c, by simpa using h1, by rw [h2]; congr 1; omega, h3⟩
    · rintro ⟨j, c, h1, h2, h3⟩
      cases j with
      | zero => simp at h1; subst h1; exact .inl ⟨h2, h3⟩
      | succ j => exact .inr ⟨j, c, by simpa using h1, by rw [h2]; congr 1; omega, h3⟩
/-! What is reached -/
def sidesF (l : Lot5) : Int := (if hasS l.f 1 = true then l.h else 0) + (if hasS l.f 2 = true then l.h else 0) + (if hasS l.f 4 = true then l.w else 0) + (if hasS l.f 8 = true then l.w else 0)
def sideE (x r : R4) (i : Nat) : Prop := match i with | 0 => x.x0 = r.x0 | 1 => x.x1 = r.x1 | 2 => x.y0 = r.y0 | _ => x.y1 = r.y1
theorem bes_ar (r : R4) (i : Nat) : arQ (besF r i) = match i with | 0 => r.y1 - r.y0 | 1 => r.y1 - r.y0 | 2 => r.x1 - r.x0 | _ => r.x1 - r.x0 := by
  unfold besF arQ
  split
  · simp only; rw [show r.x0 - (r.x0 - 1) = 1 by omega, Int.one_mul]
  · simp only; rw [show r.x1 + 1 - r.x1 = 1 by omega, Int.one_mul]
  · simp only; rw [show r.y0 - (r.y0 - 1) = 1 by omega, Int.mul_one]
  · simp only; rw [show r.y1 + 1 - r.y1 = 1 by omega, Int.mul_one]
/-! They fill the block -/
theorem of_cover {s : List R4} {p : Pl3} {r : R4} (hr : okR r) (hp : okW p = 0) (hc : (rectR s p r).2 = 0) (x y : Int) : pmem ((rectR s p r).1.map Lot5.r) x y ↔ rin r x y := by
  by_cases h0 : frF r s = 0
  · unfold rectR
    rw [if_pos h0]
    simp [pmem]
  · rw [rect_code hr hp h0] at hc ⊢
    split at hc
    · rename_i h4
      rw [if_pos h4]
      exact leaves_cover p x y _
    · cases hc
theorem of_area {s : List R4} {p : Pl3} {r : R4} (hr : okR r) (hp : okW p = 0) (hc : (rectR s p r).2 = 0) : ((rectR s p r).1.map areaL).sum = arQ r := by
  by_cases h0 : frF r s = 0
  · unfold rectR
    rw [if_pos h0]
    simp [areaL, arQ, Lot5.w, Lot5.h]
  · rw [rect_code hr hp h0] at hc ⊢
    split at hc
    · rename_i h4
      rw [if_pos h4]
      exact leaves_area p _
    · cases hc
end Go.Proofs.YtdolpeljengpaaaGreat

/- The walks of lots' fine, fronts, Fronts, Reached. -/
namespace Go.Proofs.YtdolpeljengpaaaGreat
open Go.RowKit
set_option linter.unusedVariables false
set_option linter.unusedSimpArgs false

/-- The first sides of a front. -/
def frP (r : R4) (s : List R4) : Nat → Int
  | 0 => 0
  | m + 1 => frP r s m + if bitF r s m = true then 2 ^ m else 0
theorem frP_four (r : R4) (s : List R4) : frP r s 4 = frF r s := by
  unfold frF
  simp [frP]
theorem frP_at (r : R4) (s : List R4) : (0 ≤ frP r s 0 ∧ frP r s 0 < 1) ∧ (0 ≤ frP r s 1 ∧ frP r s 1 < 2) ∧ (0 ≤ frP r s 2 ∧ frP r s 2 < 4) ∧ (0 ≤ frP r s 3 ∧ frP r s 3 < 8) := by
  simp only [frP]
  repeat' split
  all_goals omega
theorem bits_or : ∀ n ∈ List.range 8, (n < 1 → bits .or .u8 (n : Int) 1 = n + 1) ∧ (n < 2 → bits .or .u8 (n : Int) 2 = n + 2) ∧ (n < 4 → bits .or .u8 (n : Int) 4 = n + 4) ∧ (n < 8 → bits .or .u8 (n : Int) 8 = n + 8) := by decide
theorem or_at (r : R4) (s : List R4) : bits .or .u8 (frP r s 0) 1 = frP r s 0 + 1 ∧ bits .or .u8 (frP r s 1) 2 = frP r s 1 + 2 ∧ bits .or .u8 (frP r s 2) 4 = frP r s 2 + 4 ∧ bits .or .u8 (frP r s 3) 8 = frP r s 3 + 8 := by
  obtain ⟨h0, h1, h2, h3⟩ := frP_at r s
  have k : ∀ {z : Int}, 0 ≤ z ∧ z < 8 → ∃ n : Nat, n ∈ List.range 8 ∧ z = (n : Int) := fun {z} hz => ⟨z.toNat, by simp; omega, by omega⟩
  refine ⟨?_, ?_, ?_, ?_⟩
  · obtain ⟨n, hn, e⟩ := k (z := frP r s 0) (by omega)
    rw [e]; exact (bits_or n hn).1 (by omega)
  · obtain ⟨n, hn, e⟩ := k (z := frP r s 1) (by omega)
    rw [e]; exact (bits_or n hn).2.1 (by omega)
  · obtain ⟨n, hn, e⟩ := k (z := frP r s 2) (by omega)
    rw [e]; exact (bits_or n hn).2.2.1 (by omega)
  · obtain ⟨n, hn, e⟩ := k (z := frP r s 3) (by omega)
    rw [e]; exact (bits_or n hn).2.2.2 (by omega)
/-- A rectangle in a box of its own. -/
structure BoxR (n : Nat) (w : World) (r : R4) (wr : World) : Prop where
  d0 : wr.cell? ⟨n, 0, none⟩ = some (.int .i64 r.x0)
  d1 : wr.cell? ⟨n, 1, none⟩ = some (.int .i64 r.y0)
  d2 : wr.cell? ⟨n, 2, none⟩ = some (.int .i64 r.x1)
  d3 : wr.cell? ⟨n, 3, none⟩ = some (.int .i64 r.y1)
  below : Below n w wr
  size : n < wr.heap.size
theorem BoxR.keep {n : Nat} {w wr w' : World} {r : R4} (h : BoxR n w r wr) (hb : Below wr.heap.size wr w') : BoxR n w r w' := by
  have := h.size
  exact ⟨(hb.cell (p := ⟨n, 0, none⟩) (by simp; omega)).trans h.d0, (hb.cell (p := ⟨n, 1, none⟩) (by simp; omega)).trans h.d1, (hb.cell (p := ⟨n, 2, none⟩) (by simp; omega)).trans h.d2, (hb.cell (p := ⟨n, 3, none⟩) (by simp; omega)).trans h.d3, h.below.trans (hb.mono (by omega)), by have := hb.size; omega⟩
theorem box_new (w : World) (r : R4) (t : TypeId) : BoxR w.heap.size w r (w.alloc (.cells #[.int .i64 r.x0, .int .i64 r.y0, .int .i64 r.x1, .int .i64 r.y1] t)) :=
  ⟨by simp [go_sem], by simp [go_sem], by simp [go_sem], by simp [go_sem], (Below.refl _ _).alloc (Nat.le_refl _) _, by simp⟩
theorem bes_area {r : R4} (h : okR r) (i : Nat) : 0 ≤ ((besF r i).x1 - (besF r i).x0) * ((besF r i).y1 - (besF r i).y0) ∧ ((besF r i).x1 - (besF r i).x0) * ((besF r i).y1 - (besF r i).y0) ≤ 2000000 := by
  have := bes_ar r i
  unfold arQ at this
  rw [this]
  unfold okR inR at h
  split <;> omega
set_option maxRecDepth 100000 in
set_option maxHeartbeats 8000000 in
theorem fronts_any (r : R4) (hr : okR r) {w : World} {v : Value} {s : List R4} (hs : RdK encR 4 w w.heap.size v s) (hv : ∀ q ∈ s, okR q) (hl : s.length ≤ 400) :
    Calls Tryz.prog 70 #[.agg (encR r).toArray, v] w fun e w' => e = .returned (.int .u8 (frF r s)) ∧ Below w.heap.size w w' := by
  have HBES : Hid (∀ (i : Nat), i < 4 → ∀ W : World, Calls Tryz.prog 117 #[.agg #[.int .i64 r.x0, .int .i64 r.y0, .int .i64 r.x1, .int .i64 r.y1], .int .i64 i] W fun e w' => e = .returned (.agg #[.int .i64 (besF r i).x0, .int .i64 (besF r i).y0, .int .i64 (besF r i).x1, .int .i64 (besF r i).y1]) ∧ Below W.heap.size W w') := hide (fun i hi W => lbeside_any r i hi hr W)
  have HON : Hid (∀ (i : Nat) (W : World), Below w.heap.size w W → Calls Tryz.prog 118 #[.agg #[.int .i64 (besF r i).x0, .int .i64 (besF r i).y0, .int .i64 (besF r i).x1, .int .i64 (besF r i).y1], v] W fun e w' => e = .returned (.int .i64 (onF (besF r i) s)) ∧ Below W.heap.size W w') := hide (fun i W hb => on_any (besF r i) (bes_mid hr i) ((hs.below hb).mono hb.size) hv hl)
  have HAR : Hid (∀ i, 0 ≤ ((besF r i).x1 - (besF r i).x0) * ((besF r i).y1 - (besF r i).y0) ∧ ((besF r i).x1 - (besF r i).x0) * ((besF r i).y1 - (besF r i).y0) ≤ 2000000) := hide (bes_area hr)
  have HMID : Hid (∀ i, midR (besF r i)) := hide (bes_mid hr)
  have HOR := hide (or_at r s)
  have HP := hide (frP_at r s)
  have HF := hide (frP_four r s)
  have HP0 : Hid (frP r s 0 = 0) := hide rfl
  have HP0 : Hid (frP r s 0 = 0) := hide rfl
  have HP0 : Hid (frP r s 0 = 0) := hide rfl
  have HP0 : Hid (frP r s 0 = 0) := hide rfl
  have HP0 : Hid (frP r s 0 = 0) := hide rfl
  have HBIT : Hid (∀ i, bitF r s i = (onF (besF r i) s == ((besF r i).x1 - (besF r i).x0) * ((besF r i).y1 - (besF r i).y0))) := hide (fun i => by unfold bitF arQ; rfl)
  have HST : Hid (∀ m, frP r s (m + 1) = frP r s m + if bitF r s m = true then 2 ^ m else 0) := hide (fun m => rfl)
  obtain ⟨A, c, rfl, _⟩ := hs
  clear hv hl hr
  generalize hn : w.heap.size = n at *
  have HN := hide hn
  show Calls Tryz.prog _ #[.agg #[.int .i64 r.x0, .int .i64 r.y0, .int .i64 r.x1, .int .i64 r.y1], .slice A s.length c] w _
  go_enter Tryz.func70, Tryz.ntmps70
  go_upto_region 2 with fail
  refine wp_name5 fun w2 hw2 => ?_
  have HB : Hid (BoxR n w r w2) := hide (by rw [hw2, ← hn]; exact box_new w r _)
  clear hw2 hn
  generalize frP r s = P at *
  generalize bitF r s = bt at *
  go_wp2_with (fail)
  go_loopw [5, 8] (fun o i wr => ∃ m : Nat, m ≤ 4 ∧ i = .int .i64 m ∧ o = .int .u8 (P m) ∧ Hid (BoxR n w r wr)) (fun _ i _ => 4 - (intOf i).toNat)
  case atStart => exact ⟨0, Nat.zero_le _, rfl, by rw [HP0.out], HB⟩
  case round =>
    clear HB
    obtain ⟨m, hm, rfl, rfl, HB⟩ := hrel
    by_cases hlt : m < 4
    · have HC := hide (HBES.out m hlt)
      have HO := hide (HON.out m)
      have HAm := HAR.out m
      have HMm := HMID.out m
      have HBm := hide (HBIT.out m)
      have HSm := hide (HST.out m)
      generalize besF r m = B at *
      generalize onF B s = N at *
      have mz : (m : Int) < 4 := by omega
      obtain ⟨d0, d1, d2, d3, -, -⟩ := id HB.out
      go_wp2_with (fail)
      refine (HC.out _).mono ?_
      rintro e w3 ⟨rfl, hb⟩
      have HB3 := hide (HB.out.keep hb)
      clear hb d0 d1 d2 d3 HB HC
      go_upto_region 6 with fail
      refine wp_name5 fun Z hZ => ?_
      have hbz : BoxR w3.heap.size w3 B Z := by rw [hZ]; exact box_new w3 B _
      have HBZ := hide (HB3.out.keep hbz.below)
      have HOZ : Hid (∀ x : Above Z, Calls Tryz.prog 118 #[.agg #[.int .i64 B.x0, .int .i64 B.y0, .int .i64 B.x1, .int .i64 B.y1], .slice A s.length c] x.get fun e w'' => e = .returned (.int .i64 N) ∧ ∃ y : Above Z, w'' = y.get) := hide (fun x => above_of (HO.out x.get (HBZ.out.below.trans (x.keeps.mono (by have := HBZ.out.size; omega)))))
      obtain ⟨c0, c1, c2, c3, -, hk⟩ := hbz
      generalize w3.heap.size = k at *
      clear hZ HB3 HO
      obtain ⟨g1, g2, g3, g4, g5, g6, g7, g8, g9, g10⟩ := HMm
      obtain ⟨a1, a2⟩ := HAm
      have t1 : IntKind.i64.wrap ((B.x1 - B.x0) * (B.y1 - B.y0)) = (B.x1 - B.x0) * (B.y1 - B.y0) := IntWalk.i64_in _ (by omega)
      refine wp_hab fun hab => ?_
      refine wp_region_above (by kernel_rfl) (by kernel_rfl) ?_
      repeat (go_big_quiet_step ((go_at_call 118; exact HOZ.out _)))
      refine wpQuiet_nil ?_
      refine above_ends fun w4 hb4 => ?_
      have HB4 := hide (HBZ.out.keep hb4)
      clear hab hb4 HBZ HOZ c0 c1 c2 c3 hk g1 g2 g3 g4 g5 g6 g7 g8 g9 g10 a1 a2 t1
      cases hbm : bt m with
      | true =>
        have he : (N == (B.x1 - B.x0) * (B.y1 - B.y0)) = true := by rw [← HBm.out]; exact hbm
        rw [hbm] at HSm
        clear HBm hbm
        have hm4 : m = 0 ∨ m = 1 ∨ m = 2 ∨ m = 3 := by omega
        rcases hm4 with rfl | rfl | rfl | rfl
        · go_wp2_with (fail)
          go_roundw
          case rel => exact ⟨1, by omega, by go_num, by have h1 := HSm.out; have h2 := HOR.out.1; simp only [Nat.zero_add, Nat.reduceAdd] at h1 ⊢; rw [h1]; first | (congr 1; simpa using h2) | (simp; simpa using h2), HB4⟩
          case measure => simp [intOf]
        · go_wp2_with (fail)
          go_roundw
          case rel => exact ⟨2, by omega, by go_num, by have h1 := HSm.out; have h2 := HOR.out.2.1; simp only [Nat.zero_add, Nat.reduceAdd] at h1 ⊢; rw [h1]; first | (congr 1; simpa using h2) | (simp; simpa using h2), HB4⟩
          case measure => simp [intOf]
        · go_wp2_with (fail)
          go_roundw
          case rel => exact ⟨3, by omega, by go_num, by have h1 := HSm.out; have h2 := HOR.out.2.2.1; simp only [Nat.zero_add, Nat.reduceAdd] at h1 ⊢; rw [h1]; first | (congr 1; simpa using h2) | (simp; simpa using h2), HB4⟩
          case measure => simp [intOf]
        · go_wp2_with (fail)
          go_roundw
          case rel => exact ⟨4, by omega, by go_num, by have h1 := HSm.out; have h2 := HOR.out.2.2.2; simp only [Nat.zero_add, Nat.reduceAdd] at h1 ⊢; rw [h1]; first | (congr 1; simpa using h2) | (simp; simpa using h2), HB4⟩
          case measure => simp [intOf]
      | false =>
        have he : (N == (B.x1 - B.x0) * (B.y1 - B.y0)) = false := by rw [← HBm.out]; exact hbm
        rw [hbm] at HSm
        clear HBm hbm
        go_wp2_with (fail)
        go_roundw
        case rel => exact ⟨m + 1, by omega, by go_num, by have h1 := HSm.out; rw [h1]; simp, HB4⟩
        case measure => simp [intOf]; omega
    · obtain rfl : m = 4 := by omega
      have HBE := hide HB.out.below
      go_wp2_with (fail)
      go_ret
      exact ⟨by rw [HF.out]; rfl, by first | exact HBE.out | (rw [HN.out]; exact HBE.out)⟩
def frontsF (r : R4) (s : List R4) : Int × Int := if checkF s ≠ 0 then (0, checkF s) else if okR r then (frF r s, 0) else (0, 8)
def reachedF (l : Lot5) (s : List R4) : Int × Int := if checkF s ≠ 0 then (0, checkF s) else if okR l.r ∧ l.f ≤ 15 then (rchF l s, 0) else (0, 8)
end Go.Proofs.YtdolpeljengpaaaGreat

/- The reference of lots: Beside, On, front, Fronts, Reached. -/
namespace Go.Proofs.YtdolpeljengpaaaGreat
open Go.RowKit
set_option linter.unusedVariables false
set_option linter.unusedSimpArgs false

/-- The side as a number. -/
def sideN (i : Nat) : Int := match i with | 0 => 1 | 1 => 2 | 2 => 4 | _ => 8
set_option maxHeartbeats 1000000 in
theorem rWidth_mid (r : R4) (h : midR r) (w : World) : Calls Tryz.prog 73 #[.agg (encR r).toArray] w fun e w' => e = .returned (.int .i64 (r.x1 - r.x0)) ∧ Below w.heap.size w w' := by
  obtain ⟨x0, y0, x1, y1⟩ := r
  simp only [midR] at h
  obtain ⟨h1, h2, h3, h4, h5, h6, h7, h8, h9, h10⟩ := h
  show Calls Tryz.prog _ #[.agg #[.int .i64 x0, .int .i64 y0, .int .i64 x1, .int .i64 y1]] w fun e w' => e = .returned (.int .i64 (x1 - x0)) ∧ Below w.heap.size w w'
  go_enter Tryz.func73, Tryz.ntmps73
  go_wp2
  go_ret
  exact ⟨rfl, (Below.refl _ _).alloc (Nat.le_refl _) _⟩
set_option maxHeartbeats 1000000 in
theorem rHeight_mid (r : R4) (h : midR r) (w : World) : Calls Tryz.prog 74 #[.agg (encR r).toArray] w fun e w' => e = .returned (.int .i64 (r.y1 - r.y0)) ∧ Below w.heap.size w w' := by
  obtain ⟨x0, y0, x1, y1⟩ := r
  simp only [midR] at h
  obtain ⟨h1, h2, h3, h4, h5, h6, h7, h8, h9, h10⟩ := h
  show Calls Tryz.prog _ #[.agg #[.int .i64 x0, .int .i64 y0, .int .i64 x1, .int .i64 y1]] w fun e w' => e = .returned (.int .i64 (y1 - y0)) ∧ Below w.heap.size w w'
  go_enter Tryz.func74, Tryz.ntmps74
  go_wp2
  go_ret
  exact ⟨rfl, (Below.refl _ _).alloc (Nat.le_refl _) _⟩
set_option maxHeartbeats 2000000 in
theorem rArea_mid (r : R4) (h : midR r) (hw : wf4 r) (w : World) : Calls Tryz.prog 32 #[.agg (encR r).toArray] w fun e w' => e = .returned (.int .i64 (arQ r)) ∧ Below w.heap.size w w' := by
  have HW := hide (fun W => rWidth_mid r h W)
  have HH := hide (fun W => rHeight_mid r h W)
  obtain ⟨h1, h2⟩ := hw
  have h3 := h.2.2.2.2.2.2.2.2.1
  have h4 := h.2.2.2.2.2.2.2.2.2
  have hm : IntKind.i64.wrap ((r.x1 - r.x0) * (r.y1 - r.y0)) = (r.x1 - r.x0) * (r.y1 - r.y0) := by
    have a1 : 0 ≤ (r.x1 - r.x0) * (r.y1 - r.y0) := Int.mul_nonneg (by omega) (by omega)
    have a2 : (r.x1 - r.x0) * (r.y1 - r.y0) ≤ 2000000 * 2000000 := Int.mul_le_mul h3 h4 (by omega) (by omega)
    exact IntWalk.i64_in _ (by omega)
  unfold arQ
  clear h h1 h2 h3 h4
  generalize r.x1 - r.x0 = ww at *
  generalize r.y1 - r.y0 = hh at *
  obtain ⟨x0, y0, x1, y1⟩ := r
  show Calls Tryz.prog _ #[.agg #[.int .i64 x0, .int .i64 y0, .int .i64 x1, .int .i64 y1]] w _
  simp only [encR] at HW HH
  go_enter Tryz.func32, Tryz.ntmps32
  go_wp2
  refine wp_hab fun hab => ?_
  refine wp_region_above (by kernel_rfl) (by kernel_rfl) ?_
  repeat (go_big_quiet_step (((first | (go_at_call 73; exact above_of (HW.out _)) | (go_at_call 74; exact above_of (HH.out _))))))
  refine wpQuiet_nil ?_
  refine above_ends fun w3 hb3 => ?_
  clear hab
  have HB := hide (((Below.refl w.heap.size w).alloc (Nat.le_refl _) (.cells #[.int .i64 x0, .int .i64 y0, .int .i64 x1, .int .i64 y1] 69)).trans (hb3.mono (by simp)))
  have HM := hide hm
  clear hb3 hm
  go_wp2_with (fail)
  go_ret
  exact ⟨by first | rfl | rw [HM.out], HB.out⟩
theorem hk_one : hk 1 = hAnd := by funext a b; simp [hk, hAnd]
theorem on_piece {r : R4} {s : List R4} (hr : midR r) (hw : wf4 r) (hs : RCan s) : ∀ q ∈ rjoin hAnd [r] s, wf4 q ∧ midR q := fun q hq => by
  have h1 : ∀ q ∈ [r], wf4 q := fun q hq => by rw [List.mem_singleton] at hq; subst hq; exact hw
  obtain ⟨hc, hp⟩ := rjoin_ok (h := hAnd) rfl h1 (can_wf hs)
  have hq' := can_wf hc q hq
  have a1 : pmem (rjoin hAnd [r] s) q.x0 q.y0 := ⟨q, hq, by unfold rin; unfold wf4 at hq'; omega⟩
  have a2 : pmem (rjoin hAnd [r] s) (q.x1 - 1) (q.y1 - 1) := ⟨q, hq, by unfold rin; unfold wf4 at hq'; omega⟩
  rw [hp] at a1 a2
  simp only [hAnd, Bool.and_eq_true, decide_eq_true_eq] at a1 a2
  obtain ⟨⟨p, hp1, hp2⟩, _⟩ := a1
  obtain ⟨⟨p', hp1', hp2'⟩, _⟩ := a2
  rw [List.mem_singleton] at hp1 hp1'
  subst hp1; subst hp1'
  unfold rin at hp2 hp2'
  refine ⟨hq', ?_⟩
  unfold midR at hr ⊢
  omega
theorem sum_part {α : Type} {f : α → Int} : ∀ (L : List α) (m : Nat), (∀ x ∈ L, 0 ≤ f x) → 0 ≤ ((L.take m).map f).sum ∧ ((L.take m).map f).sum ≤ (L.map f).sum
  | [], m, _ => by simp
  | a :: L, 0, h => by
    have h1 := h a (by simp)
    have h2 := (sum_part L L.length fun x hx => h x (List.mem_cons_of_mem _ hx)).1
    rw [List.take_length] at h2
    simp only [List.take_zero, List.map_nil, List.sum_nil, List.map_cons, List.sum_cons]
    omega
  | a :: L, m + 1, h => by
    have h1 := h a (by simp)
    have h2 := sum_part L m fun x hx => h x (List.mem_cons_of_mem _ hx)
    simp only [List.take_succ_cons, List.map_cons, List.sum_cons]
    omega
theorem sumQ_at {α : Type} {f : α → Int} {L : List α} {m : Nat} {x : α} (h : L[m]? = some x) : ((L.take (m + 1)).map f).sum = ((L.take m).map f).sum + f x := by
  rw [List.take_add_one, h, List.map_append, List.sum_append]
  simp
theorem arQ_nn {r : R4} (h : wf4 r) : 0 ≤ arQ r := by
  unfold wf4 at h
  exact Int.mul_nonneg (by omega) (by omega)
set_option maxRecDepth 100000 in
set_option maxHeartbeats 4000000 in
theorem rOn_any (r : R4) (hr : midR r) (hw : wf4 r) {w : World} {v : Value} {s : List R4} (hs : RdK encR 4 w w.heap.size v s) (hc : checkF s = 0) :
    Calls Tryz.prog 31 #[.agg (encR r).toArray, v] w fun e w' => e = .returned (.int .i64 (onF r s)) ∧ Below w.heap.size w w' := by
  have hl := (checkF_ok hc).1
  have hsum : ((rjoin hAnd [r] s).map arQ).sum = onF r s := on_ref (m := 1000001) (by unfold midR at hr; unfold inFr; omega) hw (check_rcan hc) (check_frame hc (by omega))
  have htot : onF r s ≤ 4000000000000000 := by
    have h1 := onF_bd (r := r) hr.2.2.2.2.2.2.2.2.1 hr.2.2.2.2.2.2.2.2.2 s
    omega
  have hpc := on_piece hr hw (check_rcan hc)
  have hln := rjoin_len2 hAnd [r] s (by simp) hl
  have HJ : Hid (∀ (W : World) (v1 : Value), Below w.heap.size w W → RdK encR 4 W W.heap.size v1 [r] → Calls Tryz.prog 72 #[.int .i64 1, v1, v] W fun e w' => ∃ vo, e = .returned vo ∧ w'.ownsRow W.heap.size 69 4 vo (rjoin hAnd [r] s).length ((rjoin hAnd [r] s).flatMap encR) ∧ Below W.heap.size W w') := hide (fun W v1 hb r1 => by
    have := rJoined_any 1 (.inl rfl) r1 ((hs.below hb).mono hb.size) (Nat.le_refl _) (by simp) (by omega)
    rw [ref_join (h := hk 1) rfl (fun q hq => by rw [List.mem_singleton] at hq; subst hq; exact hw) (check_wf hc), hk_one] at this
    exact this)
  have HA : Hid (∀ q ∈ rjoin hAnd [r] s, ∀ W : World, Calls Tryz.prog 32 #[.agg #[.int .i64 q.x0, .int .i64 q.y0, .int .i64 q.x1, .int .i64 q.y1]] W fun e w' => e = .returned (.int .i64 (arQ q)) ∧ Below W.heap.size W w') := hide (fun q hq W => rArea_mid q (hpc q hq).2 (hpc q hq).1 W)
  have HBD : Hid (∀ m : Nat, 0 ≤ (((rjoin hAnd [r] s).take m).map arQ).sum ∧ (((rjoin hAnd [r] s).take m).map arQ).sum ≤ 4000000000000000) := hide (fun m => by
    have := sum_part (f := arQ) (rjoin hAnd [r] s) m fun x hx => arQ_nn (hpc x hx).1
    omega)
  obtain ⟨A, c, rfl, _⟩ := hs
  rw [← hsum]
  clear hsum htot hpc hc hr hw
  generalize rjoin hAnd [r] s = L at *
  obtain ⟨x0, y0, x1, y1⟩ := r
  show Calls Tryz.prog _ #[.agg #[.int .i64 x0, .int .i64 y0, .int .i64 x1, .int .i64 y1], .slice A s.length c] w _
  go_enter Tryz.func31, Tryz.ntmps31
  go_wp2_with (fail)
  obtain ⟨W, hW⟩ : ∃ x, x = (w.alloc (.cells #[.int .i64 x0, .int .i64 y0, .int .i64 x1, .int .i64 y1] 69)).alloc (.cells #[.int .i64 x0, .int .i64 y0, .int .i64 x1, .int .i64 y1] 69) := ⟨_, rfl⟩
  rw [← hW]
  have hb0 : Below w.heap.size w W := by rw [hW]; exact ((Below.refl _ _).alloc (Nat.le_refl _) _).alloc (by simp) _
  have hr1 : RdK encR 4 W W.heap.size (.slice (some ⟨w.heap.size + 1, 0, none⟩) 1 1) [⟨x0, y0, x1, y1⟩] := by
    try rw [hW]
    exact rd_lit_at (by simp) [⟨x0, y0, x1, y1⟩] 69 1
  refine (HJ.out W _ hb0 hr1).mono ?_
  rintro e w1 ⟨vo, rfl, ho, hb⟩
  have HB0 := hide (hb0.trans (hb.mono hb0.size))
  have hrd := own_rd ho (fun _ => rfl)
  obtain ⟨A2, c2, rfl, hcells⟩ := hrd
  have HRC := hide hcells
  clear hW hb0 hr1 hb ho hcells HJ
  go_wp2_with (fail)
  go_loopw [6, 7] (fun t i wr => ∃ m : Nat, m ≤ L.length ∧ i = .int .i64 m ∧ t = .int .i64 (((L.take m).map arQ).sum) ∧ Hid (Below w1.heap.size w1 wr)) (fun _ i _ => L.length - (intOf i).toNat)
  case atStart => exact ⟨0, Nat.zero_le _, rfl, by simp, hide (Below.refl _ _)⟩
  case round =>
    obtain ⟨m, hm, rfl, rfl, HB⟩ := hrel
    by_cases hlt : m < L.length
    · obtain ⟨q, hp⟩ : ∃ p, L[m]? = some p := ⟨_, List.getElem?_eq_getElem hlt⟩
      obtain ⟨b, o, rfl, hbl, k⟩ := HRC.out (by intro e; rw [e] at hlt; simp at hlt)
      have d0 : wr.cell? ⟨b, o + m * 4, none⟩ = some (.int .i64 q.x0) := (HB.out.cell (p := ⟨b, _, none⟩) hbl).trans (k m _ hp 0 _ rfl)
      have d1 : wr.cell? ⟨b, o + m * 4 + 1, none⟩ = some (.int .i64 q.y0) := (HB.out.cell (p := ⟨b, _, none⟩) hbl).trans (k m _ hp 1 _ rfl)
      have d2 : wr.cell? ⟨b, o + m * 4 + 2, none⟩ = some (.int .i64 q.x1) := (HB.out.cell (p := ⟨b, _, none⟩) hbl).trans (k m _ hp 2 _ rfl)
      have d3 : wr.cell? ⟨b, o + m * 4 + 3, none⟩ = some (.int .i64 q.y1) := (HB.out.cell (p := ⟨b, _, none⟩) hbl).trans (k m _ hp 3 _ rfl)
      have HQ := hide (HA.out q (List.mem_of_getElem? hp))
      have hsa := sumQ_at (f := arQ) hp
      obtain ⟨u1, u2⟩ := HBD.out m
      obtain ⟨u3, u4⟩ := HBD.out (m + 1)
      rw [hsa] at u3 u4
      have HS := hide hsa
      clear hsa
      generalize ((L.take m).map arQ).sum = T at *
      have t1 : IntKind.i64.wrap (T + arQ q) = T + arQ q := IntWalk.i64_in _ (by omega)
      have mz : (m : Int) < (L.length : Int) := by omega
      have lz : (L.length : Int) ≤ 100000000 := by omega
      clear k hp
      go_wp2_with (go_at_call 32; refine (HQ.out _).mono ?_; rintro e w2 ⟨rfl, hb2⟩; have HB2 := hide (HB.out.trans (hb2.mono HB.out.size)); clear hb2)
      go_roundw
      case rel => exact ⟨m + 1, by omega, by go_num, by rw [HS.out], HB2⟩
      case measure => simp [intOf]; omega
    · obtain rfl : m = L.length := by omega
      have HT : Hid (L.take L.length = L) := hide (List.take_length)
      go_wp2
      go_ret
      exact ⟨by rw [HT.out]; rfl, HB0.out.trans (HB.out.mono HB0.out.size)⟩
/-! The reference's front. -/
end Go.Proofs.YtdolpeljengpaaaGreat

/- Reached: of the code, and of the reference. -/
namespace Go.Proofs.YtdolpeljengpaaaGreat
open Go.RowKit
set_option linter.unusedVariables false
set_option linter.unusedSimpArgs false

/-- A parcel in a box of its own. -/
structure BoxQ (n : Nat) (w : World) (x : Par6) (wr : World) : Prop where
  b0 : wr.cell? ⟨n, 0, none⟩ = some (.int .i64 x.b)
  d0 : wr.cell? ⟨n, 1, none⟩ = some (.int .i64 x.l.r.x0)
  d1 : wr.cell? ⟨n, 2, none⟩ = some (.int .i64 x.l.r.y0)
  d2 : wr.cell? ⟨n, 3, none⟩ = some (.int .i64 x.l.r.x1)
  d3 : wr.cell? ⟨n, 4, none⟩ = some (.int .i64 x.l.r.y1)
  d4 : wr.cell? ⟨n, 5, none⟩ = some (.int .u8 x.l.f)
  below : Below n w wr
  size : n < wr.heap.size
theorem BoxQ.keep {n : Nat} {w wr w' : World} {x : Par6} (h : BoxQ n w x wr) (hb : Below wr.heap.size wr w') : BoxQ n w x w' := by
  have := h.size
  exact ⟨(hb.cell (p := ⟨n, 0, none⟩) (by simp; omega)).trans h.b0, (hb.cell (p := ⟨n, 1, none⟩) (by simp; omega)).trans h.d0, (hb.cell (p := ⟨n, 2, none⟩) (by simp; omega)).trans h.d1, (hb.cell (p := ⟨n, 3, none⟩) (by simp; omega)).trans h.d2, (hb.cell (p := ⟨n, 4, none⟩) (by simp; omega)).trans h.d3, (hb.cell (p := ⟨n, 5, none⟩) (by simp; omega)).trans h.d4, h.below.trans (hb.mono (by omega)), by have := hb.size; omega⟩
/-- What is reached at the first sides. -/
def rcP (l : Lot5) (s : List R4) : Nat → Int
  | 0 => 0
  | m + 1 => rcP l s m + if hasS l.f (2 ^ m) = true then onF (besF l.r m) s else 0
end Go.Proofs.YtdolpeljengpaaaGreat

/- The last step from a walk to a given statement, for every law of the seat: the call returns true, and what lay in memory lies as it lay. -/
namespace Go.Proofs.YtdolpeljengpaaaGreat
open Go.ChangeShapes Go.WideShapes Go.ChangeAt Go.RowKit Go.Joins Go.Deep
set_option linter.unusedVariables false
set_option linter.unusedSimpArgs false

theorem own : ownKnob Tryz.prog.godebug = none := by kernel_rfl
theorem laidOut : laidOutB Tryz.prog = true := by kernel_rfl

section
variable {H : Type} {enc : TypeId × Value → H}
theorem trodAll_carry {P : Program} (hl : laidOutB P = true) {W W' : World} (hb : Below W.heap.size W W') :
    ∀ (ts : List TypeId) (vs : List Value) (ds : List (DataW H)) (ps : List MemPlace), (ts.all fun t => P.readableRec t && decide (t < P.types.size)) = true →
      DataW.TrodAll enc P W 0 (fun _ => true) true ts vs ds ps → (∀ x ∈ ps, x.block < W.heap.size) → DataW.TrodAll enc P W' 0 (fun b => decide (b < W.heap.size)) true ts vs ds ps
  | [], [], [], ps, _, h, _ => h
  | [], [], _ :: _, _, _, h, _ => h.elim
  | [], _ :: _, _, _, _, h, _ => h.elim
  | _ :: _, [], _, _, _, h, _ => h.elim
  | _ :: _, _ :: _, [], _, _, h, _ => h.elim
  | t :: ts, v :: vs, d :: ds, ps, hr, h, hlt => by
    obtain ⟨p, q, h1, h2, rfl⟩ := h
    simp only [List.all_cons, Bool.and_eq_true, decide_eq_true_eq] at hr
    refine ⟨p, q, Below.trod hl hr.1.1 hr.1.2 h1 hb (fun x hx => hlt x (by simp [hx])), trodAll_carry hl hb ts vs ds q ?_ h2 (fun x hx => hlt x (by simp [hx])), rfl⟩
    simpa using hr.2

theorem law_post {P : Program} {f : Func} {s : ChangeSpec} {W W' : World} {args : Array Value} {ds gs : List (DataW H)} {before : List MemPlace} {tb : TypeId}
    (hl : laidOutB P = true) (hr : (f.params.toList.all fun t => P.readableRec t && decide (t < P.types.size)) = true) (hres : f.resultTypes = #[tb]) (hbool : P.underlying tb = some .bool)
    (hvars : s.vars = []) (hW : DataW.Whole enc P f.params.toList s.vars false W args.toList ds gs before)
    (hsr : (s.fn H (ds ++ gs)).results = [.lit (.bool true)]) (hsa : (s.fn H (ds ++ gs)).args = ds) (hsv : (s.fn H (ds ++ gs)).vars = [])
    (hb : Below W.heap.size W W') : s.post enc P f false true false false W args (.bool true) W' := by
  have hlt : ∀ p ∈ before, p.block < W.heap.size := fun p hp => hW.lt p hp
  have hW0 := hW
  obtain ⟨p, q, hA, hV, rfl, hz, hn⟩ := hW
  refine ⟨ds, gs, p ++ q, [], p, [], hW0, ?_, ?_, ?_, hb.frame _, fun h => by cases h⟩
  · rw [hsr, hres]
    exact trodAll_mk1 (shut_bool hbool true)
  · rw [hsa]
    exact trodAll_carry hl hb _ _ _ _ hr hA (fun x hx => hlt x (by simp [hx]))
  · rw [hsv, hvars]
    rfl
end
end Go.Proofs.YtdolpeljengpaaaGreat

/- An argument that is a list of structs of ints, read as a list. -/
namespace Go.Proofs.YtdolpeljengpaaaGreat
open Go.ChangeShapes Go.WideShapes Go.ChangeAt Go.RowKit Go.Joins Go.Deep
set_option linter.unusedVariables false
set_option linter.unusedSimpArgs false

section
variable {H : Type} {enc : TypeId × Value → H} {P : Program} {w : World} {base : Nat} {spare : Nat → Bool} {held : Bool}
/-- The fields of a struct of ints: each one cell, an int. -/
theorem trod_int_fields {t : TypeId} {fs : Array Field} {n : Nat} {cs : List Value} {y : DataW H × List MemPlace} (he : P.underlying t = some (.struct fs)) (hone : oneCellFields P fs = true) (hint : ∀ (j : Nat) (f : Field), fs[j]? = some f → P.underlying f.type = some (.int .i64))
    (hl : cs.length = fs.size) (h : DataW.trod enc P w base spare held n t cs = some y) : ∀ j, j < fs.size → ∃ z : Int, cs[j]? = some (.int .i64 z) := by
  obtain ⟨ys, n', _, _, _, hyl, hf⟩ := DataW.trod_struct he h
  intro j hj
  have hjf : fs[j]? = some fs[j] := Array.getElem?_eq_getElem hj
  obtain ⟨ho, hk⟩ := hone_of hone j _ hjf
  have h1 := hf j _ hjf
  rw [ho, hk] at h1
  have hd : (cs.drop j).take 1 = [cs[j]'(by omega)] := by rw [List.drop_eq_getElem_cons (by omega)]; rfl
  rw [hd] at h1
  have hy : ys[j]? = some (ys[j]'(by omega)) := List.getElem?_eq_getElem (by omega)
  rw [hy] at h1
  obtain ⟨z, hz, _⟩ := DataW.trod_int (hint j _ hjf) h1
  have hz' : cs[j]'(by omega) = .int .i64 z := by simpa using hz
  exact ⟨z, by rw [List.getElem?_eq_getElem (by omega), hz']⟩
end
end Go.Proofs.YtdolpeljengpaaaGreat

/- A slice that reads as a list of lists of rectangles; an argument that is one, read as such. -/
namespace Go.Proofs.YtdolpeljengpaaaGreat
open Go.ChangeShapes Go.WideShapes Go.ChangeAt Go.RowKit Go.Joins Go.Deep
set_option linter.unusedVariables false
set_option linter.unusedSimpArgs false

/-- The slice v reads as the lists bs, all of it below block B. -/
def RdRR (w : World) (B : Nat) (v : Value) (bs : List (List R4)) : Prop :=
  ∃ A c, v = .slice A bs.length c ∧ (bs ≠ [] → ∃ b off, A = some ⟨b, off, none⟩ ∧ b < B ∧ ∀ j x, bs[j]? = some x → ∃ u, w.cell? ⟨b, off + j, none⟩ = some u ∧ RdK encR 4 w B u x)
theorem RdRR.keep {w w' : World} {B : Nat} {v : Value} {bs : List (List R4)} (h : RdRR w B v bs) (hk : ∀ b o, b < B → w'.cell? ⟨b, o, none⟩ = w.cell? ⟨b, o, none⟩) : RdRR w' B v bs := by
  obtain ⟨A, c, hv, h⟩ := h
  refine ⟨A, c, hv, fun hl => ?_⟩
  obtain ⟨b, off, hA, hb, hc⟩ := h hl
  refine ⟨b, off, hA, hb, fun j x hx => ?_⟩
  obtain ⟨u, h1, h2⟩ := hc j x hx
  exact ⟨u, (hk b _ hb).trans h1, h2.keep hk⟩
theorem RdRR.mono {w : World} {B B' : Nat} {v : Value} {bs : List (List R4)} (h : RdRR w B v bs) (hB : B ≤ B') : RdRR w B' v bs := by
  obtain ⟨A, c, hv, h⟩ := h
  refine ⟨A, c, hv, fun hl => ?_⟩
  obtain ⟨b, off, hA, hb, hc⟩ := h hl
  refine ⟨b, off, hA, by omega, fun j x hx => ?_⟩
  obtain ⟨u, h1, h2⟩ := hc j x hx
  exact ⟨u, h1, h2.mono hB⟩
theorem RdRR.below {w w' : World} {B : Nat} {v : Value} {bs : List (List R4)} (h : RdRR w B v bs) (hb : Below B w w') : RdRR w' B v bs := h.keep fun b o hlt => hb.cell (p := ⟨b, o, none⟩) hlt
section
variable {H : Type} {enc : TypeId × Value → H} {P : Program} {w : World} {base : Nat} {spare : Nat → Bool} {held : Bool}
end
end Go.Proofs.YtdolpeljengpaaaGreat

/- Great, and the law LotsFronts. -/
namespace Go.Proofs.YtdolpeljengpaaaGreat
open Go.RowKit
set_option linter.unusedVariables false
set_option linter.unusedSimpArgs false

/-- Great comes back; a false says that all is small. -/
def GreatRet (bs : List (List R4)) (n : Nat) (e : Ending) : Prop := ∃ g, e = .returned (.bool g) ∧ (g = false → bs.length ≤ 410 ∧ (∀ b ∈ bs, b.length ≤ 420) ∧ n ≤ 420)
set_option maxRecDepth 100000 in
set_option maxHeartbeats 8000000 in
theorem rGreatB_any {w : World} {vb : Value} {bs : List (List R4)} (hb : RdRR w w.heap.size vb bs) (hl : bs.length ≤ maxLen) (hm : ∀ b ∈ bs, b.length ≤ maxLen) (A : Option Addr) (n c : Nat) (hn : n ≤ maxLen) :
    Calls Tryz.prog 63 #[vb, .slice A n c] w fun e w' => GreatRet bs n e ∧ Below w.heap.size w w' := by
  obtain ⟨Ab, cb, rfl, hc⟩ := hb
  have HRC := hide hc
  have HM := hide hm
  clear hc hm
  unfold maxLen at hl hn
  go_enter Tryz.func63, Tryz.ntmps63
  go_wp2
  go_loopw [5] (fun i wr => ∃ m : Nat, m ≤ bs.length ∧ m ≤ 410 ∧ i = .int .i64 m ∧ Hid (∀ j x, j < m → bs[j]? = some x → x.length ≤ 420) ∧ Hid (Below w.heap.size w wr)) (fun i _ => 410 - (intOf i).toNat)
  case atStart => exact ⟨0, Nat.zero_le _, Nat.zero_le _, rfl, hide (fun j x hj => absurd hj (Nat.not_lt_zero _)), hide (Below.refl _ _)⟩
  case round =>
    obtain ⟨m, hmb, hm4, rfl, HI, HB⟩ := hrel
    by_cases hlt : m < bs.length
    · by_cases h41 : m < 410
      · obtain ⟨b, hp⟩ : ∃ p, bs[m]? = some p := ⟨_, List.getElem?_eq_getElem hlt⟩
        obtain ⟨g, o, rfl, hbl, k⟩ := HRC.out (by intro e; rw [e] at hlt; simp at hlt)
        obtain ⟨u, d0, Ax, cx, rfl, _⟩ := k m _ hp
        have hbm : b.length ≤ maxLen := HM.out b (List.mem_of_getElem? hp)
        unfold maxLen at hbm
        have d0 := (HB.out.cell (p := ⟨g, o + m, none⟩) hbl).trans d0
        have HIS : Hid (b.length ≤ 420 → ∀ j x, j < m + 1 → bs[j]? = some x → x.length ≤ 420) := hide (fun h4 j x hj hx => by
          rcases Nat.lt_or_ge j m with h | h
          · exact HI.out j x h hx
          · obtain rfl : j = m := by omega
            rw [hp] at hx
            cases hx
            exact h4)
        have mz : (m : Int) < (bs.length : Int) := by omega
        have mz4 : (m : Int) < 410 := by omega
        clear k hp HI
        generalize b.length = q at *
        go_wp2
        all_goals first
          | (go_ret; exact ⟨⟨true, rfl, fun h => by cases h⟩, HB.out⟩)
          | exact ⟨⟨m + 1, by omega, by omega, by go_num, hide (HIS.out (by omega)), HB⟩, by simp [intOf]; omega⟩
      · obtain rfl : m = 410 := by omega
        have mz4 : (410 : Int) < (bs.length : Int) := by omega
        clear HI
        go_wp2
        all_goals
          go_ret
          exact ⟨⟨_, rfl, fun h => by first | omega | (simp at h; done) | (simp at h; omega)⟩, HB.out⟩
    · obtain rfl : m = bs.length := by omega
      have HA : Hid (∀ b ∈ bs, b.length ≤ 420) := hide (fun b hb => by
        obtain ⟨j, hj⟩ := List.getElem?_of_mem hb
        exact HI.out j b (List.getElem?_eq_some_iff.1 hj).1 hj)
      clear HI
      go_wp2
      all_goals
        go_ret
        exact ⟨⟨_, rfl, fun h => ⟨by first | omega | (simp at h; done) | (simp at h; omega), HA.out, by first | omega | (simp at h; done) | (simp at h; omega)⟩⟩, HB.out⟩
end Go.Proofs.YtdolpeljengpaaaGreat

/- The walk of parcel.Split. -/
namespace Go.Proofs.YtdolpeljengpaaaGreat
open Go.RowKit
set_option linter.unusedVariables false
set_option linter.unusedSimpArgs false

set_option maxRecDepth 100000 in
set_option maxHeartbeats 8000000 in
theorem psplit_any (l : Lot5) (p : Pl3) (hf : 0 ≤ l.f ∧ l.f ≤ 255) (w : World) : Calls Tryz.prog 71 #[.agg (encL l).toArray, .agg (encP p).toArray] w (LotsRet w (splitR l p)) := by
  have HCK := hide (fun W => checkL_any l p hf W)
  obtain ⟨i1, gi, gz0, gz1, gz2⟩ := info_parts infoLot
  obtain ⟨i2, fi, fz0, fz1, fz2⟩ := info_parts infoLand
  by_cases h0 : checkL l p = 0
  · have hv := checkL_valid h0
    have hsz := sizeL_le hv
    have HST := hide (StackOk.start (p := p) hv)
    have hnd : nodesS p [l] = nodes p l := by simp [nodesS]
    have HND := hide hnd
    have HCU : Hid (∀ x, validL x → ∀ W, Calls Tryz.prog 119 #[.agg (encL x).toArray, .agg (encP p).toArray] W fun e w' => e = .returned (.tuple #[.agg (encL (cutR x p).1).toArray, .agg (encL (cutR x p).2.1).toArray, .bool (cutR x p).2.2]) ∧ Below W.heap.size W w') := hide (fun x hx W => cut_any x p hx W)
    have HR : Hid (splitR l p = if (leaves p l).length ≤ 400 then (leaves p l, 0) else ([], 4)) := hide (if_pos h0)
    have HTOP : Hid (sizeL l ≤ 4000000) := hide hsz
    rw [h0] at HCK
    clear h0 hv hf hsz hnd
    show Calls Tryz.prog _ #[.agg #[.int .i64 l.r.x0, .int .i64 l.r.y0, .int .i64 l.r.x1, .int .i64 l.r.y1, .int .u8 l.f], .agg #[.int .i64 p.mf, .int .i64 p.ms, .int .i64 p.ma]] w (LotsRet w (splitR l p))
    simp only [encL, encP] at HCK HCU
    go_enter Tryz.func71, Tryz.ntmps71
    go_wp2_with (fail)
    obtain ⟨W, hW⟩ : ∃ x, x = (w.alloc (.cells #[.int .i64 l.r.x0, .int .i64 l.r.y0, .int .i64 l.r.x1, .int .i64 l.r.y1, .int .u8 l.f] 71)).alloc (.cells #[.int .i64 p.mf, .int .i64 p.ms, .int .i64 p.ma] 58) := ⟨_, rfl⟩
    rw [← hW]
    have hb0 : Below w.heap.size w W := by rw [hW]; exact ((Below.refl _ _).alloc (Nat.le_refl _) _).alloc (by simp) _
    have hs0 : w.heap.size + 2 ≤ W.heap.size := by rw [hW]; simp
    have HL : Box5L W w.heap.size l := by rw [hW]; refine ⟨?_, ?_, ?_, ?_, ?_, ?_, ?_, ?_, ?_, ?_⟩ <;> simp [go_sem]
    have HP : Box3 W (w.heap.size + 1) (.int .i64 p.mf) (.int .i64 p.ms) (.int .i64 p.ma) := by rw [hW]; refine ⟨?_, ?_, ?_⟩ <;> simp [go_sem]
    obtain ⟨n, hn⟩ : ∃ n, w.heap.size = n := ⟨_, rfl⟩
    rw [hn] at hb0 hs0 HL HP ⊢
    have K0 := hide hb0
    have HN := hide hn
    clear hW hb0 hn
    refine (HCK.out _).mono ?_
    rintro e w1 ⟨rfl, hb⟩
    have HL1 := HL.below hb
    have HP1 := HP.below hb
    have K1 := hide (K0.out.trans (hb.mono (by omega)))
    have hs1 : n + 2 ≤ w1.heap.size := Nat.le_trans hs0 hb.size
    clear hb HL HP K0 hs0
    obtain ⟨l0, l1, l2, l3, l4, -, -, -, -, -⟩ := id HL1
    go_wp2_with (fail)
    refine wp_name5 fun w2 hw2 => ?_
    have HRW : Hid (Rows2 n w p [] [l] (.slice none 0 0) (.slice (some ⟨w1.heap.size, 0, none⟩) 1 1) 0 1 w2) := hide (by
      rw [hw2]
      exact ⟨World.ownsRow_nil _ _ _ _, World.ownsRow_lit (base := n + 2) (size := 5) w1 _ 1 hs1 (by simp [maxLen]) rfl, K1.out.alloc (by omega) _, by simp; omega, HP1.below ((Below.refl _ _).alloc (Nat.le_refl _) _)⟩)
    generalize w1.heap.size = g0 at *
    clear hw2 HL1 HP1 K1 hs1 l0 l1 l2 l3 l4 HCK
    go_loopg [7, 8] (nodes p l) (fun gg ov sv wr => ∃ (O S : List Lot5) (A : Option Addr) (c g cp no ns : Nat), ov = .slice A no c ∧ sv = .slice (some ⟨g, 0, none⟩) ns cp ∧ Hid (Rows2 n w p O S ov sv no ns wr) ∧ Hid (StackOk l p O S ∧ nodesS p S ≤ gg))
    case atStart => exact ⟨[], [l], none, 0, g0, 1, 0, 1, rfl, rfl, HRW, hide ⟨HST.out, by rw [HND.out]; exact Nat.le_refl _⟩⟩
    case round =>
      clear HRW HST HND
      obtain ⟨O, S, A, c, g, cp, no, ns, rfl, rfl, HRW, HS⟩ := hrel
      have hno : no = O.length := own_len HRW.out.rowO (fun _ => rfl) (by omega)
      have hns : ns = S.length := own_len HRW.out.rowS (fun _ => rfl) (by omega)
      have hno4 : no ≤ 400 := by rw [hno]; exact HS.out.1.lenO
      have HNO := hide hno
      have HNS := hide hns
      clear hno hns
      rcases List.eq_nil_or_concat S with hS | ⟨S', x, hS⟩
      · subst hS
        obtain rfl : ns = 0 := HNS.out
        have HE : Hid (O = leaves p l) := hide (by have := HS.out.1.eq; simpa [stackL] using this)
        have HB := hide HRW.out.below
        go_wp2
        go_ret2
        refine ⟨⟨A, c, ?_, ?_⟩, ?_⟩
        · rw [HR.out, if_pos (by rw [← HE.out, ← HNO.out]; exact hno4)]
          show _ = Ending.returned (.tuple #[.slice A (leaves p l).length c, .int .i64 0])
          rw [← HE.out, ← HNO.out]
          rfl
        · rw [HR.out, if_pos (by rw [← HE.out, ← HNO.out]; exact hno4)]
          show World.ownsRow _ _ _ _ (.slice A (leaves p l).length c) (leaves p l).length ((leaves p l).flatMap encL)
          rw [← HE.out, ← HNO.out, HN.out]
          exact own_base HRW.out.rowO (by omega)
        · rw [HN.out]; exact HB.out
      · rw [List.concat_eq_append] at hS
        subst hS
        obtain ⟨k, rfl⟩ : ∃ k, ns = k + 1 := ⟨S'.length, by rw [HNS.out]; simp⟩
        obtain ⟨hk, hcell⟩ := HRW.out.top
        obtain ⟨hvx, hkx⟩ := HS.out.1.top
        have hkz : k ≤ 4000000 := by have := HTOP.out; omega
        have c0 := hcell 0 _ rfl
        have c1 := hcell 1 _ rfl
        have c2 := hcell 2 _ rfl
        have c3 := hcell 3 _ rfl
        have c4 := hcell 4 _ rfl
        simp only [Nat.add_zero] at c0
        have HX := hide (HCU.out x hvx)
        obtain ⟨⟨X, Y, ok⟩, hC⟩ : ∃ C, cutR x p = C := ⟨_, rfl⟩
        rw [hC] at HX
        simp only at HX
        have HC := hide hC
        have HPOP := hide HRW.out.pop
        obtain ⟨p0, p1, p2⟩ := HRW.out.box
        have hn1 : n + 1 < wr.heap.size := by have := HRW.out.size; omega
        have hcp : k + 1 ≤ cp := row_cap HRW.out.rowS
        have hcp1 : k ≤ cp := by omega
        have hcp2 : ¬ cp = 0 := by omega
        have hcp3 : (k : Int) ≤ (cp : Int) := by omega
        clear hcell hvx hkx hk hC HRW HNS
        go_wp2_with (fail)
        refine calls_name fun w7 hw7 => ?_
        have hb7 : Below wr.heap.size wr w7 := by
          rw [hw7]
          repeat (first | with_reducible exact Below.refl _ _ | with_reducible refine Below.setCell ?_ (by simp) _ | with_reducible refine Below.alloc ?_ (by simp) _)
        have HBX : Box5L w7 wr.heap.size x := by rw [hw7]; refine ⟨?_, ?_, ?_, ?_, ?_, ?_, ?_, ?_, ?_, ?_⟩ <;> simp [go_sem]
        have HR7 := hide (HPOP.out.keep hb7)
        generalize wr.heap.size = m at *
        clear hw7 hb7 HPOP c0 c1 c2 c3 c4 p0 p1 p2 hn1
        refine (HX.out _).mono ?_
        rintro e w8 ⟨rfl, hb⟩
        have HBX8 := HBX.below hb
        have HR8 := hide (HR7.out.keep hb)
        clear hb HBX HR7 HX
        cases ok with
        | true =>
          have HCT := hide (cutR_true HC.out)
          go_upto_region 11 with fail
          refine wp_name5 fun Z hZ => ?_
          have HXZ : Box5L Z w8.heap.size X := by rw [hZ]; refine ⟨?_, ?_, ?_, ?_, ?_, ?_, ?_, ?_, ?_, ?_⟩ <;> simp [go_sem]
          have HYZ : Box5L Z (w8.heap.size + 1) Y := by rw [hZ]; refine ⟨?_, ?_, ?_, ?_, ?_, ?_, ?_, ?_, ?_, ?_⟩ <;> simp [go_sem]
          have hbz : Below w8.heap.size w8 Z := by
            rw [hZ]
            repeat (first | with_reducible exact Below.refl _ _ | with_reducible refine Below.setCell ?_ (by first | (simp; done) | (simp; omega)) _ | with_reducible refine Below.alloc ?_ (by first | omega | (simp; omega) | simp) _)
          have HRZ := hide (HR8.out.keep hbz)
          have hnz : n + 2 ≤ Z.heap.size := HRZ.out.size
          generalize w8.heap.size = q at *
          clear hZ hbz HR8 HBX8
          obtain ⟨a0, a1, a2, a3, a4, -, -, -, -, -⟩ := HXZ
          obtain ⟨b0, b1, b2, b3, b4, -, -, -, -, -⟩ := HYZ
          go_wp2_with (at_builtin; go_loud (refine wpList_append_lies _ rfl (.tmp 43) (.tmp 46) 178 rfl (n + 2) 176 i2 (.agg #[.int .i64 0, .int .i64 0, .int .i64 0, .int .i64 0, .int .u8 0]) 5 40 Tryz.underlying178 fi fz0 fz1 fz2 rfl (by decide) _ k _ rfl (World.ownsRow.alloc HRZ.out.rowS _) ⟨Z.heap.size, 0, none⟩ 2 2 [.int .i64 Y.r.x0, .int .i64 Y.r.y0, .int .i64 Y.r.x1, .int .i64 Y.r.y1, .int .u8 Y.f, .int .i64 X.r.x0, .int .i64 X.r.y0, .int .i64 X.r.x1, .int .i64 X.r.y1, .int .u8 X.f] rfl rfl (news_new Z _ _ _ rfl) (ints_one rfl) (by omega) (by unfold maxLen; omega) (by omega) (by simp; omega) _ rfl ?_))
          intro g2 cp2 w9 hown hgrow hg2 hlt
          have HR9 : Hid (Rows2 n w p O (S' ++ [Y, X]) (.slice A no c) (.slice (some ⟨g2, 0, none⟩) (k + 2) cp2) no (k + 2) w9) := hide ((HRZ.out.keep ((Below.refl _ _).alloc (Nat.le_refl _) _)).pushS hgrow (by rw [List.flatMap_append]; exact hown))
          clear hown hgrow hg2 hlt a0 a1 a2 a3 a4 b0 b1 b2 b3 b4
          go_wp2
          go_roundg (nodesS p (S' ++ [Y, X]))
          case measure => have h1 := nodes_cut (S := S') HCT.out; have h2 := HS.out.2; omega
          case rel => exact ⟨O, S' ++ [Y, X], A, c, g2, cp2, no, k + 2, rfl, rfl, HR9, hide ⟨HS.out.1.cut HCT.out, Nat.le_refl _⟩⟩
        | false =>
          have HCF := hide (cutR_false HC.out)
          go_upto_region 12 with fail
          refine wp_name5 fun Z hZ => ?_
          have hbz : Below w8.heap.size w8 Z := by
            rw [hZ]
            repeat (first | with_reducible exact Below.refl _ _ | with_reducible refine Below.setCell ?_ (by first | (simp; done) | (simp; omega)) _ | with_reducible refine Below.alloc ?_ (by first | omega | (simp; omega) | simp) _)
          have HBZ := HBX8.below hbz
          have HRZ := hide (HR8.out.keep hbz)
          have hnz : n + 2 ≤ Z.heap.size := HRZ.out.size
          clear hZ hbz HR8 HBX8
          obtain ⟨a0, a1, a2, a3, a4, -, -, -, -, -⟩ := HBZ
          by_cases hmany : no + 1 ≤ 400
          · go_wp2_with (at_builtin; go_loud (refine wpList_append_lies _ rfl (.tmp 48) (.tmp 50) 124 rfl (n + 2) 71 i1 (.agg #[.int .i64 0, .int .i64 0, .int .i64 0, .int .i64 0, .int .u8 0]) 5 40 Tryz.underlying124 gi gz0 gz1 gz2 rfl (by decide) _ no _ rfl (World.ownsRow.alloc HRZ.out.rowO _) ⟨Z.heap.size, 0, none⟩ 1 1 [.int .i64 x.r.x0, .int .i64 x.r.y0, .int .i64 x.r.x1, .int .i64 x.r.y1, .int .u8 x.f] rfl rfl (news_new Z _ _ _ rfl) (ints_one rfl) (by omega) (by unfold maxLen; omega) (by omega) (by simp; omega) _ rfl ?_))
            intro g2 cp2 w9 hown hgrow hg2 hlt
            have HR9 : Hid (Rows2 n w p (O ++ [x]) S' (.slice (some ⟨g2, 0, none⟩) (no + 1) cp2) (.slice (some ⟨g, 0, none⟩) k cp) (no + 1) k w9) := hide ((HRZ.out.keep ((Below.refl _ _).alloc (Nat.le_refl _) _)).pushO hgrow (by rw [List.flatMap_append]; exact hown))
            clear hown hgrow hg2 hlt a0 a1 a2 a3 a4
            go_wp2
            go_roundg (nodesS p S')
            case measure => have h1 := nodes_leaf (S := S') HCF.out; have h2 := HS.out.2; omega
            case rel => exact ⟨O ++ [x], S', _, cp2, g, cp, no + 1, k, rfl, rfl, HR9, hide ⟨HS.out.1.leaf HCF.out (by rw [← HNO.out]; exact hmany), Nat.le_refl _⟩⟩
          · have hmz : 400 < no + 1 := by omega
            have HM := hide (HS.out.1.many (by rw [← HNO.out]; exact hmz))
            go_wp2_with (at_builtin; go_loud (refine wpList_append_lies _ rfl (.tmp 48) (.tmp 50) 124 rfl (n + 2) 71 i1 (.agg #[.int .i64 0, .int .i64 0, .int .i64 0, .int .i64 0, .int .u8 0]) 5 40 Tryz.underlying124 gi gz0 gz1 gz2 rfl (by decide) _ no _ rfl (World.ownsRow.alloc HRZ.out.rowO _) ⟨Z.heap.size, 0, none⟩ 1 1 [.int .i64 x.r.x0, .int .i64 x.r.y0, .int .i64 x.r.x1, .int .i64 x.r.y1, .int .u8 x.f] rfl rfl (news_new Z _ _ _ rfl) (ints_one rfl) (by omega) (by unfold maxLen; omega) (by omega) (by simp; omega) _ rfl ?_))
            intro g2 cp2 w9 hown hgrow hg2 hlt
            have HR9 : Hid (Rows2 n w p (O ++ [x]) S' (.slice (some ⟨g2, 0, none⟩) (no + 1) cp2) (.slice (some ⟨g, 0, none⟩) k cp) (no + 1) k w9) := hide ((HRZ.out.keep ((Below.refl _ _).alloc (Nat.le_refl _) _)).pushO hgrow (by rw [List.flatMap_append]; exact hown))
            clear hown hgrow hg2 hlt a0 a1 a2 a3 a4
            go_wp2
            go_ret2
            have hr : splitR l p = ([], 4) := by rw [HR.out, if_neg (by have := HM.out; omega)]
            exact ⟨⟨none, 0, by rw [hr]; rfl, by rw [hr]; exact World.ownsRow_nil _ _ _ _⟩, by rw [HN.out]; exact HR9.out.below⟩
  · have HR : Hid (splitR l p = ([], checkL l p)) := hide (if_neg h0)
    clear hf
    generalize splitR l p = R at *
    generalize checkL l p = ck at *
    have hne : (ck != 0) = true := by simpa using h0
    clear h0
    obtain ⟨⟨x0, y0, x1, y1⟩, f⟩ := l
    obtain ⟨mf, ms, ma⟩ := p
    show Calls Tryz.prog _ #[.agg #[.int .i64 x0, .int .i64 y0, .int .i64 x1, .int .i64 y1, .int .u8 f], .agg #[.int .i64 mf, .int .i64 ms, .int .i64 ma]] w (LotsRet w R)
    simp only [encL, encP] at HCK
    go_enter Tryz.func71, Tryz.ntmps71
    go_wp2_with (fail)
    obtain ⟨W, hW⟩ : ∃ x, x = (w.alloc (.cells #[.int .i64 x0, .int .i64 y0, .int .i64 x1, .int .i64 y1, .int .u8 f] 71)).alloc (.cells #[.int .i64 mf, .int .i64 ms, .int .i64 ma] 58) := ⟨_, rfl⟩
    rw [← hW]
    have hb0 : Below w.heap.size w W := by rw [hW]; exact ((Below.refl _ _).alloc (Nat.le_refl _) _).alloc (by simp) _
    have hs0 : w.heap.size + 2 ≤ W.heap.size := by rw [hW]; simp
    have HL : Box5L W w.heap.size ⟨⟨x0, y0, x1, y1⟩, f⟩ := by rw [hW]; refine ⟨?_, ?_, ?_, ?_, ?_, ?_, ?_, ?_, ?_, ?_⟩ <;> simp [go_sem]
    have HP : Box3 W (w.heap.size + 1) (.int .i64 mf) (.int .i64 ms) (.int .i64 ma) := by rw [hW]; refine ⟨?_, ?_, ?_⟩ <;> simp [go_sem]
    obtain ⟨n, hn⟩ : ∃ n, w.heap.size = n := ⟨_, rfl⟩
    rw [hn] at hb0 hs0 HL HP
    have K0 := hide hb0
    clear hW hb0
    refine (HCK.out _).mono ?_
    rintro e w1 ⟨rfl, hb⟩
    have K1 := hide (K0.out.trans (hb.mono (by omega)))
    clear hb
    go_wp2_with (fail)
    go_ret2
    exact ⟨⟨none, 0, by rw [HR.out]; rfl, by rw [HR.out]; exact World.ownsRow_nil _ _ _ _⟩, by rw [hn]; exact K1.out⟩
end Go.Proofs.YtdolpeljengpaaaGreat

/- Arguments that are a lot, or wishes, read as such. -/
namespace Go.Proofs.YtdolpeljengpaaaGreat
open Go.ChangeShapes Go.WideShapes Go.ChangeAt Go.RowKit Go.Joins Go.Deep
set_option linter.unusedVariables false
set_option linter.unusedSimpArgs false

section
variable {H : Type} {enc : TypeId × Value → H} {w : World} {base : Nat} {spare : Nat → Bool} {held : Bool}
set_option maxRecDepth 100000 in
theorem open_plat {v : Value} {d : DataW H} {p : List MemPlace} {r : Reach} {b0 : Nat} (hv : Value.okWide Tryz.prog w r b0 58 v) (h : DataW.Trod enc Tryz.prog w base spare held 58 v d p) : ∃ q : Pl3, v = .agg (encP q).toArray := by
  have h3 : Tryz.prog.cellsOf 58 = 3 := by kernel_rfl
  obtain ⟨c0, c1, c2, y0, y1, y2, m, rfl, _, _, hy0, hy1, hy2⟩ := open_agg3 Tryz.underlying58 (by kernel_rfl) h3 hv h
  obtain ⟨a, e0, _, _⟩ := DataW.trod_int Tryz.underlying3 hy0
  obtain ⟨b, e1, _, _⟩ := DataW.trod_int Tryz.underlying3 hy1
  obtain ⟨c, e2, _, _⟩ := DataW.trod_int Tryz.underlying2 hy2
  simp at e0 e1 e2
  subst e0 e1 e2
  exact ⟨⟨a, b, c⟩, rfl⟩
end
end Go.Proofs.YtdolpeljengpaaaGreat

/- Arguments that are a rectangle, or a parcel, read as such. -/
namespace Go.Proofs.YtdolpeljengpaaaGreat
open Go.ChangeShapes Go.WideShapes Go.ChangeAt Go.RowKit Go.Joins Go.Deep
set_option linter.unusedVariables false
set_option linter.unusedSimpArgs false

section
variable {H : Type} {enc : TypeId × Value → H} {w : World} {base : Nat} {spare : Nat → Bool} {held : Bool}
end
end Go.Proofs.YtdolpeljengpaaaGreat

/- The walk of lots.Lots. -/
namespace Go.Proofs.YtdolpeljengpaaaGreat
open Go.RowKit
set_option linter.unusedVariables false
set_option linter.unusedSimpArgs false

/-- A list of parcels and a code come back. -/
def ParsRet (w : World) (R : List Par6 × Int) (e : Ending) (w' : World) : Prop :=
  (∃ A c, e = .returned (.tuple #[.slice A R.1.length c, .int .i64 R.2]) ∧ w'.ownsRow w.heap.size 73 6 (.slice A R.1.length c) R.1.length (R.1.flatMap encQ)) ∧ Below w.heap.size w w'
theorem infoPar : (Tryz.prog.info? 73).map (fun i => (i.zero, i.size, i.bytes)) = some (some (.agg #[.int .i64 0, .int .i64 0, .int .i64 0, .int .i64 0, .int .i64 0, .int .u8 0]), 6, 48) := by kernel_rfl
structure LI (n : Nat) (w : World) (p : Pl3) (O : List Par6) (ov : Value) (no : Nat) (wr : World) : Prop where
  row : wr.ownsRow (n + 1) 73 6 ov no (O.flatMap encQ)
  below : Below n w wr
  size : n + 1 ≤ wr.heap.size
  box : Box3 wr n (.int .i64 p.mf) (.int .i64 p.ms) (.int .i64 p.ma)
theorem LI.keep {n : Nat} {w wr w' : World} {p : Pl3} {O : List Par6} {ov : Value} {no : Nat} (h : LI n w p O ov no wr) (hb : Below wr.heap.size wr w') : LI n w p O ov no w' :=
  ⟨own_below h.row hb, h.below.trans (hb.mono (by have := h.size; omega)), Nat.le_trans h.size hb.size, h.box.below hb⟩
theorem LI.push {n : Nat} {w wr w' : World} {p : Pl3} {O O' : List Par6} {ov ov' : Value} {no no' : Nat} (h : LI n w p O ov no wr) (hg : wr.grownBy w' ov.ownBlock) (ho : w'.ownsRow (n + 1) 73 6 ov' no' (O'.flatMap encQ)) : LI n w p O' ov' no' w' := by
  have hr : ∀ q, ov.ownBlock = some q → n + 1 ≤ q := fun q hq => (h.row.lt q hq).1
  exact ⟨ho, h.below.grown hg (by have := h.size; omega) (fun q hq => by have := hr q hq; omega), Nat.le_trans h.size hg.size, box_grown h.box hg (fun q hq => by have := hr q hq; omega)⟩
theorem LI.len {n : Nat} {w wr : World} {p : Pl3} {O : List Par6} {ov : Value} {no : Nat} (h : LI n w p O ov no wr) : no = O.length := own_len h.row (fun _ => rfl) (by omega)
theorem lot_par : 71 ≠ 73 := by decide
/-- A rectangle's four cells. -/
structure Cell4 (q : Nat) (r : R4) (wr : World) : Prop where
  d0 : wr.cell? ⟨q, 0, none⟩ = some (.int .i64 r.x0)
  d1 : wr.cell? ⟨q, 1, none⟩ = some (.int .i64 r.y0)
  d2 : wr.cell? ⟨q, 2, none⟩ = some (.int .i64 r.x1)
  d3 : wr.cell? ⟨q, 3, none⟩ = some (.int .i64 r.y1)
  lt : q < wr.heap.size
theorem Cell4.keep {q : Nat} {r : R4} {wr w' : World} (h : Cell4 q r wr) (hb : Below wr.heap.size wr w') : w'.cell? ⟨q, 0, none⟩ = some (.int .i64 r.x0) ∧ w'.cell? ⟨q, 1, none⟩ = some (.int .i64 r.y0) ∧ w'.cell? ⟨q, 2, none⟩ = some (.int .i64 r.x1) ∧ w'.cell? ⟨q, 3, none⟩ = some (.int .i64 r.y1) :=
  ⟨(hb.cell (p := ⟨q, 0, none⟩) h.lt).trans h.d0, (hb.cell (p := ⟨q, 1, none⟩) h.lt).trans h.d1, (hb.cell (p := ⟨q, 2, none⟩) h.lt).trans h.d2, (hb.cell (p := ⟨q, 3, none⟩) h.lt).trans h.d3⟩
/-- A lot in a box of its own. -/
structure BoxL5 (q : Nat) (l : Lot5) (wr : World) : Prop where
  d0 : wr.cell? ⟨q, 0, none⟩ = some (.int .i64 l.r.x0)
  d1 : wr.cell? ⟨q, 1, none⟩ = some (.int .i64 l.r.y0)
  d2 : wr.cell? ⟨q, 2, none⟩ = some (.int .i64 l.r.x1)
  d3 : wr.cell? ⟨q, 3, none⟩ = some (.int .i64 l.r.y1)
  d4 : wr.cell? ⟨q, 4, none⟩ = some (.int .u8 l.f)
  lt : q < wr.heap.size
theorem few_all {s : List R4} {p : Pl3} {bs : List (List R4)} (h : ∀ (m : Nat) (b : List R4), bs[m]? = some b → ∀ (j : Nat) (r : R4), b[j]? = some r → (rectR s p r).2 = 0) : fewF s p bs = true := by
  unfold fewF
  rw [List.all_eq_true]
  intro b hb
  rw [List.all_eq_true]
  intro r hr
  obtain ⟨m, hm⟩ := List.getElem?_of_mem hb
  obtain ⟨j, hj⟩ := List.getElem?_of_mem hr
  exact decide_eq_true (h m b hm j r hj)
structure LotsOk (bs : List (List R4)) (s : List R4) (p : Pl3) : Prop where
  chk : checkF s = 0
  len : bs.length ≤ 400
  bad : badF bs = 0
  ok : okW p = 0
theorem LotsOk.eq {bs : List (List R4)} {s : List R4} {p : Pl3} (h : LotsOk bs s p) : lotsF bs s p = if fewF s p bs = true ∧ (pcA s p 0 bs).length ≤ 600 then (pcA s p 0 bs, 0) else ([], 4) := by
  have := h.len
  unfold lotsF
  rw [if_neg (by rw [h.chk]; simp), if_neg (by omega), if_neg (by rw [h.bad]; simp), if_neg (by rw [h.ok]; simp)]
theorem LotsOk.long {bs : List (List R4)} {s : List R4} {p : Pl3} (h : LotsOk bs s p) (hl : 600 < (pcA s p 0 bs).length) : lotsF bs s p = ([], 4) := by
  rw [h.eq, if_neg (fun g => by omega)]
theorem LotsOk.few {bs : List (List R4)} {s : List R4} {p : Pl3} (h : LotsOk bs s p) (hf : fewF s p bs = false) : lotsF bs s p = ([], 4) := by
  rw [h.eq, if_neg (fun g => by rw [hf] at g; exact Bool.false_ne_true g.1)]
theorem LotsOk.all {bs : List (List R4)} {s : List R4} {p : Pl3} (h : LotsOk bs s p) (hf : fewF s p bs = true) (hl : (pcA s p 0 bs).length ≤ 600) : lotsF bs s p = (pcA s p 0 bs, 0) := by
  rw [h.eq, if_pos ⟨hf, hl⟩]
theorem pars_nil {w w' : World} {R : List Par6 × Int} {k : Int} (h : R = ([], k)) (hb : Below w.heap.size w w') : ParsRet w R (.returned (.tuple #[.slice none 0 0, .int .i64 k])) w' := by
  subst h
  exact ⟨⟨none, 0, rfl, World.ownsRow_nil _ _ _ _⟩, hb⟩
set_option maxRecDepth 100000 in
set_option maxHeartbeats 16000000 in
theorem lots_any {w : World} {vb v : Value} {bs : List (List R4)} {s : List R4} (hb : RdRR w w.heap.size vb bs) (hs : RdK encR 4 w w.heap.size v s) (p : Pl3) (nb : bs.length ≤ 410) (mb : ∀ b ∈ bs, b.length ≤ 420) (ns : s.length ≤ 420) :
    Calls Tryz.prog 29 #[vb, v, .agg (encP p).toArray] w (ParsRet w (lotsF bs s p)) := by
  obtain ⟨i1, gi, gz0, gz1, gz2⟩ := info_parts infoPar
  have HCK : Hid (∀ W : World, Below w.heap.size w W → Calls Tryz.prog 68 #[v] W fun e w' => e = .returned (.int .i64 (checkF s)) ∧ Below W.heap.size W w') := hide (fun W hw => check_any ((hs.below hw).mono hw.size) (by omega))
  have HCB : Hid (∀ (b : List R4) (u : Value), b ∈ bs → RdK encR 4 w w.heap.size u b → ∀ W : World, Below w.heap.size w W → Calls Tryz.prog 68 #[u] W fun e w' => e = .returned (.int .i64 (checkF b)) ∧ Below W.heap.size W w') := hide (fun b u hm hu W hw => check_any ((hu.below hw).mono hw.size) (by have := mb b hm; omega))
  have HPC : Hid (∀ W : World, Calls Tryz.prog 69 #[.agg #[.int .i64 0, .int .i64 0, .int .i64 1, .int .i64 1, .int .u8 1], .agg #[.int .i64 p.mf, .int .i64 p.ms, .int .i64 p.ma]] W fun e w' => e = .returned (.int .i64 (okW p)) ∧ Below W.heap.size W w') := hide (fun W => checkL_any ⟨⟨0, 0, 1, 1⟩, 1⟩ p (by decide) W)
  have HFR : Hid (checkF s = 0 → ∀ r : R4, okR r → ∀ W : World, Below w.heap.size w W → Calls Tryz.prog 70 #[.agg #[.int .i64 r.x0, .int .i64 r.y0, .int .i64 r.x1, .int .i64 r.y1], v] W fun e w' => e = .returned (.int .u8 (frF r s)) ∧ Below W.heap.size W w') := hide (fun hc r hr W hw => fronts_any r hr ((hs.below hw).mono hw.size) (fun q hq => (ok_valid q).2 ((checkF_ok hc).2.1 q hq)) (checkF_ok hc).1)
  have HSP : Hid (∀ (r : R4) (f : Int), 0 ≤ f ∧ f ≤ 15 → ∀ W : World, Calls Tryz.prog 71 #[.agg #[.int .i64 r.x0, .int .i64 r.y0, .int .i64 r.x1, .int .i64 r.y1, .int .u8 f], .agg #[.int .i64 p.mf, .int .i64 p.ms, .int .i64 p.ma]] W (LotsRet W (splitR ⟨r, f⟩ p))) := hide (fun r f hf W => psplit_any ⟨r, f⟩ p ⟨hf.1, by show f ≤ 255; omega⟩ W)
  obtain ⟨Ab, cb, rfl, hbc⟩ := hb
  obtain ⟨As, cs, rfl, _⟩ := hs
  have HRB := hide hbc
  have HMB := hide mb
  have HW0 : Hid (Box3 (w.alloc (.cells #[.int .i64 p.mf, .int .i64 p.ms, .int .i64 p.ma] 58)) w.heap.size (.int .i64 p.mf) (.int .i64 p.ms) (.int .i64 p.ma) ∧ Below w.heap.size w (w.alloc (.cells #[.int .i64 p.mf, .int .i64 p.ms, .int .i64 p.ma] 58)) ∧ w.heap.size + 1 ≤ (w.alloc (.cells #[.int .i64 p.mf, .int .i64 p.ms, .int .i64 p.ma] 58)).heap.size) := hide ⟨⟨by simp [go_sem], by simp [go_sem], by simp [go_sem]⟩, (Below.refl _ _).alloc (Nat.le_refl _) _, by simp⟩
  generalize hW : w.alloc (.cells #[.int .i64 p.mf, .int .i64 p.ms, .int .i64 p.ma] 58) = W at *
  have nz : (bs.length : Int) ≤ 410 := by omega
  clear hbc mb
  have HI : Hid (LI w.heap.size w p [] (.slice none 0 0) 0 W) := hide ⟨World.ownsRow_nil _ _ _ _, HW0.out.2.1, HW0.out.2.2, HW0.out.1⟩
  clear HW0
  generalize hn : w.heap.size = n at *
  have HN := hide hn
  show Calls Tryz.prog _ #[.slice Ab bs.length cb, .slice As s.length cs, .agg #[.int .i64 p.mf, .int .i64 p.ms, .int .i64 p.ma]] w _
  by_cases hc : checkF s = 0
  · have HFR2 := hide (HFR.out hc)
    have HC := hide hc
    rw [hc] at HCK
    clear HFR hc
    go_enter Tryz.func29, Tryz.ntmps29
    go_wp2_with (fail)
    refine (HCK.out _ HI.out.below).mono ?_
    rintro e w1 ⟨rfl, hb⟩
    have HI1 := hide (HI.out.keep hb)
    clear hb hW hn HI HCK
    by_cases h4 : bs.length ≤ 400
    · have hz4 : (bs.length : Int) ≤ 400 := by omega
      have H4 := hide h4
      go_upto_region 6 with fail
      go_wp2_with (fail)
      go_loopw [33] (fun i wr => ∃ m : Nat, m ≤ bs.length ∧ i = .int .i64 m ∧ Hid (∀ j x, j < m → bs[j]? = some x → checkF x = 0) ∧ Hid (LI n w p [] (.slice none 0 0) 0 wr)) (fun i _ => bs.length - (intOf i).toNat)
      case atStart => exact ⟨0, Nat.zero_le _, rfl, hide (fun j x hj => absurd hj (Nat.not_lt_zero _)), HI1⟩
      case round =>
        clear HI1
        obtain ⟨m, hm, rfl, HJ, HI⟩ := hrel
        by_cases hlt : m < bs.length
        · obtain ⟨b, hp⟩ : ∃ p, bs[m]? = some p := ⟨_, List.getElem?_eq_getElem hlt⟩
          obtain ⟨g, og, rfl, hbl, k⟩ := HRB.out (by intro e; rw [e] at hlt; simp at hlt)
          obtain ⟨u, d0, hu⟩ := k m _ hp
          have HCX := hide (HCB.out b u (List.mem_of_getElem? hp) hu)
          obtain ⟨Ax, cx, rfl, _⟩ := hu
          have d0 := (HI.out.below.cell (p := ⟨g, og + m, none⟩) hbl).trans d0
          have mz : (m : Int) < (bs.length : Int) := by omega
          have HP := hide hp
          clear k hp
          by_cases hcb : checkF b = 0
          · have HJS : Hid (∀ j x, j < m + 1 → bs[j]? = some x → checkF x = 0) := hide (fun j x hj hx => by
              rcases Nat.lt_or_ge j m with h | h
              · exact HJ.out j x h hx
              · obtain rfl : j = m := by omega
                rw [HP.out] at hx
                cases hx
                exact hcb)
            rw [hcb] at HCX
            clear hcb HJ
            go_wp2_with (fail)
            refine (HCX.out _ HI.out.below).mono ?_
            rintro e w2 ⟨rfl, hb⟩
            have HI2 := hide (HI.out.keep hb)
            clear hb HI HCX d0
            go_wp2_with (fail)
            go_roundw
            case rel => exact ⟨m + 1, by omega, by go_num, HJS, HI2⟩
            case measure => simp [intOf]; omega
          · have HF : Hid (lotsF bs s p = ([], checkF b)) := hide (by
              have hbad := bad_of HJ.out HP.out hcb
              have := H4.out
              unfold lotsF
              rw [if_neg (by rw [HC.out]; simp), if_neg (by omega), if_pos (by rw [hbad]; exact hcb), hbad])
            have hne : (checkF b != 0) = true := by simpa using hcb
            clear hcb HJ
            generalize checkF b = ck at *
            go_wp2_with (fail)
            refine (HCX.out _ HI.out.below).mono ?_
            rintro e w2 ⟨rfl, hb⟩
            have HI2 := hide (HI.out.keep hb).below
            clear hb HI HCX d0
            go_wp2_with (fail)
            go_ret2
            exact pars_nil HF.out (by rw [HN.out]; exact HI2.out)
        · obtain rfl : m = bs.length := by omega
          have HBAD : Hid (badF bs = 0) := hide (bad_none HJ.out)
          have HALL : Hid (∀ (j : Nat) (b : List R4), bs[j]? = some b → checkF b = 0) := hide (fun j b hj => HJ.out j b (List.getElem?_eq_some_iff.1 hj).1 hj)
          clear HJ HCB
          obtain ⟨p0, p1, p2⟩ := HI.out.box
          go_wp2_with (fail)
          refine (HPC.out _).mono ?_
          rintro e w2 ⟨rfl, hb⟩
          have HI2 := hide (HI.out.keep hb)
          clear hb HI p0 p1 p2 HPC
          by_cases hok : okW p = 0
          · have HOK : Hid (LotsOk bs s p) := hide ⟨HC.out, H4.out, HBAD.out, hok⟩
            have HPW := hide hok
            rw [hok]
            clear hok HBAD
            go_upto_region 17 with fail
            go_wp2_with (fail)
            go_loopw [13, 52] (fun ov i wr => ∃ (m no : Nat) (A : Option Addr) (c : Nat), m ≤ bs.length ∧ no ≤ 600 ∧ i = .int .i64 m ∧ ov = .slice A no c ∧ Hid (∀ (j : Nat) (b : List R4), j < m → bs[j]? = some b → ∀ (i : Nat) (r : R4), b[i]? = some r → (rectR s p r).2 = 0) ∧ Hid (LI n w p (pcA s p 0 (bs.take m)) (.slice A no c) no wr)) (fun _ i _ => bs.length - (intOf i).toNat)
            case atStart => exact ⟨0, 0, none, 0, Nat.zero_le _, Nat.zero_le _, rfl, rfl, hide (fun j x hj => absurd hj (Nat.not_lt_zero _)), HI2⟩
            case round =>
              clear HI2
              obtain ⟨m, no, A, c, hm, hno, rfl, rfl, HJ, HI⟩ := hrel
              have nz6 : (no : Int) ≤ 600 := by omega
              by_cases hlt : m < bs.length
              · obtain ⟨b, hp⟩ : ∃ p, bs[m]? = some p := ⟨_, List.getElem?_eq_getElem hlt⟩
                obtain ⟨g, og, rfl, hbl, k⟩ := HRB.out (by intro e; rw [e] at hlt; simp at hlt)
                obtain ⟨u, d0, hu⟩ := k m _ hp
                obtain ⟨Ax, cx, rfl, hbx⟩ := hu
                have d0 := (HI.out.below.cell (p := ⟨g, og + m, none⟩) hbl).trans d0
                have mz : (m : Int) < (bs.length : Int) := by omega
                have hcb := HALL.out m b hp
                have hbl4 : (b.length : Int) ≤ 400 := by have := (checkF_ok hcb).1; omega
                have HBX := hide hbx
                have HV : Hid (∀ r ∈ b, okR r) := hide (fun r hr => (ok_valid r).2 ((checkF_ok hcb).2.1 r hr))
                have HP := hide hp
                clear k hp hcb hbx
                go_upto_region 20 with fail
                go_wp2_with (fail)
                go_step3
                go_wp2_with (fail)
                go_step3
                go_wp2_with (fail)
                go_loopg [13, 59] (b.length) (fun gg ov i wr => ∃ (j no : Nat) (A : Option Addr) (c : Nat), gg + j = b.length ∧ no ≤ 600 ∧ i = .int .i64 j ∧ ov = .slice A no c ∧ Hid (∀ (i : Nat) (r : R4), i < j → b[i]? = some r → (rectR s p r).2 = 0) ∧ Hid (LI n w p (pcA s p 0 (bs.take m) ++ pcB s p m (b.take j)) (.slice A no c) no wr))
                case atStart => exact ⟨0, no, A, c, rfl, hno, rfl, rfl, hide (fun j x hj => absurd hj (Nat.not_lt_zero _)), by rw [show pcB s p m (b.take 0) = [] from rfl, List.append_nil]; exact HI⟩
                case round =>
                  clear HI d0 nz6
                  obtain ⟨j, no, A, c, hj, hno, rfl, rfl, HK, HI⟩ := hrel
                  have nz6 : (no : Int) ≤ 600 := by omega
                  by_cases hltj : j < b.length
                  · obtain ⟨r, hpr⟩ : ∃ p, b[j]? = some p := ⟨_, List.getElem?_eq_getElem hltj⟩
                    obtain ⟨g2, o2, rfl, hbl2, k⟩ := HBX.out (by intro e; rw [e] at hltj; simp at hltj)
                    have d0 : wr.cell? ⟨g2, o2 + j * 4, none⟩ = some (.int .i64 r.x0) := (HI.out.below.cell (p := ⟨g2, _, none⟩) hbl2).trans (k j _ hpr 0 _ rfl)
                    have d1 : wr.cell? ⟨g2, o2 + j * 4 + 1, none⟩ = some (.int .i64 r.y0) := (HI.out.below.cell (p := ⟨g2, _, none⟩) hbl2).trans (k j _ hpr 1 _ rfl)
                    have d2 : wr.cell? ⟨g2, o2 + j * 4 + 2, none⟩ = some (.int .i64 r.x1) := (HI.out.below.cell (p := ⟨g2, _, none⟩) hbl2).trans (k j _ hpr 2 _ rfl)
                    have d3 : wr.cell? ⟨g2, o2 + j * 4 + 3, none⟩ = some (.int .i64 r.y1) := (HI.out.below.cell (p := ⟨g2, _, none⟩) hbl2).trans (k j _ hpr 3 _ rfl)
                    have jz : (j : Int) < (b.length : Int) := by omega
                    have HR := hide hpr
                    have hr := HV.out r (List.mem_of_getElem? hpr)
                    have HFX := hide (HFR2.out r hr)
                    have HPT : Hid (pcB s p m (b.take (j + 1)) = pcB s p m (b.take j) ++ pcR s p m r) := hide (pcB_at s p m hpr)
                    have HLE : Hid (∀ j, (pcA s p 0 (bs.take m)).length + (pcB s p m (b.take j)).length ≤ (pcA s p 0 bs).length) := hide (pcA_le s p HP.out)
                    have HFEW : Hid ((rectR s p r).2 ≠ 0 → fewF s p bs = false) := hide (fun h => few_at HP.out hpr h)
                    have HNO : Hid (no = (pcA s p 0 (bs.take m) ++ pcB s p m (b.take j)).length) := hide HI.out.len
                    clear k hpr
                    go_upto_region 23 with fail
                    refine wp_name5 fun Z hZ => ?_
                    have hbz : BoxR wr.heap.size wr r Z := by rw [hZ]; exact box_new wr r _
                    have HIZ := hide (HI.out.keep hbz.below)
                    obtain ⟨c0, c1, c2, c3, -, hk⟩ := hbz
                    generalize wr.heap.size = q0 at *
                    clear hZ HI d0 d1 d2 d3
                    obtain ⟨F, hF⟩ : ∃ F, frF r s = F := ⟨_, rfl⟩
                    rw [hF] at HFX
                    have HFF := hide hF
                    have HF15 : Hid (0 ≤ F ∧ F ≤ 15) := hide (by rw [← hF]; obtain ⟨_, _, _, _, a, b⟩ := fr_has r s; exact ⟨a, b⟩)
                    clear hF
                    have HFZ : Hid (∀ W : World, Below Z.heap.size Z W → Calls Tryz.prog 70 #[.agg #[.int .i64 r.x0, .int .i64 r.y0, .int .i64 r.x1, .int .i64 r.y1], .slice As s.length cs] W fun e w' => e = .returned (.int .u8 F) ∧ Below W.heap.size W w') := hide (fun W hW => HFX.out W (HIZ.out.below.trans (hW.mono (by have := HIZ.out.size; omega))))
                    have HKB : Hid (Cell4 q0 r Z) := hide ⟨c0, c1, c2, c3, hk⟩
                    clear HFX
                    go_cut [18] (fun s18 wx => ∃ g, s18 = .pointer (some ⟨g, 0, none⟩) ∧ Below Z.heap.size Z wx ∧ BoxL5 g ⟨r, F⟩ wx)
                    case first =>
                      go_region_held3 (fun w' => w'.cell? ⟨q0, 0, none⟩ = some (.int .i64 r.x0) ∧ w'.cell? ⟨q0, 1, none⟩ = some (.int .i64 r.y0) ∧ w'.cell? ⟨q0, 2, none⟩ = some (.int .i64 r.x1) ∧ w'.cell? ⟨q0, 3, none⟩ = some (.int .i64 r.y1)) ((refine HKB.out.keep ?_; repeat (first | with_reducible exact Below.refl _ _ | with_reducible exact hbK | with_reducible refine Below.setCell ?_ (by first | omega | (simp; done) | (simp; omega)) _ | with_reducible refine Below.alloc ?_ (by first | omega | (simp; omega) | simp) _ | with_reducible refine Below.drew ?_)))
                        (first
                          | (go_at_call 70; refine (HFZ.out _ (by repeat (first | with_reducible exact Below.refl _ _ | with_reducible refine Below.alloc ?_ (by first | omega | (simp; omega) | simp) _ | with_reducible refine Below.drew ?_))).mono ?_; rintro e w10 ⟨rfl, hb10⟩; have hbK : Below Z.heap.size Z w10 := Below.trans (by repeat (first | with_reducible exact Below.refl _ _ | with_reducible refine Below.alloc ?_ (by first | omega | (simp; omega) | simp) _ | with_reducible refine Below.drew ?_)) (hb10.mono (by simp <;> omega)); have hsK := hbK.size; obtain ⟨hcK, hfK⟩ := bcell hb10; (try have z0 : Z.heap.size < w10.heap.size := by have := hb10.size; simp at this; omega); clear hb10))
                      all_goals (go_wp2_with (fail); go_meet)
                      all_goals
                        refine ⟨_, rfl, ?_, ⟨?_, ?_, ?_, ?_, ?_, ?_⟩⟩
                        · repeat (first | with_reducible exact Below.refl _ _ | with_reducible exact hbK | with_reducible refine Below.setCell ?_ (by first | omega | (simp; done) | (simp; omega)) _ | with_reducible refine Below.alloc ?_ (by first | omega | (simp; omega) | simp) _ | with_reducible refine Below.drew ?_)
                        · simp [go_sem, hcK, hfK]
                        · simp [go_sem, hcK, hfK]
                        · simp [go_sem, hcK, hfK]
                        · simp [go_sem, hcK, hfK]
                        · simp [go_sem, hcK, hfK]
                        · first | (simp; done) | (simp; omega)
                    case rest =>
                      obtain ⟨g, rfl, hb, HBL⟩ := hcut
                      have HI9 := hide (HIZ.out.keep hb)
                      clear hb HIZ HKB HFZ c0 c1 c2 c3 hk
                      obtain ⟨l0, l1, l2, l3, l4, hg⟩ := id HBL
                      simp only at l0 l1 l2 l3 l4
                      have HS1 : n + 1 ≤ wc.heap.size := HI9.out.size
                      by_cases hF0 : F = 0
                      · subst hF0
                        have HRE : Hid (pcR s p m r = [⟨(m : Int), ⟨r, 0⟩⟩] ∧ (rectR s p r).2 = 0) := hide (by unfold pcR rectR; rw [if_pos HFF.out]; exact ⟨rfl, rfl⟩)
                        by_cases h6 : no + 1 ≤ 600
                        · have hz6 : (no : Int) + 1 ≤ 600 := by omega
                          go_wp2_with (at_builtin; go_loud (refine wpList_append_lies _ rfl (.tmp 71) (.tmp 75) 62 rfl (n + 1) 73 i1 (.agg #[.int .i64 0, .int .i64 0, .int .i64 0, .int .i64 0, .int .i64 0, .int .u8 0]) 6 48 Tryz.underlying62 gi gz0 gz1 gz2 rfl (by decide) _ no _ rfl (World.ownsRow.alloc HI9.out.row _) ⟨wc.heap.size, 0, none⟩ 1 1 [.int .i64 (m : Int), .int .i64 r.x0, .int .i64 r.y0, .int .i64 r.x1, .int .i64 r.y1, .int .u8 0] rfl rfl (news_new wc _ _ _ rfl) (ints_one rfl) (by omega) (by unfold maxLen; omega) (by omega) (by simp; omega) _ rfl ?_))
                          intro g9 cp9 w9 hown hgrow hg2 hlt
                          have HR9 : Hid (LI n w p (pcA s p 0 (bs.take m) ++ pcB s p m (b.take j) ++ [⟨(m : Int), ⟨r, 0⟩⟩]) (.slice (some ⟨g9, 0, none⟩) (no + 1) cp9) (no + 1) w9) := hide ((HI9.out.keep ((Below.refl _ _).alloc (Nat.le_refl _) _)).push hgrow (by rw [List.flatMap_append, List.flatMap_append, List.append_assoc]; exact hown))
                          clear HI9 l0 l1 l2 l3 l4 HBL hown hgrow hg2 hlt
                          go_wp2_with (fail)
                          go_roundg (b.length - (j + 1))
                          case rel => exact ⟨j + 1, no + 1, _, cp9, by omega, h6, by go_num, rfl, hide (fun i x hi hx => by
                            rcases Nat.lt_or_ge i j with h | h
                            · exact HK.out i x h hx
                            · obtain rfl : i = j := by omega
                              rw [HR.out] at hx
                              cases hx
                              exact HRE.out.2), by rw [HPT.out, HRE.out.1, ← List.append_assoc]; exact HR9⟩
                          case measure => omega
                        · have hz6 : (600 : Int) < (no : Int) + 1 := by omega
                          have HLO : Hid (lotsF bs s p = ([], 4)) := hide (HOK.out.long (by
                            have h1 := HLE.out (j + 1)
                            rw [HPT.out, HRE.out.1] at h1
                            have h2 := HNO.out
                            simp only [List.length_append, List.length_singleton] at h1 h2
                            omega))
                          go_wp2_with (at_builtin; go_loud (refine wpList_append_lies _ rfl (.tmp 71) (.tmp 75) 62 rfl (n + 1) 73 i1 (.agg #[.int .i64 0, .int .i64 0, .int .i64 0, .int .i64 0, .int .i64 0, .int .u8 0]) 6 48 Tryz.underlying62 gi gz0 gz1 gz2 rfl (by decide) _ no _ rfl (World.ownsRow.alloc HI9.out.row _) ⟨wc.heap.size, 0, none⟩ 1 1 [.int .i64 (m : Int), .int .i64 r.x0, .int .i64 r.y0, .int .i64 r.x1, .int .i64 r.y1, .int .u8 0] rfl rfl (news_new wc _ _ _ rfl) (ints_one rfl) (by omega) (by unfold maxLen; omega) (by omega) (by simp; omega) _ rfl ?_))
                          intro g9 cp9 w9 hown hgrow hg2 hlt
                          have HR9 : Hid (LI n w p (pcA s p 0 (bs.take m) ++ pcB s p m (b.take j) ++ [⟨(m : Int), ⟨r, 0⟩⟩]) (.slice (some ⟨g9, 0, none⟩) (no + 1) cp9) (no + 1) w9) := hide ((HI9.out.keep ((Below.refl _ _).alloc (Nat.le_refl _) _)).push hgrow (by rw [List.flatMap_append, List.flatMap_append, List.append_assoc]; exact hown))
                          have HB9 := hide HR9.out.below
                          clear HI9 HR9 l0 l1 l2 l3 l4 HBL hown hgrow hg2 hlt
                          go_wp2_with (fail)
                          go_ret2
                          exact pars_nil HLO.out (by rw [HN.out]; exact HB9.out)
                      · have HFN : Hid (rectR s p r = splitR ⟨r, F⟩ p) := hide (by unfold rectR; rw [if_neg (by rw [HFF.out]; exact hF0), HFF.out])
                        have hf0 : (F == 0) = false := by simpa using hF0
                        have HSX := hide (HSP.out r F HF15.out)
                        obtain ⟨⟨Q, qc⟩, hQ⟩ : ∃ C, splitR ⟨r, F⟩ p = C := ⟨_, rfl⟩
                        rw [hQ] at HSX HFN
                        have HQL : Hid (Q.length ≤ 400) := hide (by have := rect_len s p r; rw [HFN.out] at this; exact this)
                        have hql : (Q.length : Int) ≤ 400 := by have := HQL.out; omega
                        obtain ⟨p0, p1, p2⟩ := HI9.out.box
                        have hn1 : n < wc.heap.size := by omega
                        clear hQ hF0 HSP
                        go_wp2_with (fail)
                        refine (HSX.out _).mono ?_
                        rintro e w8 ⟨⟨A8, c8, rfl, hown8⟩, hb⟩
                        have HI8 := hide (HI9.out.keep hb)
                        have HQR := hide hown8
                        have HS8 : n + 1 ≤ w8.heap.size := HI8.out.size
                        clear hb HI9 HSX p0 p1 p2 hn1 hown8 l0 l1 l2 l3 l4 HBL hg HS1
                        simp only at HQR ⊢
                        by_cases hqc : qc = 0
                        · subst hqc
                          by_cases hsum : no + Q.length ≤ 600
                          · have hzs : (no : Int) + (Q.length : Int) ≤ 600 := by omega
                            go_wp2_with (fail)
                            go_loopw [13, 98] (fun ov i wr => ∃ (k n9 : Nat) (A : Option Addr) (c : Nat), k ≤ Q.length ∧ n9 + Q.length ≤ 600 + k ∧ i = .int .i64 k ∧ ov = .slice A n9 c ∧ Hid (LI n w p (pcA s p 0 (bs.take m) ++ pcB s p m (b.take j) ++ (Q.take k).map (Par6.mk (m : Int))) (.slice A n9 c) n9 wr ∧ wr.ownsRow wc.heap.size 71 5 (.slice A8 Q.length c8) Q.length (Q.flatMap encL))) (fun _ i _ => Q.length - (intOf i).toNat)
                            case atStart => exact ⟨0, no, A, c, Nat.zero_le _, hsum, rfl, rfl, hide ⟨by rw [List.take_zero, List.map_nil, List.append_nil]; exact HI8.out, HQR.out⟩⟩
                            case round =>
                              clear HI8 HQR HS8 hzs nz6
                              obtain ⟨k, n9, A, c, hkq, hn9, rfl, rfl, HIQ⟩ := hrel
                              by_cases hltk : k < Q.length
                              · obtain ⟨x, hpx⟩ : ∃ p, Q[k]? = some p := ⟨_, List.getElem?_eq_getElem hltk⟩
                                obtain ⟨A0, c0, e0, hrd⟩ := own_rd HIQ.out.2 (fun _ => rfl)
                                injection e0 with eA eN eC
                                subst eC
                                obtain ⟨g3, o3, rfl, hbl3, kk⟩ := hrd (by intro e; rw [e] at hltk; simp at hltk)
                                subst eA
                                have d0 : wr.cell? ⟨g3, o3 + k * 5, none⟩ = some (.int .i64 x.r.x0) := kk k _ hpx 0 _ rfl
                                have d1 : wr.cell? ⟨g3, o3 + k * 5 + 1, none⟩ = some (.int .i64 x.r.y0) := kk k _ hpx 1 _ rfl
                                have d2 : wr.cell? ⟨g3, o3 + k * 5 + 2, none⟩ = some (.int .i64 x.r.x1) := kk k _ hpx 2 _ rfl
                                have d3 : wr.cell? ⟨g3, o3 + k * 5 + 3, none⟩ = some (.int .i64 x.r.y1) := kk k _ hpx 3 _ rfl
                                have d4 : wr.cell? ⟨g3, o3 + k * 5 + 4, none⟩ = some (.int .u8 x.f) := kk k _ hpx 4 _ rfl
                                have kz : (k : Int) < (Q.length : Int) := by omega
                                have HTK : Hid ((Q.take (k + 1)).map (Par6.mk (m : Int)) = (Q.take k).map (Par6.mk (m : Int)) ++ [⟨(m : Int), x⟩]) := hide (by rw [List.take_add_one, hpx]; simp)
                                clear kk hrd hpx
                                go_upto_region 34 with fail
                                refine wp_name5 fun Z2 hZ2 => ?_
                                have hbz2 : Below wr.heap.size wr Z2 := by
                                  rw [hZ2]
                                  repeat (first | with_reducible exact Below.refl _ _ | with_reducible refine Below.setCell ?_ (by first | (simp; done) | (simp; omega)) _ | with_reducible refine Below.alloc ?_ (by first | omega | (simp; omega) | simp) _)
                                have HXZ : BoxL5 wr.heap.size x Z2 := by rw [hZ2]; refine ⟨?_, ?_, ?_, ?_, ?_, ?_⟩ <;> simp [go_sem]
                                have HIZ2 := hide (And.intro (HIQ.out.1.keep hbz2) (own_below HIQ.out.2 hbz2))
                                have HS2 : n + 1 ≤ Z2.heap.size := HIZ2.out.1.size
                                generalize wr.heap.size = q3 at *
                                clear hZ2 hbz2 HIQ d0 d1 d2 d3 d4 hbl3
                                obtain ⟨x0, x1, x2, x3, x4, hx5⟩ := HXZ
                                go_wp2_with (at_builtin; go_loud (refine wpList_append_lies _ rfl (.tmp 102) (.tmp 106) 62 rfl (n + 1) 73 i1 (.agg #[.int .i64 0, .int .i64 0, .int .i64 0, .int .i64 0, .int .i64 0, .int .u8 0]) 6 48 Tryz.underlying62 gi gz0 gz1 gz2 rfl (by decide) _ n9 _ rfl (World.ownsRow.alloc HIZ2.out.1.row _) ⟨Z2.heap.size, 0, none⟩ 1 1 [.int .i64 (m : Int), .int .i64 x.r.x0, .int .i64 x.r.y0, .int .i64 x.r.x1, .int .i64 x.r.y1, .int .u8 x.f] rfl rfl (news_new Z2 _ _ _ rfl) (ints_one rfl) (by omega) (by unfold maxLen; omega) (by omega) (by simp; omega) _ rfl ?_))
                                intro g9 cp9 w9 hown hgrow hg2 hlt9
                                have HR9 : Hid (LI n w p (pcA s p 0 (bs.take m) ++ pcB s p m (b.take j) ++ (Q.take (k + 1)).map (Par6.mk (m : Int))) (.slice (some ⟨g9, 0, none⟩) (n9 + 1) cp9) (n9 + 1) w9 ∧ w9.ownsRow wc.heap.size 71 5 (.slice (some ⟨g3, o3, none⟩) Q.length c8) Q.length (Q.flatMap encL)) := hide ⟨(HIZ2.out.1.keep ((Below.refl _ _).alloc (Nat.le_refl _) _)).push hgrow (by rw [HTK.out, ← List.append_assoc, List.flatMap_append, List.flatMap_append, List.flatMap_append, List.append_assoc, List.append_assoc, List.map_take]; exact hown), (own_below HIZ2.out.2 ((Below.refl _ _).alloc (Nat.le_refl _) _)).kept hgrow (own_apart HIZ2.out.2 HIZ2.out.1.row lot_par)⟩
                                clear HIZ2 HTK x0 x1 x2 x3 x4 hx5 hown hgrow hg2 hlt9
                                go_wp2_with (fail)
                                go_roundw
                                case rel => exact ⟨k + 1, n9 + 1, _, cp9, by omega, by omega, by go_num, rfl, HR9⟩
                                case measure => simp [intOf]; omega
                              · obtain rfl : k = Q.length := by omega
                                have HI7 := hide HIQ.out.1
                                clear HIQ
                                go_wp2_with (fail)
                                go_roundg (b.length - (j + 1))
                                case rel => exact ⟨j + 1, n9, A, c, by omega, by omega, by go_num, rfl, hide (fun i x hi hx => by
                                  rcases Nat.lt_or_ge i j with h | h
                                  · exact HK.out i x h hx
                                  · obtain rfl : i = j := by omega
                                    rw [HR.out] at hx
                                    cases hx
                                    rw [HFN.out]), by rw [HPT.out, show pcR s p m r = (Q.take Q.length).map (Par6.mk (m : Int)) by unfold pcR; rw [HFN.out, List.take_length], ← List.append_assoc]; exact HI7⟩
                                case measure => omega
                          · have hzs : (600 : Int) < (no : Int) + (Q.length : Int) := by omega
                            have HLO : Hid (lotsF bs s p = ([], 4)) := hide (HOK.out.long (by
                              have h1 := HLE.out (j + 1)
                              have h3 : (pcR s p m r).length = Q.length := by unfold pcR; rw [HFN.out, List.length_map]
                              rw [HPT.out, List.length_append, h3] at h1
                              have h2 := HNO.out
                              rw [List.length_append] at h2
                              omega))
                            have HB9 := hide HI8.out.below
                            clear HI8 HQR
                            go_wp2_with (fail)
                            go_ret2
                            exact pars_nil HLO.out (by rw [HN.out]; exact HB9.out)
                        · have hne : (qc != 0) = true := by simpa using hqc
                          have HLO : Hid (lotsF bs s p = ([], 4)) := hide (HOK.out.few (HFEW.out (by rw [HFN.out]; exact hqc)))
                          have HB9 := hide HI8.out.below
                          clear HI8 HQR
                          go_wp2_with (fail)
                          go_ret2
                          exact pars_nil HLO.out (by rw [HN.out]; exact HB9.out)
                  · obtain rfl : j = b.length := by omega
                    have HKA : Hid (∀ (i : Nat) (r : R4), b[i]? = some r → (rectR s p r).2 = 0) := hide (fun i r hi => HK.out i r (List.getElem?_eq_some_iff.1 hi).1 hi)
                    have HIM : Hid (LI n w p (pcA s p 0 (bs.take (m + 1))) (.slice A no c) no wr) := hide (by rw [pcA_at s p HP.out]; have := HI.out; rw [List.take_length] at this; exact this)
                    clear HI HK
                    go_wp2_with (fail)
                    go_simp
                    go_step
                    go_wp2_with (fail)
                    go_roundw
                    case rel => exact ⟨m + 1, no, A, c, by omega, hno, by go_num, rfl, hide (fun i x hi hx => by
                      rcases Nat.lt_or_ge i m with h | h
                      · exact HJ.out i x h hx
                      · obtain rfl : i = m := by omega
                        rw [HP.out] at hx
                        cases hx
                        exact HKA.out), HIM⟩
                    case measure => simp [intOf]; omega
              · obtain rfl : m = bs.length := by omega
                have HALL2 : Hid (lotsF bs s p = (pcA s p 0 bs, 0)) := hide (by
                  have h1 := HI.out.len
                  rw [List.take_length] at h1
                  rw [HOK.out.eq, if_pos ⟨few_all fun i b hi => HJ.out i b (List.getElem?_eq_some_iff.1 hi).1 hi, by omega⟩])
                have HI6 : Hid (LI n w p (pcA s p 0 bs) (.slice A no c) no wr) := hide (by have := HI.out; rw [List.take_length] at this; exact this)
                have HB9 := hide HI6.out.below
                clear HI HJ
                go_wp2_with (fail)
                go_ret2
                have hnl := HI6.out.len
                refine ⟨⟨A, c, ?_, ?_⟩, by rw [HN.out]; exact HB9.out⟩
                · rw [HALL2.out]
                  show _ = Ending.returned (.tuple #[.slice A (pcA s p 0 bs).length c, .int .i64 0])
                  rw [← hnl]
                  rfl
                · rw [HALL2.out]
                  show World.ownsRow _ _ _ _ (.slice A (pcA s p 0 bs).length c) (pcA s p 0 bs).length ((pcA s p 0 bs).flatMap encQ)
                  rw [← hnl, HN.out]
                  exact own_base HI6.out.row (by omega)
          · have HF : Hid (lotsF bs s p = ([], 2)) := hide (by
              have := H4.out
              unfold lotsF
              rw [if_neg (by rw [HC.out]; simp), if_neg (by omega), if_neg (by rw [HBAD.out]; simp), if_pos hok])
            have hw2 : okW p = 2 := by
              have := okW_eq p
              split at this
              · exact absurd this hok
              · exact this
            have HB2 := hide HI2.out.below
            rw [hw2]
            clear hw2 hok HI2
            go_wp2_with (fail)
            go_ret2
            exact pars_nil HF.out (by rw [HN.out]; exact HB2.out)
    · have hz4 : (400 : Int) < (bs.length : Int) := by omega
      have HF : Hid (lotsF bs s p = ([], 4)) := hide (by
        unfold lotsF
        rw [if_neg (by rw [HC.out]; simp), if_pos (by omega)])
      have HI2 := hide HI1.out.below
      go_wp2_with (fail)
      go_ret2
      exact pars_nil HF.out (by rw [HN.out]; exact HI2.out)
  · have HF : Hid (lotsF bs s p = ([], checkF s)) := hide (if_pos hc)
    have hne : (checkF s != 0) = true := by simpa using hc
    clear HFR hc
    generalize checkF s = ck at *
    go_enter Tryz.func29, Tryz.ntmps29
    go_wp2_with (fail)
    refine (HCK.out _ HI.out.below).mono ?_
    rintro e w1 ⟨rfl, hb⟩
    have HI1 := hide (HI.out.keep hb).below
    clear hb hW HI HCK
    go_wp2_with (fail)
    go_ret2
    exact pars_nil HF.out (by rw [HN.out]; exact HI1.out)
end Go.Proofs.YtdolpeljengpaaaGreat

/- A region that draws its order: reads, a chain (a call) that keeps their condition, reads of slots in any order, and a last operation. The law, in a round and outside of one. -/
namespace Go.Proofs.YtdolpeljengpaaaGreat
open Go.RowKit
set_option linter.unusedVariables false
set_option linter.unusedSimpArgs false

section
variable {P : Program} {Q : Exit → Act → World → Prop} {md : Region.Mode} {S : World → Prop}

def mixCB (md : Region.Mode) (ops : Array Oper) (R2 T2 : List Nat) : List Nat → Array Bool → Bool
  | [], l => mixRB md ops T2 R2 l
  | t :: r, l => (Region.ready md ops l == [t]) && mixCB md ops R2 T2 r (l.setIfInBounds t true)
def mixHB (md : Region.Mode) (ops : Array Oper) (T R2 T2 : List Nat) : List Nat → Array Bool → Bool
  | [], l => mixCB md ops R2 T2 T l
  | i :: r, l => Region.free md ops l i && (Region.ready md ops l).contains i && waitsFor md ops (ops.size - 1) i && mixHB md ops T R2 T2 r (l.setIfInBounds i true)
def mixTwoB (md : Region.Mode) (ops : Array Oper) (R T R2 T2 : List Nat) : Bool := Region.noSelect ops && decide (R.length + (T.length + (R2.length + T2.length)) = ops.size) && (T2.getLast? == some (ops.size - 1)) && mixHB md ops T R2 T2 R (Array.replicate ops.size false)

/-- One operation behind the other; behind each, S is shown anew. -/
def wpChain (P : Program) (ops : Array Oper) (S : World → Prop) (Q : Exit → Act → World → Prop) (K : Act → World → Prop) : List Oper → Act → World → Prop
  | [], a, w => K a w
  | o :: r, a, w => ∀ K' : Act → World → Prop, (∀ a' w', S w' → wpChain P ops S Q K r a' w' → K' a' w') → if Region.wanted o (yielded ops a.tmps) = true then o.wp P a w K' Q else K' (a.put o.dst undef) w

theorem wpChain_mix {l : List Oper} {R2 T2 : List Nat} (hsel : ∀ (j : Nat) (o : Oper) cs b, l.toArray[j]? = some o → o.op ≠ .select cs b) (hQ : ∀ c a a' w, Q (.panic c) a w → Q (.panic c) a' w) (hL : ∀ t, T2.getLast? = some t → t = l.length - 1) :
    ∀ (T : List Nat) (listed : Array Bool) (a : Act) (w : World), S w → mixCB md l.toArray R2 T2 T listed = true →
      wpChain P l.toArray S Q (fun a w => wpReads P l.toArray S (fun a' => wpTail P l.toArray S Q (T2.map (opAt l)) a' w) (R2.map (opAt l)) a) (T.map (opAt l)) a w →
      wpAnyE P md l.toArray Q S (l.length - 1) (T.length + (R2.length + T2.length)) listed a w
  | [], listed, a, w, hS, hT, h => by
    rw [List.length_nil, Nat.zero_add]
    exact wpReads_mix hsel hQ hL hS R2 listed a hT h
  | t :: r, listed, a, w, hS, hT, h => by
    simp only [mixCB, Bool.and_eq_true, beq_iff_eq] at hT
    rw [List.length_cons, Nat.add_right_comm]
    refine ⟨fun h0 => (by rw [hT.1] at h0; cases h0), fun i hi => ?_⟩
    obtain ⟨_, o, ho, _⟩ := mem_ready.1 hi
    rw [hT.1] at hi
    obtain rfl : i = t := by simpa using hi
    have ho' : l[i]? = some o := by simpa using ho
    simp only [List.map_cons, opAt_some ho'] at h
    refine wpOp_step ho fun K' hK => h K' fun a' w' hS' hT' => hK a' w' ⟨fun _ => hS', ?_⟩
    exact wpChain_mix hsel hQ hL r _ a' w' hS' hT.2 hT'
theorem wpHead_mix {l : List Oper} {T R2 T2 : List Nat} (hsel : ∀ (j : Nat) (o : Oper) cs b, l.toArray[j]? = some o → o.op ≠ .select cs b) (hQ : ∀ c a a' w, Q (.panic c) a w → Q (.panic c) a' w) (hL : ∀ t, T2.getLast? = some t → t = l.length - 1)
    {w : World} (hS : S w) : ∀ (R : List Nat) (listed : Array Bool) (a : Act), mixHB md l.toArray T R2 T2 R listed = true →
      wpReads P l.toArray S (fun a' => wpChain P l.toArray S Q (fun a w => wpReads P l.toArray S (fun a' => wpTail P l.toArray S Q (T2.map (opAt l)) a' w) (R2.map (opAt l)) a) (T.map (opAt l)) a' w) (R.map (opAt l)) a →
      wpAnyE P md l.toArray Q S (l.length - 1) (R.length + (T.length + (R2.length + T2.length))) listed a w
  | [], listed, a, hR, h => by
    rw [List.length_nil, Nat.zero_add]
    exact wpChain_mix hsel hQ hL T listed a w hS hR h
  | i :: r, listed, a, hR, h => by
    simp only [mixHB, Bool.and_eq_true, List.contains_iff_mem] at hR
    obtain ⟨⟨⟨f1, f2⟩, f3⟩, f4⟩ := hR
    obtain ⟨_, o, ho, _⟩ := mem_ready.1 f2
    have ho' : l[i]? = some o := by simpa using ho
    simp only [List.map_cons, opAt_some ho'] at h
    obtain ⟨v, hy, h⟩ := h
    have ih := wpHead_mix hsel hQ hL hS r _ _ f4 h
    rw [List.length_cons, Nat.add_right_comm]
    refine wpAnyE_first ho hsel (fun c a w h => hQ c _ _ w h) ?_ _ _ _ _ (Region.free_spec ho f1) f2 hy hS ih
    intro oL hoL
    unfold waitsFor at f3
    simp only [List.size_toArray] at f3
    rw [hoL] at f3
    obtain ⟨e, he, h2⟩ := Array.any_eq_true'.1 f3
    simp only [Bool.and_eq_true, beq_iff_eq] at h2
    exact ⟨e, he, h2.1, h2.2⟩
theorem wpAny_two {a : Act} {w : World} {l : List Oper} (R T R2 T2 : List Nat) (hB : mixTwoB .any l.toArray R T R2 T2 = true) (hS : S w)
    (h : wpReads P l.toArray S (fun a' => wpChain P l.toArray S (NoPanic Q) (fun a w => wpReads P l.toArray S (fun a' => wpTail P l.toArray S (NoPanic Q) (T2.map (opAt l)) a' w) (R2.map (opAt l)) a) (T.map (opAt l)) a' w) (R.map (opAt l)) a) :
    wpAny P .any l.toArray (NoPanic Q) l.toArray.size (Array.replicate l.toArray.size false) a w := by
  refine wpAny_of_E (S := S) (L := l.length - 1) _ _ _ _ ?_
  simp only [mixTwoB, Bool.and_eq_true, decide_eq_true_eq, beq_iff_eq, List.size_toArray] at hB
  obtain ⟨⟨⟨b1, b2⟩, b3⟩, b4⟩ := hB
  have := wpHead_mix (Q := NoPanic Q) (S := S) (l := l) (T := T) (R2 := R2) (T2 := T2) (w := w) (Region.noSelect_spec b1) (fun _ _ _ _ h => h) (fun t ht => by rw [b3] at ht; injection ht with ht; exact ht.symm) hS R _ a b4 h
  rw [b2] at this
  exact this
theorem wp_region_two {id : Nat} {a : Act} {w : World} {l : List Oper} (R T R2 T2 : List Nat) (S : World → Prop) (hm : P.follows .mixedOrders = true) (hB : mixTwoB .any l.toArray R T R2 T2 = true) (hS : S w.drew)
    (h : wpReads P l.toArray S (fun a' => wpChain P l.toArray S (NoPanic Q) (fun a w => wpReads P l.toArray S (fun a' => wpTail P l.toArray S (NoPanic Q) (T2.map (opAt l)) a' w) (R2.map (opAt l)) a) (T.map (opAt l)) a' w.drew) (R.map (opAt l)) a) :
    (Code.region id l.toArray true).wp P Q a w :=
  wp_region_noPanic (wp_region_any hm (wpAny_two R T R2 T2 hB hS h))
theorem wpIn_region_two {id r m : Nat} {a : Act} {w : World} {l : List Oper} (R T R2 T2 : List Nat) (S : World → Prop) (hm : P.follows .mixedOrders = true) (hB : mixTwoB .any l.toArray R T R2 T2 = true) (hnd : noDefer l = true) (hout : ∀ a w, ¬ Q .outgrown a w) (hS : S w.drew)
    (h : wpReads P l.toArray S (fun a' => wpChain P l.toArray S (NoPanic Q) (fun a w => wpReads P l.toArray S (fun a' => wpTail P l.toArray S (NoPanic Q) (T2.map (opAt l)) a' w) (R2.map (opAt l)) a) (T.map (opAt l)) a' w.drew) (R.map (opAt l)) a) :
    (Code.region id l.toArray true).wpIn (Fence.wide.inRound r) m P Q a w :=
  Code.wpIn_mono NoPanic.imp (wpIn_region_any hm (wpAny_round (noDefer_spec hnd) (fun a w h => hout a w (NoPanic.imp _ _ _ h)) _ _ _ _ (wpAny_two R T R2 T2 hB hS h)))
end
end Go.Proofs.YtdolpeljengpaaaGreat

/- The reference's Wide and High. -/
namespace Go.Proofs.YtdolpeljengpaaaGreat
open Go.RowKit
set_option linter.unusedVariables false
set_option linter.unusedSimpArgs false

theorem Box5.upd {w w' : World} {b o : Nat} {row : Option Nat} {v0 v1 v2 v3 v4 : Value} (h : Box5 w b v0 v1 v2 v3 v4) (U : Upd o row w w') (h1 : b ≠ o) (h2 : row ≠ some b) : Box5 w' b v0 v1 v2 v3 v4 := by
  have hs := lt_of_cell h.c0
  exact ⟨(U.cell hs h1 h2).trans h.c0, (U.cell hs h1 h2).trans h.c1, (U.cell hs h1 h2).trans h.c2, (U.cell hs h1 h2).trans h.c3, (U.cell hs h1 h2).trans h.c4, (U.frozen hs h1 h2).trans h.z0, (U.frozen hs h1 h2).trans h.z1, (U.frozen hs h1 h2).trans h.z2, (U.frozen hs h1 h2).trans h.z3, (U.frozen hs h1 h2).trans h.z4⟩
end Go.Proofs.YtdolpeljengpaaaGreat

/- The reference's parts. -/
namespace Go.Proofs.YtdolpeljengpaaaGreat
open Go.RowKit
set_option linter.unusedVariables false
set_option linter.unusedSimpArgs false

end Go.Proofs.YtdolpeljengpaaaGreat

/- The reference's all (it calls itself) and Split. -/
namespace Go.Proofs.YtdolpeljengpaaaGreat
open Go.RowKit
set_option linter.unusedVariables false
set_option linter.unusedSimpArgs false

/-- What all gives: the lots behind those that were there, no more than 401. -/
def allR (p : Pl3) (l : Lot5) (O : List Lot5) : List Lot5 := (O ++ leaves p l).take 401
/-- What a call of all leaves. -/
def AllRet (w : World) (B : Nat) (row : Option Nat) (R : List Lot5) (e : Ending) (w' : World) : Prop :=
  ∃ A c, e = .returned (.slice A R.length c) ∧ w'.ownsRow B 71 5 (.slice A R.length c) R.length (R.flatMap encL) ∧ w.grownBy w' row ∧ ∀ q, (Value.slice A R.length c).ownBlock = some q → row = some q ∨ w.heap.size ≤ q
end Go.Proofs.YtdolpeljengpaaaGreat

/- The walk of the reference's Lots. -/
namespace Go.Proofs.YtdolpeljengpaaaGreat
open Go.RowKit
set_option linter.unusedVariables false
set_option linter.unusedSimpArgs false

/-- The cells that hold a rectangle of a block, and the block's own. -/
structure CellB (g o : Nat) (v : Value) (g2 o2 : Nat) (r : R4) (wr : World) : Prop where
  b : wr.cell? ⟨g, o, none⟩ = some v
  d0 : wr.cell? ⟨g2, o2, none⟩ = some (.int .i64 r.x0)
  d1 : wr.cell? ⟨g2, o2 + 1, none⟩ = some (.int .i64 r.y0)
  d2 : wr.cell? ⟨g2, o2 + 2, none⟩ = some (.int .i64 r.x1)
  d3 : wr.cell? ⟨g2, o2 + 3, none⟩ = some (.int .i64 r.y1)
  lt : g < wr.heap.size
  lt2 : g2 < wr.heap.size
theorem CellB.keep {g o g2 o2 : Nat} {v : Value} {r : R4} {wr w' : World} (h : CellB g o v g2 o2 r wr) (hb : Below wr.heap.size wr w') : w'.cell? ⟨g, o, none⟩ = some v ∧ w'.cell? ⟨g2, o2, none⟩ = some (.int .i64 r.x0) ∧ w'.cell? ⟨g2, o2 + 1, none⟩ = some (.int .i64 r.y0) ∧ w'.cell? ⟨g2, o2 + 2, none⟩ = some (.int .i64 r.x1) ∧ w'.cell? ⟨g2, o2 + 3, none⟩ = some (.int .i64 r.y1) :=
  ⟨(hb.cell (p := ⟨g, o, none⟩) h.lt).trans h.b, (hb.cell (p := ⟨g2, o2, none⟩) h.lt2).trans h.d0, (hb.cell (p := ⟨g2, o2 + 1, none⟩) h.lt2).trans h.d1, (hb.cell (p := ⟨g2, o2 + 2, none⟩) h.lt2).trans h.d2, (hb.cell (p := ⟨g2, o2 + 3, none⟩) h.lt2).trans h.d3⟩
end Go.Proofs.YtdolpeljengpaaaGreat
