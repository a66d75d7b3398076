/- Texts laid together: StrV, StrO, GraF, StrQ, StrR. Lemmas for the statements of this seat; no condition. -/
import Derived.Test.YtikojiciilambaaGreatPk4
import Derived.Test.YtikojiciilambaaGreatPk12

/- street.inside and street.valid: what is a segment. -/
namespace Go.Proofs.YtikojiciilambaaGreat
open Go.RowKit
set_option linter.unusedVariables false
set_option linter.unusedSimpArgs false
theorem inside_any (x y : Int) (w : World) :
  Calls Tryz.prog 197 #[.agg #[.int .i64 x, .int .i64 y]] w fun e w' => e = .returned (.bool (decide (finS x) && decide (finS y))) ∧ Below w.heap.size w w' := by
 have hb : Below w.heap.size w (w.alloc (.cells #[.int .i64 x, .int .i64 y] 53)) := (Below.refl _ _).alloc (Nat.le_refl _) _
 have HB := hide hb
 clear hb
 by_cases t1 : -1000000 ≤ min x y
 ·have HT := hide t1
  by_cases t2 : max x y ≤ 1000000
  ·have HT2 := hide t2
   have h1 : decide (-1000000 ≤ min x y) = true := decide_eq_true t1
   have h2 : decide (max x y ≤ 1000000) = true := decide_eq_true t2
   go_enter Tryz.func197, Tryz.ntmps197
   go_wp2
   go_ret
   refine ⟨ret_eq (bool_eq ?_), HB.out⟩
   have := HT.out; have := HT2.out
   rw [decide_eq_true (show finS x by unfold finS; omega), decide_eq_true (show finS y by unfold finS; omega)]
   rfl
  ·have HT2 := hide t2
   have h1 : decide (-1000000 ≤ min x y) = true := decide_eq_true t1
   have h2 : decide (max x y ≤ 1000000) = false := decide_eq_false t2
   go_enter Tryz.func197, Tryz.ntmps197
   go_wp2
   go_ret
   refine ⟨ret_eq (bool_eq ?_), HB.out⟩
   have := HT2.out
   symm
   rw [Bool.and_eq_false_iff, decide_eq_false_iff_not, decide_eq_false_iff_not]
   unfold finS
   omega
 ·have HT := hide t1
  have h1 : decide (-1000000 ≤ min x y) = false := decide_eq_false t1
  go_enter Tryz.func197, Tryz.ntmps197
  go_wp2
  go_ret
  refine ⟨ret_eq (bool_eq ?_), HB.out⟩
  have := HT.out
  symm
  rw [Bool.and_eq_false_iff, decide_eq_false_iff_not, decide_eq_false_iff_not]
  unfold finS
  omega
theorem valid_eq (s : Sg) : decide (okSg s) = ((decide (finS s.ax) && decide (finS s.ay)) && (decide (finS s.cx) && decide (finS s.cy)) && (decide (s.ax = s.cx) != decide (s.ay = s.cy))) := by
 rw [Bool.eq_iff_iff, decide_eq_true_iff]
 unfold okSg
 by_cases h1 : s.ax = s.cx <;> by_cases h2 : s.ay = s.cy <;> simp [h1, h2, and_assoc]
set_option maxHeartbeats 4000000 in
theorem svalid_any (s : Sg) (w : World) :
  Calls Tryz.prog 154 #[.agg #[.int .i64 s.ax, .int .i64 s.ay, .int .i64 s.cx, .int .i64 s.cy]] w fun e w' => e = .returned (.bool (decide (okSg s))) ∧ Below w.heap.size w w' := by
 obtain ⟨a, b, c, d⟩ := s
 rw [valid_eq]
 simp only
 have ha := fun W => inside_any a b W
 have hc := fun W => inside_any c d W
 generalize (decide (finS a) && decide (finS b)) = f at *
 generalize (decide (finS c) && decide (finS d)) = g at *
 have HA := hide ha
 have HC := hide hc
 clear ha hc
 have hb0 : Below w.heap.size w (w.alloc (.cells #[.int .i64 a, .int .i64 b, .int .i64 c, .int .i64 d] 106)) := (Below.refl _ _).alloc (Nat.le_refl _) _
 have HB0 := hide hb0
 have s0 : (w.alloc (.cells #[.int .i64 a, .int .i64 b, .int .i64 c, .int .i64 d] 106)).heap.size = w.heap.size + 1 := by simp
 have HS0 := hide s0
 clear hb0 s0
 cases f with
 | false =>
  go_enter Tryz.func154, Tryz.ntmps154
  go_wp2_with (fail)
  refine (HA.out _).mono ?_
  rintro e w1 ⟨rfl, hb1⟩
  have HB1 := hide (HB0.out.trans (hb1.mono (by rw [HS0.out]; omega)))
  clear hb1
  go_wp2
  go_ret
  exact ⟨ret_eq (bool_eq (by simp)), HB1.out⟩
 | true =>
  cases g with
  | false =>
   go_enter Tryz.func154, Tryz.ntmps154
   go_wp2_with (fail)
   refine (HA.out _).mono ?_
   rintro e w1 ⟨rfl, hb1⟩
   have k : ∀ i, i < 4 → w1.cell? ⟨w.heap.size, i, none⟩ = (w.alloc (.cells #[.int .i64 a, .int .i64 b, .int .i64 c, .int .i64 d] 106)).cell? ⟨w.heap.size, i, none⟩ := fun i _ => hb1.cell (p := ⟨w.heap.size, i, none⟩) (by simp)
   have k2 : w1.cell? ⟨w.heap.size, 2, none⟩ = some (.int .i64 c) := (k 2 (by omega)).trans (by simp [go_sem])
   have k3 : w1.cell? ⟨w.heap.size, 3, none⟩ = some (.int .i64 d) := (k 3 (by omega)).trans (by simp [go_sem])
   have HB1 := hide (HB0.out.trans (hb1.mono (by rw [HS0.out]; omega)))
   clear hb1 k
   go_wp2_with (fail)
   refine (HC.out _).mono ?_
   rintro e w2 ⟨rfl, hb2⟩
   have HB2 := hide (HB1.out.trans (hb2.mono HB1.out.size))
   clear hb2 k2 k3
   go_wp2
   go_ret
   exact ⟨ret_eq (bool_eq (by simp)), HB2.out⟩
  | true =>
   by_cases t1 : a = c <;> by_cases t2 : b = d
   ·subst t1
    subst t2
    have HV : Hid (((true && true) && (decide (a = a) != decide (b = b))) = false) := hide (by simp)
    go_enter Tryz.func154, Tryz.ntmps154
    go_wp2_with (fail)
    refine (HA.out _).mono ?_
    rintro e w1 ⟨rfl, hb1⟩
    have k : ∀ i, i < 4 → w1.cell? ⟨w.heap.size, i, none⟩ = (w.alloc (.cells #[.int .i64 a, .int .i64 b, .int .i64 a, .int .i64 b] 106)).cell? ⟨w.heap.size, i, none⟩ := fun i _ => hb1.cell (p := ⟨w.heap.size, i, none⟩) (by simp)
    have k0 : w1.cell? ⟨w.heap.size, 0, none⟩ = some (.int .i64 a) := (k 0 (by omega)).trans (by simp [go_sem])
    have k1 : w1.cell? ⟨w.heap.size, 1, none⟩ = some (.int .i64 b) := (k 1 (by omega)).trans (by simp [go_sem])
    have k2 : w1.cell? ⟨w.heap.size, 2, none⟩ = some (.int .i64 a) := (k 2 (by omega)).trans (by simp [go_sem])
    have k3 : w1.cell? ⟨w.heap.size, 3, none⟩ = some (.int .i64 b) := (k 3 (by omega)).trans (by simp [go_sem])
    have HB1 := hide (HB0.out.trans (hb1.mono (by rw [HS0.out]; omega)))
    have hl1 : w.heap.size < w1.heap.size := Nat.lt_of_lt_of_le (by simp) hb1.size
    clear hb1 k
    go_wp2_with (fail)
    refine (HC.out _).mono ?_
    rintro e w2 ⟨rfl, hb2⟩
    have HB2 := hide (HB1.out.trans (hb2.mono HB1.out.size))
    have m0 := (hb2.cell (p := ⟨w.heap.size, 0, none⟩) hl1).trans k0
    have m1 := (hb2.cell (p := ⟨w.heap.size, 1, none⟩) hl1).trans k1
    have m2 := (hb2.cell (p := ⟨w.heap.size, 2, none⟩) hl1).trans k2
    have m3 := (hb2.cell (p := ⟨w.heap.size, 3, none⟩) hl1).trans k3
    clear hb2 k0 k1 k2 k3 hl1
    go_wp2
    go_ret
    exact ⟨ret_eq (bool_eq (by rw [HV.out]; try simp)), HB2.out⟩
   ·subst t1
    have u2 : (b == d) = false := by simpa using t2
    have HV : Hid (((true && true) && (decide (a = a) != decide (b = d))) = true) := hide (by simp [t2])
    clear t2
    go_enter Tryz.func154, Tryz.ntmps154
    go_wp2_with (fail)
    refine (HA.out _).mono ?_
    rintro e w1 ⟨rfl, hb1⟩
    have k : ∀ i, i < 4 → w1.cell? ⟨w.heap.size, i, none⟩ = (w.alloc (.cells #[.int .i64 a, .int .i64 b, .int .i64 a, .int .i64 d] 106)).cell? ⟨w.heap.size, i, none⟩ := fun i _ => hb1.cell (p := ⟨w.heap.size, i, none⟩) (by simp)
    have k0 : w1.cell? ⟨w.heap.size, 0, none⟩ = some (.int .i64 a) := (k 0 (by omega)).trans (by simp [go_sem])
    have k1 : w1.cell? ⟨w.heap.size, 1, none⟩ = some (.int .i64 b) := (k 1 (by omega)).trans (by simp [go_sem])
    have k2 : w1.cell? ⟨w.heap.size, 2, none⟩ = some (.int .i64 a) := (k 2 (by omega)).trans (by simp [go_sem])
    have k3 : w1.cell? ⟨w.heap.size, 3, none⟩ = some (.int .i64 d) := (k 3 (by omega)).trans (by simp [go_sem])
    have HB1 := hide (HB0.out.trans (hb1.mono (by rw [HS0.out]; omega)))
    have hl1 : w.heap.size < w1.heap.size := Nat.lt_of_lt_of_le (by simp) hb1.size
    clear hb1 k
    go_wp2_with (fail)
    refine (HC.out _).mono ?_
    rintro e w2 ⟨rfl, hb2⟩
    have HB2 := hide (HB1.out.trans (hb2.mono HB1.out.size))
    have m0 := (hb2.cell (p := ⟨w.heap.size, 0, none⟩) hl1).trans k0
    have m1 := (hb2.cell (p := ⟨w.heap.size, 1, none⟩) hl1).trans k1
    have m2 := (hb2.cell (p := ⟨w.heap.size, 2, none⟩) hl1).trans k2
    have m3 := (hb2.cell (p := ⟨w.heap.size, 3, none⟩) hl1).trans k3
    clear hb2 k0 k1 k2 k3 hl1
    go_wp2
    go_ret
    exact ⟨ret_eq (bool_eq (by rw [HV.out]; try simp)), HB2.out⟩
   ·have u1 : (a == c) = false := by simpa using t1
    subst t2
    have HV : Hid (((true && true) && (decide (a = c) != decide (b = b))) = true) := hide (by simp [t1])
    clear t1
    go_enter Tryz.func154, Tryz.ntmps154
    go_wp2_with (fail)
    refine (HA.out _).mono ?_
    rintro e w1 ⟨rfl, hb1⟩
    have k : ∀ i, i < 4 → w1.cell? ⟨w.heap.size, i, none⟩ = (w.alloc (.cells #[.int .i64 a, .int .i64 b, .int .i64 c, .int .i64 b] 106)).cell? ⟨w.heap.size, i, none⟩ := fun i _ => hb1.cell (p := ⟨w.heap.size, i, none⟩) (by simp)
    have k0 : w1.cell? ⟨w.heap.size, 0, none⟩ = some (.int .i64 a) := (k 0 (by omega)).trans (by simp [go_sem])
    have k1 : w1.cell? ⟨w.heap.size, 1, none⟩ = some (.int .i64 b) := (k 1 (by omega)).trans (by simp [go_sem])
    have k2 : w1.cell? ⟨w.heap.size, 2, none⟩ = some (.int .i64 c) := (k 2 (by omega)).trans (by simp [go_sem])
    have k3 : w1.cell? ⟨w.heap.size, 3, none⟩ = some (.int .i64 b) := (k 3 (by omega)).trans (by simp [go_sem])
    have HB1 := hide (HB0.out.trans (hb1.mono (by rw [HS0.out]; omega)))
    have hl1 : w.heap.size < w1.heap.size := Nat.lt_of_lt_of_le (by simp) hb1.size
    clear hb1 k
    go_wp2_with (fail)
    refine (HC.out _).mono ?_
    rintro e w2 ⟨rfl, hb2⟩
    have HB2 := hide (HB1.out.trans (hb2.mono HB1.out.size))
    have m0 := (hb2.cell (p := ⟨w.heap.size, 0, none⟩) hl1).trans k0
    have m1 := (hb2.cell (p := ⟨w.heap.size, 1, none⟩) hl1).trans k1
    have m2 := (hb2.cell (p := ⟨w.heap.size, 2, none⟩) hl1).trans k2
    have m3 := (hb2.cell (p := ⟨w.heap.size, 3, none⟩) hl1).trans k3
    clear hb2 k0 k1 k2 k3 hl1
    go_wp2
    go_ret
    exact ⟨ret_eq (bool_eq (by rw [HV.out]; try simp)), HB2.out⟩
   ·have u1 : (a == c) = false := by simpa using t1
    have u2 : (b == d) = false := by simpa using t2
    have HV : Hid (((true && true) && (decide (a = c) != decide (b = d))) = false) := hide (by simp [t1, t2])
    clear t1 t2
    go_enter Tryz.func154, Tryz.ntmps154
    go_wp2_with (fail)
    refine (HA.out _).mono ?_
    rintro e w1 ⟨rfl, hb1⟩
    have k : ∀ i, i < 4 → w1.cell? ⟨w.heap.size, i, none⟩ = (w.alloc (.cells #[.int .i64 a, .int .i64 b, .int .i64 c, .int .i64 d] 106)).cell? ⟨w.heap.size, i, none⟩ := fun i _ => hb1.cell (p := ⟨w.heap.size, i, none⟩) (by simp)
    have k0 : w1.cell? ⟨w.heap.size, 0, none⟩ = some (.int .i64 a) := (k 0 (by omega)).trans (by simp [go_sem])
    have k1 : w1.cell? ⟨w.heap.size, 1, none⟩ = some (.int .i64 b) := (k 1 (by omega)).trans (by simp [go_sem])
    have k2 : w1.cell? ⟨w.heap.size, 2, none⟩ = some (.int .i64 c) := (k 2 (by omega)).trans (by simp [go_sem])
    have k3 : w1.cell? ⟨w.heap.size, 3, none⟩ = some (.int .i64 d) := (k 3 (by omega)).trans (by simp [go_sem])
    have HB1 := hide (HB0.out.trans (hb1.mono (by rw [HS0.out]; omega)))
    have hl1 : w.heap.size < w1.heap.size := Nat.lt_of_lt_of_le (by simp) hb1.size
    clear hb1 k
    go_wp2_with (fail)
    refine (HC.out _).mono ?_
    rintro e w2 ⟨rfl, hb2⟩
    have HB2 := hide (HB1.out.trans (hb2.mono HB1.out.size))
    have m0 := (hb2.cell (p := ⟨w.heap.size, 0, none⟩) hl1).trans k0
    have m1 := (hb2.cell (p := ⟨w.heap.size, 1, none⟩) hl1).trans k1
    have m2 := (hb2.cell (p := ⟨w.heap.size, 2, none⟩) hl1).trans k2
    have m3 := (hb2.cell (p := ⟨w.heap.size, 3, none⟩) hl1).trans k3
    clear hb2 k0 k1 k2 k3 hl1
    go_wp2
    go_ret
    exact ⟨ret_eq (bool_eq (by rw [HV.out]; try simp)), HB2.out⟩
end Go.Proofs.YtikojiciilambaaGreat

/- street.Make: the walk. -/
namespace Go.Proofs.YtikojiciilambaaGreat
open Go.RowKit Go.Maps
set_option linter.unusedVariables false
set_option linter.unusedSimpArgs false
def Rb (w wr : World) : Prop := (∀ i, i < 2 → wr.cell? ⟨w.heap.size, i, none⟩ = some (.slice none 0 0) ∧ wr.frozen? ⟨w.heap.size, i, none⟩ = false) ∧ w.heap.size < wr.heap.size ∧ Below w.heap.size w wr
theorem Rb.below {w wr w' : World} (h : Rb w wr) (hb : Below wr.heap.size wr w') : Rb w w' :=
 ⟨fun i hi => ⟨(hb.cell (p := ⟨w.heap.size, i, none⟩) h.2.1).trans (h.1 i hi).1, (hb.frozen (p := ⟨w.heap.size, i, none⟩) h.2.1).trans (h.1 i hi).2⟩, Nat.lt_of_lt_of_le h.2.1 hb.size, h.2.2.trans (hb.mono (Nat.le_of_lt h.2.1))⟩
theorem Rb.made (w : World) : Rb w (w.alloc (.cells #[.slice none 0 0, .slice none 0 0] 63)) := by
 refine ⟨fun i hi => ?_, by simp, (Below.refl _ _).alloc (Nat.le_refl _) _⟩
 match i, hi with
 | 0, _ => exact ⟨by simp [go_sem], by simp [go_sem]⟩
 | 1, _ => exact ⟨by simp [go_sem], by simp [go_sem]⟩
end Go.Proofs.YtikojiciilambaaGreat

/- The reference's networks: Of. -/
namespace Go.Proofs.YtikojiciilambaaGreat
open Go.RowKit
set_option linter.unusedVariables false
set_option linter.unusedSimpArgs false
theorem unit_ends {l : List Sg} (hv : ∀ s ∈ l, okSg s) {al : Bool} {a : Int} {s : Sp} (hs : s ∈ unitF (ownF l al a)) : s.1 < s.2 ∧ (-1000000 ≤ s.1 ∧ s.1 ≤ 1000000) ∧ (-1000000 ≤ s.2 ∧ s.2 ≤ 1000000) := by
 obtain ⟨hc, hm⟩ := unit_ok (own_wf hv al a)
 have hlt := hc.1 s hs
 have lim : ∀ x, smem (ownF l al a) x → -1000000 ≤ x ∧ x + 1 ≤ 1000000 := fun x hx => by
  obtain ⟨p, hp, h1, h2⟩ := hx
  unfold ownF at hp
  cases al
  ·simp only [Bool.false_eq_true, if_false] at hp
   unfold colSp at hp
   obtain ⟨t, ht, rfl⟩ := List.mem_map.1 hp
   have := (hv t (List.mem_filter.1 ht).1).1
   unfold finS at this
   simp only at h1 h2
   omega
  ·simp only [if_true] at hp
   unfold rowSp at hp
   obtain ⟨t, ht, rfl⟩ := List.mem_map.1 hp
   have := (hv t (List.mem_filter.1 ht).1).1
   unfold finS at this
   simp only at h1 h2
   omega
 have l1 := lim s.1 ((hm s.1).1 ⟨s, hs, by omega, hlt⟩)
 have l2 := lim (s.2 - 1) ((hm (s.2 - 1)).1 ⟨s, hs, by omega, by omega⟩)
 omega
theorem ats_fin {l : List Sg} (hv : ∀ s ∈ l, okSg s) {al : Bool} {a : Int} (h : a ∈ atsF l al) : -1000000 ≤ a ∧ a ≤ 1000000 := by
 unfold atsF at h
 obtain ⟨s, hs, rfl⟩ := List.mem_map.1 h
 have := (hv s (List.mem_filter.1 hs).1).1
 unfold finS at this
 split <;> omega
theorem lines_mem {l : List Sg} {al : Bool} {q : Ln} : q ∈ linesF l al ↔ q.1 ∈ atsF l al ∧ q.2 = unitF (ownF l al q.1) := by
 unfold linesF
 rw [List.mem_map]
 constructor
 ·rintro ⟨a, ha, rfl⟩
  exact ⟨((srt_ok _).2 a).1 ha, rfl⟩
 ·rintro ⟨h1, h2⟩
  exact ⟨q.1, ((srt_ok _).2 _).2 h1, Prod.ext rfl h2.symm⟩
theorem lines_len (l : List Sg) (al : Bool) : (linesF l al).length ≤ l.length := by
 unfold linesF
 rw [List.length_map]
 exact Nat.le_trans (srt_ln _) (ats_len l al)
theorem lines_sm {l : List Sg} (hl : l.length ≤ 1000) (al : Bool) : SmL (linesF l al) := by
 refine ⟨Nat.le_trans (lines_len l al) (by omega), fun q hq => ?_⟩
 rw [(lines_mem.1 hq).2]
 exact Nat.le_trans (unitF_len _) (Nat.le_trans (ownF_len l al q.1) (by omega))
theorem lines_bR {l : List Sg} (hv : ∀ s ∈ l, okSg s) : ∀ q ∈ linesF l true, ∀ s ∈ q.2, ∀ x ∈ endsC (linesF l false) s, bigP (x, q.1) := by
 intro q hq s hs x hx
 obtain ⟨h1, h2⟩ := lines_mem.1 hq
 rw [h2] at hs
 obtain ⟨_, e1, e2⟩ := unit_ends hv hs
 have h3 := ats_fin hv h1
 have h4 : -1000000 ≤ x ∧ x ≤ 1000000 := by
  unfold endsC endsN at hx
  rcases List.mem_append.1 hx with hx | hx
  ·simp only [List.mem_cons, List.not_mem_nil, or_false] at hx
   omega
  ·have := (List.mem_filter.1 hx).2
   unfold crossB at this
   simp only [Bool.and_eq_true, decide_eq_true_eq] at this
   omega
 unfold bigP
 simp only
 omega
theorem lines_bC {l : List Sg} (hv : ∀ s ∈ l, okSg s) : ∀ q ∈ linesF l false, ∀ s ∈ q.2, bigP (q.1, s.1) ∧ bigP (q.1, s.2) := by
 intro q hq s hs
 obtain ⟨h1, h2⟩ := lines_mem.1 hq
 rw [h2] at hs
 obtain ⟨_, e1, e2⟩ := unit_ends hv hs
 have h3 := ats_fin hv h1
 unfold bigP
 simp only
 omega
theorem line_at {l : List Sg} {al : Bool} {a : Int} {s : Sp} (hs : s ∈ unitF (ownF l al a)) : (a, unitF (ownF l al a)) ∈ linesF l al := by
 refine lines_mem.2 ⟨Classical.byContradiction fun hn => ?_, rfl⟩
 rw [own_nil hn] at hs
 simp [unitF] at hs
theorem all_found34 {l : List Sg} (hv : ∀ s ∈ l, okSg s) (p : Pt) (h : nodeG (htB l) (vtB l) p = true) : DR (linesF l true) (linesF l false) (linesF l true).length p ∨ DC (linesF l false) (linesF l false).length p := by
 have row : ∀ s ∈ unitF (ownF l true p.2), p.1 ∈ endsC (linesF l false) s → DR (linesF l true) (linesF l false) (linesF l true).length p := fun s hs hx => by
  obtain ⟨j, hj, e⟩ := List.getElem_of_mem (line_at hs)
  obtain ⟨k, hk, e2⟩ := List.getElem_of_mem hs
  refine ⟨j, _, hj, by rw [List.getElem?_eq_getElem hj, e], k, s, p.1, hk, by rw [List.getElem?_eq_getElem hk, e2], hx, rfl⟩
 rcases (found_iff (lines_ok hv) p).2 h with ⟨⟨s, hs, h1⟩, _⟩ | ⟨s, hs, h1, h2, h3⟩ | ⟨⟨s, hs, h1⟩, _⟩
 ·refine .inl (row s hs ?_)
  unfold endsC endsN
  refine List.mem_append_left _ ?_
  rcases h1 with h1 | h1 <;> simp [h1]
 ·refine .inl (row s hs ?_)
  have hc : p.1 ∈ (linesF l false).map (·.1) := by
   have key : ∀ y, vtB l p.1 y = true → p.1 ∈ (linesF l false).map (·.1) := fun y hy => by
    refine List.mem_map.2 ⟨(p.1, unitF (ownF l false p.1)), lines_mem.2 ⟨Classical.byContradiction fun hn => ?_, rfl⟩, rfl⟩
    have hn2 := own_nil hn
    unfold ownF at hn2
    simp only [Bool.false_eq_true, if_false] at hn2
    unfold vtB at hy
    rw [hn2] at hy
    obtain ⟨q, hq, _⟩ := of_decide_eq_true hy
    simp at hq
   rcases h3 with h3 | h3
   ·exact key _ h3
   ·exact key _ h3
  unfold endsC endsN
  refine List.mem_append_right _ (List.mem_filter.2 ⟨by rw [List.take_length]; exact hc, ?_⟩)
  unfold crossB
  rw [decide_eq_true h1, decide_eq_true h2]
  rfl
 ·right
  obtain ⟨j, hj, e⟩ := List.getElem_of_mem (line_at hs)
  obtain ⟨k, hk, e2⟩ := List.getElem_of_mem hs
  refine ⟨j, _, hj, by rw [List.getElem?_eq_getElem hj, e], k, s, hk, by rw [List.getElem?_eq_getElem hk, e2], ?_⟩
  rcases h1 with h1 | h1
  ·exact .inl (Prod.ext rfl h1.symm)
  ·exact .inr (Prod.ext rfl h1.symm)
theorem node_lines {l : List Sg} (hv : ∀ s ∈ l, okSg s) : nodeL (linesF l true) (linesF l false) = nodeG (htB l) (vtB l) := by
 have e1 : rowH (linesF l true) = htB l := funext fun x => funext fun y => lines_row hv x y
 have e2 : colH (linesF l false) = vtB l := funext fun x => funext fun y => lines_col hv x y
 funext p
 unfold nodeL
 rw [e1, e2]
theorem arnd_lines {l : List Sg} (hv : ∀ s ∈ l, okSg s) (p : Pt) : arndL (linesF l true) (linesF l false) p = .agg #[.bool (htB l p.1 p.2), .bool (vtB l p.1 p.2), .bool (htB l (p.1 - 1) p.2), .bool (vtB l p.1 (p.2 - 1))] := by
 have e1 : rowH (linesF l true) = htB l := funext fun x => funext fun y => lines_row hv x y
 have e2 : colH (linesF l false) = vtB l := funext fun x => funext fun y => lines_col hv x y
 unfold arndL
 rw [e1, e2]
def optI : Option Nat → Int
 | none => -1
 | some c => (c : Int)
def nxP (f : Pt → Int) (N : List Pt) (a b : Nat) : Option Nat := (List.range b).find? fun c => decide (a < c) && decide (f (nd N c) = f (nd N a))
theorem nxP_succ (f : Pt → Int) (N : List Pt) (a b : Nat) : nxP f N a (b + 1) = (nxP f N a b).or (if a < b ∧ f (nd N b) = f (nd N a) then some b else none) := by
 unfold nxP
 rw [List.range_succ, List.find?_append]
 congr 1
 by_cases h : a < b ∧ f (nd N b) = f (nd N a)
 ·rw [if_pos h]; simp [h.1, h.2]
 ·rw [if_neg h]
  have : (decide (a < b) && decide (f (nd N b) = f (nd N a))) = false := by
   rw [Bool.eq_false_iff]
   intro h2
   simp only [Bool.and_eq_true, decide_eq_true_eq] at h2
   exact h h2
  simp [this]
theorem nxP_start (f : Pt → Int) (N : List Pt) (a : Nat) : nxP f N a (a + 1) = none := by
 unfold nxP
 rw [List.find?_eq_none]
 intro c hc
 have := List.mem_range.1 hc
 simp
 omega
theorem nxP_hit {f : Pt → Int} {N : List Pt} {a b : Nat} (h : nxP f N a b = none) (hab : a < b) (hx : f (nd N b) = f (nd N a)) : nxP f N a (b + 1) = some b := by rw [nxP_succ, h, if_pos ⟨hab, hx⟩]; rfl
theorem nxP_keep {f : Pt → Int} {N : List Pt} {a b c : Nat} (h : nxP f N a b = some c) : nxP f N a (b + 1) = some c := by rw [nxP_succ, h]; rfl
theorem nxP_miss {f : Pt → Int} {N : List Pt} {a b : Nat} (hx : ¬ f (nd N b) = f (nd N a)) : nxP f N a (b + 1) = nxP f N a b := by rw [nxP_succ, if_neg fun h => hx h.2]; simp
theorem nd_get {N : List Pt} {m : Nat} {p : Pt} (h : N[m]? = some p) : nd N m = p := by unfold nd; rw [List.getD_eq_getElem?_getD, h]; rfl
def epart (l : List Sg) (m : Nat) : List Ei := edI ((List.range m).flatMap fun a => upE (vtB l) (nodesF l) a ++ rtE (htB l) (nodesF l) a)
theorem epart_succ (l : List Sg) (m : Nat) : epart l (m + 1) = epart l m ++ edI (upE (vtB l) (nodesF l) m) ++ edI (rtE (htB l) (nodesF l) m) := by
 unfold epart edI
 rw [List.range_succ, List.flatMap_append]
 simp
theorem epart_len (l : List Sg) : ∀ m, (epart l m).length ≤ 2 * m
 | 0 => by simp [epart, edI]
 | m + 1 => by
  have ih := epart_len l m
  have h1 : (edI (upE (vtB l) (nodesF l) m)).length ≤ 1 := by
   unfold edI upE
   split
   ·cases upO (nodesF l) m <;> simp
   ·simp
  have h2 : (edI (rtE (htB l) (nodesF l) m)).length ≤ 1 := by
   unfold edI rtE
   split
   ·cases rtO (nodesF l) m <;> simp
   ·simp
  rw [epart_succ, List.length_append, List.length_append]
  omega
theorem epart_end (l : List Sg) : epart l (nodesF l).length = edI (edgesF l) := rfl
theorem up_some {v : Int → Int → Bool} {N : List Pt} {m c : Nat} {p : Pt} (hp : nd N m = p) (hv : v p.1 p.2 = true) (hu : nxP Prod.fst N m N.length = some c) : edI (upE v N m) = [((m : Int), (c : Int))] := by
 unfold upE
 rw [hp, if_pos hv, show upO N m = some c from hu]
 rfl
theorem up_none {v : Int → Int → Bool} {N : List Pt} {m : Nat} (hu : nxP Prod.fst N m N.length = none) : edI (upE v N m) = [] := by
 unfold upE
 rw [show upO N m = none from hu]
 split <;> rfl
theorem up_off {v : Int → Int → Bool} {N : List Pt} {m : Nat} {p : Pt} (hp : nd N m = p) (hv : v p.1 p.2 = false) : edI (upE v N m) = [] := by
 unfold upE
 rw [hp, if_neg (by rw [hv]; simp)]
 rfl
theorem rt_some {v : Int → Int → Bool} {N : List Pt} {m c : Nat} {p : Pt} (hp : nd N m = p) (hv : v p.1 p.2 = true) (hu : nxP Prod.snd N m N.length = some c) : edI (rtE v N m) = [((m : Int), (c : Int))] := by
 unfold rtE
 rw [hp, if_pos hv, show rtO N m = some c from hu]
 rfl
theorem rt_none {v : Int → Int → Bool} {N : List Pt} {m : Nat} (hu : nxP Prod.snd N m N.length = none) : edI (rtE v N m) = [] := by
 unfold rtE
 rw [show rtO N m = none from hu]
 split <;> rfl
theorem rt_off {v : Int → Int → Bool} {N : List Pt} {m : Nat} {p : Pt} (hp : nd N m = p) (hv : v p.1 p.2 = false) : edI (rtE v N m) = [] := by
 unfold rtE
 rw [hp, if_neg (by rw [hv]; simp)]
 rfl
structure Nr (w3 wr : World) (nv ev : Value) (E : List Ei) : Prop where
 low : Below w3.heap.size w3 wr
 sz : w3.heap.size < wr.heap.size
 c0 : wr.cell? ⟨w3.heap.size, 0, none⟩ = some nv
 c1 : wr.cell? ⟨w3.heap.size, 1, none⟩ = some ev
 fr : wr.frozen? ⟨w3.heap.size, 1, none⟩ = false
 own : wr.ownsRow (w3.heap.size + 1) 120 2 ev E.length (E.flatMap encS)
theorem Nr.below {w3 wr w' : World} {nv ev : Value} {E : List Ei} (h : Nr w3 wr nv ev E) (hb : Below wr.heap.size wr w') : Nr w3 w' nv ev E :=
 ⟨h.low.trans (hb.mono h.low.size), Nat.lt_of_lt_of_le h.sz hb.size, (hb.cell (p := ⟨_, 0, none⟩) h.sz).trans h.c0, (hb.cell (p := ⟨_, 1, none⟩) h.sz).trans h.c1, (hb.frozen (p := ⟨_, 1, none⟩) h.sz).trans h.fr, own_below h.own hb⟩
theorem Nr.ne {w3 wr : World} {nv ev : Value} {E : List Ei} (h : Nr w3 wr nv ev E) {g : Nat} (hg : g ≤ w3.heap.size) : some g ≠ ev.ownBlock := fun e => by have := (h.own.lt _ e.symm).1; omega
theorem Nr.app {w3 wr w6 w9 w10 : World} {nv ev ev' : Value} {E : List Ei} (h : Nr w3 wr nv ev E) (hb : Below wr.heap.size wr w6) {e : Ei} {xs : List Value} (hx : xs = (E ++ [e]).flatMap encS)
  (ho : w9.ownsRow (w3.heap.size + 1) 120 2 ev' (E.length + 1) xs) (hg : w6.grownBy w9 ev.ownBlock) (hw : w10 = w9.setCell ⟨w3.heap.size, 1, none⟩ ev') : Nr w3 w10 nv ev' (E ++ [e]) := by
 have h6 := h.below hb
 have hs := h6.sz
 have n0 := h6.ne (Nat.le_refl _)
 have h9s := hg.size
 have hl9 : Below w3.heap.size w3 w9 := h6.low.grown hg h6.low.size (fun q hq => by have := (h6.own.lt q hq).1; omega)
 have c0 := (cell_grow hg (b := w3.heap.size) (o := 0) (by omega) n0).trans h6.c0
 have c1 := (cell_grow hg (b := w3.heap.size) (o := 1) (by omega) n0).trans h6.c1
 have fr := (frozen_grow hg (b := w3.heap.size) (o := 1) (by omega) n0).trans h6.fr
 have hgz : w9.grownBy w10 (some w3.heap.size) := by
  rw [hw]
  exact ⟨rfl, rfl, rfl, by simp, fun k _ hk => Below.heap_setCell _ _ _ _ (fun e => hk (by rw [e]))⟩
 refine ⟨?_, ?_, ?_, ?_, ?_, ?_⟩
 ·rw [hw]; exact Below.setCell hl9 (Nat.le_refl _) _
 ·have := hgz.size; omega
 ·rw [hw]; simp [go_sem, c0]
 ·rw [hw]; simp [go_sem, c1]
 ·rw [hw]; simp [go_sem, fr]
 ·rw [List.length_append, List.length_singleton, ← hx]
  refine ho.kept hgz ?_
  rcases hq : ev'.ownBlock with _ | q
  ·exact .inl rfl
  ·right
   intro e
   have h1 := (ho.lt q hq).1
   injection e with e
   omega
theorem Nr.at9 {w3 wr w6 w9 : World} {nv ev : Value} {E : List Ei} (h : Nr w3 wr nv ev E) (hb : Below wr.heap.size wr w6) (hg : w6.grownBy w9 ev.ownBlock) :
  w9.cell? ⟨w3.heap.size, 1, none⟩ = some ev ∧ w9.frozen? ⟨w3.heap.size, 1, none⟩ = false ∧ w3.heap.size < w9.heap.size := by
 have h6 := h.below hb
 have hs := h6.sz
 have n0 := h6.ne (Nat.le_refl _)
 have h9s := hg.size
 exact ⟨(cell_grow hg (b := w3.heap.size) (o := 1) (by omega) n0).trans h6.c1, (frozen_grow hg (b := w3.heap.size) (o := 1) (by omega) n0).trans h6.fr, by omega⟩
theorem Rb.low {w w3 wr : World} (h : Rb w w3) (hb : Below w3.heap.size w3 wr) : Rb w wr := h.below hb
def Bx4 (W : World) (g : Nat) (a b : Bool) : Prop := g < W.heap.size ∧ W.cell? ⟨g, 0, none⟩ = some (.bool a) ∧ W.cell? ⟨g, 1, none⟩ = some (.bool b)
theorem Bx4.below {W V : World} {g : Nat} {a b : Bool} (h : Bx4 W g a b) (hb : Below W.heap.size W V) : Bx4 V g a b := ⟨Nat.lt_of_lt_of_le h.1 hb.size, (hb.cell (p := ⟨g, 0, none⟩) h.1).trans h.2.1, (hb.cell (p := ⟨g, 1, none⟩) h.1).trans h.2.2⟩
theorem Bx4.app {W w9 w10 : World} {g b0 o : Nat} {a b : Bool} {u : Value} {r : Option Nat} (h : Bx4 W g a b) (hg : W.grownBy w9 r) (hne : r ≠ some g) (hw : w10 = w9.setCell ⟨b0, o, none⟩ u) (h0 : b0 ≠ g) : Bx4 w10 g a b := by
 have hb := hg.block g h.1 (Ne.symm hne)
 have e : w10.heap[g]? = W.heap[g]? := by rw [hw, Below.heap_setCell _ _ _ _ (fun e => h0 e.symm), hb]
 exact ⟨by have := hg.size; rw [hw]; simp; exact Nat.lt_of_lt_of_le h.1 this, (World.cell?_of_block e).trans h.2.1, (World.cell?_of_block e).trans h.2.2⟩
theorem rdS_all {w : World} {B : Nat} {A : Option Addr} {n c : Nat} {l : List (Int × Int)} (h : RdK encS 2 w B (.slice A n c) l) (hl : l ≠ []) : ∃ b off, A = some ⟨b, off, none⟩ ∧ b < B ∧ ∀ (j : Nat) (q : Int × Int), l[j]? = some q → w.cell? ⟨b, off + j * 2, none⟩ = some (.int .i64 q.1) ∧ w.cell? ⟨b, off + j * 2 + 1, none⟩ = some (.int .i64 q.2) := by
 obtain ⟨A1, c1, hv, h⟩ := h
 injection hv with e1 _ _
 subst e1
 obtain ⟨b, off, rfl, hb, k⟩ := h hl
 exact ⟨b, off, rfl, hb, fun j q hq => ⟨k j q hq 0 _ rfl, k j q hq 1 _ rfl⟩⟩
set_option maxRecDepth 100000 in
set_option maxHeartbeats 16000000 in
theorem rOf34_any {w : World} {v : Value} {l : List Sg} (hr : RdK encSg 4 w w.heap.size v l) (hv : ∀ s ∈ l, okSg s) (hl : l.length ≤ 1000) :
  Calls Tryz.prog 119 #[v] w fun e w' => NetQ w w' l e ∧ Below w.heap.size w w' := by
 obtain ⟨i2, fi, fz0, fz1, fz2⟩ := info_parts infoEd
 have HLT : Hid (∀ W, Below w.heap.size w W → Calls Tryz.prog 167 #[v, .bool true] W fun e w' => ∃ vo, e = .returned vo ∧ LnI W vo (linesF l true) w') := hide (fun W hb => rlinesT_any ((hr.below hb).mono hb.size) hv hl)
 have HLF : Hid (∀ W, Below w.heap.size w W → Calls Tryz.prog 167 #[v, .bool false] W fun e w' => ∃ vo, e = .returned vo ∧ LnI W vo (linesF l false) w') := hide (fun W hb => rlinesF_any ((hr.below hb).mono hb.size) hv hl)
 have HV := hide hv
 have HLN := hide hl
 obtain ⟨A, c, rfl, _⟩ := hr
 clear hv hl
 go_enter Tryz.func119, Tryz.ntmps119
 go_upto_region 1 with fail
 refine wp_name fun w0 hw0 => ?_
 have HRb : Hid (Rb w w0) := hide (by rw [hw0]; exact Rb.made w)
 clear hw0
 go_wp2_with (fail)
 refine (HLT.out _ HRb.out.2.2).mono ?_
 rintro e w1 ⟨vR, rfl, hR⟩
 have HR1 := hide hR
 have HRb1 := hide (HRb.out.below hR.low)
 clear hR HRb HLT
 go_wp2_with (fail)
 refine (HLF.out _ HRb1.out.2.2).mono ?_
 rintro e w2 ⟨vC, rfl, hC⟩
 have HRd : Hid (∀ W, Below w2.heap.size w2 W → RdLn W W.heap.size vR (linesF l true)) := hide (fun W hb => by
  have h1 := (HR1.out.rd.below hC.low).mono hC.low.size
  exact (h1.below hb).mono hb.size)
 have HCd : Hid (∀ W, Below w2.heap.size w2 W → RdLn W W.heap.size vC (linesF l false)) := hide (fun W hb => (hC.rd.below hb).mono hb.size)
 have HRb2 := hide (HRb1.out.below hC.low)
 clear hC HRb1 HR1 HLF
 obtain ⟨AR, cR, eR, _⟩ := HRd.out w2 (Below.refl _ _)
 obtain ⟨AC, cC, eC, _⟩ := HCd.out w2 (Below.refl _ _)
 subst eR
 subst eC
 have HAR : Hid (∀ W, Below w2.heap.size w2 W → ∀ x y, bigP (x, y) → Calls Tryz.prog 169 #[.slice AR (linesF l true).length cR, .slice AC (linesF l false).length cC, .agg #[.int .i64 x, .int .i64 y]] W fun e w' => e = .returned (.agg #[.bool (htB l x y), .bool (vtB l x y), .bool (htB l (x - 1) y), .bool (vtB l x (y - 1))]) ∧ Below W.heap.size W w') := hide (fun W hb x y hp => by
  have h := rAround34_any (HRd.out W hb) (HCd.out W hb) (lines_sm HLN.out true) (lines_sm HLN.out false) hp
  rwa [arnd_lines HV.out (x, y)] at h)
 go_wp2_with (fail)
 refine (rnodes34_any (HRd.out w2 (Below.refl _ _)) (HCd.out w2 (Below.refl _ _)) (lines_sm HLN.out true) (lines_sm HLN.out false) (lines_bR HV.out) (lines_bC HV.out)).mono ?_
 rintro e w3 ⟨vN, O, rfl, hN, hOl⟩
 have HRb3 := hide (HRb2.out.below hN.low)
 have HAR3 : Hid (∀ W, Below w3.heap.size w3 W → ∀ x y, bigP (x, y) → Calls Tryz.prog 169 #[.slice AR (linesF l true).length cR, .slice AC (linesF l false).length cC, .agg #[.int .i64 x, .int .i64 y]] W fun e w' => e = .returned (.agg #[.bool (htB l x y), .bool (vtB l x y), .bool (htB l (x - 1) y), .bool (vtB l x (y - 1))]) ∧ Below W.heap.size W w') := hide (fun W hb => HAR.out W (hN.low.trans (hb.mono hN.low.size)))
 have hgd := hN.gd
 rw [node_lines HV.out] at hgd
 have HNR := hide (hgd.done HV.out (all_found34 HV.out))
 have HOW := hide (own_base hN.row (base := w.heap.size + 1) (by have := HRb2.out.2.1; omega))
 have HRW := hide (own_rd (l := O) hN.row (fun _ => rfl))
 obtain ⟨An, cn, rfl⟩ := own_form hN.row
 have HOL := hide hOl
 clear hN hgd HAR HRd HCd HRb2 hOl
 generalize (linesF l true).length = nR at *
 generalize (linesF l false).length = nC at *
 go_upto_region 3 with fail
 refine wp_name fun w4 hw4 => ?_
 have HN4 : Hid (Nr w3 w4 (.slice An O.length cn) (.slice none 0 0) []) := hide ⟨by rw [hw4]; exact (Below.refl _ _).alloc (Nat.le_refl _) _, by rw [hw4]; simp, by rw [hw4]; simp [go_sem], by rw [hw4]; simp [go_sem], by rw [hw4]; simp [go_sem], World.ownsRow_nil _ _ _ _⟩
 clear hw4
 have c0 := HN4.out.c0
 have hz4 := HN4.out.sz
 by_cases hO : O.length ≤ 400
 ·have oz : ¬ (400 : Int) < (O.length : Int) := by omega
  have HON : Hid (O = nodesF l) := hide (by
   rcases HNR.out with ⟨_, h⟩ | ⟨h, _⟩
   ·exact h
   ·omega)
  have HNL : Hid ((nodesF l).length ≤ 400) := hide (by rw [← HON.out]; exact hO)
  obtain rfl := HON.out
  clear HNR HON HOL
  go_wp2
  clear c0 hz4 oz
  go_loopw [7] (fun i wr => ∃ m : Nat, m ≤ (nodesF l).length ∧ i = .int .i64 (m : Int) ∧ Hid (∃ Ae ce, Nr w3 wr (.slice An (nodesF l).length cn) (.slice Ae (epart l m).length ce) (epart l m))) (fun i _ => (nodesF l).length - (intOf i).toNat)
  case atStart => exact ⟨0, Nat.zero_le _, rfl, hide ⟨none, 0, HN4.out⟩⟩
  case round =>
   clear HN4
   obtain ⟨m, hm, rfl, HNX⟩ := hrel
   obtain ⟨Ae, ce, hNx⟩ := HNX.out
   have HN5 := hide hNx
   clear HNX hNx
   have c0 := HN5.out.c0
   have hz := HN5.out.sz
   by_cases hlt : m < (nodesF l).length
   ·have mz : (m : Int) < ((nodesF l).length : Int) := by omega
    have m0 : (0 : Int) ≤ (m : Int) := by omega
    obtain ⟨⟨px, py⟩, hp⟩ : ∃ p, (nodesF l)[m]? = some p := ⟨_, List.getElem?_eq_getElem hlt⟩
    obtain ⟨bn, on, rfl, hbn, kn⟩ := rdS_all HRW.out (by intro e; rw [e] at hlt; simp at hlt)
    have HKN := hide kn
    have d0 := (HN5.out.low.cell (p := ⟨bn, _, none⟩) hbn).trans (kn m _ hp).1
    have d1 := (HN5.out.low.cell (p := ⟨bn, _, none⟩) hbn).trans (kn m _ hp).2
    have hbr : bn < wr.heap.size := Nat.lt_of_lt_of_le hbn HN5.out.low.size
    have HND := hide (nd_get hp)
    have HBP : Hid (bigP (px, py)) := hide (by
     have := node_fin HV.out hlt
     rw [nd_get hp] at this
     unfold bigP
     unfold finS at this
     simp only at this ⊢
     omega)
    clear kn hp
    go_upto_region 9 with fail
    refine wp_name fun w5 hw5 => ?_
    obtain ⟨g8, hg8⟩ : ∃ g, wr.heap.size = g := ⟨_, rfl⟩
    have hb5 : Below wr.heap.size wr w5 := by rw [hw5]; exact (Below.refl _ _).alloc (Nat.le_refl _) _
    have HX5 : Hid (Bx2 w5 g8 px py) := hide ⟨by rw [hw5, ← hg8]; simp, by rw [hw5, ← hg8]; simp [go_sem], by rw [hw5, ← hg8]; simp [go_sem]⟩
    have HN6 := hide (HN5.out.below hb5)
    rw [hg8]
    have HEV : Hid (∀ k, (Value.slice Ae (epart l m).length ce).ownBlock = some k → k < g8) := hide (fun k hk => by have := (HN5.out.own.lt k hk).2; omega)
    clear hw5 hg8 hb5 d0 d1 hbr HN5 c0 hz
    obtain ⟨hx5, y0, y1⟩ := HX5.out
    go_wp2_with (fail)
    refine (HAR3.out _ HN6.out.low px py HBP.out).mono ?_
    rintro e w6 ⟨rfl, hb6⟩
    have HN7 := hide (HN6.out.below hb6)
    have HX6 := hide (HX5.out.below hb6)
    clear hb6 HN6 HX5 hx5 y0 y1
    go_upto_region 10 with fail
    refine wp_name fun w7 hw7 => ?_
    obtain ⟨g9, hg9⟩ : ∃ g, w6.heap.size = g := ⟨_, rfl⟩
    have hb7 : Below w6.heap.size w6 w7 := by rw [hw7]; exact (Below.refl _ _).alloc (Nat.le_refl _) _
    have HA7 : Hid (Bx4 w7 g9 (htB l px py) (vtB l px py)) := hide ⟨by rw [hw7, ← hg9]; simp, by rw [hw7, ← hg9]; simp [go_sem], by rw [hw7, ← hg9]; simp [go_sem]⟩
    have HX7 := hide (HX6.out.below hb7)
    have HN8 := hide (HN7.out.below hb7)
    have HG9 : Hid (g8 ≤ g9 ∧ w3.heap.size < g9) := hide ⟨by have := HX6.out.1; omega, by have := HN7.out.sz; omega⟩
    rw [hg9]
    clear hw7 hg9 hb7 HN7 HX6
    go_wp2
    go_loopw [10, 11, 12] (fun uv rv i wx => ∃ (b : Nat) (u r : Int), m + 1 ≤ b ∧ b ≤ (nodesF l).length ∧ i = .int .i64 (b : Int) ∧ uv = .int .i64 u ∧ rv = .int .i64 r ∧ Hid (u = optI (nxP Prod.fst (nodesF l) m b)) ∧ Hid (r = optI (nxP Prod.snd (nodesF l) m b)) ∧ Hid (Below w7.heap.size w7 wx)) (fun _ _ i _ => (nodesF l).length - (intOf i).toNat)
    case atStart => exact ⟨m + 1, -1, -1, Nat.le_refl _, hlt, by go_num, rfl, rfl, hide (by rw [nxP_start]; rfl), hide (by rw [nxP_start]; rfl), hide (Below.refl _ _)⟩
    case round =>
     obtain ⟨b, u, r, hbm, hbl, rfl, rfl, rfl, HU, HR, HBX⟩ := hrel
     have HN9 := hide (HN8.out.below HBX.out)
     have c0 := HN9.out.c0
     have hz := HN9.out.sz
     by_cases hbt : b < (nodesF l).length
     ·have bz : (b : Int) < ((nodesF l).length : Int) := by omega
      have b0 : (0 : Int) ≤ (b : Int) := by omega
      obtain ⟨⟨qx, qy⟩, hq⟩ : ∃ p, (nodesF l)[b]? = some p := ⟨_, List.getElem?_eq_getElem hbt⟩
      have f0 := (HN9.out.low.cell (p := ⟨bn, _, none⟩) hbn).trans (HKN.out b _ hq).1
      have f1 := (HN9.out.low.cell (p := ⟨bn, _, none⟩) hbn).trans (HKN.out b _ hq).2
      have hbr : bn < wr.heap.size := Nat.lt_of_lt_of_le hbn HN9.out.low.size
      have HNB := hide (nd_get hq)
      clear hq
      go_upto_region 15 with fail
      refine wp_name fun w8 hw8 => ?_
      have hb8 : Below wr.heap.size wr w8 := by rw [hw8]; exact (Below.refl _ _).alloc (Nat.le_refl _) _
      have HQ8 : Hid (Bx2 w8 wr.heap.size qx qy) := hide ⟨by rw [hw8]; simp, by rw [hw8]; simp [go_sem], by rw [hw8]; simp [go_sem]⟩
      have HBX8 := hide (HBX.out.trans (hb8.mono HBX.out.size))
      have HX8 := hide (HX7.out.below HBX8.out)
      generalize wr.heap.size = gq at *
      clear hw8 hb8 f0 f1 hbr HN9 c0 hz HBX
      obtain ⟨hq8, x0, x1⟩ := HQ8.out
      obtain ⟨hx8, y0, y1⟩ := HX8.out
      by_cases hx : qx = px
      ·have w0' : (qx == px) = true := by simpa using hx
       have HXE : Hid (Prod.fst (nd (nodesF l) b) = Prod.fst (nd (nodesF l) m)) := hide (by rw [HNB.out, HND.out]; exact hx)
       clear hx
       cases hu : nxP Prod.fst (nodesF l) m b with
       | none =>
        obtain rfl : u = -1 := by rw [HU.out, hu]; rfl
        have HUN : Hid ((b : Int) = optI (nxP Prod.fst (nodesF l) m (b + 1))) := hide (by rw [nxP_hit hu (by omega) HXE.out]; rfl)
        clear hu
        by_cases hy : qy = py
        ·have w1' : (qy == py) = true := by simpa using hy
         have HYE : Hid (Prod.snd (nd (nodesF l) b) = Prod.snd (nd (nodesF l) m)) := hide (by rw [HNB.out, HND.out]; exact hy)
         clear hy
         cases hr : nxP Prod.snd (nodesF l) m b with
         | none =>
          obtain rfl : r = -1 := by rw [HR.out, hr]; rfl
          have HRN : Hid ((b : Int) = optI (nxP Prod.snd (nodesF l) m (b + 1))) := hide (by rw [nxP_hit hr (by omega) HYE.out]; rfl)
          clear hr
          go_wp2
          go_roundw
          case rel => exact ⟨b + 1, (b : Int), (b : Int), by omega, by omega, by go_num, rfl, rfl, HUN, HRN, HBX8⟩
          case measure => simp [intOf]; omega
         | some c2 =>
          obtain rfl : r = (c2 : Int) := by rw [HR.out, hr]; rfl
          have r9 : ¬ (c2 : Int) < 0 := by omega
          have HRN : Hid ((c2 : Int) = optI (nxP Prod.snd (nodesF l) m (b + 1))) := hide (by rw [nxP_keep hr]; rfl)
          clear hr
          go_wp2
          go_roundw
          case rel => exact ⟨b + 1, (b : Int), (c2 : Int), by omega, by omega, by go_num, rfl, rfl, HUN, HRN, HBX8⟩
          case measure => simp [intOf]; omega
        ·have w1' : (qy == py) = false := by simpa using hy
         have HRN : Hid (r = optI (nxP Prod.snd (nodesF l) m (b + 1))) := hide (by rw [nxP_miss (by rw [HNB.out, HND.out]; exact hy)]; exact HR.out)
         clear hy
         go_wp2
         go_roundw
         case rel => exact ⟨b + 1, (b : Int), r, by omega, by omega, by go_num, rfl, rfl, HUN, HRN, HBX8⟩
         case measure => simp [intOf]; omega
       | some c1 =>
        obtain rfl : u = (c1 : Int) := by rw [HU.out, hu]; rfl
        have u9 : ¬ (c1 : Int) < 0 := by omega
        have HUN : Hid ((c1 : Int) = optI (nxP Prod.fst (nodesF l) m (b + 1))) := hide (by rw [nxP_keep hu]; rfl)
        clear hu
        by_cases hy : qy = py
        ·have w1' : (qy == py) = true := by simpa using hy
         have HYE : Hid (Prod.snd (nd (nodesF l) b) = Prod.snd (nd (nodesF l) m)) := hide (by rw [HNB.out, HND.out]; exact hy)
         clear hy
         cases hr : nxP Prod.snd (nodesF l) m b with
         | none =>
          obtain rfl : r = -1 := by rw [HR.out, hr]; rfl
          have HRN : Hid ((b : Int) = optI (nxP Prod.snd (nodesF l) m (b + 1))) := hide (by rw [nxP_hit hr (by omega) HYE.out]; rfl)
          clear hr
          go_wp2
          go_roundw
          case rel => exact ⟨b + 1, (c1 : Int), (b : Int), by omega, by omega, by go_num, rfl, rfl, HUN, HRN, HBX8⟩
          case measure => simp [intOf]; omega
         | some c2 =>
          obtain rfl : r = (c2 : Int) := by rw [HR.out, hr]; rfl
          have r9 : ¬ (c2 : Int) < 0 := by omega
          have HRN : Hid ((c2 : Int) = optI (nxP Prod.snd (nodesF l) m (b + 1))) := hide (by rw [nxP_keep hr]; rfl)
          clear hr
          go_wp2
          go_roundw
          case rel => exact ⟨b + 1, (c1 : Int), (c2 : Int), by omega, by omega, by go_num, rfl, rfl, HUN, HRN, HBX8⟩
          case measure => simp [intOf]; omega
        ·have w1' : (qy == py) = false := by simpa using hy
         have HRN : Hid (r = optI (nxP Prod.snd (nodesF l) m (b + 1))) := hide (by rw [nxP_miss (by rw [HNB.out, HND.out]; exact hy)]; exact HR.out)
         clear hy
         go_wp2
         go_roundw
         case rel => exact ⟨b + 1, (c1 : Int), r, by omega, by omega, by go_num, rfl, rfl, HUN, HRN, HBX8⟩
         case measure => simp [intOf]; omega
      ·have w0' : (qx == px) = false := by simpa using hx
       have HUN : Hid (u = optI (nxP Prod.fst (nodesF l) m (b + 1))) := hide (by rw [nxP_miss (by rw [HNB.out, HND.out]; exact hx)]; exact HU.out)
       clear hx
       by_cases hy : qy = py
       ·have w1' : (qy == py) = true := by simpa using hy
        have HYE : Hid (Prod.snd (nd (nodesF l) b) = Prod.snd (nd (nodesF l) m)) := hide (by rw [HNB.out, HND.out]; exact hy)
        clear hy
        cases hr : nxP Prod.snd (nodesF l) m b with
        | none =>
         obtain rfl : r = -1 := by rw [HR.out, hr]; rfl
         have HRN : Hid ((b : Int) = optI (nxP Prod.snd (nodesF l) m (b + 1))) := hide (by rw [nxP_hit hr (by omega) HYE.out]; rfl)
         clear hr
         go_wp2
         go_roundw
         case rel => exact ⟨b + 1, u, (b : Int), by omega, by omega, by go_num, rfl, rfl, HUN, HRN, HBX8⟩
         case measure => simp [intOf]; omega
        | some c2 =>
         obtain rfl : r = (c2 : Int) := by rw [HR.out, hr]; rfl
         have r9 : ¬ (c2 : Int) < 0 := by omega
         have HRN : Hid ((c2 : Int) = optI (nxP Prod.snd (nodesF l) m (b + 1))) := hide (by rw [nxP_keep hr]; rfl)
         clear hr
         go_wp2
         go_roundw
         case rel => exact ⟨b + 1, u, (c2 : Int), by omega, by omega, by go_num, rfl, rfl, HUN, HRN, HBX8⟩
         case measure => simp [intOf]; omega
       ·have w1' : (qy == py) = false := by simpa using hy
        have HRN : Hid (r = optI (nxP Prod.snd (nodesF l) m (b + 1))) := hide (by rw [nxP_miss (by rw [HNB.out, HND.out]; exact hy)]; exact HR.out)
        clear hy
        go_wp2
        go_roundw
        case rel => exact ⟨b + 1, u, r, by omega, by omega, by go_num, rfl, rfl, HUN, HRN, HBX8⟩
        case measure => simp [intOf]; omega
     ·have bz : ¬ (b : Int) < ((nodesF l).length : Int) := by omega
      obtain rfl : b = (nodesF l).length := by omega
      have HA8 := hide (HA7.out.below HBX.out)
      obtain ⟨ha8, a0, a1⟩ := HA8.out
      have hel := epart_len l m
      have hnl := HNL.out
      clear HN8 HA7 HX7 HKN
      obtain ⟨E, hE⟩ : ∃ E, epart l m = E := ⟨_, rfl⟩
      have HES := hide (epart_succ l m)
      rw [hE] at HN9 HEV hel HES
      clear hE
      cases hv : vtB l px py with
      | true =>
       rw [hv] at a1
       cases hu : nxP Prod.fst (nodesF l) m (nodesF l).length with
       | some c1u =>
        obtain rfl : u = (c1u : Int) := by rw [HU.out, hu]; rfl
        have u9 : (0 : Int) ≤ (c1u : Int) := by omega
        have HF1 : Hid (edI (upE (vtB l) (nodesF l) m) = [((m : Int), (c1u : Int))]) := hide (up_some HND.out hv hu)
        clear hu hv
        have c1 := HN9.out.c1
        have hsz := HN9.out.sz
        go_wp2_with (at_builtin; go_loud (refine wpList_append_lies _ rfl (.tmp 84) (.tmp 88) 61 rfl (w3.heap.size + 1) 120 i2 (.agg #[.int .i64 0, .int .i64 0]) 2 16 Tryz.underlying61 fi fz0 fz1 fz2 rfl (by decide) _ E.length _ rfl (World.ownsRow.alloc HN9.out.own _) ⟨wr.heap.size, 0, none⟩ 1 1 [.int .i64 (m : Int), .int .i64 (c1u : Int)] rfl rfl (news_new wr _ _ _ (by simp)) (ints_one rfl) (by omega) (by unfold maxLen; omega) (by omega) (by simp; omega) _ rfl ?_))
        intro gA capA wA hownA hgrowA horA hltA
        have hal := (Below.refl wr.heap.size wr).alloc (Nat.le_refl _) (.cells #[.int .i64 (m : Int), .int .i64 (c1u : Int)] 120)
        obtain ⟨s1, s2, s3⟩ := HN9.out.at9 hal hgrowA
        have hxA : E.flatMap encS ++ [.int .i64 (m : Int), .int .i64 (c1u : Int)] = (E ++ [((m : Int), (c1u : Int))]).flatMap encS := by simp [encS]
        go_upto_region 21 with fail
        refine wp_name fun wE1 hwE => ?_
        have HNE1 := hide (HN9.out.app hal (e := ((m : Int), (c1u : Int))) hxA hownA hgrowA hwE)
        have HAE := hide ((HA8.out.below hal).app hgrowA (fun e => by have h1 := HEV.out g9 e; have h2 := HG9.out.1; omega) hwE (by have := HG9.out.2; omega))
        clear hwE c1 hsz hownA hgrowA horA hltA hal s1 s2 s3 hxA a0 a1 ha8 HA8 HN9 c0 hz
        obtain ⟨ha8, a0, a1⟩ := HAE.out
        have hel2 : (E ++ [((m : Int), (c1u : Int))]).length ≤ 2 * m + 1 := by rw [List.length_append]; simp; omega
        have hlE : (E ++ [((m : Int), (c1u : Int))]).length = E.length + 1 := by simp
        rw [← hlE] at HNE1
        have HF2 : Hid (E ++ edI (upE (vtB l) (nodesF l) m) = E ++ [((m : Int), (c1u : Int))]) := hide (by rw [HF1.out])
        obtain ⟨E1, hE1⟩ : ∃ E1, E ++ [((m : Int), (c1u : Int))] = E1 := ⟨_, rfl⟩
        rw [hE1] at HNE1 hel2 HF2
        clear hE1 hlE
        cases hh : htB l px py with
        | true =>
         rw [hh] at a0
         cases hr : nxP Prod.snd (nodesF l) m (nodesF l).length with
         | some c2 =>
          obtain rfl : r = (c2 : Int) := by rw [HR.out, hr]; rfl
          have r9 : (0 : Int) ≤ (c2 : Int) := by omega
          have HF : Hid (epart l (m + 1) = E1 ++ [((m : Int), (c2 : Int))]) := hide (by rw [HES.out, rt_some HND.out hh hr, HF2.out])
          clear hh hr
          have c1 := HNE1.out.c1
          have hsz := HNE1.out.sz
          go_wp2_with (at_builtin; go_loud (refine wpList_append_lies _ rfl (.tmp 98) (.tmp 102) 61 rfl (w3.heap.size + 1) 120 i2 (.agg #[.int .i64 0, .int .i64 0]) 2 16 Tryz.underlying61 fi fz0 fz1 fz2 rfl (by decide) _ E1.length _ rfl (World.ownsRow.alloc HNE1.out.own _) ⟨wE1.heap.size, 0, none⟩ 1 1 [.int .i64 (m : Int), .int .i64 (c2 : Int)] rfl rfl (news_new wE1 _ _ _ (by simp)) (ints_one rfl) (by omega) (by unfold maxLen; omega) (by omega) (by simp; omega) _ rfl ?_))
          intro gB capB wB hownB hgrowB horB hltB
          have hal := (Below.refl wE1.heap.size wE1).alloc (Nat.le_refl _) (.cells #[.int .i64 (m : Int), .int .i64 (c2 : Int)] 120)
          obtain ⟨s1, s2, s3⟩ := HNE1.out.at9 hal hgrowB
          have hxB : E1.flatMap encS ++ [.int .i64 (m : Int), .int .i64 (c2 : Int)] = (E1 ++ [((m : Int), (c2 : Int))]).flatMap encS := by simp [encS]
          go_upto_region 7 with fail
          refine wp_name fun wE2 hwE => ?_
          have HNE2 := hide (HNE1.out.app hal (e := ((m : Int), (c2 : Int))) hxB hownB hgrowB hwE)
          clear hwE c1 hsz hownB hgrowB horB hltB hal s1 s2 s3 hxB a0
          go_wp2
          go_roundw
          case rel => exact ⟨m + 1, by omega, by go_num, hide (by rw [HF.out]; exact ⟨some ⟨gB, 0, none⟩, capB, by rw [List.length_append]; exact HNE2.out⟩)⟩
          case measure => simp [intOf]; omega
         | none =>
          obtain rfl : r = -1 := by rw [HR.out, hr]; rfl
          have HF : Hid (epart l (m + 1) = E1) := hide (by rw [HES.out, rt_none hr, HF2.out]; simp)
          clear hh hr
          go_wp2
          go_roundw
          case rel => exact ⟨m + 1, by omega, by go_num, hide (by rw [HF.out]; exact ⟨some ⟨gA, 0, none⟩, capA, HNE1.out⟩)⟩
          case measure => simp [intOf]; omega
        | false =>
         rw [hh] at a0
         have HF : Hid (epart l (m + 1) = E1) := hide (by rw [HES.out, rt_off HND.out hh, HF2.out]; simp)
         clear hh
         go_wp2
         go_roundw
         case rel => exact ⟨m + 1, by omega, by go_num, hide (by rw [HF.out]; exact ⟨some ⟨gA, 0, none⟩, capA, HNE1.out⟩)⟩
         case measure => simp [intOf]; omega
       | none =>
        obtain rfl : u = -1 := by rw [HU.out, hu]; rfl
        have HF2 : Hid (E ++ edI (upE (vtB l) (nodesF l) m) = E) := hide (by rw [up_none hu]; simp)
        clear hu hv
        cases hh : htB l px py with
        | true =>
         rw [hh] at a0
         cases hr : nxP Prod.snd (nodesF l) m (nodesF l).length with
         | some c2 =>
          obtain rfl : r = (c2 : Int) := by rw [HR.out, hr]; rfl
          have r9 : (0 : Int) ≤ (c2 : Int) := by omega
          have HF : Hid (epart l (m + 1) = E ++ [((m : Int), (c2 : Int))]) := hide (by rw [HES.out, rt_some HND.out hh hr, HF2.out])
          clear hh hr
          have c1 := HN9.out.c1
          have hsz := HN9.out.sz
          go_wp2_with (at_builtin; go_loud (refine wpList_append_lies _ rfl (.tmp 98) (.tmp 102) 61 rfl (w3.heap.size + 1) 120 i2 (.agg #[.int .i64 0, .int .i64 0]) 2 16 Tryz.underlying61 fi fz0 fz1 fz2 rfl (by decide) _ E.length _ rfl (World.ownsRow.alloc HN9.out.own _) ⟨wr.heap.size, 0, none⟩ 1 1 [.int .i64 (m : Int), .int .i64 (c2 : Int)] rfl rfl (news_new wr _ _ _ (by simp)) (ints_one rfl) (by omega) (by unfold maxLen; omega) (by omega) (by simp; omega) _ rfl ?_))
          intro gA capA wA hownA hgrowA horA hltA
          have hal := (Below.refl wr.heap.size wr).alloc (Nat.le_refl _) (.cells #[.int .i64 (m : Int), .int .i64 (c2 : Int)] 120)
          obtain ⟨s1, s2, s3⟩ := HN9.out.at9 hal hgrowA
          have hxA : E.flatMap encS ++ [.int .i64 (m : Int), .int .i64 (c2 : Int)] = (E ++ [((m : Int), (c2 : Int))]).flatMap encS := by simp [encS]
          go_upto_region 7 with fail
          refine wp_name fun wE2 hwE => ?_
          have HNE2 := hide (HN9.out.app hal (e := ((m : Int), (c2 : Int))) hxA hownA hgrowA hwE)
          clear hwE c1 hsz hownA hgrowA horA hltA hal s1 s2 s3 hxA a0
          go_wp2
          go_roundw
          case rel => exact ⟨m + 1, by omega, by go_num, hide (by rw [HF.out]; exact ⟨some ⟨gA, 0, none⟩, capA, by rw [List.length_append]; exact HNE2.out⟩)⟩
          case measure => simp [intOf]; omega
         | none =>
          obtain rfl : r = -1 := by rw [HR.out, hr]; rfl
          have HF : Hid (epart l (m + 1) = E) := hide (by rw [HES.out, rt_none hr, HF2.out]; simp)
          clear hh hr
          go_wp2
          go_roundw
          case rel => exact ⟨m + 1, by omega, by go_num, hide (by rw [HF.out]; exact ⟨Ae, ce, HN9.out⟩)⟩
          case measure => simp [intOf]; omega
        | false =>
         rw [hh] at a0
         have HF : Hid (epart l (m + 1) = E) := hide (by rw [HES.out, rt_off HND.out hh, HF2.out]; simp)
         clear hh
         go_wp2
         go_roundw
         case rel => exact ⟨m + 1, by omega, by go_num, hide (by rw [HF.out]; exact ⟨Ae, ce, HN9.out⟩)⟩
         case measure => simp [intOf]; omega
      | false =>
       rw [hv] at a1
       have HF2 : Hid (E ++ edI (upE (vtB l) (nodesF l) m) = E) := hide (by rw [up_off HND.out hv]; simp)
       clear hv
       cases hh : htB l px py with
       | true =>
        rw [hh] at a0
        cases hr : nxP Prod.snd (nodesF l) m (nodesF l).length with
        | some c2 =>
         obtain rfl : r = (c2 : Int) := by rw [HR.out, hr]; rfl
         have r9 : (0 : Int) ≤ (c2 : Int) := by omega
         have HF : Hid (epart l (m + 1) = E ++ [((m : Int), (c2 : Int))]) := hide (by rw [HES.out, rt_some HND.out hh hr, HF2.out])
         clear hh hr
         have c1 := HN9.out.c1
         have hsz := HN9.out.sz
         go_wp2_with (at_builtin; go_loud (refine wpList_append_lies _ rfl (.tmp 98) (.tmp 102) 61 rfl (w3.heap.size + 1) 120 i2 (.agg #[.int .i64 0, .int .i64 0]) 2 16 Tryz.underlying61 fi fz0 fz1 fz2 rfl (by decide) _ E.length _ rfl (World.ownsRow.alloc HN9.out.own _) ⟨wr.heap.size, 0, none⟩ 1 1 [.int .i64 (m : Int), .int .i64 (c2 : Int)] rfl rfl (news_new wr _ _ _ (by simp)) (ints_one rfl) (by omega) (by unfold maxLen; omega) (by omega) (by simp; omega) _ rfl ?_))
         intro gA capA wA hownA hgrowA horA hltA
         have hal := (Below.refl wr.heap.size wr).alloc (Nat.le_refl _) (.cells #[.int .i64 (m : Int), .int .i64 (c2 : Int)] 120)
         obtain ⟨s1, s2, s3⟩ := HN9.out.at9 hal hgrowA
         have hxA : E.flatMap encS ++ [.int .i64 (m : Int), .int .i64 (c2 : Int)] = (E ++ [((m : Int), (c2 : Int))]).flatMap encS := by simp [encS]
         go_upto_region 7 with fail
         refine wp_name fun wE2 hwE => ?_
         have HNE2 := hide (HN9.out.app hal (e := ((m : Int), (c2 : Int))) hxA hownA hgrowA hwE)
         clear hwE c1 hsz hownA hgrowA horA hltA hal s1 s2 s3 hxA a0
         go_wp2
         go_roundw
         case rel => exact ⟨m + 1, by omega, by go_num, hide (by rw [HF.out]; exact ⟨some ⟨gA, 0, none⟩, capA, by rw [List.length_append]; exact HNE2.out⟩)⟩
         case measure => simp [intOf]; omega
        | none =>
         obtain rfl : r = -1 := by rw [HR.out, hr]; rfl
         have HF : Hid (epart l (m + 1) = E) := hide (by rw [HES.out, rt_none hr, HF2.out]; simp)
         clear hh hr
         go_wp2
         go_roundw
         case rel => exact ⟨m + 1, by omega, by go_num, hide (by rw [HF.out]; exact ⟨Ae, ce, HN9.out⟩)⟩
         case measure => simp [intOf]; omega
       | false =>
        rw [hh] at a0
        have HF : Hid (epart l (m + 1) = E) := hide (by rw [HES.out, rt_off HND.out hh, HF2.out]; simp)
        clear hh
        go_wp2
        go_roundw
        case rel => exact ⟨m + 1, by omega, by go_num, hide (by rw [HF.out]; exact ⟨Ae, ce, HN9.out⟩)⟩
        case measure => simp [intOf]; omega
   ·have mz : ¬ (m : Int) < ((nodesF l).length : Int) := by omega
    obtain rfl : m = (nodesF l).length := by omega
    rw [epart_end] at HN5
    have hz3 := HRb3.out.2.1
    have c1 := HN5.out.c1
    have hel : (edgesF l).length ≤ (nodesF l).length * 2 := edges_len (htB l) (vtB l) (nodesF l)
    have hnl := HNL.out
    have h800 : decide (((edI (edgesF l)).length : Int) ≤ 800) = true := decide_eq_true (by unfold edI; rw [List.length_map]; omega)
    have HRW5 := hide (HRb3.out.below HN5.out.low)
    have r0 := (HRW5.out.1 0 (by omega)).1
    have r1 := (HRW5.out.1 1 (by omega)).1
    have q0 := (HRW5.out.1 0 (by omega)).2
    have q1 := (HRW5.out.1 1 (by omega)).2
    have hwS := HRW5.out.2.1
    have HNS := hide (own_below HOW.out HN5.out.low)
    have HES := hide HN5.out.own
    have HBS := hide HRW5.out.2.2
    obtain ⟨EE, hEE⟩ : ∃ EE, edI (edgesF l) = EE := ⟨_, rfl⟩
    rw [hEE] at c1 HES h800
    have HEE := hide hEE
    clear hEE hel hnl
    obtain ⟨N, hN⟩ : ∃ N, nodesF l = N := ⟨_, rfl⟩
    have HNN := hide hN
    rw [hN] at c0 HNS
    try rw [hN]
    clear hN
    go_upto_region 23 with fail
    refine wp_region_mix [0, 1, 2, 3, 4] [5, 6] (fun w' => w'.cell? ⟨w3.heap.size, 0, none⟩ = some (.slice An N.length cn) ∧ w'.cell? ⟨w3.heap.size, 1, none⟩ = some (.slice Ae EE.length ce)) (by kernel_rfl) (by kernel_rfl) ⟨c0, c1⟩ ?_
    simp only [List.map_cons, List.map_nil, opAt, List.getElem?_cons_succ, List.getElem?_cons_zero, Option.getD_some]
    iterate 5
     refine ⟨?_, Or.inl ⟨by rfl, ?_⟩, ?_⟩
     rotate_left 1
     ·intro w' hSw
      obtain ⟨z0, z1⟩ := hSw
      go_simp
      first | done | with_reducible rfl
     simp only [Act.put, List.setIfInBounds_toArray, List.set_cons_zero, List.set_cons_succ]
    simp only [wpReads]
    have r0' : wr.drew.cell? ⟨w.heap.size, 0, none⟩ = some (.slice none 0 0) := r0
    have r1' : wr.drew.cell? ⟨w.heap.size, 1, none⟩ = some (.slice none 0 0) := r1
    have q0' : wr.drew.frozen? ⟨w.heap.size, 0, none⟩ = false := q0
    have q1' : wr.drew.frozen? ⟨w.heap.size, 1, none⟩ = false := q1
    have hwS' : w.heap.size < wr.drew.heap.size := hwS
    have n30 : w3.heap.size ≠ w.heap.size := by omega
    intro K hK
    simp only [Act.put, List.setIfInBounds_toArray, List.set_cons_zero, List.set_cons_succ] at hK ⊢
    go_simp
    refine hK _ _ (fun _ => ⟨(World.cell?_setCell_far _ _ _ _ n30.symm).trans ((World.cell?_setCell_far _ _ _ _ n30.symm).trans c0), (World.cell?_setCell_far _ _ _ _ n30.symm).trans ((World.cell?_setCell_far _ _ _ _ n30.symm).trans c1)⟩) ?_
    clear hK K
    intro K hK
    simp only [Act.put, List.setIfInBounds_toArray, List.set_cons_zero, List.set_cons_succ] at hK ⊢
    go_simp
    refine hK _ _ (fun h => absurd rfl h) ?_
    clear hK K
    refine NoPanic.normal ?_
    go_wp2
    refine bodyPost_ret (v := .tuple #[.agg #[.slice An N.length cn, .slice Ae EE.length ce], .bool true]) (by simp [results, Tryz.results119, go_sem, r0, r1, q0, q1, hwS, r0', r1', q0', q1', hwS']) rfl ⟨⟨fun _ => ⟨_, _, rfl, ?_, ?_⟩, fun h => by have := HNL.out; omega⟩, ?_⟩
    ·rw [HNN.out]
     exact own_base (own_drew (own_setB (own_setB HNS.out (Nat.lt_succ_self _)) (Nat.lt_succ_self _))) (Nat.le_succ _)
    ·rw [HEE.out]
     have hl3 : w.heap.size < w3.heap.size + 1 := by omega
     exact own_base (own_drew (own_setB (own_setB HES.out hl3) hl3)) (Nat.le_of_lt hl3)
    ·exact (Below.setCell (Below.setCell HBS.out (Nat.le_refl _) _) (Nat.le_refl _) _).drew
 ·have oz : (400 : Int) < (O.length : Int) := by omega
  have HNL : Hid (400 < (nodesF l).length) := hide (by
   rcases HNR.out with ⟨h, _⟩ | ⟨_, h⟩
   ·omega
   ·exact h)
  have HR4 := hide (HRb3.out.below HN4.out.low)
  have r0 := (HR4.out.1 0 (by omega)).1
  have r1 := (HR4.out.1 1 (by omega)).1
  have q0 := (HR4.out.1 0 (by omega)).2
  have q1 := (HR4.out.1 1 (by omega)).2
  have hlt := HR4.out.2.1
  have HB4 := hide HR4.out.2.2
  clear HNR HN4
  go_wp2_with (fail)
  refine bodyPost_ret (v := .tuple #[.agg #[.slice none 0 0, .slice none 0 0], .bool false]) (by simp [results, Tryz.results119, go_sem, r0, r1, q0, q1, hlt]) rfl ⟨⟨fun h => by have := HNL.out; omega, fun _ => rfl⟩, ?_⟩
  exact Below.setCell (Below.setCell HB4.out (Nat.le_refl _) _) (Nat.le_refl _) _
end Go.Proofs.YtikojiciilambaaGreat

/- street.drawn: the walk. -/
namespace Go.Proofs.YtikojiciilambaaGreat
open Go.RowKit Go.Maps
set_option linter.unusedVariables false
set_option linter.unusedSimpArgs false
theorem infoSg : (Tryz.prog.info? 106).map (fun i => (i.zero, i.size, i.bytes)) = some (some (.agg #[.int .i64 0, .int .i64 0, .int .i64 0, .int .i64 0]), 4, 32) := by kernel_rfl
def DrawnQ (w w' : World) (N : List Pt) (E : List Ei) (e : Ending) : Prop :=
 ∃ ov ok, e = .returned (.tuple #[ov, .bool ok]) ∧ ((∀ e ∈ E, okEi N e) → ok = true ∧ w'.ownsRow w.heap.size 106 4 ov E.length ((segsI N E).flatMap encSg)) ∧ (¬ (∀ e ∈ E, okEi N e) → ok = false)
def Dst (w wr : World) (nv ev : Value) : Prop := Below w.heap.size w wr ∧ w.heap.size < wr.heap.size ∧ wr.cell? ⟨w.heap.size, 0, none⟩ = some nv ∧ wr.cell? ⟨w.heap.size, 1, none⟩ = some ev
theorem Dst.below {w wr w' : World} {nv ev : Value} (h : Dst w wr nv ev) (hb : Below wr.heap.size wr w') : Dst w w' nv ev :=
 ⟨h.1.trans (hb.mono (Nat.le_of_lt h.2.1)), Nat.lt_of_lt_of_le h.2.1 hb.size, (hb.cell (p := ⟨w.heap.size, 0, none⟩) h.2.1).trans h.2.2.1, (hb.cell (p := ⟨w.heap.size, 1, none⟩) h.2.1).trans h.2.2.2⟩
set_option maxRecDepth 100000 in
set_option maxHeartbeats 8000000 in
theorem drawn_any {w : World} {nv ev : Value} {N : List Pt} {E : List Ei} (hn : RdK encS 2 w w.heap.size nv N) (he : RdK encS 2 w w.heap.size ev E) (nl : N.length ≤ 400) (el : E.length ≤ 800) :
  Calls Tryz.prog 110 #[.agg #[nv, ev]] w fun e w' => DrawnQ w w' N E e ∧ Below w.heap.size w w' := by
 obtain ⟨An, cn, rfl, hn⟩ := hn
 obtain ⟨Ae, ce, rfl, he⟩ := he
 have HNR := hide hn
 have HER := hide he
 clear hn he
 obtain ⟨i2, fi, fz0, fz1, fz2⟩ := info_parts infoSg
 go_enter Tryz.func110, Tryz.ntmps110
 go_upto_region 2 with fail
 refine wp_name fun w0 hw0 => ?_
 have HS0 : Hid (Dst w w0 (.slice An N.length cn) (.slice Ae E.length ce)) := hide ⟨by rw [hw0]; exact (Below.refl _ _).alloc (Nat.le_refl _) _, by rw [hw0]; simp, by rw [hw0]; simp [go_sem], by rw [hw0]; simp [go_sem]⟩
 have c1 := HS0.out.2.2.2
 clear hw0
 go_wp2
 clear c1
 go_loopw [4, 11] (fun o i wr => ∃ (m : Nat) (Ao : Option Addr) (co : Nat), m ≤ E.length ∧ i = .int .i64 (m : Int) ∧ o = .slice Ao m co ∧ Hid (Dst w wr (.slice An N.length cn) (.slice Ae E.length ce)) ∧ Hid (wr.ownsRow (w.heap.size + 1) 106 4 (.slice Ao m co) m ((segsI N (E.take m)).flatMap encSg)) ∧ Hid (∀ e ∈ E.take m, okEi N e)) (fun _ i _ => E.length - (intOf i).toNat)
 case atStart => exact ⟨0, none, 0, Nat.zero_le _, rfl, rfl, HS0, hide (World.ownsRow_nil _ _ _ _), hide (by simp)⟩
 case round =>
  clear HS0
  obtain ⟨m, Ao, co, hm, rfl, rfl, HST, HO, HOK⟩ := hrel
  by_cases hlt : m < E.length
  ·obtain ⟨⟨i, j⟩, hs⟩ : ∃ p, E[m]? = some p := ⟨_, List.getElem?_eq_getElem hlt⟩
   obtain ⟨b, o, rfl, hbl, k⟩ := HER.out (by intro e; rw [e] at hlt; simp at hlt)
   have hb := HST.out.1
   have d0 : wr.cell? ⟨b, o + m * 2, none⟩ = some (.int .i64 i) := (hb.cell (p := ⟨b, _, none⟩) hbl).trans (k m _ hs 0 _ rfl)
   have d1 : wr.cell? ⟨b, o + m * 2 + 1, none⟩ = some (.int .i64 j) := (hb.cell (p := ⟨b, _, none⟩) hbl).trans (k m _ hs 1 _ rfl)
   have mz : (m : Int) < (E.length : Int) := by omega
   have HS := hide hs
   clear k hs hb
   go_upto_region 5 with fail
   refine wp_name fun w5 hw5 => ?_
   obtain ⟨g5, hg5⟩ : ∃ g, g = wr.heap.size := ⟨_, rfl⟩
   have hb5 : Below wr.heap.size wr w5 := by
    rw [hw5]
    repeat (first | with_reducible exact Below.refl _ _ | with_reducible refine Below.setCell ?_ (by first | (simp; done) | (simp; omega)) _ | with_reducible refine Below.alloc ?_ (by first | omega | (simp; omega) | simp) _)
   have e0 : w5.cell? ⟨g5, 0, none⟩ = some (.int .i64 i) := by rw [hw5, hg5]; simp [go_sem]
   have e1 : w5.cell? ⟨g5, 1, none⟩ = some (.int .i64 j) := by rw [hw5, hg5]; simp [go_sem]
   have hz5 : w5.heap.size = g5 + 1 := by rw [hw5, hg5]; simp
   have hwg : w.heap.size < g5 := by rw [hg5]; exact HST.out.2.1
   have HS5 := hide (HST.out.below hb5)
   have HO5 := hide (HO.out.kept (below_grow hb5) own_none_or)
   rw [← hg5]
   have c0 := HS5.out.2.2.1
   have c1 := HS5.out.2.2.2
   clear hw5 hb5 hg5 d0 d1 HST HO
   by_cases t1 : min i j < 0
   ·have t1z : decide (min i j < 0) = true := decide_eq_true t1
    have HNE : Hid (¬ ∀ e ∈ E, okEi N e) := hide (fun h => by
     obtain ⟨⟨h1, h2, h3, h4⟩, _⟩ := h _ (List.mem_of_getElem? HS.out)
     simp only at h1 h3
     omega)
    clear t1
    go_wp2
    go_ret2
    exact ⟨⟨_, _, rfl, fun h => absurd h HNE.out, fun _ => rfl⟩, HS5.out.1⟩
   ·have t1z : decide (min i j < 0) = false := decide_eq_false t1
    by_cases t2 : (N.length : Int) ≤ max i j
    ·have t2z : decide ((N.length : Int) ≤ max i j) = true := decide_eq_true t2
     have HNE : Hid (¬ ∀ e ∈ E, okEi N e) := hide (fun h => by
      obtain ⟨⟨h1, h2, h3, h4⟩, _⟩ := h _ (List.mem_of_getElem? HS.out)
      simp only at h2 h4
      omega)
     clear t1 t2
     go_wp2
     go_ret2
     exact ⟨⟨_, _, rfl, fun h => absurd h HNE.out, fun _ => rfl⟩, HS5.out.1⟩
    ·have t2z : decide ((N.length : Int) ≤ max i j) = false := decide_eq_false t2
     obtain ⟨I, rfl⟩ : ∃ I : Nat, i = (I : Int) := ⟨i.toNat, by omega⟩
     obtain ⟨J, rfl⟩ : ∃ J : Nat, j = (J : Int) := ⟨j.toNat, by omega⟩
     have hI : I < N.length := by omega
     have hJ : J < N.length := by omega
     obtain ⟨⟨px, py⟩, hp⟩ : ∃ p, N[I]? = some p := ⟨_, List.getElem?_eq_getElem hI⟩
     obtain ⟨⟨qx, qy⟩, hq⟩ : ∃ p, N[J]? = some p := ⟨_, List.getElem?_eq_getElem hJ⟩
     obtain ⟨bn, on, rfl, hbn, kn⟩ := HNR.out (by intro e; rw [e] at hI; simp at hI)
     have f0 : w5.cell? ⟨bn, on + I * 2, none⟩ = some (.int .i64 px) := (HS5.out.1.cell (p := ⟨bn, _, none⟩) hbn).trans (kn I _ hp 0 _ rfl)
     have f1 : w5.cell? ⟨bn, on + I * 2 + 1, none⟩ = some (.int .i64 py) := (HS5.out.1.cell (p := ⟨bn, _, none⟩) hbn).trans (kn I _ hp 1 _ rfl)
     have f2 : w5.cell? ⟨bn, on + J * 2, none⟩ = some (.int .i64 qx) := (HS5.out.1.cell (p := ⟨bn, _, none⟩) hbn).trans (kn J _ hq 0 _ rfl)
     have f3 : w5.cell? ⟨bn, on + J * 2 + 1, none⟩ = some (.int .i64 qy) := (HS5.out.1.cell (p := ⟨bn, _, none⟩) hbn).trans (kn J _ hq 1 _ rfl)
     have HSG : Hid (sgI N ((I : Int), (J : Int)) = ⟨px, py, qx, qy⟩) := hide (by
      unfold sgI nd
      simp only [Int.toNat_natCast, List.getD_eq_getElem?_getD, hp, hq, Option.getD_some])
     have iz : (I : Int) < (N.length : Int) := by omega
     have jz : (J : Int) < (N.length : Int) := by omega
     clear t1 t2 hp hq kn
     go_upto_region 7 with fail
     refine wp_region_mix [0, 1, 2, 3, 4, 5, 6, 7, 8, 9, 10, 11, 12] [13, 14] (fun w' => (w'.cell? ⟨w.heap.size, 0, none⟩ = some (.slice (some ⟨bn, on, none⟩) N.length cn)) ∧ (w'.cell? ⟨g5, 0, none⟩ = some (.int .i64 (I : Int)) ∧ w'.cell? ⟨g5, 1, none⟩ = some (.int .i64 (J : Int))) ∧ (w'.cell? ⟨bn, on + I * 2, none⟩ = some (.int .i64 px) ∧ w'.cell? ⟨bn, on + I * 2 + 1, none⟩ = some (.int .i64 py)) ∧ (w'.cell? ⟨bn, on + J * 2, none⟩ = some (.int .i64 qx) ∧ w'.cell? ⟨bn, on + J * 2 + 1, none⟩ = some (.int .i64 qy))) (by kernel_rfl) (by kernel_rfl) ⟨c0, ⟨e0, e1⟩, ⟨f0, f1⟩, f2, f3⟩ ?_
     simp only [List.map_cons, List.map_nil, opAt, List.getElem?_cons_succ, List.getElem?_cons_zero, Option.getD_some]
     iterate 13
      refine ⟨?_, Or.inl ⟨by rfl, ?_⟩, ?_⟩
      rotate_left 1
      ·intro w' hSw
       obtain ⟨y0, ⟨y1, y2⟩, ⟨y3, y4⟩, y5, y6⟩ := hSw
       go_simp
       first | done | with_reducible rfl
      simp only [Act.put, List.setIfInBounds_toArray, List.set_cons_zero, List.set_cons_succ]
     simp only [wpReads]
     intro K hK
     simp only [Act.put, List.setIfInBounds_toArray, List.set_cons_zero, List.set_cons_succ] at hK ⊢
     go_simp
     refine hK _ _ (fun _ => ⟨by go_keep, ⟨by go_keep, by go_keep⟩, ⟨by go_keep, by go_keep⟩, by go_keep, by go_keep⟩) ?_
     clear hK K
     intro K hK
     simp only [Act.put, List.setIfInBounds_toArray, List.set_cons_zero, List.set_cons_succ] at hK ⊢
     go_simp
     refine hK _ _ (fun h => absurd rfl h) ?_
     clear hK K
     refine NoPanic.normal ?_
     go_upto_region 8 with fail
     refine wp_name fun w7 hw7 => ?_
     have hb7 : Below w5.heap.size w5 w7 := by
      rw [hw7]
      repeat (first | with_reducible exact Below.refl _ _ | with_reducible refine Below.drew ?_ | with_reducible refine Below.setCell ?_ (by first | (simp; done) | (simp; omega)) _ | with_reducible refine Below.alloc ?_ (by first | omega | (simp; omega) | simp) _)
     have z0 : w7.cell? ⟨g5 + 1, 0, none⟩ = some (.int .i64 px) := by rw [hw7, ← hz5]; simp [go_sem]
     have z1 : w7.cell? ⟨g5 + 1, 1, none⟩ = some (.int .i64 py) := by rw [hw7, ← hz5]; simp [go_sem]
     have z2 : w7.cell? ⟨g5 + 1, 2, none⟩ = some (.int .i64 qx) := by rw [hw7, ← hz5]; simp [go_sem]
     have z3 : w7.cell? ⟨g5 + 1, 3, none⟩ = some (.int .i64 qy) := by rw [hw7, ← hz5]; simp [go_sem]
     have h7 : g5 + 1 < w7.heap.size := by rw [hw7, ← hz5]; simp
     have HS7 := hide (HS5.out.below hb7)
     have HO7 := hide (HO5.out.kept (below_grow hb7) own_none_or)
     clear hw7 hb7 c0 c1 e0 e1 f0 f1 f2 f3 HS5 HO5
     go_wp2_with (fail)
     refine (svalid_any ⟨px, py, qx, qy⟩ _).mono ?_
     rintro e w8 ⟨rfl, hb8⟩
     have y0 := (hb8.cell (p := ⟨g5 + 1, 0, none⟩) h7).trans z0
     have y1 := (hb8.cell (p := ⟨g5 + 1, 1, none⟩) h7).trans z1
     have y2 := (hb8.cell (p := ⟨g5 + 1, 2, none⟩) h7).trans z2
     have y3 := (hb8.cell (p := ⟨g5 + 1, 3, none⟩) h7).trans z3
     have HS8 := hide (HS7.out.below hb8)
     have HO8 := hide (HO7.out.kept (below_grow hb8) own_none_or)
     have hw8 : w.heap.size + 1 ≤ w8.heap.size := HS8.out.2.1
     clear hb8 z0 z1 z2 z3 h7 HS7 HO7
     by_cases hv : okSg ⟨px, py, qx, qy⟩
     ·rw [decide_eq_true hv]
      have HOE : Hid (okEi N ((I : Int), (J : Int))) := hide (by
       refine ⟨⟨by simp only; omega, by simp only; omega, by simp only; omega, by simp only; omega⟩, ?_⟩
       rw [HSG.out]; exact hv)
      clear hv
      go_wp2_with (at_builtin; go_loud (refine wpList_append_lies _ rfl (.tmp 48) (.tmp 50) 102 rfl (w.heap.size + 1) 106 i2 (.agg #[.int .i64 0, .int .i64 0, .int .i64 0, .int .i64 0]) 4 32 Tryz.underlying102 fi fz0 fz1 fz2 rfl (by decide) _ m _ rfl (World.ownsRow.alloc HO8.out _) ⟨w8.heap.size, 0, none⟩ 1 1 [.int .i64 px, .int .i64 py, .int .i64 qx, .int .i64 qy] rfl rfl (news_new w8 _ _ _ (by simp)) (ints_one rfl) (by omega) (by unfold maxLen; omega) (by omega) (by simp; omega) _ rfl ?_))
      intro g9 cap9 w9 hown9 hgrow9 hor9 hlt9
      have hal : Below w8.heap.size w8 (w8.alloc (.cells #[.int .i64 px, .int .i64 py, .int .i64 qx, .int .i64 qy] 106)) := (Below.refl _ _).alloc (Nat.le_refl _) _
      have ho' : ∀ q, (Value.slice Ao m co).ownBlock = some q → w.heap.size + 1 ≤ q := fun q hq => (HO8.out.lt q hq).1
      have hnn : some w.heap.size ≠ (Value.slice Ao m co).ownBlock := fun e => by have := ho' _ e.symm; omega
      have HSa := HS8.out.below hal
      have HS9 : Hid (Dst w w9 (.slice (some ⟨bn, on, none⟩) N.length cn) (.slice (some ⟨b, o, none⟩) E.length ce)) := hide ⟨HSa.1.grown hgrow9 (Nat.le_of_lt HSa.2.1) (fun q hq => by have := ho' q hq; omega), Nat.lt_of_lt_of_le HSa.2.1 hgrow9.size, (cell_grow hgrow9 HSa.2.1 hnn).trans HSa.2.2.1, (cell_grow hgrow9 HSa.2.1 hnn).trans HSa.2.2.2⟩
      have hx9 : (segsI N (E.take m)).flatMap encSg ++ [.int .i64 px, .int .i64 py, .int .i64 qx, .int .i64 qy] = (segsI N (E.take (m + 1))).flatMap encSg := by
       rw [List.take_add_one, HS.out, Option.toList_some]
       unfold segsI
       rw [List.map_append, List.flatMap_append, List.map_cons, List.map_nil, HSG.out]
       simp [encSg]
      rw [hx9] at hown9
      have HO9 := hide hown9
      have HOK9 : Hid (∀ e ∈ E.take (m + 1), okEi N e) := hide (by
       intro q hq
       rw [List.take_add_one, HS.out, Option.toList_some, List.mem_append, List.mem_singleton] at hq
       rcases hq with hq | rfl
       ·exact HOK.out q hq
       ·exact HOE.out)
      clear hown9 hgrow9 hor9 hlt9 hal ho' hnn HSa hx9 y0 y1 y2 y3 HS8 HO8
      go_wp2
      go_roundw
      case rel => exact ⟨m + 1, _, cap9, by omega, by go_num, rfl, HS9, HO9, HOK9⟩
      case measure => simp [intOf]; omega
     ·rw [decide_eq_false hv]
      have HNE : Hid (¬ ∀ e ∈ E, okEi N e) := hide (fun h => hv (by
       have := (h _ (List.mem_of_getElem? HS.out)).2
       rwa [HSG.out] at this))
      clear hv
      go_wp2
      go_ret2
      exact ⟨⟨_, _, rfl, fun h => absurd h HNE.out, fun _ => rfl⟩, HS8.out.1⟩
  ·have mz : ¬ (m : Int) < (E.length : Int) := by omega
   have ht : E.take m = E := List.take_of_length_le (by omega)
   rw [ht] at HO HOK
   obtain rfl : m = E.length := by omega
   go_wp2
   go_ret2
   exact ⟨⟨_, _, rfl, fun _ => ⟨rfl, own_base HO.out (Nat.le_succ _)⟩, fun h => absurd HOK.out h⟩, HST.out.1⟩
end Go.Proofs.YtikojiciilambaaGreat

/- The reference's In (33) and Valid (34): what is a segment. -/
namespace Go.Proofs.YtikojiciilambaaGreat
open Go.RowKit
set_option linter.unusedVariables false
set_option linter.unusedSimpArgs false
set_option maxHeartbeats 4000000 in
theorem rIn33_any (x y : Int) (w : World) :
  Calls Tryz.prog 68 #[.agg #[.int .i64 x, .int .i64 y]] w fun e w' => e = .returned (.bool (decide (finS x) && decide (finS y))) ∧ Below w.heap.size w w' := by
 have hb : Below w.heap.size w (w.alloc (.cells #[.int .i64 x, .int .i64 y] 53)) := (Below.refl _ _).alloc (Nat.le_refl _) _
 have HB := hide hb
 clear hb
 by_cases t0 : -1000000 ≤ x
 ·by_cases t1 : x ≤ 1000000
  ·by_cases t2 : -1000000 ≤ y
   ·by_cases t3 : y ≤ 1000000
    ·have b0 : decide (-1000000 ≤ x) = true := decide_eq_true t0
     have b1 : decide (x ≤ 1000000) = true := decide_eq_true t1
     have b2 : decide (-1000000 ≤ y) = true := decide_eq_true t2
     have b3 : decide (y ≤ 1000000) = true := decide_eq_true t3
     have HT := hide (((⟨t0, t1, t2, t3⟩ : (-1000000 ≤ x) ∧ (x ≤ 1000000) ∧ (-1000000 ≤ y) ∧ (y ≤ 1000000))))
     clear t0 t1 t2 t3
     go_enter Tryz.func68, Tryz.ntmps68
     go_wp2
     go_ret
     refine ⟨ret_eq (bool_eq ?_), HB.out⟩
     have hT := HT.out
     rw [decide_eq_true (show finS x by unfold finS; omega), decide_eq_true (show finS y by unfold finS; omega)]
     rfl
    ·have b0 : decide (-1000000 ≤ x) = true := decide_eq_true t0
     have b1 : decide (x ≤ 1000000) = true := decide_eq_true t1
     have b2 : decide (-1000000 ≤ y) = true := decide_eq_true t2
     have b3 : decide (y ≤ 1000000) = false := decide_eq_false t3
     have HT := hide (((⟨t0, t1, t2, t3⟩ : (-1000000 ≤ x) ∧ (x ≤ 1000000) ∧ (-1000000 ≤ y) ∧ ¬ (y ≤ 1000000))))
     clear t0 t1 t2 t3
     go_enter Tryz.func68, Tryz.ntmps68
     go_wp2
     go_ret
     refine ⟨ret_eq (bool_eq ?_), HB.out⟩
     have hT := HT.out
     symm
     rw [Bool.and_eq_false_iff, decide_eq_false_iff_not, decide_eq_false_iff_not]
     unfold finS
     omega
   ·have b0 : decide (-1000000 ≤ x) = true := decide_eq_true t0
    have b1 : decide (x ≤ 1000000) = true := decide_eq_true t1
    have b2 : decide (-1000000 ≤ y) = false := decide_eq_false t2
    have HT := hide (((⟨t0, t1, t2⟩ : (-1000000 ≤ x) ∧ (x ≤ 1000000) ∧ ¬ (-1000000 ≤ y))))
    clear t0 t1 t2
    go_enter Tryz.func68, Tryz.ntmps68
    go_wp2
    go_ret
    refine ⟨ret_eq (bool_eq ?_), HB.out⟩
    have hT := HT.out
    symm
    rw [Bool.and_eq_false_iff, decide_eq_false_iff_not, decide_eq_false_iff_not]
    unfold finS
    omega
  ·have b0 : decide (-1000000 ≤ x) = true := decide_eq_true t0
   have b1 : decide (x ≤ 1000000) = false := decide_eq_false t1
   have HT := hide (((⟨t0, t1⟩ : (-1000000 ≤ x) ∧ ¬ (x ≤ 1000000))))
   clear t0 t1
   go_enter Tryz.func68, Tryz.ntmps68
   go_wp2
   go_ret
   refine ⟨ret_eq (bool_eq ?_), HB.out⟩
   have hT := HT.out
   symm
   rw [Bool.and_eq_false_iff, decide_eq_false_iff_not, decide_eq_false_iff_not]
   unfold finS
   omega
 ·have b0 : decide (-1000000 ≤ x) = false := decide_eq_false t0
  have HT := hide ((t0 : ¬ (-1000000 ≤ x)))
  clear t0
  go_enter Tryz.func68, Tryz.ntmps68
  go_wp2
  go_ret
  refine ⟨ret_eq (bool_eq ?_), HB.out⟩
  have hT := HT.out
  symm
  rw [Bool.and_eq_false_iff, decide_eq_false_iff_not, decide_eq_false_iff_not]
  unfold finS
  omega
set_option maxHeartbeats 8000000 in
theorem rSegValid_any (s : Sg) (w : World) :
  Calls Tryz.prog 156 #[.agg #[.int .i64 s.ax, .int .i64 s.ay, .int .i64 s.cx, .int .i64 s.cy]] w fun e w' => e = .returned (.bool (decide (okSg s))) ∧ Below w.heap.size w w' := by
 obtain ⟨a, b, c, d⟩ := s
 have hv : decide (okSg ⟨a, b, c, d⟩) = ((decide (finS a) && decide (finS b)) && (decide (finS c) && decide (finS d)) && (decide (a = c) != decide (b = d))) := by
  rw [Bool.eq_iff_iff, decide_eq_true_iff]
  unfold okSg
  by_cases h1 : a = c <;> by_cases h2 : b = d <;> simp [h1, h2, and_assoc]
 rw [hv]
 clear hv
 simp only
 have g : Tryz.prog.eqGuardType Tryz.prog.depth 53 = false := by kernel_rfl
 have ha := fun W => rIn33_any a b W
 have hc := fun W => rIn33_any c d W
 generalize (decide (finS a) && decide (finS b)) = f at *
 generalize (decide (finS c) && decide (finS d)) = k at *
 have HA := hide ha
 have HC := hide hc
 clear ha hc
 by_cases t1 : a = c <;> by_cases t2 : b = d
 ·subst t1
  subst t2
  go_enter Tryz.func156, Tryz.ntmps156
  go_wp2
  go_ret
  exact ⟨ret_eq (bool_eq (by cases f <;> cases k <;> simp)), ((Below.refl _ _).alloc (Nat.le_refl _) _ : Below w.heap.size w (w.alloc (.cells #[.int .i64 a, .int .i64 b, .int .i64 a, .int .i64 b] 106)))⟩
 ·subst t1
  have u2 : (b == d) = false := by simpa using t2
  have hd2 : decide (b = d) = false := decide_eq_false t2
  rw [hd2]
  have hba := ((Below.refl _ _).alloc (Nat.le_refl _) _ : Below w.heap.size w (w.alloc (.cells #[.int .i64 a, .int .i64 b, .int .i64 a, .int .i64 d] 106)))
  have HBA := hide hba
  clear hba
  cases f
  ·go_enter Tryz.func156, Tryz.ntmps156
   go_wp2_with (fail)
   refine (HA.out _).mono ?_
   rintro e w1 ⟨rfl, hb1⟩
   have HB1 := hide (HBA.out.trans (hb1.mono HBA.out.size))
   clear hb1
   go_wp2
   go_ret
   exact ⟨ret_eq (bool_eq (by cases k <;> simp)), HB1.out⟩
  ·go_enter Tryz.func156, Tryz.ntmps156
   go_wp2_with (fail)
   refine (HA.out _).mono ?_
   rintro e w1 ⟨rfl, hb1⟩
   have HB1 := hide (HBA.out.trans (hb1.mono HBA.out.size))
   have k2 := (hb1.cell (p := ⟨w.heap.size, 2, none⟩) (by simp)).trans (show (w.alloc (.cells #[.int .i64 a, .int .i64 b, .int .i64 a, .int .i64 d] 106)).cell? ⟨w.heap.size, 2, none⟩ = some (.int .i64 a) by simp [go_sem])
   have k3 := (hb1.cell (p := ⟨w.heap.size, 3, none⟩) (by simp)).trans (show (w.alloc (.cells #[.int .i64 a, .int .i64 b, .int .i64 a, .int .i64 d] 106)).cell? ⟨w.heap.size, 3, none⟩ = some (.int .i64 d) by simp [go_sem])
   clear hb1
   go_wp2_with (fail)
   refine (HC.out _).mono ?_
   rintro e w2 ⟨rfl, hb2⟩
   have HB2 := hide (HB1.out.trans (hb2.mono HB1.out.size))
   clear hb2 k2 k3
   go_wp2
   go_ret
   exact ⟨ret_eq (bool_eq (by cases k <;> simp)), HB2.out⟩
 ·have u1 : (a == c) = false := by simpa using t1
  have hd1 : decide (a = c) = false := decide_eq_false t1
  rw [hd1]
  subst t2
  have hba := ((Below.refl _ _).alloc (Nat.le_refl _) _ : Below w.heap.size w (w.alloc (.cells #[.int .i64 a, .int .i64 b, .int .i64 c, .int .i64 b] 106)))
  have HBA := hide hba
  clear hba
  cases f
  ·go_enter Tryz.func156, Tryz.ntmps156
   go_wp2_with (fail)
   refine (HA.out _).mono ?_
   rintro e w1 ⟨rfl, hb1⟩
   have HB1 := hide (HBA.out.trans (hb1.mono HBA.out.size))
   clear hb1
   go_wp2
   go_ret
   exact ⟨ret_eq (bool_eq (by cases k <;> simp)), HB1.out⟩
  ·go_enter Tryz.func156, Tryz.ntmps156
   go_wp2_with (fail)
   refine (HA.out _).mono ?_
   rintro e w1 ⟨rfl, hb1⟩
   have HB1 := hide (HBA.out.trans (hb1.mono HBA.out.size))
   have k2 := (hb1.cell (p := ⟨w.heap.size, 2, none⟩) (by simp)).trans (show (w.alloc (.cells #[.int .i64 a, .int .i64 b, .int .i64 c, .int .i64 b] 106)).cell? ⟨w.heap.size, 2, none⟩ = some (.int .i64 c) by simp [go_sem])
   have k3 := (hb1.cell (p := ⟨w.heap.size, 3, none⟩) (by simp)).trans (show (w.alloc (.cells #[.int .i64 a, .int .i64 b, .int .i64 c, .int .i64 b] 106)).cell? ⟨w.heap.size, 3, none⟩ = some (.int .i64 b) by simp [go_sem])
   clear hb1
   go_wp2_with (fail)
   refine (HC.out _).mono ?_
   rintro e w2 ⟨rfl, hb2⟩
   have HB2 := hide (HB1.out.trans (hb2.mono HB1.out.size))
   clear hb2 k2 k3
   go_wp2
   go_ret
   exact ⟨ret_eq (bool_eq (by cases k <;> simp)), HB2.out⟩
 ·have u1 : (a == c) = false := by simpa using t1
  have hd1 : decide (a = c) = false := decide_eq_false t1
  rw [hd1]
  have u2 : (b == d) = false := by simpa using t2
  have hd2 : decide (b = d) = false := decide_eq_false t2
  rw [hd2]
  go_enter Tryz.func156, Tryz.ntmps156
  go_wp2
  go_ret
  exact ⟨ret_eq (bool_eq (by cases f <;> cases k <;> simp)), ((Below.refl _ _).alloc (Nat.le_refl _) _ : Below w.heap.size w (w.alloc (.cells #[.int .i64 a, .int .i64 b, .int .i64 c, .int .i64 d] 106)))⟩
end Go.Proofs.YtikojiciilambaaGreat
