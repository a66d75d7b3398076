/- gambrelref12.Near: at most twelve rectangles near the origin, or a list that is too long. -/
import Derived.Test.YtdfpbhlnlkjjlaaGreatXtoK
import Derived.Deep.Cut
namespace Go.Proofs.YtdfpbhlnlkjjlaaGreat
open Go.RowKit
set_option linter.unusedVariables false
set_option linter.unusedSimpArgs false
theorem run_max4 {P : Program} (w : World) (ts : Array TypeId) (t : TypeId) (a b c d : Int) : (Builtin.max_ ts t #[.int .i64 a, .int .i64 b, .int .i64 c, .int .i64 d]).run P w = .ok (.int .i64 (max (max (max a b) c) d)) w := by
 have k : ∀ x y : Int, (if y > x then y else x) = max x y := fun x y => by
  by_cases h : y > x
  ·rw [if_pos h]; omega
  ·rw [if_neg h]; omega
 have k2 : ∀ (x y : Int) (v : World), Sem.run P (Builtin.max2 (.int .i64 x) (.int .i64 y)) v = .ok (.int .i64 (max x y)) v := fun x y v => by simp [Builtin.max2, k]
 simp only [Builtin.max_]
 simp [k2, Int.max_assoc]
theorem run_min4 {P : Program} (w : World) (ts : Array TypeId) (t : TypeId) (a b c d : Int) : (Builtin.min_ ts t #[.int .i64 a, .int .i64 b, .int .i64 c, .int .i64 d]).run P w = .ok (.int .i64 (min (min (min a b) c) d)) w := by
 have k : ∀ x y : Int, (if y < x then y else x) = min x y := fun x y => by
  by_cases h : y < x
  ·rw [if_pos h]; omega
  ·rw [if_neg h]; omega
 have k2 : ∀ (x y : Int) (v : World), Sem.run P (Builtin.min2 (.int .i64 x) (.int .i64 y)) v = .ok (.int .i64 (min x y)) v := fun x y v => by simp [Builtin.min2, k]
 simp only [Builtin.min_]
 simp [k2, Int.min_assoc]
def near4 (n : Int) (r : R4) : Prop := (-n ≤ r.x0 ∧ r.x0 ≤ n) ∧ (-n ≤ r.y0 ∧ r.y0 ≤ n) ∧ (-n ≤ r.x1 ∧ r.x1 ≤ n) ∧ (-n ≤ r.y1 ∧ r.y1 ≤ n)
def NearOK (n : Int) (l : List R4) : Prop := (400 < l.length ∧ l.length ≤ 420) ∨ (l.length ≤ 12 ∧ ∀ r ∈ l, near4 n r)
set_option maxRecDepth 100000 in
set_option maxHeartbeats 4000000 in
theorem near12_any {w : World} {va : Value} {l : List R4} (ra : RdK encR 4 w w.heap.size va l) (na : l.length ≤ maxLen) :
  Calls Tryz.prog 15 #[va, .int .i64 30] w fun e w' => (e = .returned (.bool false) ∧ Below w.heap.size w w') ∨ (e = .returned (.bool true) ∧ NearOK 30 l ∧ Below w.heap.size w w') := by
 unfold maxLen at na
 obtain ⟨A1, c1, hva, hcc⟩ := ra
 subst hva
 by_cases h1 : 400 < l.length
 ·have z1 : (400 : Int) < (l.length : Int) := by omega
  have e1 : decide ((l.length : Int) ≤ 420) = decide (l.length ≤ 420) := decide_eq_decide.2 (by omega)
  clear hcc
  by_cases h2 : l.length ≤ 420
  ·have z2 : (l.length : Int) ≤ 420 := by omega
   clear e1
   go_enter Tryz.func15, Tryz.ntmps15
   go_wp2
   go_ret
   exact .inr ⟨by first | rfl | exact ret_eq (bool_eq (decide_eq_true z2)), .inl ⟨h1, h2⟩, Below.refl _ _⟩
  ·have z2 : (420 : Int) < (l.length : Int) := by omega
   clear e1
   go_enter Tryz.func15, Tryz.ntmps15
   go_wp2
   go_ret
   exact .inl ⟨ret_eq (bool_eq (decide_eq_false (by omega))), Below.refl _ _⟩
 ·have z1 : (l.length : Int) ≤ 400 := by omega
  have HR := hide hcc
  clear hcc
  have hmx := @run_max4 Tryz.prog
  have hmn := @run_min4 Tryz.prog
  go_enter Tryz.func15, Tryz.ntmps15
  go_wp2
  go_loopw [5] (fun i wr => ∃ m : Nat, m ≤ l.length ∧ i = .int .i64 m ∧ (∀ r ∈ l.take m, near4 30 r) ∧ Hid (Below w.heap.size w wr)) (fun i _ => l.length - (intOf i).toNat)
  case atStart => exact ⟨0, Nat.zero_le _, rfl, by simp, hide (Below.refl _ _)⟩
  case round =>
   obtain ⟨m, hm, rfl, hP, HB⟩ := hrel
   by_cases hlt : m < l.length
   ·obtain ⟨g, hp⟩ : ∃ p, l[m]? = some p := ⟨_, List.getElem?_eq_getElem hlt⟩
    obtain ⟨b, o, rfl, hbl, k⟩ := HR.out (by intro e; rw [e] at hlt; simp at hlt)
    have d0 : wr.cell? ⟨b, o + m * 4, none⟩ = some (.int .i64 g.x0) := (HB.out.cell (p := ⟨b, _, none⟩) hbl).trans (k m _ hp 0 _ rfl)
    have d1 : wr.cell? ⟨b, o + m * 4 + 1, none⟩ = some (.int .i64 g.y0) := (HB.out.cell (p := ⟨b, _, none⟩) hbl).trans (k m _ hp 1 _ rfl)
    have d2 : wr.cell? ⟨b, o + m * 4 + 2, none⟩ = some (.int .i64 g.x1) := (HB.out.cell (p := ⟨b, _, none⟩) hbl).trans (k m _ hp 2 _ rfl)
    have d3 : wr.cell? ⟨b, o + m * 4 + 3, none⟩ = some (.int .i64 g.y1) := (HB.out.cell (p := ⟨b, _, none⟩) hbl).trans (k m _ hp 3 _ rfl)
    have mz : (m : Int) < (l.length : Int) := by omega
    have HT : Hid (near4 30 g → ∀ r ∈ l.take (m + 1), near4 30 r) := hide (fun h r hr => by
     rw [List.take_add_one, hp] at hr
     rcases List.mem_append.1 hr with hr | hr
     ·exact hP r hr
     ·simp at hr; subst hr; exact h)
    have m0 : (0 : Int) ≤ (m : Int) := by omega
    have hbr : b < wr.heap.size := Nat.lt_of_lt_of_le hbl HB.out.size
    clear k hp hP
    obtain ⟨g0, g1, g2, g3⟩ := g
    simp only at d0 d1 d2 d3
    by_cases q1 : min (min (min g0 g1) g2) g3 < -30
    ·have q1' : decide (min g0 (min g1 (min g2 g3)) < -30) = true := decide_eq_true (by omega)
     go_upto_region 6 with fail
     refine wp_hab fun hab => ?_
     refine wp_region_above (by kernel_rfl) (by kernel_rfl) ?_
     repeat (go_big_quiet_step ((fail)))
     refine wpQuiet_nil ?_
     refine above_ends fun w5 hb => ?_
     have HB5 := hide (HB.out.trans (hb.mono HB.out.size))
     clear hab hb d0 d1 d2 d3
     go_wp2_with (fail)
     go_ret
     exact .inl ⟨rfl, HB5.out⟩
    ·have q1' : decide (min g0 (min g1 (min g2 g3)) < -30) = false := decide_eq_false (by omega)
     by_cases q2 : 30 < max (max (max g0 g1) g2) g3
     ·have q2' : decide (30 < max g0 (max g1 (max g2 g3))) = true := decide_eq_true (by omega)
      clear q1
      go_upto_region 6 with fail
      refine wp_hab fun hab => ?_
      refine wp_region_above (by kernel_rfl) (by kernel_rfl) ?_
      repeat (go_big_quiet_step ((fail)))
      refine wpQuiet_nil ?_
      refine above_ends fun w5 hb => ?_
      have HB5 := hide (HB.out.trans (hb.mono HB.out.size))
      clear hab hb d0 d1 d2 d3
      go_wp2_with (fail)
      go_ret
      exact .inl ⟨rfl, HB5.out⟩
     ·have q2' : decide (30 < max g0 (max g1 (max g2 g3))) = false := decide_eq_false (by omega)
      have HP2 := hide (HT.out (by unfold near4; simp only; omega))
      clear HT q1 q2
      go_upto_region 6 with fail
      refine wp_hab fun hab => ?_
      refine wp_region_above (by kernel_rfl) (by kernel_rfl) ?_
      repeat (go_big_quiet_step ((fail)))
      refine wpQuiet_nil ?_
      refine above_ends fun w5 hb => ?_
      have HB5 := hide (HB.out.trans (hb.mono HB.out.size))
      clear hab hb d0 d1 d2 d3
      go_wp2_with (fail)
      go_roundw
      case rel => exact ⟨m + 1, by omega, by go_num, HP2.out, HB5⟩
      case measure => simp [intOf]; omega
   ·obtain rfl : m = l.length := by omega
    have mz : ¬ (l.length : Int) < (l.length : Int) := by omega
    rw [List.take_length] at hP
    have HF := hide hP
    clear hP
    by_cases h2 : l.length ≤ 12
    ·have z2 : (l.length : Int) ≤ 12 := by omega
     go_wp2_with (fail)
     go_ret
     exact .inr ⟨by first | rfl | exact ret_eq (bool_eq (decide_eq_true z2)), .inr ⟨h2, HF.out⟩, HB.out⟩
    ·have z2 : (12 : Int) < (l.length : Int) := by omega
     go_wp2_with (fail)
     go_ret
     exact .inl ⟨ret_eq (bool_eq (decide_eq_false (by omega))), HB.out⟩
end Go.Proofs.YtdfpbhlnlkjjlaaGreat
