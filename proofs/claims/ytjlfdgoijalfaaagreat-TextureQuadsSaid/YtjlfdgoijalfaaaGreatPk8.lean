/- Texts laid together: MeshA, MeshB, MeshC. Lemmas for the statements of this seat; no condition. -/
import Derived.Test.YtjlfdgoijalfaaaGreatPk7
import Derived.BigQuiet
import Derived.Deep.QuietTactic

/- A quad in memory; mesh.Check and texture.Face at a quad whose direction is none. -/
namespace Go.Proofs.YtjlfdgoijalfaaaGreat
open Go.RowKit
set_option linter.unusedVariables false
set_option linter.unusedSimpArgs false
attribute [local go_sem] Oper.semAt_some

structure Qd7 where
  d : Int
  lx : Int
  ly : Int
  lz : Int
  hx : Int
  hy : Int
  hz : Int
def encQd (q : Qd7) : List Value := [.int .u8 q.d, .int .i64 q.lx, .int .i64 q.ly, .int .i64 q.lz, .int .i64 q.hx, .int .i64 q.hy, .int .i64 q.hz]
theorem rd_q (w : World) (d a b c e f g : Int) (t : TypeId) : RdK encQd 7 (w.alloc (.cells #[.int .u8 d, .int .i64 a, .int .i64 b, .int .i64 c, .int .i64 e, .int .i64 f, .int .i64 g] t)) (w.alloc (.cells #[.int .u8 d, .int .i64 a, .int .i64 b, .int .i64 c, .int .i64 e, .int .i64 f, .int .i64 g] t)).heap.size (.slice (some ⟨w.heap.size, 0, none⟩) 1 1) ([⟨d, a, b, c, e, f, g⟩] : List Qd7) := by
  refine ⟨_, 1, rfl, fun _ => ⟨w.heap.size, 0, rfl, by simp, fun j x hx i u hu => ?_⟩⟩
  have hj : j = 0 := by
    have := (List.getElem?_eq_some_iff.1 hx).1
    simp at this
    exact this
  subst hj
  simp only [List.getElem?_cons_zero, Option.some.injEq] at hx
  subst hx
  have := news_new w (encQd ⟨d, a, b, c, e, f, g⟩) t w.heap.size rfl i u hu
  rw [addr_add] at this
  rwa [Nat.zero_mul, Nat.zero_add]
theorem rd_q_at {w : World} {B : Nat} (hB : w.heap.size = B) (d a b c e f g : Int) (t : TypeId) : RdK encQd 7 (w.alloc (.cells #[.int .u8 d, .int .i64 a, .int .i64 b, .int .i64 c, .int .i64 e, .int .i64 f, .int .i64 g] t)) (w.alloc (.cells #[.int .u8 d, .int .i64 a, .int .i64 b, .int .i64 c, .int .i64 e, .int .i64 f, .int .i64 g] t)).heap.size (.slice (some ⟨B, 0, none⟩) 1 1) ([⟨d, a, b, c, e, f, g⟩] : List Qd7) := by
  subst hB
  exact rd_q w d a b c e f g t
theorem mviews_any (w : World) : Calls Tryz.prog 34 #[] w fun e w' => e = .returned (.agg #[.func (.func 55) #[] #[], .func (.func 56) #[] #[], .func (.func 57) #[] #[], .func (.func 58) #[] #[], .func (.func 59) #[] #[], .func (.func 60) #[] #[], .func (.func 61) #[] #[], .func (.func 62) #[] #[], .func (.func 63) #[] #[]]) ∧ Below w.heap.size w w' := by
  go_enter Tryz.func34, Tryz.ntmps34
  go_wp2
  refine bodyPost_ret (v := .agg #[.func (.func 55) #[] #[], .func (.func 56) #[] #[], .func (.func 57) #[] #[], .func (.func 58) #[] #[], .func (.func 59) #[] #[], .func (.func 60) #[] #[], .func (.func 61) #[] #[], .func (.func 62) #[] #[], .func (.func 63) #[] #[]]) (by simp [results, Tryz.results34, go_sem]) rfl ⟨rfl, ?_⟩
  repeat (first | with_reducible exact Below.refl _ _ | with_reducible refine Below.setCell ?_ (by first | (simp; done) | (simp; omega)) _ | with_reducible refine Below.alloc ?_ (by first | omega | (simp; omega) | simp) _)
set_option maxRecDepth 100000 in
set_option maxHeartbeats 4000000 in
theorem mesh6_any {w : World} {v : Value} {q : Qd7} (hr : RdK encQd 7 w w.heap.size v [q]) (hd : 5 < q.d) :
    Calls Tryz.prog 15 #[v] w fun e w' => e = .returned (.int .i64 8) ∧ Below w.heap.size w w' := by
  obtain ⟨d, lx, ly, lz, hx, hy, hz⟩ := q
  obtain ⟨A, c, rfl, hc⟩ := hr
  obtain ⟨b, o, rfl, hbl, k⟩ := hc (by simp)
  have x0 := k 0 _ rfl 0 _ rfl
  have x1 := k 0 _ rfl 1 _ rfl
  have x2 := k 0 _ rfl 2 _ rfl
  have x3 := k 0 _ rfl 3 _ rfl
  have x4 := k 0 _ rfl 4 _ rfl
  have x5 := k 0 _ rfl 5 _ rfl
  have x6 := k 0 _ rfl 6 _ rfl
  simp only [Nat.zero_mul, Nat.add_zero] at x0 x1 x2 x3 x4 x5 x6
  simp only at hd
  have zd : decide (5 < d) = true := decide_eq_true hd
  have X := hide (And.intro x0 (And.intro x1 (And.intro x2 (And.intro x3 (And.intro x4 (And.intro x5 x6))))))
  clear hc k x0 x1 x2 x3 x4 x5 x6 hd
  show Calls Tryz.prog _ #[.slice (some ⟨b, o, none⟩) 1 c] w _
  go_enter Tryz.func15, Tryz.ntmps15
  go_wp2_with (fail)
  refine (mviews_any _).mono ?_
  rintro e w1 ⟨rfl, hb1⟩
  have HB1 := hide hb1
  clear hb1
  go_upto_region 4 with fail
  refine wp_name fun w2 hw2 => ?_
  have hb2 : Below w1.heap.size w1 w2 := by
    rw [hw2]
    repeat (first | with_reducible exact Below.refl _ _ | with_reducible refine Below.setCell ?_ (by first | (simp; done) | (simp; omega)) _ | with_reducible refine Below.alloc ?_ (by first | omega | (simp; omega) | simp) _)
  have HB2 := hide (HB1.out.trans (hb2.mono HB1.out.size))
  generalize w1.heap.size = g1 at *
  clear hw2 hb2 HB1
  go_wp2
  go_loopw [14] (fun i wr => i = .int .i64 0 ∧ Hid (Below w.heap.size w wr)) (fun i _ => 0)
  case atStart => exact ⟨rfl, HB2⟩
  case round =>
    obtain ⟨rfl, HB⟩ := hrel
    obtain ⟨x0, x1, x2, x3, x4, x5, x6⟩ := X.out
    replace x0 := (HB.out.cell (p := ⟨b, _, none⟩) hbl).trans x0
    replace x1 := (HB.out.cell (p := ⟨b, _, none⟩) hbl).trans x1
    replace x2 := (HB.out.cell (p := ⟨b, _, none⟩) hbl).trans x2
    replace x3 := (HB.out.cell (p := ⟨b, _, none⟩) hbl).trans x3
    replace x4 := (HB.out.cell (p := ⟨b, _, none⟩) hbl).trans x4
    replace x5 := (HB.out.cell (p := ⟨b, _, none⟩) hbl).trans x5
    replace x6 := (HB.out.cell (p := ⟨b, _, none⟩) hbl).trans x6
    go_upto_region 7 with fail
    refine wp_name fun w3 hw3 => ?_
    have hb3 : Below wr.heap.size wr w3 := by rw [hw3]; exact (Below.refl _ _).alloc (Nat.le_refl _) _
    have d0 : w3.cell? ⟨wr.heap.size, 0, none⟩ = some (.int .u8 d) := by rw [hw3]; simp [go_sem]
    have HB3 := hide (HB.out.trans (hb3.mono HB.out.size))
    clear hw3 hb3 x0 x1 x2 x3 x4 x5 x6 HB
    go_wp2
    go_ret
    exact ⟨rfl, HB3.out⟩
set_option maxRecDepth 100000 in
set_option maxHeartbeats 4000000 in
theorem face6_any (d a b c e f g W H S : Int) (hd : 5 < d) (w : World) :
    Calls Tryz.prog 6 #[.agg #[.int .u8 d, .int .i64 a, .int .i64 b, .int .i64 c, .int .i64 e, .int .i64 f, .int .i64 g], .agg #[.int .i64 W, .int .i64 H, .int .i64 S]] w fun e w' => e = .returned (.tuple #[.slice none 0 0, .int .i64 8]) ∧ Below w.heap.size w w' := by
  have HK := hide (fun (W' : World) (v : Value) (h : RdK encQd 7 W' W'.heap.size v [⟨d, a, b, c, e, f, g⟩]) => mesh6_any h hd)
  clear hd
  go_enter Tryz.func6, Tryz.ntmps6
  go_wp2_with (fail)
  refine (HK.out _ _ (rd_q_at (by simp) _ _ _ _ _ _ _ _)).mono ?_
  rintro e w1 ⟨rfl, hb1⟩
  have HB1 : Hid (Below w.heap.size w w1) := hide (by
    refine Below.trans ?_ (hb1.mono (by simp <;> omega))
    repeat (first | with_reducible exact Below.refl _ _ | with_reducible refine Below.alloc ?_ (by first | omega | (simp; omega) | simp) _))
  clear hb1
  go_wp2_with (fail)
  go_ret2
  exact ⟨rfl, HB1.out⟩
end Go.Proofs.YtjlfdgoijalfaaaGreat

/- mesh.Check at one quad: fine coordinates, level along its axis, wide across it. -/
namespace Go.Proofs.YtjlfdgoijalfaaaGreat
open Go.RowKit
set_option linter.unusedVariables false
set_option linter.unusedSimpArgs false
attribute [local go_sem] Oper.semAt_some

theorem run_max3 {P : Program} (w : World) (ts : Array TypeId) (t : TypeId) (a b c : Int) : (Builtin.max_ ts t #[.int .i64 a, .int .i64 b, .int .i64 c]).run P w = .ok (.int .i64 (max a (max b c))) w := by
  have k : ∀ x y : Int, (if y > x then y else x) = max x y := fun x y => by
    by_cases h : y > x
    · rw [if_pos h]; omega
    · rw [if_neg h]; omega
  have k2 : ∀ (x y : Int) (v : World), Sem.run P (Builtin.max2 (.int .i64 x) (.int .i64 y)) v = .ok (.int .i64 (max x y)) v := fun x y v => by simp [Builtin.max2, k]
  simp only [Builtin.max_]
  simp [k2, Int.max_assoc]
theorem run_min3 {P : Program} (w : World) (ts : Array TypeId) (t : TypeId) (a b c : Int) : (Builtin.min_ ts t #[.int .i64 a, .int .i64 b, .int .i64 c]).run P w = .ok (.int .i64 (min a (min b c))) w := by
  have k : ∀ x y : Int, (if y < x then y else x) = min x y := fun x y => by
    by_cases h : y < x
    · rw [if_pos h]; omega
    · rw [if_neg h]; omega
  have k2 : ∀ (x y : Int) (v : World), Sem.run P (Builtin.min2 (.int .i64 x) (.int .i64 y)) v = .ok (.int .i64 (min x y)) v := fun x y v => by simp [Builtin.min2, k]
  simp only [Builtin.min_]
  simp [k2, Int.min_assoc]
def fine3 (x y z : Int) : Bool := decide (-1000000 ≤ min x (min y z)) && decide (max x (max y z) ≤ 1000000)
theorem fine3_ok {x y z : Int} (h : fine3 x y z = true) : (-1000000 ≤ x ∧ x ≤ 1000000) ∧ (-1000000 ≤ y ∧ y ≤ 1000000) ∧ -1000000 ≤ z ∧ z ≤ 1000000 := by
  simp only [fine3, Bool.and_eq_true, decide_eq_true_eq] at h
  omega
set_option maxRecDepth 100000 in
set_option maxHeartbeats 4000000 in
theorem mfine_any (x y z : Int) (w : World) : Calls Tryz.prog 35 #[.agg #[.int .i64 x, .int .i64 y, .int .i64 z]] w fun e w' => e = .returned (.bool (fine3 x y z)) ∧ Below w.heap.size w w' := by
  have hmx := @run_max3 Tryz.prog
  have hmn := @run_min3 Tryz.prog
  by_cases h1 : -1000000 ≤ min x (min y z)
  · by_cases h2 : max x (max y z) ≤ 1000000
    · have e : fine3 x y z = true := by simp only [fine3, decide_eq_true h1, decide_eq_true h2]; rfl
      rw [e]
      have z1 : decide (-1000000 ≤ min x (min y z)) = true := decide_eq_true h1
      have z2 : decide (max x (max y z) ≤ 1000000) = true := decide_eq_true h2
      clear h1 h2 e
      go_enter Tryz.func35, Tryz.ntmps35
      go_wp2
      go_ret
      exact ⟨rfl, (Below.refl _ _).alloc (Nat.le_refl _) _⟩
    · have e : fine3 x y z = false := by simp only [fine3, decide_eq_false h2, Bool.and_false]
      rw [e]
      have z1 : decide (-1000000 ≤ min x (min y z)) = true := decide_eq_true h1
      have z2 : decide (max x (max y z) ≤ 1000000) = false := decide_eq_false h2
      clear h1 h2 e
      go_enter Tryz.func35, Tryz.ntmps35
      go_wp2
      go_ret
      exact ⟨rfl, (Below.refl _ _).alloc (Nat.le_refl _) _⟩
  · have e : fine3 x y z = false := by simp only [fine3, decide_eq_false h1, Bool.false_and]
    rw [e]
    have z1 : decide (-1000000 ≤ min x (min y z)) = false := decide_eq_false h1
    clear h1 e
    go_enter Tryz.func35, Tryz.ntmps35
    go_wp2
    go_ret
    exact ⟨rfl, (Below.refl _ _).alloc (Nat.le_refl _) _⟩
theorem along0_any (x y z : Int) (w : World) : Calls Tryz.prog 55 #[.agg #[.int .i64 x, .int .i64 y, .int .i64 z]] w fun e w' => e = .returned (.int .i64 x) ∧ Below w.heap.size w w' := by
  go_enter Tryz.func55, Tryz.ntmps55
  go_wp2
  go_ret
  exact ⟨rfl, (Below.refl _ _).alloc (Nat.le_refl _) _⟩
theorem flat0_any (x y z : Int) (w : World) : Calls Tryz.prog 56 #[.agg #[.int .i64 x, .int .i64 y, .int .i64 z]] w fun e w' => e = .returned (.tuple #[.int .i64 y, .int .i64 z]) ∧ Below w.heap.size w w' := by
  go_enter Tryz.func56, Tryz.ntmps56
  go_upto_region 1 with fail
  go_quiet (fail)
  refine name_exit fun W hW => ?_
  have hb : Below w.heap.size w W := by rw [hW]; exact below_drewN ((Below.refl _ _).alloc (Nat.le_refl _) _) _
  clear hW
  go_wp2
  go_ret2
  exact ⟨rfl, hb⟩
set_option maxRecDepth 100000 in
set_option maxHeartbeats 4000000 in
theorem vrect0_any (a b c e f g : Int) (w : World) : Calls Tryz.prog 36 #[.agg #[.func (.func 55) #[] #[], .func (.func 56) #[] #[], .func (.func 57) #[] #[]], .agg #[.int .i64 a, .int .i64 b, .int .i64 c], .agg #[.int .i64 e, .int .i64 f, .int .i64 g]] w fun r w' => r = .returned (.agg #[.int .i64 b, .int .i64 c, .int .i64 f, .int .i64 g]) ∧ Below w.heap.size w w' := by
  go_enter Tryz.func36, Tryz.ntmps36
  go_upto_region 1 with fail
  refine wp_name fun w1 hw1 => ?_
  have hb1 : Below w.heap.size w w1 := by
    rw [hw1]
    repeat (first | with_reducible exact Below.refl _ _ | with_reducible refine Below.setCell ?_ (by first | (simp; done) | (simp; omega)) _ | with_reducible refine Below.alloc ?_ (by first | omega | (simp; omega) | simp) _)
  have HV : Hid (w.heap.size + 4 ≤ w1.heap.size ∧ w1.cell? ⟨w.heap.size, 1, none⟩ = some (.func (.func 56) #[] #[]) ∧ (w1.cell? ⟨w.heap.size + 1, 0, none⟩ = some (.int .i64 a) ∧ w1.cell? ⟨w.heap.size + 1, 1, none⟩ = some (.int .i64 b) ∧ w1.cell? ⟨w.heap.size + 1, 2, none⟩ = some (.int .i64 c)) ∧ (w1.cell? ⟨w.heap.size + 1 + 1, 0, none⟩ = some (.int .i64 e) ∧ w1.cell? ⟨w.heap.size + 1 + 1, 1, none⟩ = some (.int .i64 f) ∧ w1.cell? ⟨w.heap.size + 1 + 1, 2, none⟩ = some (.int .i64 g)) ∧ w1.cell? ⟨w.heap.size + 1 + 1 + 1, 0, none⟩ = some (.int .i64 0) ∧ w1.cell? ⟨w.heap.size + 1 + 1 + 1, 1, none⟩ = some (.int .i64 0) ∧ w1.cell? ⟨w.heap.size + 1 + 1 + 1, 2, none⟩ = some (.int .i64 0) ∧ w1.cell? ⟨w.heap.size + 1 + 1 + 1, 3, none⟩ = some (.int .i64 0) ∧ w1.frozen? ⟨w.heap.size + 1 + 1 + 1, 0, none⟩ = false ∧ w1.frozen? ⟨w.heap.size + 1 + 1 + 1, 1, none⟩ = false ∧ w1.frozen? ⟨w.heap.size + 1 + 1 + 1, 2, none⟩ = false ∧ w1.frozen? ⟨w.heap.size + 1 + 1 + 1, 3, none⟩ = false) := hide (by
    rw [hw1]
    refine ⟨by simp, ?_, ⟨?_, ?_, ?_⟩, ⟨?_, ?_, ?_⟩, ?_, ?_, ?_, ?_, ?_, ?_, ?_, ?_⟩
    all_goals (simp [go_sem]; done))
  have HB1 := hide hb1
  clear hw1 hb1
  obtain ⟨hs, v1, ⟨l0, l1, l2⟩, ⟨m0, m1, m2⟩, r0, r1, r2, r3, f0, f1, f2, f3⟩ := HV.out
  have HR0 := hide r0
  have HR1 := hide r1
  have HR2 := hide r2
  have HR3 := hide r3
  have HF0 := hide f0
  have HF1 := hide f1
  have HF2 := hide f2
  have HF3 := hide f3
  clear r0 r1 r2 r3 f0 f1 f2 f3
  go_wp2_with (fail)
  refine (flat0_any a b c _).mono ?_
  rintro r w2 ⟨rfl, hb2⟩
  have HB2 := hide hb2
  clear hb2 l0 l1 l2
  have n1 := hs
  replace v1 := (HB2.out.cell (p := ⟨w.heap.size, 1, none⟩) (by show w.heap.size < _; omega)).trans v1
  replace m0 := (HB2.out.cell (p := ⟨w.heap.size + 1 + 1, 0, none⟩) (by show w.heap.size + 1 + 1 < _; omega)).trans m0
  replace m1 := (HB2.out.cell (p := ⟨w.heap.size + 1 + 1, 1, none⟩) (by show w.heap.size + 1 + 1 < _; omega)).trans m1
  replace m2 := (HB2.out.cell (p := ⟨w.heap.size + 1 + 1, 2, none⟩) (by show w.heap.size + 1 + 1 < _; omega)).trans m2
  go_wp2_with (fail)
  refine (flat0_any e f g _).mono ?_
  rintro r w3 ⟨rfl, hb3⟩
  have HB3 := hide (HB2.out.trans (hb3.mono HB2.out.size))
  clear hb3 HB2 v1 m0 m1 m2
  have hq : w.heap.size + 1 + 1 + 1 < w1.heap.size := by omega
  have hq3 : w.heap.size + 1 + 1 + 1 < w3.heap.size := Nat.lt_of_lt_of_le hq HB3.out.size
  have hc0 := (HB3.out.cell (p := ⟨w.heap.size + 1 + 1 + 1, 0, none⟩) hq).trans HR0.out
  have hc1 := (HB3.out.cell (p := ⟨w.heap.size + 1 + 1 + 1, 1, none⟩) hq).trans HR1.out
  have hc2 := (HB3.out.cell (p := ⟨w.heap.size + 1 + 1 + 1, 2, none⟩) hq).trans HR2.out
  have hc3 := (HB3.out.cell (p := ⟨w.heap.size + 1 + 1 + 1, 3, none⟩) hq).trans HR3.out
  have hf0 := (HB3.out.frozen (p := ⟨w.heap.size + 1 + 1 + 1, 0, none⟩) hq).trans HF0.out
  have hf1 := (HB3.out.frozen (p := ⟨w.heap.size + 1 + 1 + 1, 1, none⟩) hq).trans HF1.out
  have hf2 := (HB3.out.frozen (p := ⟨w.heap.size + 1 + 1 + 1, 2, none⟩) hq).trans HF2.out
  have hf3 := (HB3.out.frozen (p := ⟨w.heap.size + 1 + 1 + 1, 3, none⟩) hq).trans HF3.out
  have HBW := hide (HB1.out.trans (HB3.out.mono HB1.out.size))
  clear HB1 HB3 HV
  go_wp2
  refine bodyPost_ret (v := .agg #[.int .i64 b, .int .i64 c, .int .i64 f, .int .i64 g]) (by simp [results, Tryz.results36, go_sem, hc0, hc1, hc2, hc3]) rfl ⟨rfl, ?_⟩
  have hbK := HBW.out
  repeat (first | with_reducible exact Below.refl _ _ | with_reducible assumption | with_reducible refine Below.setCell ?_ (by first | omega | (simp; done) | (simp; omega)) _ | with_reducible refine Below.alloc ?_ (by first | omega | (simp; omega) | simp) _ | with_reducible refine Below.drew ?_)
theorem along1_any (x y z : Int) (w : World) : Calls Tryz.prog 58 #[.agg #[.int .i64 x, .int .i64 y, .int .i64 z]] w fun e w' => e = .returned (.int .i64 y) ∧ Below w.heap.size w w' := by
  go_enter Tryz.func58, Tryz.ntmps58
  go_wp2
  go_ret
  exact ⟨rfl, (Below.refl _ _).alloc (Nat.le_refl _) _⟩
theorem flat1_any (x y z : Int) (w : World) : Calls Tryz.prog 59 #[.agg #[.int .i64 x, .int .i64 y, .int .i64 z]] w fun e w' => e = .returned (.tuple #[.int .i64 x, .int .i64 z]) ∧ Below w.heap.size w w' := by
  go_enter Tryz.func59, Tryz.ntmps59
  go_upto_region 1 with fail
  go_quiet (fail)
  refine name_exit fun W hW => ?_
  have hb : Below w.heap.size w W := by rw [hW]; exact below_drewN ((Below.refl _ _).alloc (Nat.le_refl _) _) _
  clear hW
  go_wp2
  go_ret2
  exact ⟨rfl, hb⟩
set_option maxRecDepth 100000 in
set_option maxHeartbeats 4000000 in
theorem vrect1_any (a b c e f g : Int) (w : World) : Calls Tryz.prog 36 #[.agg #[.func (.func 58) #[] #[], .func (.func 59) #[] #[], .func (.func 60) #[] #[]], .agg #[.int .i64 a, .int .i64 b, .int .i64 c], .agg #[.int .i64 e, .int .i64 f, .int .i64 g]] w fun r w' => r = .returned (.agg #[.int .i64 a, .int .i64 c, .int .i64 e, .int .i64 g]) ∧ Below w.heap.size w w' := by
  go_enter Tryz.func36, Tryz.ntmps36
  go_upto_region 1 with fail
  refine wp_name fun w1 hw1 => ?_
  have hb1 : Below w.heap.size w w1 := by
    rw [hw1]
    repeat (first | with_reducible exact Below.refl _ _ | with_reducible refine Below.setCell ?_ (by first | (simp; done) | (simp; omega)) _ | with_reducible refine Below.alloc ?_ (by first | omega | (simp; omega) | simp) _)
  have HV : Hid (w.heap.size + 4 ≤ w1.heap.size ∧ w1.cell? ⟨w.heap.size, 1, none⟩ = some (.func (.func 59) #[] #[]) ∧ (w1.cell? ⟨w.heap.size + 1, 0, none⟩ = some (.int .i64 a) ∧ w1.cell? ⟨w.heap.size + 1, 1, none⟩ = some (.int .i64 b) ∧ w1.cell? ⟨w.heap.size + 1, 2, none⟩ = some (.int .i64 c)) ∧ (w1.cell? ⟨w.heap.size + 1 + 1, 0, none⟩ = some (.int .i64 e) ∧ w1.cell? ⟨w.heap.size + 1 + 1, 1, none⟩ = some (.int .i64 f) ∧ w1.cell? ⟨w.heap.size + 1 + 1, 2, none⟩ = some (.int .i64 g)) ∧ w1.cell? ⟨w.heap.size + 1 + 1 + 1, 0, none⟩ = some (.int .i64 0) ∧ w1.cell? ⟨w.heap.size + 1 + 1 + 1, 1, none⟩ = some (.int .i64 0) ∧ w1.cell? ⟨w.heap.size + 1 + 1 + 1, 2, none⟩ = some (.int .i64 0) ∧ w1.cell? ⟨w.heap.size + 1 + 1 + 1, 3, none⟩ = some (.int .i64 0) ∧ w1.frozen? ⟨w.heap.size + 1 + 1 + 1, 0, none⟩ = false ∧ w1.frozen? ⟨w.heap.size + 1 + 1 + 1, 1, none⟩ = false ∧ w1.frozen? ⟨w.heap.size + 1 + 1 + 1, 2, none⟩ = false ∧ w1.frozen? ⟨w.heap.size + 1 + 1 + 1, 3, none⟩ = false) := hide (by
    rw [hw1]
    refine ⟨by simp, ?_, ⟨?_, ?_, ?_⟩, ⟨?_, ?_, ?_⟩, ?_, ?_, ?_, ?_, ?_, ?_, ?_, ?_⟩
    all_goals (simp [go_sem]; done))
  have HB1 := hide hb1
  clear hw1 hb1
  obtain ⟨hs, v1, ⟨l0, l1, l2⟩, ⟨m0, m1, m2⟩, r0, r1, r2, r3, f0, f1, f2, f3⟩ := HV.out
  have HR0 := hide r0
  have HR1 := hide r1
  have HR2 := hide r2
  have HR3 := hide r3
  have HF0 := hide f0
  have HF1 := hide f1
  have HF2 := hide f2
  have HF3 := hide f3
  clear r0 r1 r2 r3 f0 f1 f2 f3
  go_wp2_with (fail)
  refine (flat1_any a b c _).mono ?_
  rintro r w2 ⟨rfl, hb2⟩
  have HB2 := hide hb2
  clear hb2 l0 l1 l2
  have n1 := hs
  replace v1 := (HB2.out.cell (p := ⟨w.heap.size, 1, none⟩) (by show w.heap.size < _; omega)).trans v1
  replace m0 := (HB2.out.cell (p := ⟨w.heap.size + 1 + 1, 0, none⟩) (by show w.heap.size + 1 + 1 < _; omega)).trans m0
  replace m1 := (HB2.out.cell (p := ⟨w.heap.size + 1 + 1, 1, none⟩) (by show w.heap.size + 1 + 1 < _; omega)).trans m1
  replace m2 := (HB2.out.cell (p := ⟨w.heap.size + 1 + 1, 2, none⟩) (by show w.heap.size + 1 + 1 < _; omega)).trans m2
  go_wp2_with (fail)
  refine (flat1_any e f g _).mono ?_
  rintro r w3 ⟨rfl, hb3⟩
  have HB3 := hide (HB2.out.trans (hb3.mono HB2.out.size))
  clear hb3 HB2 v1 m0 m1 m2
  have hq : w.heap.size + 1 + 1 + 1 < w1.heap.size := by omega
  have hq3 : w.heap.size + 1 + 1 + 1 < w3.heap.size := Nat.lt_of_lt_of_le hq HB3.out.size
  have hc0 := (HB3.out.cell (p := ⟨w.heap.size + 1 + 1 + 1, 0, none⟩) hq).trans HR0.out
  have hc1 := (HB3.out.cell (p := ⟨w.heap.size + 1 + 1 + 1, 1, none⟩) hq).trans HR1.out
  have hc2 := (HB3.out.cell (p := ⟨w.heap.size + 1 + 1 + 1, 2, none⟩) hq).trans HR2.out
  have hc3 := (HB3.out.cell (p := ⟨w.heap.size + 1 + 1 + 1, 3, none⟩) hq).trans HR3.out
  have hf0 := (HB3.out.frozen (p := ⟨w.heap.size + 1 + 1 + 1, 0, none⟩) hq).trans HF0.out
  have hf1 := (HB3.out.frozen (p := ⟨w.heap.size + 1 + 1 + 1, 1, none⟩) hq).trans HF1.out
  have hf2 := (HB3.out.frozen (p := ⟨w.heap.size + 1 + 1 + 1, 2, none⟩) hq).trans HF2.out
  have hf3 := (HB3.out.frozen (p := ⟨w.heap.size + 1 + 1 + 1, 3, none⟩) hq).trans HF3.out
  have HBW := hide (HB1.out.trans (HB3.out.mono HB1.out.size))
  clear HB1 HB3 HV
  go_wp2
  refine bodyPost_ret (v := .agg #[.int .i64 a, .int .i64 c, .int .i64 e, .int .i64 g]) (by simp [results, Tryz.results36, go_sem, hc0, hc1, hc2, hc3]) rfl ⟨rfl, ?_⟩
  have hbK := HBW.out
  repeat (first | with_reducible exact Below.refl _ _ | with_reducible assumption | with_reducible refine Below.setCell ?_ (by first | omega | (simp; done) | (simp; omega)) _ | with_reducible refine Below.alloc ?_ (by first | omega | (simp; omega) | simp) _ | with_reducible refine Below.drew ?_)
theorem along2_any (x y z : Int) (w : World) : Calls Tryz.prog 61 #[.agg #[.int .i64 x, .int .i64 y, .int .i64 z]] w fun e w' => e = .returned (.int .i64 z) ∧ Below w.heap.size w w' := by
  go_enter Tryz.func61, Tryz.ntmps61
  go_wp2
  go_ret
  exact ⟨rfl, (Below.refl _ _).alloc (Nat.le_refl _) _⟩
theorem flat2_any (x y z : Int) (w : World) : Calls Tryz.prog 62 #[.agg #[.int .i64 x, .int .i64 y, .int .i64 z]] w fun e w' => e = .returned (.tuple #[.int .i64 x, .int .i64 y]) ∧ Below w.heap.size w w' := by
  go_enter Tryz.func62, Tryz.ntmps62
  go_upto_region 1 with fail
  go_quiet (fail)
  refine name_exit fun W hW => ?_
  have hb : Below w.heap.size w W := by rw [hW]; exact below_drewN ((Below.refl _ _).alloc (Nat.le_refl _) _) _
  clear hW
  go_wp2
  go_ret2
  exact ⟨rfl, hb⟩
set_option maxRecDepth 100000 in
set_option maxHeartbeats 4000000 in
theorem vrect2_any (a b c e f g : Int) (w : World) : Calls Tryz.prog 36 #[.agg #[.func (.func 61) #[] #[], .func (.func 62) #[] #[], .func (.func 63) #[] #[]], .agg #[.int .i64 a, .int .i64 b, .int .i64 c], .agg #[.int .i64 e, .int .i64 f, .int .i64 g]] w fun r w' => r = .returned (.agg #[.int .i64 a, .int .i64 b, .int .i64 e, .int .i64 f]) ∧ Below w.heap.size w w' := by
  go_enter Tryz.func36, Tryz.ntmps36
  go_upto_region 1 with fail
  refine wp_name fun w1 hw1 => ?_
  have hb1 : Below w.heap.size w w1 := by
    rw [hw1]
    repeat (first | with_reducible exact Below.refl _ _ | with_reducible refine Below.setCell ?_ (by first | (simp; done) | (simp; omega)) _ | with_reducible refine Below.alloc ?_ (by first | omega | (simp; omega) | simp) _)
  have HV : Hid (w.heap.size + 4 ≤ w1.heap.size ∧ w1.cell? ⟨w.heap.size, 1, none⟩ = some (.func (.func 62) #[] #[]) ∧ (w1.cell? ⟨w.heap.size + 1, 0, none⟩ = some (.int .i64 a) ∧ w1.cell? ⟨w.heap.size + 1, 1, none⟩ = some (.int .i64 b) ∧ w1.cell? ⟨w.heap.size + 1, 2, none⟩ = some (.int .i64 c)) ∧ (w1.cell? ⟨w.heap.size + 1 + 1, 0, none⟩ = some (.int .i64 e) ∧ w1.cell? ⟨w.heap.size + 1 + 1, 1, none⟩ = some (.int .i64 f) ∧ w1.cell? ⟨w.heap.size + 1 + 1, 2, none⟩ = some (.int .i64 g)) ∧ w1.cell? ⟨w.heap.size + 1 + 1 + 1, 0, none⟩ = some (.int .i64 0) ∧ w1.cell? ⟨w.heap.size + 1 + 1 + 1, 1, none⟩ = some (.int .i64 0) ∧ w1.cell? ⟨w.heap.size + 1 + 1 + 1, 2, none⟩ = some (.int .i64 0) ∧ w1.cell? ⟨w.heap.size + 1 + 1 + 1, 3, none⟩ = some (.int .i64 0) ∧ w1.frozen? ⟨w.heap.size + 1 + 1 + 1, 0, none⟩ = false ∧ w1.frozen? ⟨w.heap.size + 1 + 1 + 1, 1, none⟩ = false ∧ w1.frozen? ⟨w.heap.size + 1 + 1 + 1, 2, none⟩ = false ∧ w1.frozen? ⟨w.heap.size + 1 + 1 + 1, 3, none⟩ = false) := hide (by
    rw [hw1]
    refine ⟨by simp, ?_, ⟨?_, ?_, ?_⟩, ⟨?_, ?_, ?_⟩, ?_, ?_, ?_, ?_, ?_, ?_, ?_, ?_⟩
    all_goals (simp [go_sem]; done))
  have HB1 := hide hb1
  clear hw1 hb1
  obtain ⟨hs, v1, ⟨l0, l1, l2⟩, ⟨m0, m1, m2⟩, r0, r1, r2, r3, f0, f1, f2, f3⟩ := HV.out
  have HR0 := hide r0
  have HR1 := hide r1
  have HR2 := hide r2
  have HR3 := hide r3
  have HF0 := hide f0
  have HF1 := hide f1
  have HF2 := hide f2
  have HF3 := hide f3
  clear r0 r1 r2 r3 f0 f1 f2 f3
  go_wp2_with (fail)
  refine (flat2_any a b c _).mono ?_
  rintro r w2 ⟨rfl, hb2⟩
  have HB2 := hide hb2
  clear hb2 l0 l1 l2
  have n1 := hs
  replace v1 := (HB2.out.cell (p := ⟨w.heap.size, 1, none⟩) (by show w.heap.size < _; omega)).trans v1
  replace m0 := (HB2.out.cell (p := ⟨w.heap.size + 1 + 1, 0, none⟩) (by show w.heap.size + 1 + 1 < _; omega)).trans m0
  replace m1 := (HB2.out.cell (p := ⟨w.heap.size + 1 + 1, 1, none⟩) (by show w.heap.size + 1 + 1 < _; omega)).trans m1
  replace m2 := (HB2.out.cell (p := ⟨w.heap.size + 1 + 1, 2, none⟩) (by show w.heap.size + 1 + 1 < _; omega)).trans m2
  go_wp2_with (fail)
  refine (flat2_any e f g _).mono ?_
  rintro r w3 ⟨rfl, hb3⟩
  have HB3 := hide (HB2.out.trans (hb3.mono HB2.out.size))
  clear hb3 HB2 v1 m0 m1 m2
  have hq : w.heap.size + 1 + 1 + 1 < w1.heap.size := by omega
  have hq3 : w.heap.size + 1 + 1 + 1 < w3.heap.size := Nat.lt_of_lt_of_le hq HB3.out.size
  have hc0 := (HB3.out.cell (p := ⟨w.heap.size + 1 + 1 + 1, 0, none⟩) hq).trans HR0.out
  have hc1 := (HB3.out.cell (p := ⟨w.heap.size + 1 + 1 + 1, 1, none⟩) hq).trans HR1.out
  have hc2 := (HB3.out.cell (p := ⟨w.heap.size + 1 + 1 + 1, 2, none⟩) hq).trans HR2.out
  have hc3 := (HB3.out.cell (p := ⟨w.heap.size + 1 + 1 + 1, 3, none⟩) hq).trans HR3.out
  have hf0 := (HB3.out.frozen (p := ⟨w.heap.size + 1 + 1 + 1, 0, none⟩) hq).trans HF0.out
  have hf1 := (HB3.out.frozen (p := ⟨w.heap.size + 1 + 1 + 1, 1, none⟩) hq).trans HF1.out
  have hf2 := (HB3.out.frozen (p := ⟨w.heap.size + 1 + 1 + 1, 2, none⟩) hq).trans HF2.out
  have hf3 := (HB3.out.frozen (p := ⟨w.heap.size + 1 + 1 + 1, 3, none⟩) hq).trans HF3.out
  have HBW := hide (HB1.out.trans (HB3.out.mono HB1.out.size))
  clear HB1 HB3 HV
  go_wp2
  refine bodyPost_ret (v := .agg #[.int .i64 a, .int .i64 b, .int .i64 e, .int .i64 f]) (by simp [results, Tryz.results36, go_sem, hc0, hc1, hc2, hc3]) rfl ⟨rfl, ?_⟩
  have hbK := HBW.out
  repeat (first | with_reducible exact Below.refl _ _ | with_reducible assumption | with_reducible refine Below.setCell ?_ (by first | omega | (simp; done) | (simp; omega)) _ | with_reducible refine Below.alloc ?_ (by first | omega | (simp; omega) | simp) _ | with_reducible refine Below.drew ?_)
end Go.Proofs.YtjlfdgoijalfaaaGreat

/- mesh.Check at one quad, by its axis. -/
namespace Go.Proofs.YtjlfdgoijalfaaaGreat
open Go.RowKit
set_option linter.unusedVariables false
set_option linter.unusedSimpArgs false
attribute [local go_sem] Oper.semAt_some

def flatR (q : Qd7) : R4 := if q.d < 2 then ⟨q.ly, q.lz, q.hy, q.hz⟩ else if q.d < 4 then ⟨q.lx, q.lz, q.hx, q.hz⟩ else ⟨q.lx, q.ly, q.hx, q.hy⟩
def levQ (q : Qd7) : Bool := if q.d < 2 then q.lx == q.hx else if q.d < 4 then q.ly == q.hy else q.lz == q.hz
def okQ (q : Qd7) : Bool := decide (q.d ≤ 5) && fine3 q.lx q.ly q.lz && fine3 q.hx q.hy q.hz && levQ q && decide ((flatR q).x0 < (flatR q).x1) && decide ((flatR q).y0 < (flatR q).y1)
def chkQ (q : Qd7) : Int := if okQ q = true then 0 else 8
theorem chk0_eq {dd lx ly lz hx hy hz : Int} (hd : dd = 0 ∨ dd = 1) : chkQ ⟨dd, lx, ly, lz, hx, hy, hz⟩ = if fine3 lx ly lz = true ∧ fine3 hx hy hz = true ∧ lx = hx ∧ ly < hy ∧ lz < hz then 0 else 8 := by
  rcases hd with rfl | rfl <;> simp [chkQ, okQ, levQ, flatR, and_assoc]
set_option maxRecDepth 100000 in
set_option maxHeartbeats 8000000 in
theorem mck0_any {w : World} {v : Value} {dd lx ly lz hx hy hz : Int} (hr : RdK encQd 7 w w.heap.size v [⟨dd, lx, ly, lz, hx, hy, hz⟩]) (hd : dd = 0 ∨ dd = 1) :
    Calls Tryz.prog 15 #[v] w fun e w' => e = .returned (.int .i64 (chkQ ⟨dd, lx, ly, lz, hx, hy, hz⟩)) ∧ Below w.heap.size w w' := by
  obtain ⟨A, c, rfl, hc⟩ := hr
  obtain ⟨b, o, rfl, hbl, kk⟩ := hc (by simp)
  have x0 := kk 0 _ rfl 0 _ rfl
  have x1 := kk 0 _ rfl 1 _ rfl
  have x2 := kk 0 _ rfl 2 _ rfl
  have x3 := kk 0 _ rfl 3 _ rfl
  have x4 := kk 0 _ rfl 4 _ rfl
  have x5 := kk 0 _ rfl 5 _ rfl
  have x6 := kk 0 _ rfl 6 _ rfl
  simp only [Nat.zero_mul, Nat.add_zero] at x0 x1 x2 x3 x4 x5 x6
  have X := hide (And.intro x0 (And.intro x1 (And.intro x2 (And.intro x3 (And.intro x4 (And.intro x5 x6))))))
  obtain ⟨cq, hcq⟩ : ∃ cq, cq = chkQ ⟨dd, lx, ly, lz, hx, hy, hz⟩ := ⟨_, rfl⟩
  have HQ := hide hcq
  have HCE := hide (chk0_eq (lx := lx) (ly := ly) (lz := lz) (hx := hx) (hy := hy) (hz := hz) hd)
  have zd : decide (5 < dd) = false := decide_eq_false (by omega)
  have hquo : Int.tdiv dd 2 = 0 := by rcases hd with rfl | rfl <;> rfl
  clear hd
  rw [← hcq]
  clear hc kk x0 x1 x2 x3 x4 x5 x6 hcq
  show Calls Tryz.prog _ #[.slice (some ⟨b, o, none⟩) 1 c] w _
  go_enter Tryz.func15, Tryz.ntmps15
  go_wp2_with (fail)
  refine (mviews_any _).mono ?_
  rintro e w1 ⟨rfl, hb1⟩
  have HB1 := hide hb1
  clear hb1
  go_upto_region 4 with fail
  refine wp_name fun w2 hw2 => ?_
  have hb2 : Below w1.heap.size w1 w2 := by
    rw [hw2]
    repeat (first | with_reducible exact Below.refl _ _ | with_reducible refine Below.setCell ?_ (by first | (simp; done) | (simp; omega)) _ | with_reducible refine Below.alloc ?_ (by first | omega | (simp; omega) | simp) _)
  obtain ⟨g1, hg1e⟩ : ∃ g, g = w1.heap.size := ⟨_, rfl⟩
  have HG2 : Hid (g1 < w2.heap.size ∧ w2.cell? ⟨g1, 0, none⟩ = some (.func (.func 55) #[] #[]) ∧ w2.cell? ⟨g1, 1, none⟩ = some (.func (.func 56) #[] #[]) ∧ w2.cell? ⟨g1, 2, none⟩ = some (.func (.func 57) #[] #[])) := hide (by
    rw [hw2, hg1e]
    refine ⟨by simp, ?_, ?_, ?_⟩
    all_goals (simp [go_sem]; done))
  have HB2 := hide (HB1.out.trans (hb2.mono HB1.out.size))
  rw [← hg1e]
  clear hw2 hb2 HB1 hg1e
  go_wp2
  go_loopw [14] (fun i wr => ∃ m : Nat, m ≤ 1 ∧ i = .int .i64 (m : Int) ∧ Hid (m = 1 → cq = 0) ∧ Hid (Below w.heap.size w wr) ∧ Hid (m = 0 → wr = w2)) (fun i _ => 1 - (intOf i).toNat)
  case atStart => exact ⟨0, by omega, rfl, hide (fun h => by omega), HB2, hide (fun _ => rfl)⟩
  case round =>
    obtain ⟨m, hm, rfl, HM1, HB, HW⟩ := hrel
    have hm2 : m = 0 ∨ m = 1 := by omega
    rcases hm2 with rfl | rfl
    · obtain rfl := HW.out rfl
      have HG := hide HG2.out
      clear HW HM1 HG2 hm
      rw [show ((0 : Nat) : Int) = 0 from rfl]
      obtain ⟨x0, x1, x2, x3, x4, x5, x6⟩ := X.out
      replace x0 := (HB.out.cell (p := ⟨b, _, none⟩) hbl).trans x0
      replace x1 := (HB.out.cell (p := ⟨b, _, none⟩) hbl).trans x1
      replace x2 := (HB.out.cell (p := ⟨b, _, none⟩) hbl).trans x2
      replace x3 := (HB.out.cell (p := ⟨b, _, none⟩) hbl).trans x3
      replace x4 := (HB.out.cell (p := ⟨b, _, none⟩) hbl).trans x4
      replace x5 := (HB.out.cell (p := ⟨b, _, none⟩) hbl).trans x5
      replace x6 := (HB.out.cell (p := ⟨b, _, none⟩) hbl).trans x6
      obtain ⟨hg1, a0, a1, a2⟩ := HG.out
      go_upto_region 7 with fail
      refine wp_name fun w3 hw3 => ?_
      have hbz : Below wr.heap.size wr w3 := by rw [hw3]; exact (Below.refl _ _).alloc (Nat.le_refl _) _
      obtain ⟨b3, hb3e⟩ : ∃ b, b = wr.heap.size := ⟨_, rfl⟩
      have d0 : w3.cell? ⟨b3, 0, none⟩ = some (.int .u8 dd) := by rw [hw3, hb3e]; simp [go_sem]
      have d1 : w3.cell? ⟨b3, 1, none⟩ = some (.int .i64 lx) := by rw [hw3, hb3e]; simp [go_sem]
      have d2 : w3.cell? ⟨b3, 2, none⟩ = some (.int .i64 ly) := by rw [hw3, hb3e]; simp [go_sem]
      have d3 : w3.cell? ⟨b3, 3, none⟩ = some (.int .i64 lz) := by rw [hw3, hb3e]; simp [go_sem]
      have d4 : w3.cell? ⟨b3, 4, none⟩ = some (.int .i64 hx) := by rw [hw3, hb3e]; simp [go_sem]
      have d5 : w3.cell? ⟨b3, 5, none⟩ = some (.int .i64 hy) := by rw [hw3, hb3e]; simp [go_sem]
      have d6 : w3.cell? ⟨b3, 6, none⟩ = some (.int .i64 hz) := by rw [hw3, hb3e]; simp [go_sem]
      have hb3 : b3 < w3.heap.size := by rw [hw3, hb3e]; simp
      have HB3 := hide (HB.out.trans (hbz.mono HB.out.size))
      replace a0 := (hbz.cell (p := ⟨g1, 0, none⟩) hg1).trans a0
      replace a1 := (hbz.cell (p := ⟨g1, 1, none⟩) hg1).trans a1
      replace a2 := (hbz.cell (p := ⟨g1, 2, none⟩) hg1).trans a2
      replace hg1 := Nat.lt_of_lt_of_le hg1 hbz.size
      rw [← hb3e]
      clear hw3 hbz hb3e x0 x1 x2 x3 x4 x5 x6 HB
      cases hf1 : fine3 lx ly lz with
      | false =>
        have hq : chkQ ⟨dd, lx, ly, lz, hx, hy, hz⟩ = 8 := by rw [HCE.out, if_neg (by simp [hf1])]
        have HM := hide (fun W => mfine_any lx ly lz W)
        rw [hf1] at HM
        rw [hq] at HQ
        clear hq hf1
        go_wp2_with (fail)
        refine (HM.out _).mono ?_
        rintro e w4 ⟨rfl, hb⟩
        have HB4 := hide (HB3.out.trans (hb.mono HB3.out.size))
        clear hb HB3
        go_wp2_with (fail)
        go_ret
        exact ⟨by have hz := HQ.out; subst hz; rfl, HB4.out⟩
      | true =>
        have HM := hide (fun W => mfine_any lx ly lz W)
        rw [hf1] at HM
        go_wp2_with (fail)
        refine (HM.out _).mono ?_
        rintro e w4 ⟨rfl, hb⟩
        have HB4 := hide (HB3.out.trans (hb.mono HB3.out.size))
        replace d0 := (hb.cell (p := ⟨b3, 0, none⟩) hb3).trans d0
        replace d1 := (hb.cell (p := ⟨b3, 1, none⟩) hb3).trans d1
        replace d2 := (hb.cell (p := ⟨b3, 2, none⟩) hb3).trans d2
        replace d3 := (hb.cell (p := ⟨b3, 3, none⟩) hb3).trans d3
        replace d4 := (hb.cell (p := ⟨b3, 4, none⟩) hb3).trans d4
        replace d5 := (hb.cell (p := ⟨b3, 5, none⟩) hb3).trans d5
        replace d6 := (hb.cell (p := ⟨b3, 6, none⟩) hb3).trans d6
        replace a0 := (hb.cell (p := ⟨g1, 0, none⟩) hg1).trans a0
        replace a1 := (hb.cell (p := ⟨g1, 1, none⟩) hg1).trans a1
        replace a2 := (hb.cell (p := ⟨g1, 2, none⟩) hg1).trans a2
        replace hb3 := Nat.lt_of_lt_of_le hb3 hb.size
        replace hg1 := Nat.lt_of_lt_of_le hg1 hb.size
        clear hb HB3 HM
        cases hf2 : fine3 hx hy hz with
        | false =>
          have hq : chkQ ⟨dd, lx, ly, lz, hx, hy, hz⟩ = 8 := by rw [HCE.out, if_neg (by simp [hf2])]
          have HM := hide (fun W => mfine_any hx hy hz W)
          rw [hf2] at HM
          rw [hq] at HQ
          clear hq hf1 hf2
          go_wp2_with (fail)
          refine (HM.out _).mono ?_
          rintro e w5 ⟨rfl, hb⟩
          have HB5 := hide (HB4.out.trans (hb.mono HB4.out.size))
          clear hb HB4
          go_wp2_with (fail)
          go_ret
          exact ⟨by have hz := HQ.out; subst hz; rfl, HB5.out⟩
        | true =>
          have HM := hide (fun W => mfine_any hx hy hz W)
          rw [hf2] at HM
          go_wp2_with (fail)
          refine (HM.out _).mono ?_
          rintro e w5 ⟨rfl, hb⟩
          have HB5 := hide (HB4.out.trans (hb.mono HB4.out.size))
          replace d0 := (hb.cell (p := ⟨b3, 0, none⟩) hb3).trans d0
          replace d1 := (hb.cell (p := ⟨b3, 1, none⟩) hb3).trans d1
          replace d2 := (hb.cell (p := ⟨b3, 2, none⟩) hb3).trans d2
          replace d3 := (hb.cell (p := ⟨b3, 3, none⟩) hb3).trans d3
          replace d4 := (hb.cell (p := ⟨b3, 4, none⟩) hb3).trans d4
          replace d5 := (hb.cell (p := ⟨b3, 5, none⟩) hb3).trans d5
          replace d6 := (hb.cell (p := ⟨b3, 6, none⟩) hb3).trans d6
          replace a0 := (hb.cell (p := ⟨g1, 0, none⟩) hg1).trans a0
          replace a1 := (hb.cell (p := ⟨g1, 1, none⟩) hg1).trans a1
          replace a2 := (hb.cell (p := ⟨g1, 2, none⟩) hg1).trans a2
          replace hb3 := Nat.lt_of_lt_of_le hb3 hb.size
          replace hg1 := Nat.lt_of_lt_of_le hg1 hb.size
          clear hb HB4 HM
          go_upto_region 10 with fail
          refine wp_name fun w6 hw6 => ?_
          have hbz : Below w5.heap.size w5 w6 := by rw [hw6]; exact (Below.refl _ _).alloc (Nat.le_refl _) _
          obtain ⟨b5, hb5e⟩ : ∃ b, b = w5.heap.size := ⟨_, rfl⟩
          have e0 : w6.cell? ⟨b5, 0, none⟩ = some (.func (.func 55) #[] #[]) := by rw [hw6, hb5e]; simp [go_sem]
          have e1 : w6.cell? ⟨b5, 1, none⟩ = some (.func (.func 56) #[] #[]) := by rw [hw6, hb5e]; simp [go_sem]
          have e2 : w6.cell? ⟨b5, 2, none⟩ = some (.func (.func 57) #[] #[]) := by rw [hw6, hb5e]; simp [go_sem]
          have hb5 : b5 < w6.heap.size := by rw [hw6, hb5e]; simp
          have HB6 := hide (HB5.out.trans (hbz.mono HB5.out.size))
          replace d0 := (hbz.cell (p := ⟨b3, 0, none⟩) hb3).trans d0
          replace d1 := (hbz.cell (p := ⟨b3, 1, none⟩) hb3).trans d1
          replace d2 := (hbz.cell (p := ⟨b3, 2, none⟩) hb3).trans d2
          replace d3 := (hbz.cell (p := ⟨b3, 3, none⟩) hb3).trans d3
          replace d4 := (hbz.cell (p := ⟨b3, 4, none⟩) hb3).trans d4
          replace d5 := (hbz.cell (p := ⟨b3, 5, none⟩) hb3).trans d5
          replace d6 := (hbz.cell (p := ⟨b3, 6, none⟩) hb3).trans d6
          replace hb3 := Nat.lt_of_lt_of_le hb3 hbz.size
          rw [← hb5e]
          clear hw6 hbz hb5e a0 a1 a2 hg1 HB5
          go_wp2_with (fail)
          refine (vrect0_any lx ly lz hx hy hz _).mono ?_
          rintro e w7 ⟨rfl, hb⟩
          have HB7 := hide (HB6.out.trans (hb.mono HB6.out.size))
          replace d0 := (hb.cell (p := ⟨b3, 0, none⟩) hb3).trans d0
          replace d1 := (hb.cell (p := ⟨b3, 1, none⟩) hb3).trans d1
          replace d2 := (hb.cell (p := ⟨b3, 2, none⟩) hb3).trans d2
          replace d3 := (hb.cell (p := ⟨b3, 3, none⟩) hb3).trans d3
          replace d4 := (hb.cell (p := ⟨b3, 4, none⟩) hb3).trans d4
          replace d5 := (hb.cell (p := ⟨b3, 5, none⟩) hb3).trans d5
          replace d6 := (hb.cell (p := ⟨b3, 6, none⟩) hb3).trans d6
          replace e0 := (hb.cell (p := ⟨b5, 0, none⟩) hb5).trans e0
          replace e1 := (hb.cell (p := ⟨b5, 1, none⟩) hb5).trans e1
          replace e2 := (hb.cell (p := ⟨b5, 2, none⟩) hb5).trans e2
          replace hb3 := Nat.lt_of_lt_of_le hb3 hb.size
          replace hb5 := Nat.lt_of_lt_of_le hb5 hb.size
          clear hb HB6
          go_upto_region 11 with fail
          refine wp_name fun w8 hw8 => ?_
          have hbz : Below w7.heap.size w7 w8 := by rw [hw8]; exact (Below.refl _ _).alloc (Nat.le_refl _) _
          obtain ⟨b7, hb7e⟩ : ∃ b, b = w7.heap.size := ⟨_, rfl⟩
          have r0 : w8.cell? ⟨b7, 0, none⟩ = some (.int .i64 ly) := by rw [hw8, hb7e]; simp [go_sem]
          have r1 : w8.cell? ⟨b7, 1, none⟩ = some (.int .i64 lz) := by rw [hw8, hb7e]; simp [go_sem]
          have r2 : w8.cell? ⟨b7, 2, none⟩ = some (.int .i64 hy) := by rw [hw8, hb7e]; simp [go_sem]
          have r3 : w8.cell? ⟨b7, 3, none⟩ = some (.int .i64 hz) := by rw [hw8, hb7e]; simp [go_sem]
          have hb7 : b7 < w8.heap.size := by rw [hw8, hb7e]; simp
          have HB8 := hide (HB7.out.trans (hbz.mono HB7.out.size))
          replace d0 := (hbz.cell (p := ⟨b3, 0, none⟩) hb3).trans d0
          replace d1 := (hbz.cell (p := ⟨b3, 1, none⟩) hb3).trans d1
          replace d2 := (hbz.cell (p := ⟨b3, 2, none⟩) hb3).trans d2
          replace d3 := (hbz.cell (p := ⟨b3, 3, none⟩) hb3).trans d3
          replace d4 := (hbz.cell (p := ⟨b3, 4, none⟩) hb3).trans d4
          replace d5 := (hbz.cell (p := ⟨b3, 5, none⟩) hb3).trans d5
          replace d6 := (hbz.cell (p := ⟨b3, 6, none⟩) hb3).trans d6
          replace e0 := (hbz.cell (p := ⟨b5, 0, none⟩) hb5).trans e0
          replace e1 := (hbz.cell (p := ⟨b5, 1, none⟩) hb5).trans e1
          replace e2 := (hbz.cell (p := ⟨b5, 2, none⟩) hb5).trans e2
          replace hb3 := Nat.lt_of_lt_of_le hb3 hbz.size
          replace hb5 := Nat.lt_of_lt_of_le hb5 hbz.size
          rw [← hb7e]
          clear hw8 hbz hb7e HB7
          have hcs : ((lx != hx) = true ∧ chkQ ⟨dd, lx, ly, lz, hx, hy, hz⟩ = 8) ∨ ((lx != hx) = false ∧ decide (hy ≤ ly) = true ∧ chkQ ⟨dd, lx, ly, lz, hx, hy, hz⟩ = 8) ∨ ((lx != hx) = false ∧ decide (hy ≤ ly) = false ∧ decide (hz ≤ lz) = true ∧ chkQ ⟨dd, lx, ly, lz, hx, hy, hz⟩ = 8) ∨ ((lx != hx) = false ∧ decide (hy ≤ ly) = false ∧ decide (hz ≤ lz) = false ∧ chkQ ⟨dd, lx, ly, lz, hx, hy, hz⟩ = 0) := by
            rw [HCE.out]
            by_cases c1 : lx = hx
            · by_cases c2 : hy ≤ ly
              · refine .inr (.inl ⟨by simp [c1], decide_eq_true c2, if_neg (by omega)⟩)
              · by_cases c3 : hz ≤ lz
                · refine .inr (.inr (.inl ⟨by simp [c1], decide_eq_false c2, decide_eq_true c3, if_neg (by omega)⟩))
                · refine .inr (.inr (.inr ⟨by simp [c1], decide_eq_false c2, decide_eq_false c3, if_pos ⟨hf1, hf2, c1, by omega, by omega⟩⟩))
            · exact .inl ⟨by simpa using c1, if_neg (fun h => c1 h.2.2.1)⟩
          clear hf1 hf2 HCE
          rcases hcs with ⟨q1, hq⟩ | ⟨q1, q2, hq⟩ | ⟨q1, q2, q3, hq⟩ | ⟨q1, q2, q3, hq⟩
          all_goals
            rw [hq] at HQ
            clear hq
            refine wp_hab fun hab => ?_
            refine wp_region_above (by kernel_rfl) (by kernel_rfl) ?_
            repeat (go_big_quiet_step ((go_at_call 55; exact above_of (along0_any _ _ _ _))))
            refine wpQuiet_nil ?_
            refine above_ends fun w9 hb9 => ?_
            clear hab
            have HB9 := hide (HB8.out.trans (hb9.mono HB8.out.size))
            clear hb9 HB8
            go_wp2_with (fail)
            first
              | (go_ret; exact ⟨by have hz := HQ.out; subst hz; rfl, HB9.out⟩)
              | (go_roundw
                 case rel => exact ⟨1, by omega, rfl, hide (fun _ => HQ.out), HB9, hide (fun h => by omega)⟩
                 case measure => simp [intOf])
    · have hcq := HM1.out rfl
      subst hcq
      clear HW HM1
      rw [show ((1 : Nat) : Int) = 1 from rfl]
      go_wp2
      go_ret
      exact ⟨rfl, HB.out⟩
theorem chk1_eq {dd lx ly lz hx hy hz : Int} (hd : dd = 2 ∨ dd = 3) : chkQ ⟨dd, lx, ly, lz, hx, hy, hz⟩ = if fine3 lx ly lz = true ∧ fine3 hx hy hz = true ∧ ly = hy ∧ lx < hx ∧ lz < hz then 0 else 8 := by
  rcases hd with rfl | rfl <;> simp [chkQ, okQ, levQ, flatR, and_assoc]
set_option maxRecDepth 100000 in
set_option maxHeartbeats 8000000 in
theorem mck1_any {w : World} {v : Value} {dd lx ly lz hx hy hz : Int} (hr : RdK encQd 7 w w.heap.size v [⟨dd, lx, ly, lz, hx, hy, hz⟩]) (hd : dd = 2 ∨ dd = 3) :
    Calls Tryz.prog 15 #[v] w fun e w' => e = .returned (.int .i64 (chkQ ⟨dd, lx, ly, lz, hx, hy, hz⟩)) ∧ Below w.heap.size w w' := by
  obtain ⟨A, c, rfl, hc⟩ := hr
  obtain ⟨b, o, rfl, hbl, kk⟩ := hc (by simp)
  have x0 := kk 0 _ rfl 0 _ rfl
  have x1 := kk 0 _ rfl 1 _ rfl
  have x2 := kk 0 _ rfl 2 _ rfl
  have x3 := kk 0 _ rfl 3 _ rfl
  have x4 := kk 0 _ rfl 4 _ rfl
  have x5 := kk 0 _ rfl 5 _ rfl
  have x6 := kk 0 _ rfl 6 _ rfl
  simp only [Nat.zero_mul, Nat.add_zero] at x0 x1 x2 x3 x4 x5 x6
  have X := hide (And.intro x0 (And.intro x1 (And.intro x2 (And.intro x3 (And.intro x4 (And.intro x5 x6))))))
  obtain ⟨cq, hcq⟩ : ∃ cq, cq = chkQ ⟨dd, lx, ly, lz, hx, hy, hz⟩ := ⟨_, rfl⟩
  have HQ := hide hcq
  have HCE := hide (chk1_eq (lx := lx) (ly := ly) (lz := lz) (hx := hx) (hy := hy) (hz := hz) hd)
  have zd : decide (5 < dd) = false := decide_eq_false (by omega)
  have hquo : Int.tdiv dd 2 = 1 := by rcases hd with rfl | rfl <;> rfl
  clear hd
  rw [← hcq]
  clear hc kk x0 x1 x2 x3 x4 x5 x6 hcq
  show Calls Tryz.prog _ #[.slice (some ⟨b, o, none⟩) 1 c] w _
  go_enter Tryz.func15, Tryz.ntmps15
  go_wp2_with (fail)
  refine (mviews_any _).mono ?_
  rintro e w1 ⟨rfl, hb1⟩
  have HB1 := hide hb1
  clear hb1
  go_upto_region 4 with fail
  refine wp_name fun w2 hw2 => ?_
  have hb2 : Below w1.heap.size w1 w2 := by
    rw [hw2]
    repeat (first | with_reducible exact Below.refl _ _ | with_reducible refine Below.setCell ?_ (by first | (simp; done) | (simp; omega)) _ | with_reducible refine Below.alloc ?_ (by first | omega | (simp; omega) | simp) _)
  obtain ⟨g1, hg1e⟩ : ∃ g, g = w1.heap.size := ⟨_, rfl⟩
  have HG2 : Hid (g1 < w2.heap.size ∧ w2.cell? ⟨g1, 3, none⟩ = some (.func (.func 58) #[] #[]) ∧ w2.cell? ⟨g1, 4, none⟩ = some (.func (.func 59) #[] #[]) ∧ w2.cell? ⟨g1, 5, none⟩ = some (.func (.func 60) #[] #[])) := hide (by
    rw [hw2, hg1e]
    refine ⟨by simp, ?_, ?_, ?_⟩
    all_goals (simp [go_sem]; done))
  have HB2 := hide (HB1.out.trans (hb2.mono HB1.out.size))
  rw [← hg1e]
  clear hw2 hb2 HB1 hg1e
  go_wp2
  go_loopw [14] (fun i wr => ∃ m : Nat, m ≤ 1 ∧ i = .int .i64 (m : Int) ∧ Hid (m = 1 → cq = 0) ∧ Hid (Below w.heap.size w wr) ∧ Hid (m = 0 → wr = w2)) (fun i _ => 1 - (intOf i).toNat)
  case atStart => exact ⟨0, by omega, rfl, hide (fun h => by omega), HB2, hide (fun _ => rfl)⟩
  case round =>
    obtain ⟨m, hm, rfl, HM1, HB, HW⟩ := hrel
    have hm2 : m = 0 ∨ m = 1 := by omega
    rcases hm2 with rfl | rfl
    · obtain rfl := HW.out rfl
      have HG := hide HG2.out
      clear HW HM1 HG2 hm
      rw [show ((0 : Nat) : Int) = 0 from rfl]
      obtain ⟨x0, x1, x2, x3, x4, x5, x6⟩ := X.out
      replace x0 := (HB.out.cell (p := ⟨b, _, none⟩) hbl).trans x0
      replace x1 := (HB.out.cell (p := ⟨b, _, none⟩) hbl).trans x1
      replace x2 := (HB.out.cell (p := ⟨b, _, none⟩) hbl).trans x2
      replace x3 := (HB.out.cell (p := ⟨b, _, none⟩) hbl).trans x3
      replace x4 := (HB.out.cell (p := ⟨b, _, none⟩) hbl).trans x4
      replace x5 := (HB.out.cell (p := ⟨b, _, none⟩) hbl).trans x5
      replace x6 := (HB.out.cell (p := ⟨b, _, none⟩) hbl).trans x6
      obtain ⟨hg1, a0, a1, a2⟩ := HG.out
      go_upto_region 7 with fail
      refine wp_name fun w3 hw3 => ?_
      have hbz : Below wr.heap.size wr w3 := by rw [hw3]; exact (Below.refl _ _).alloc (Nat.le_refl _) _
      obtain ⟨b3, hb3e⟩ : ∃ b, b = wr.heap.size := ⟨_, rfl⟩
      have d0 : w3.cell? ⟨b3, 0, none⟩ = some (.int .u8 dd) := by rw [hw3, hb3e]; simp [go_sem]
      have d1 : w3.cell? ⟨b3, 1, none⟩ = some (.int .i64 lx) := by rw [hw3, hb3e]; simp [go_sem]
      have d2 : w3.cell? ⟨b3, 2, none⟩ = some (.int .i64 ly) := by rw [hw3, hb3e]; simp [go_sem]
      have d3 : w3.cell? ⟨b3, 3, none⟩ = some (.int .i64 lz) := by rw [hw3, hb3e]; simp [go_sem]
      have d4 : w3.cell? ⟨b3, 4, none⟩ = some (.int .i64 hx) := by rw [hw3, hb3e]; simp [go_sem]
      have d5 : w3.cell? ⟨b3, 5, none⟩ = some (.int .i64 hy) := by rw [hw3, hb3e]; simp [go_sem]
      have d6 : w3.cell? ⟨b3, 6, none⟩ = some (.int .i64 hz) := by rw [hw3, hb3e]; simp [go_sem]
      have hb3 : b3 < w3.heap.size := by rw [hw3, hb3e]; simp
      have HB3 := hide (HB.out.trans (hbz.mono HB.out.size))
      replace a0 := (hbz.cell (p := ⟨g1, 3, none⟩) hg1).trans a0
      replace a1 := (hbz.cell (p := ⟨g1, 4, none⟩) hg1).trans a1
      replace a2 := (hbz.cell (p := ⟨g1, 5, none⟩) hg1).trans a2
      replace hg1 := Nat.lt_of_lt_of_le hg1 hbz.size
      rw [← hb3e]
      clear hw3 hbz hb3e x0 x1 x2 x3 x4 x5 x6 HB
      cases hf1 : fine3 lx ly lz with
      | false =>
        have hq : chkQ ⟨dd, lx, ly, lz, hx, hy, hz⟩ = 8 := by rw [HCE.out, if_neg (by simp [hf1])]
        have HM := hide (fun W => mfine_any lx ly lz W)
        rw [hf1] at HM
        rw [hq] at HQ
        clear hq hf1
        go_wp2_with (fail)
        refine (HM.out _).mono ?_
        rintro e w4 ⟨rfl, hb⟩
        have HB4 := hide (HB3.out.trans (hb.mono HB3.out.size))
        clear hb HB3
        go_wp2_with (fail)
        go_ret
        exact ⟨by have hz := HQ.out; subst hz; rfl, HB4.out⟩
      | true =>
        have HM := hide (fun W => mfine_any lx ly lz W)
        rw [hf1] at HM
        go_wp2_with (fail)
        refine (HM.out _).mono ?_
        rintro e w4 ⟨rfl, hb⟩
        have HB4 := hide (HB3.out.trans (hb.mono HB3.out.size))
        replace d0 := (hb.cell (p := ⟨b3, 0, none⟩) hb3).trans d0
        replace d1 := (hb.cell (p := ⟨b3, 1, none⟩) hb3).trans d1
        replace d2 := (hb.cell (p := ⟨b3, 2, none⟩) hb3).trans d2
        replace d3 := (hb.cell (p := ⟨b3, 3, none⟩) hb3).trans d3
        replace d4 := (hb.cell (p := ⟨b3, 4, none⟩) hb3).trans d4
        replace d5 := (hb.cell (p := ⟨b3, 5, none⟩) hb3).trans d5
        replace d6 := (hb.cell (p := ⟨b3, 6, none⟩) hb3).trans d6
        replace a0 := (hb.cell (p := ⟨g1, 3, none⟩) hg1).trans a0
        replace a1 := (hb.cell (p := ⟨g1, 4, none⟩) hg1).trans a1
        replace a2 := (hb.cell (p := ⟨g1, 5, none⟩) hg1).trans a2
        replace hb3 := Nat.lt_of_lt_of_le hb3 hb.size
        replace hg1 := Nat.lt_of_lt_of_le hg1 hb.size
        clear hb HB3 HM
        cases hf2 : fine3 hx hy hz with
        | false =>
          have hq : chkQ ⟨dd, lx, ly, lz, hx, hy, hz⟩ = 8 := by rw [HCE.out, if_neg (by simp [hf2])]
          have HM := hide (fun W => mfine_any hx hy hz W)
          rw [hf2] at HM
          rw [hq] at HQ
          clear hq hf1 hf2
          go_wp2_with (fail)
          refine (HM.out _).mono ?_
          rintro e w5 ⟨rfl, hb⟩
          have HB5 := hide (HB4.out.trans (hb.mono HB4.out.size))
          clear hb HB4
          go_wp2_with (fail)
          go_ret
          exact ⟨by have hz := HQ.out; subst hz; rfl, HB5.out⟩
        | true =>
          have HM := hide (fun W => mfine_any hx hy hz W)
          rw [hf2] at HM
          go_wp2_with (fail)
          refine (HM.out _).mono ?_
          rintro e w5 ⟨rfl, hb⟩
          have HB5 := hide (HB4.out.trans (hb.mono HB4.out.size))
          replace d0 := (hb.cell (p := ⟨b3, 0, none⟩) hb3).trans d0
          replace d1 := (hb.cell (p := ⟨b3, 1, none⟩) hb3).trans d1
          replace d2 := (hb.cell (p := ⟨b3, 2, none⟩) hb3).trans d2
          replace d3 := (hb.cell (p := ⟨b3, 3, none⟩) hb3).trans d3
          replace d4 := (hb.cell (p := ⟨b3, 4, none⟩) hb3).trans d4
          replace d5 := (hb.cell (p := ⟨b3, 5, none⟩) hb3).trans d5
          replace d6 := (hb.cell (p := ⟨b3, 6, none⟩) hb3).trans d6
          replace a0 := (hb.cell (p := ⟨g1, 3, none⟩) hg1).trans a0
          replace a1 := (hb.cell (p := ⟨g1, 4, none⟩) hg1).trans a1
          replace a2 := (hb.cell (p := ⟨g1, 5, none⟩) hg1).trans a2
          replace hb3 := Nat.lt_of_lt_of_le hb3 hb.size
          replace hg1 := Nat.lt_of_lt_of_le hg1 hb.size
          clear hb HB4 HM
          go_upto_region 10 with fail
          refine wp_name fun w6 hw6 => ?_
          have hbz : Below w5.heap.size w5 w6 := by rw [hw6]; exact (Below.refl _ _).alloc (Nat.le_refl _) _
          obtain ⟨b5, hb5e⟩ : ∃ b, b = w5.heap.size := ⟨_, rfl⟩
          have e0 : w6.cell? ⟨b5, 0, none⟩ = some (.func (.func 58) #[] #[]) := by rw [hw6, hb5e]; simp [go_sem]
          have e1 : w6.cell? ⟨b5, 1, none⟩ = some (.func (.func 59) #[] #[]) := by rw [hw6, hb5e]; simp [go_sem]
          have e2 : w6.cell? ⟨b5, 2, none⟩ = some (.func (.func 60) #[] #[]) := by rw [hw6, hb5e]; simp [go_sem]
          have hb5 : b5 < w6.heap.size := by rw [hw6, hb5e]; simp
          have HB6 := hide (HB5.out.trans (hbz.mono HB5.out.size))
          replace d0 := (hbz.cell (p := ⟨b3, 0, none⟩) hb3).trans d0
          replace d1 := (hbz.cell (p := ⟨b3, 1, none⟩) hb3).trans d1
          replace d2 := (hbz.cell (p := ⟨b3, 2, none⟩) hb3).trans d2
          replace d3 := (hbz.cell (p := ⟨b3, 3, none⟩) hb3).trans d3
          replace d4 := (hbz.cell (p := ⟨b3, 4, none⟩) hb3).trans d4
          replace d5 := (hbz.cell (p := ⟨b3, 5, none⟩) hb3).trans d5
          replace d6 := (hbz.cell (p := ⟨b3, 6, none⟩) hb3).trans d6
          replace hb3 := Nat.lt_of_lt_of_le hb3 hbz.size
          rw [← hb5e]
          clear hw6 hbz hb5e a0 a1 a2 hg1 HB5
          go_wp2_with (fail)
          refine (vrect1_any lx ly lz hx hy hz _).mono ?_
          rintro e w7 ⟨rfl, hb⟩
          have HB7 := hide (HB6.out.trans (hb.mono HB6.out.size))
          replace d0 := (hb.cell (p := ⟨b3, 0, none⟩) hb3).trans d0
          replace d1 := (hb.cell (p := ⟨b3, 1, none⟩) hb3).trans d1
          replace d2 := (hb.cell (p := ⟨b3, 2, none⟩) hb3).trans d2
          replace d3 := (hb.cell (p := ⟨b3, 3, none⟩) hb3).trans d3
          replace d4 := (hb.cell (p := ⟨b3, 4, none⟩) hb3).trans d4
          replace d5 := (hb.cell (p := ⟨b3, 5, none⟩) hb3).trans d5
          replace d6 := (hb.cell (p := ⟨b3, 6, none⟩) hb3).trans d6
          replace e0 := (hb.cell (p := ⟨b5, 0, none⟩) hb5).trans e0
          replace e1 := (hb.cell (p := ⟨b5, 1, none⟩) hb5).trans e1
          replace e2 := (hb.cell (p := ⟨b5, 2, none⟩) hb5).trans e2
          replace hb3 := Nat.lt_of_lt_of_le hb3 hb.size
          replace hb5 := Nat.lt_of_lt_of_le hb5 hb.size
          clear hb HB6
          go_upto_region 11 with fail
          refine wp_name fun w8 hw8 => ?_
          have hbz : Below w7.heap.size w7 w8 := by rw [hw8]; exact (Below.refl _ _).alloc (Nat.le_refl _) _
          obtain ⟨b7, hb7e⟩ : ∃ b, b = w7.heap.size := ⟨_, rfl⟩
          have r0 : w8.cell? ⟨b7, 0, none⟩ = some (.int .i64 lx) := by rw [hw8, hb7e]; simp [go_sem]
          have r1 : w8.cell? ⟨b7, 1, none⟩ = some (.int .i64 lz) := by rw [hw8, hb7e]; simp [go_sem]
          have r2 : w8.cell? ⟨b7, 2, none⟩ = some (.int .i64 hx) := by rw [hw8, hb7e]; simp [go_sem]
          have r3 : w8.cell? ⟨b7, 3, none⟩ = some (.int .i64 hz) := by rw [hw8, hb7e]; simp [go_sem]
          have hb7 : b7 < w8.heap.size := by rw [hw8, hb7e]; simp
          have HB8 := hide (HB7.out.trans (hbz.mono HB7.out.size))
          replace d0 := (hbz.cell (p := ⟨b3, 0, none⟩) hb3).trans d0
          replace d1 := (hbz.cell (p := ⟨b3, 1, none⟩) hb3).trans d1
          replace d2 := (hbz.cell (p := ⟨b3, 2, none⟩) hb3).trans d2
          replace d3 := (hbz.cell (p := ⟨b3, 3, none⟩) hb3).trans d3
          replace d4 := (hbz.cell (p := ⟨b3, 4, none⟩) hb3).trans d4
          replace d5 := (hbz.cell (p := ⟨b3, 5, none⟩) hb3).trans d5
          replace d6 := (hbz.cell (p := ⟨b3, 6, none⟩) hb3).trans d6
          replace e0 := (hbz.cell (p := ⟨b5, 0, none⟩) hb5).trans e0
          replace e1 := (hbz.cell (p := ⟨b5, 1, none⟩) hb5).trans e1
          replace e2 := (hbz.cell (p := ⟨b5, 2, none⟩) hb5).trans e2
          replace hb3 := Nat.lt_of_lt_of_le hb3 hbz.size
          replace hb5 := Nat.lt_of_lt_of_le hb5 hbz.size
          rw [← hb7e]
          clear hw8 hbz hb7e HB7
          have hcs : ((ly != hy) = true ∧ chkQ ⟨dd, lx, ly, lz, hx, hy, hz⟩ = 8) ∨ ((ly != hy) = false ∧ decide (hx ≤ lx) = true ∧ chkQ ⟨dd, lx, ly, lz, hx, hy, hz⟩ = 8) ∨ ((ly != hy) = false ∧ decide (hx ≤ lx) = false ∧ decide (hz ≤ lz) = true ∧ chkQ ⟨dd, lx, ly, lz, hx, hy, hz⟩ = 8) ∨ ((ly != hy) = false ∧ decide (hx ≤ lx) = false ∧ decide (hz ≤ lz) = false ∧ chkQ ⟨dd, lx, ly, lz, hx, hy, hz⟩ = 0) := by
            rw [HCE.out]
            by_cases c1 : ly = hy
            · by_cases c2 : hx ≤ lx
              · refine .inr (.inl ⟨by simp [c1], decide_eq_true c2, if_neg (by omega)⟩)
              · by_cases c3 : hz ≤ lz
                · refine .inr (.inr (.inl ⟨by simp [c1], decide_eq_false c2, decide_eq_true c3, if_neg (by omega)⟩))
                · refine .inr (.inr (.inr ⟨by simp [c1], decide_eq_false c2, decide_eq_false c3, if_pos ⟨hf1, hf2, c1, by omega, by omega⟩⟩))
            · exact .inl ⟨by simpa using c1, if_neg (fun h => c1 h.2.2.1)⟩
          clear hf1 hf2 HCE
          rcases hcs with ⟨q1, hq⟩ | ⟨q1, q2, hq⟩ | ⟨q1, q2, q3, hq⟩ | ⟨q1, q2, q3, hq⟩
          all_goals
            rw [hq] at HQ
            clear hq
            refine wp_hab fun hab => ?_
            refine wp_region_above (by kernel_rfl) (by kernel_rfl) ?_
            repeat (go_big_quiet_step ((go_at_call 58; exact above_of (along1_any _ _ _ _))))
            refine wpQuiet_nil ?_
            refine above_ends fun w9 hb9 => ?_
            clear hab
            have HB9 := hide (HB8.out.trans (hb9.mono HB8.out.size))
            clear hb9 HB8
            go_wp2_with (fail)
            first
              | (go_ret; exact ⟨by have hz := HQ.out; subst hz; rfl, HB9.out⟩)
              | (go_roundw
                 case rel => exact ⟨1, by omega, rfl, hide (fun _ => HQ.out), HB9, hide (fun h => by omega)⟩
                 case measure => simp [intOf])
    · have hcq := HM1.out rfl
      subst hcq
      clear HW HM1
      rw [show ((1 : Nat) : Int) = 1 from rfl]
      go_wp2
      go_ret
      exact ⟨rfl, HB.out⟩
theorem chk2_eq {dd lx ly lz hx hy hz : Int} (hd : dd = 4 ∨ dd = 5) : chkQ ⟨dd, lx, ly, lz, hx, hy, hz⟩ = if fine3 lx ly lz = true ∧ fine3 hx hy hz = true ∧ lz = hz ∧ lx < hx ∧ ly < hy then 0 else 8 := by
  rcases hd with rfl | rfl <;> simp [chkQ, okQ, levQ, flatR, and_assoc]
set_option maxRecDepth 100000 in
set_option maxHeartbeats 8000000 in
theorem mck2_any {w : World} {v : Value} {dd lx ly lz hx hy hz : Int} (hr : RdK encQd 7 w w.heap.size v [⟨dd, lx, ly, lz, hx, hy, hz⟩]) (hd : dd = 4 ∨ dd = 5) :
    Calls Tryz.prog 15 #[v] w fun e w' => e = .returned (.int .i64 (chkQ ⟨dd, lx, ly, lz, hx, hy, hz⟩)) ∧ Below w.heap.size w w' := by
  obtain ⟨A, c, rfl, hc⟩ := hr
  obtain ⟨b, o, rfl, hbl, kk⟩ := hc (by simp)
  have x0 := kk 0 _ rfl 0 _ rfl
  have x1 := kk 0 _ rfl 1 _ rfl
  have x2 := kk 0 _ rfl 2 _ rfl
  have x3 := kk 0 _ rfl 3 _ rfl
  have x4 := kk 0 _ rfl 4 _ rfl
  have x5 := kk 0 _ rfl 5 _ rfl
  have x6 := kk 0 _ rfl 6 _ rfl
  simp only [Nat.zero_mul, Nat.add_zero] at x0 x1 x2 x3 x4 x5 x6
  have X := hide (And.intro x0 (And.intro x1 (And.intro x2 (And.intro x3 (And.intro x4 (And.intro x5 x6))))))
  obtain ⟨cq, hcq⟩ : ∃ cq, cq = chkQ ⟨dd, lx, ly, lz, hx, hy, hz⟩ := ⟨_, rfl⟩
  have HQ := hide hcq
  have HCE := hide (chk2_eq (lx := lx) (ly := ly) (lz := lz) (hx := hx) (hy := hy) (hz := hz) hd)
  have zd : decide (5 < dd) = false := decide_eq_false (by omega)
  have hquo : Int.tdiv dd 2 = 2 := by rcases hd with rfl | rfl <;> rfl
  clear hd
  rw [← hcq]
  clear hc kk x0 x1 x2 x3 x4 x5 x6 hcq
  show Calls Tryz.prog _ #[.slice (some ⟨b, o, none⟩) 1 c] w _
  go_enter Tryz.func15, Tryz.ntmps15
  go_wp2_with (fail)
  refine (mviews_any _).mono ?_
  rintro e w1 ⟨rfl, hb1⟩
  have HB1 := hide hb1
  clear hb1
  go_upto_region 4 with fail
  refine wp_name fun w2 hw2 => ?_
  have hb2 : Below w1.heap.size w1 w2 := by
    rw [hw2]
    repeat (first | with_reducible exact Below.refl _ _ | with_reducible refine Below.setCell ?_ (by first | (simp; done) | (simp; omega)) _ | with_reducible refine Below.alloc ?_ (by first | omega | (simp; omega) | simp) _)
  obtain ⟨g1, hg1e⟩ : ∃ g, g = w1.heap.size := ⟨_, rfl⟩
  have HG2 : Hid (g1 < w2.heap.size ∧ w2.cell? ⟨g1, 6, none⟩ = some (.func (.func 61) #[] #[]) ∧ w2.cell? ⟨g1, 7, none⟩ = some (.func (.func 62) #[] #[]) ∧ w2.cell? ⟨g1, 8, none⟩ = some (.func (.func 63) #[] #[])) := hide (by
    rw [hw2, hg1e]
    refine ⟨by simp, ?_, ?_, ?_⟩
    all_goals (simp [go_sem]; done))
  have HB2 := hide (HB1.out.trans (hb2.mono HB1.out.size))
  rw [← hg1e]
  clear hw2 hb2 HB1 hg1e
  go_wp2
  go_loopw [14] (fun i wr => ∃ m : Nat, m ≤ 1 ∧ i = .int .i64 (m : Int) ∧ Hid (m = 1 → cq = 0) ∧ Hid (Below w.heap.size w wr) ∧ Hid (m = 0 → wr = w2)) (fun i _ => 1 - (intOf i).toNat)
  case atStart => exact ⟨0, by omega, rfl, hide (fun h => by omega), HB2, hide (fun _ => rfl)⟩
  case round =>
    obtain ⟨m, hm, rfl, HM1, HB, HW⟩ := hrel
    have hm2 : m = 0 ∨ m = 1 := by omega
    rcases hm2 with rfl | rfl
    · obtain rfl := HW.out rfl
      have HG := hide HG2.out
      clear HW HM1 HG2 hm
      rw [show ((0 : Nat) : Int) = 0 from rfl]
      obtain ⟨x0, x1, x2, x3, x4, x5, x6⟩ := X.out
      replace x0 := (HB.out.cell (p := ⟨b, _, none⟩) hbl).trans x0
      replace x1 := (HB.out.cell (p := ⟨b, _, none⟩) hbl).trans x1
      replace x2 := (HB.out.cell (p := ⟨b, _, none⟩) hbl).trans x2
      replace x3 := (HB.out.cell (p := ⟨b, _, none⟩) hbl).trans x3
      replace x4 := (HB.out.cell (p := ⟨b, _, none⟩) hbl).trans x4
      replace x5 := (HB.out.cell (p := ⟨b, _, none⟩) hbl).trans x5
      replace x6 := (HB.out.cell (p := ⟨b, _, none⟩) hbl).trans x6
      obtain ⟨hg1, a0, a1, a2⟩ := HG.out
      go_upto_region 7 with fail
      refine wp_name fun w3 hw3 => ?_
      have hbz : Below wr.heap.size wr w3 := by rw [hw3]; exact (Below.refl _ _).alloc (Nat.le_refl _) _
      obtain ⟨b3, hb3e⟩ : ∃ b, b = wr.heap.size := ⟨_, rfl⟩
      have d0 : w3.cell? ⟨b3, 0, none⟩ = some (.int .u8 dd) := by rw [hw3, hb3e]; simp [go_sem]
      have d1 : w3.cell? ⟨b3, 1, none⟩ = some (.int .i64 lx) := by rw [hw3, hb3e]; simp [go_sem]
      have d2 : w3.cell? ⟨b3, 2, none⟩ = some (.int .i64 ly) := by rw [hw3, hb3e]; simp [go_sem]
      have d3 : w3.cell? ⟨b3, 3, none⟩ = some (.int .i64 lz) := by rw [hw3, hb3e]; simp [go_sem]
      have d4 : w3.cell? ⟨b3, 4, none⟩ = some (.int .i64 hx) := by rw [hw3, hb3e]; simp [go_sem]
      have d5 : w3.cell? ⟨b3, 5, none⟩ = some (.int .i64 hy) := by rw [hw3, hb3e]; simp [go_sem]
      have d6 : w3.cell? ⟨b3, 6, none⟩ = some (.int .i64 hz) := by rw [hw3, hb3e]; simp [go_sem]
      have hb3 : b3 < w3.heap.size := by rw [hw3, hb3e]; simp
      have HB3 := hide (HB.out.trans (hbz.mono HB.out.size))
      replace a0 := (hbz.cell (p := ⟨g1, 6, none⟩) hg1).trans a0
      replace a1 := (hbz.cell (p := ⟨g1, 7, none⟩) hg1).trans a1
      replace a2 := (hbz.cell (p := ⟨g1, 8, none⟩) hg1).trans a2
      replace hg1 := Nat.lt_of_lt_of_le hg1 hbz.size
      rw [← hb3e]
      clear hw3 hbz hb3e x0 x1 x2 x3 x4 x5 x6 HB
      cases hf1 : fine3 lx ly lz with
      | false =>
        have hq : chkQ ⟨dd, lx, ly, lz, hx, hy, hz⟩ = 8 := by rw [HCE.out, if_neg (by simp [hf1])]
        have HM := hide (fun W => mfine_any lx ly lz W)
        rw [hf1] at HM
        rw [hq] at HQ
        clear hq hf1
        go_wp2_with (fail)
        refine (HM.out _).mono ?_
        rintro e w4 ⟨rfl, hb⟩
        have HB4 := hide (HB3.out.trans (hb.mono HB3.out.size))
        clear hb HB3
        go_wp2_with (fail)
        go_ret
        exact ⟨by have hz := HQ.out; subst hz; rfl, HB4.out⟩
      | true =>
        have HM := hide (fun W => mfine_any lx ly lz W)
        rw [hf1] at HM
        go_wp2_with (fail)
        refine (HM.out _).mono ?_
        rintro e w4 ⟨rfl, hb⟩
        have HB4 := hide (HB3.out.trans (hb.mono HB3.out.size))
        replace d0 := (hb.cell (p := ⟨b3, 0, none⟩) hb3).trans d0
        replace d1 := (hb.cell (p := ⟨b3, 1, none⟩) hb3).trans d1
        replace d2 := (hb.cell (p := ⟨b3, 2, none⟩) hb3).trans d2
        replace d3 := (hb.cell (p := ⟨b3, 3, none⟩) hb3).trans d3
        replace d4 := (hb.cell (p := ⟨b3, 4, none⟩) hb3).trans d4
        replace d5 := (hb.cell (p := ⟨b3, 5, none⟩) hb3).trans d5
        replace d6 := (hb.cell (p := ⟨b3, 6, none⟩) hb3).trans d6
        replace a0 := (hb.cell (p := ⟨g1, 6, none⟩) hg1).trans a0
        replace a1 := (hb.cell (p := ⟨g1, 7, none⟩) hg1).trans a1
        replace a2 := (hb.cell (p := ⟨g1, 8, none⟩) hg1).trans a2
        replace hb3 := Nat.lt_of_lt_of_le hb3 hb.size
        replace hg1 := Nat.lt_of_lt_of_le hg1 hb.size
        clear hb HB3 HM
        cases hf2 : fine3 hx hy hz with
        | false =>
          have hq : chkQ ⟨dd, lx, ly, lz, hx, hy, hz⟩ = 8 := by rw [HCE.out, if_neg (by simp [hf2])]
          have HM := hide (fun W => mfine_any hx hy hz W)
          rw [hf2] at HM
          rw [hq] at HQ
          clear hq hf1 hf2
          go_wp2_with (fail)
          refine (HM.out _).mono ?_
          rintro e w5 ⟨rfl, hb⟩
          have HB5 := hide (HB4.out.trans (hb.mono HB4.out.size))
          clear hb HB4
          go_wp2_with (fail)
          go_ret
          exact ⟨by have hz := HQ.out; subst hz; rfl, HB5.out⟩
        | true =>
          have HM := hide (fun W => mfine_any hx hy hz W)
          rw [hf2] at HM
          go_wp2_with (fail)
          refine (HM.out _).mono ?_
          rintro e w5 ⟨rfl, hb⟩
          have HB5 := hide (HB4.out.trans (hb.mono HB4.out.size))
          replace d0 := (hb.cell (p := ⟨b3, 0, none⟩) hb3).trans d0
          replace d1 := (hb.cell (p := ⟨b3, 1, none⟩) hb3).trans d1
          replace d2 := (hb.cell (p := ⟨b3, 2, none⟩) hb3).trans d2
          replace d3 := (hb.cell (p := ⟨b3, 3, none⟩) hb3).trans d3
          replace d4 := (hb.cell (p := ⟨b3, 4, none⟩) hb3).trans d4
          replace d5 := (hb.cell (p := ⟨b3, 5, none⟩) hb3).trans d5
          replace d6 := (hb.cell (p := ⟨b3, 6, none⟩) hb3).trans d6
          replace a0 := (hb.cell (p := ⟨g1, 6, none⟩) hg1).trans a0
          replace a1 := (hb.cell (p := ⟨g1, 7, none⟩) hg1).trans a1
          replace a2 := (hb.cell (p := ⟨g1, 8, none⟩) hg1).trans a2
          replace hb3 := Nat.lt_of_lt_of_le hb3 hb.size
          replace hg1 := Nat.lt_of_lt_of_le hg1 hb.size
          clear hb HB4 HM
          go_upto_region 10 with fail
          refine wp_name fun w6 hw6 => ?_
          have hbz : Below w5.heap.size w5 w6 := by rw [hw6]; exact (Below.refl _ _).alloc (Nat.le_refl _) _
          obtain ⟨b5, hb5e⟩ : ∃ b, b = w5.heap.size := ⟨_, rfl⟩
          have e0 : w6.cell? ⟨b5, 0, none⟩ = some (.func (.func 61) #[] #[]) := by rw [hw6, hb5e]; simp [go_sem]
          have e1 : w6.cell? ⟨b5, 1, none⟩ = some (.func (.func 62) #[] #[]) := by rw [hw6, hb5e]; simp [go_sem]
          have e2 : w6.cell? ⟨b5, 2, none⟩ = some (.func (.func 63) #[] #[]) := by rw [hw6, hb5e]; simp [go_sem]
          have hb5 : b5 < w6.heap.size := by rw [hw6, hb5e]; simp
          have HB6 := hide (HB5.out.trans (hbz.mono HB5.out.size))
          replace d0 := (hbz.cell (p := ⟨b3, 0, none⟩) hb3).trans d0
          replace d1 := (hbz.cell (p := ⟨b3, 1, none⟩) hb3).trans d1
          replace d2 := (hbz.cell (p := ⟨b3, 2, none⟩) hb3).trans d2
          replace d3 := (hbz.cell (p := ⟨b3, 3, none⟩) hb3).trans d3
          replace d4 := (hbz.cell (p := ⟨b3, 4, none⟩) hb3).trans d4
          replace d5 := (hbz.cell (p := ⟨b3, 5, none⟩) hb3).trans d5
          replace d6 := (hbz.cell (p := ⟨b3, 6, none⟩) hb3).trans d6
          replace hb3 := Nat.lt_of_lt_of_le hb3 hbz.size
          rw [← hb5e]
          clear hw6 hbz hb5e a0 a1 a2 hg1 HB5
          go_wp2_with (fail)
          refine (vrect2_any lx ly lz hx hy hz _).mono ?_
          rintro e w7 ⟨rfl, hb⟩
          have HB7 := hide (HB6.out.trans (hb.mono HB6.out.size))
          replace d0 := (hb.cell (p := ⟨b3, 0, none⟩) hb3).trans d0
          replace d1 := (hb.cell (p := ⟨b3, 1, none⟩) hb3).trans d1
          replace d2 := (hb.cell (p := ⟨b3, 2, none⟩) hb3).trans d2
          replace d3 := (hb.cell (p := ⟨b3, 3, none⟩) hb3).trans d3
          replace d4 := (hb.cell (p := ⟨b3, 4, none⟩) hb3).trans d4
          replace d5 := (hb.cell (p := ⟨b3, 5, none⟩) hb3).trans d5
          replace d6 := (hb.cell (p := ⟨b3, 6, none⟩) hb3).trans d6
          replace e0 := (hb.cell (p := ⟨b5, 0, none⟩) hb5).trans e0
          replace e1 := (hb.cell (p := ⟨b5, 1, none⟩) hb5).trans e1
          replace e2 := (hb.cell (p := ⟨b5, 2, none⟩) hb5).trans e2
          replace hb3 := Nat.lt_of_lt_of_le hb3 hb.size
          replace hb5 := Nat.lt_of_lt_of_le hb5 hb.size
          clear hb HB6
          go_upto_region 11 with fail
          refine wp_name fun w8 hw8 => ?_
          have hbz : Below w7.heap.size w7 w8 := by rw [hw8]; exact (Below.refl _ _).alloc (Nat.le_refl _) _
          obtain ⟨b7, hb7e⟩ : ∃ b, b = w7.heap.size := ⟨_, rfl⟩
          have r0 : w8.cell? ⟨b7, 0, none⟩ = some (.int .i64 lx) := by rw [hw8, hb7e]; simp [go_sem]
          have r1 : w8.cell? ⟨b7, 1, none⟩ = some (.int .i64 ly) := by rw [hw8, hb7e]; simp [go_sem]
          have r2 : w8.cell? ⟨b7, 2, none⟩ = some (.int .i64 hx) := by rw [hw8, hb7e]; simp [go_sem]
          have r3 : w8.cell? ⟨b7, 3, none⟩ = some (.int .i64 hy) := by rw [hw8, hb7e]; simp [go_sem]
          have hb7 : b7 < w8.heap.size := by rw [hw8, hb7e]; simp
          have HB8 := hide (HB7.out.trans (hbz.mono HB7.out.size))
          replace d0 := (hbz.cell (p := ⟨b3, 0, none⟩) hb3).trans d0
          replace d1 := (hbz.cell (p := ⟨b3, 1, none⟩) hb3).trans d1
          replace d2 := (hbz.cell (p := ⟨b3, 2, none⟩) hb3).trans d2
          replace d3 := (hbz.cell (p := ⟨b3, 3, none⟩) hb3).trans d3
          replace d4 := (hbz.cell (p := ⟨b3, 4, none⟩) hb3).trans d4
          replace d5 := (hbz.cell (p := ⟨b3, 5, none⟩) hb3).trans d5
          replace d6 := (hbz.cell (p := ⟨b3, 6, none⟩) hb3).trans d6
          replace e0 := (hbz.cell (p := ⟨b5, 0, none⟩) hb5).trans e0
          replace e1 := (hbz.cell (p := ⟨b5, 1, none⟩) hb5).trans e1
          replace e2 := (hbz.cell (p := ⟨b5, 2, none⟩) hb5).trans e2
          replace hb3 := Nat.lt_of_lt_of_le hb3 hbz.size
          replace hb5 := Nat.lt_of_lt_of_le hb5 hbz.size
          rw [← hb7e]
          clear hw8 hbz hb7e HB7
          have hcs : ((lz != hz) = true ∧ chkQ ⟨dd, lx, ly, lz, hx, hy, hz⟩ = 8) ∨ ((lz != hz) = false ∧ decide (hx ≤ lx) = true ∧ chkQ ⟨dd, lx, ly, lz, hx, hy, hz⟩ = 8) ∨ ((lz != hz) = false ∧ decide (hx ≤ lx) = false ∧ decide (hy ≤ ly) = true ∧ chkQ ⟨dd, lx, ly, lz, hx, hy, hz⟩ = 8) ∨ ((lz != hz) = false ∧ decide (hx ≤ lx) = false ∧ decide (hy ≤ ly) = false ∧ chkQ ⟨dd, lx, ly, lz, hx, hy, hz⟩ = 0) := by
            rw [HCE.out]
            by_cases c1 : lz = hz
            · by_cases c2 : hx ≤ lx
              · refine .inr (.inl ⟨by simp [c1], decide_eq_true c2, if_neg (by omega)⟩)
              · by_cases c3 : hy ≤ ly
                · refine .inr (.inr (.inl ⟨by simp [c1], decide_eq_false c2, decide_eq_true c3, if_neg (by omega)⟩))
                · refine .inr (.inr (.inr ⟨by simp [c1], decide_eq_false c2, decide_eq_false c3, if_pos ⟨hf1, hf2, c1, by omega, by omega⟩⟩))
            · exact .inl ⟨by simpa using c1, if_neg (fun h => c1 h.2.2.1)⟩
          clear hf1 hf2 HCE
          rcases hcs with ⟨q1, hq⟩ | ⟨q1, q2, hq⟩ | ⟨q1, q2, q3, hq⟩ | ⟨q1, q2, q3, hq⟩
          all_goals
            rw [hq] at HQ
            clear hq
            refine wp_hab fun hab => ?_
            refine wp_region_above (by kernel_rfl) (by kernel_rfl) ?_
            repeat (go_big_quiet_step ((go_at_call 61; exact above_of (along2_any _ _ _ _))))
            refine wpQuiet_nil ?_
            refine above_ends fun w9 hb9 => ?_
            clear hab
            have HB9 := hide (HB8.out.trans (hb9.mono HB8.out.size))
            clear hb9 HB8
            go_wp2_with (fail)
            first
              | (go_ret; exact ⟨by have hz := HQ.out; subst hz; rfl, HB9.out⟩)
              | (go_roundw
                 case rel => exact ⟨1, by omega, rfl, hide (fun _ => HQ.out), HB9, hide (fun h => by omega)⟩
                 case measure => simp [intOf])
    · have hcq := HM1.out rfl
      subst hcq
      clear HW HM1
      rw [show ((1 : Nat) : Int) = 1 from rfl]
      go_wp2
      go_ret
      exact ⟨rfl, HB.out⟩
end Go.Proofs.YtjlfdgoijalfaaaGreat
