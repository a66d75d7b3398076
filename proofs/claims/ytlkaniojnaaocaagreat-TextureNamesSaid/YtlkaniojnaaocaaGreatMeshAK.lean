/- A quad in memory; mesh.Check and texture.Face at a quad whose direction is none. -/
import Derived.Test.YtlkaniojnaaocaaGreatPk8
namespace Go.Proofs.YtlkaniojnaaocaaGreat
open Go.RowKit
set_option linter.unusedVariables false
set_option linter.unusedSimpArgs false
attribute [local go_sem] Oper.semAt_some

structure Qd7 where
  d : Int
  lx : Int
  ly : Int
  lz : Int
  hx : Int
  hy : Int
  hz : Int
def encQd (q : Qd7) : List Value := [.int .u8 q.d, .int .i64 q.lx, .int .i64 q.ly, .int .i64 q.lz, .int .i64 q.hx, .int .i64 q.hy, .int .i64 q.hz]
theorem rd_q (w : World) (d a b c e f g : Int) (t : TypeId) : RdK encQd 7 (w.alloc (.cells #[.int .u8 d, .int .i64 a, .int .i64 b, .int .i64 c, .int .i64 e, .int .i64 f, .int .i64 g] t)) (w.alloc (.cells #[.int .u8 d, .int .i64 a, .int .i64 b, .int .i64 c, .int .i64 e, .int .i64 f, .int .i64 g] t)).heap.size (.slice (some ⟨w.heap.size, 0, none⟩) 1 1) ([⟨d, a, b, c, e, f, g⟩] : List Qd7) := by
  refine ⟨_, 1, rfl, fun _ => ⟨w.heap.size, 0, rfl, by simp, fun j x hx i u hu => ?_⟩⟩
  have hj : j = 0 := by
    have := (List.getElem?_eq_some_iff.1 hx).1
    simp at this
    exact this
  subst hj
  simp only [List.getElem?_cons_zero, Option.some.injEq] at hx
  subst hx
  have := news_new w (encQd ⟨d, a, b, c, e, f, g⟩) t w.heap.size rfl i u hu
  rw [addr_add] at this
  rwa [Nat.zero_mul, Nat.zero_add]
theorem rd_q_at {w : World} {B : Nat} (hB : w.heap.size = B) (d a b c e f g : Int) (t : TypeId) : RdK encQd 7 (w.alloc (.cells #[.int .u8 d, .int .i64 a, .int .i64 b, .int .i64 c, .int .i64 e, .int .i64 f, .int .i64 g] t)) (w.alloc (.cells #[.int .u8 d, .int .i64 a, .int .i64 b, .int .i64 c, .int .i64 e, .int .i64 f, .int .i64 g] t)).heap.size (.slice (some ⟨B, 0, none⟩) 1 1) ([⟨d, a, b, c, e, f, g⟩] : List Qd7) := by
  subst hB
  exact rd_q w d a b c e f g t
theorem mviews_any (w : World) : Calls Tryz.prog 51 #[] w fun e w' => e = .returned (.agg #[.func (.func 79) #[] #[], .func (.func 80) #[] #[], .func (.func 81) #[] #[], .func (.func 82) #[] #[], .func (.func 83) #[] #[], .func (.func 84) #[] #[], .func (.func 85) #[] #[], .func (.func 86) #[] #[], .func (.func 87) #[] #[]]) ∧ Below w.heap.size w w' := by
  go_enter Tryz.func51, Tryz.ntmps51
  go_wp2
  refine bodyPost_ret (v := .agg #[.func (.func 79) #[] #[], .func (.func 80) #[] #[], .func (.func 81) #[] #[], .func (.func 82) #[] #[], .func (.func 83) #[] #[], .func (.func 84) #[] #[], .func (.func 85) #[] #[], .func (.func 86) #[] #[], .func (.func 87) #[] #[]]) (by simp [results, Tryz.results51, go_sem]) rfl ⟨rfl, ?_⟩
  repeat (first | with_reducible exact Below.refl _ _ | with_reducible refine Below.setCell ?_ (by first | (simp; done) | (simp; omega)) _ | with_reducible refine Below.alloc ?_ (by first | omega | (simp; omega) | simp) _)
set_option maxRecDepth 100000 in
set_option maxHeartbeats 4000000 in
theorem mesh6_any {w : World} {v : Value} {q : Qd7} (hr : RdK encQd 7 w w.heap.size v [q]) (hd : 5 < q.d) :
    Calls Tryz.prog 29 #[v] w fun e w' => e = .returned (.int .i64 8) ∧ Below w.heap.size w w' := by
  obtain ⟨d, lx, ly, lz, hx, hy, hz⟩ := q
  obtain ⟨A, c, rfl, hc⟩ := hr
  obtain ⟨b, o, rfl, hbl, k⟩ := hc (by simp)
  have x0 := k 0 _ rfl 0 _ rfl
  have x1 := k 0 _ rfl 1 _ rfl
  have x2 := k 0 _ rfl 2 _ rfl
  have x3 := k 0 _ rfl 3 _ rfl
  have x4 := k 0 _ rfl 4 _ rfl
  have x5 := k 0 _ rfl 5 _ rfl
  have x6 := k 0 _ rfl 6 _ rfl
  simp only [Nat.zero_mul, Nat.add_zero] at x0 x1 x2 x3 x4 x5 x6
  simp only at hd
  have zd : decide (5 < d) = true := decide_eq_true hd
  have X := hide (And.intro x0 (And.intro x1 (And.intro x2 (And.intro x3 (And.intro x4 (And.intro x5 x6))))))
  clear hc k x0 x1 x2 x3 x4 x5 x6 hd
  show Calls Tryz.prog _ #[.slice (some ⟨b, o, none⟩) 1 c] w _
  go_enter Tryz.func29, Tryz.ntmps29
  go_wp2_with (fail)
  refine (mviews_any _).mono ?_
  rintro e w1 ⟨rfl, hb1⟩
  have HB1 := hide hb1
  clear hb1
  go_upto_region 4 with fail
  refine wp_name fun w2 hw2 => ?_
  have hb2 : Below w1.heap.size w1 w2 := by
    rw [hw2]
    repeat (first | with_reducible exact Below.refl _ _ | with_reducible refine Below.setCell ?_ (by first | (simp; done) | (simp; omega)) _ | with_reducible refine Below.alloc ?_ (by first | omega | (simp; omega) | simp) _)
  have HB2 := hide (HB1.out.trans (hb2.mono HB1.out.size))
  generalize w1.heap.size = g1 at *
  clear hw2 hb2 HB1
  go_wp2
  go_loopw [14] (fun i wr => i = .int .i64 0 ∧ Hid (Below w.heap.size w wr)) (fun i _ => 0)
  case atStart => exact ⟨rfl, HB2⟩
  case round =>
    obtain ⟨rfl, HB⟩ := hrel
    obtain ⟨x0, x1, x2, x3, x4, x5, x6⟩ := X.out
    replace x0 := (HB.out.cell (p := ⟨b, _, none⟩) hbl).trans x0
    replace x1 := (HB.out.cell (p := ⟨b, _, none⟩) hbl).trans x1
    replace x2 := (HB.out.cell (p := ⟨b, _, none⟩) hbl).trans x2
    replace x3 := (HB.out.cell (p := ⟨b, _, none⟩) hbl).trans x3
    replace x4 := (HB.out.cell (p := ⟨b, _, none⟩) hbl).trans x4
    replace x5 := (HB.out.cell (p := ⟨b, _, none⟩) hbl).trans x5
    replace x6 := (HB.out.cell (p := ⟨b, _, none⟩) hbl).trans x6
    go_upto_region 7 with fail
    refine wp_name fun w3 hw3 => ?_
    have hb3 : Below wr.heap.size wr w3 := by rw [hw3]; exact (Below.refl _ _).alloc (Nat.le_refl _) _
    have d0 : w3.cell? ⟨wr.heap.size, 0, none⟩ = some (.int .u8 d) := by rw [hw3]; simp [go_sem]
    have HB3 := hide (HB.out.trans (hb3.mono HB.out.size))
    clear hw3 hb3 x0 x1 x2 x3 x4 x5 x6 HB
    go_wp2
    go_ret
    exact ⟨rfl, HB3.out⟩
set_option maxRecDepth 100000 in
set_option maxHeartbeats 4000000 in
theorem face6_any (d a b c e f g W H S : Int) (hd : 5 < d) (w : World) :
    Calls Tryz.prog 9 #[.agg #[.int .u8 d, .int .i64 a, .int .i64 b, .int .i64 c, .int .i64 e, .int .i64 f, .int .i64 g], .agg #[.int .i64 W, .int .i64 H, .int .i64 S]] w fun e w' => e = .returned (.tuple #[.slice none 0 0, .int .i64 8]) ∧ Below w.heap.size w w' := by
  have HK := hide (fun (W' : World) (v : Value) (h : RdK encQd 7 W' W'.heap.size v [⟨d, a, b, c, e, f, g⟩]) => mesh6_any h hd)
  clear hd
  go_enter Tryz.func9, Tryz.ntmps9
  go_wp2_with (fail)
  refine (HK.out _ _ (rd_q_at (by simp) _ _ _ _ _ _ _ _)).mono ?_
  rintro e w1 ⟨rfl, hb1⟩
  have HB1 : Hid (Below w.heap.size w w1) := hide (by
    refine Below.trans ?_ (hb1.mono (by simp <;> omega))
    repeat (first | with_reducible exact Below.refl _ _ | with_reducible refine Below.alloc ?_ (by first | omega | (simp; omega) | simp) _))
  clear hb1
  go_wp2_with (fail)
  go_ret2
  exact ⟨rfl, HB1.out⟩
end Go.Proofs.YtlkaniojnaaocaaGreat
