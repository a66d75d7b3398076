/- Outlines: the reference's mark. -/
import Derived.Test.YtdfpbhlnlkjjlaaGreatXtoK
import Derived.Test.YtdfpbhlnlkjjlaaGreatOutKK
import Derived.Deep.Heap
namespace Go.Proofs.YtdfpbhlnlkjjlaaGreat
open Go.RowKit
set_option linter.unusedVariables false
set_option linter.unusedSimpArgs false
def seenAt (d i j : Nat) : Nat := 1 + d * 19600 + i * 140 + j
structure SnW (W : World) (g : Nat) (vr : Value) (sn : Nat → Nat → Nat → Bool) : Prop where
 lt : g < W.heap.size
 rects : W.cell? ⟨g, 0, none⟩ = some vr
 cell : ∀ d i j, d < 4 → i < 140 → j < 140 → W.cell? ⟨g, seenAt d i j, none⟩ = some (.bool (sn d i j))
 froz : ∀ d i j, d < 4 → i < 140 → j < 140 → W.frozen? ⟨g, seenAt d i j, none⟩ = false
theorem SnW.below {W V : World} {g : Nat} {vr : Value} {sn : Nat → Nat → Nat → Bool} (h : SnW W g vr sn) (hb : Below W.heap.size W V) : SnW V g vr sn :=
 ⟨Nat.lt_of_lt_of_le h.lt hb.size, (hb.cell (p := ⟨g, 0, none⟩) h.lt).trans h.rects, fun d i j a b c => (hb.cell (p := ⟨g, _, none⟩) h.lt).trans (h.cell d i j a b c), fun d i j a b c => (hb.frozen (p := ⟨g, _, none⟩) h.lt).trans (h.froz d i j a b c)⟩
theorem SnW.set {W : World} {g : Nat} {vr : Value} {sn : Nat → Nat → Nat → Bool} (h : SnW W g vr sn) {d i j : Nat} (hd : d < 4) (hi : i < 140) (hj : j < 140) : SnW (W.setCell ⟨g, 1 + d * 19600 + i * 140 + j, none⟩ (.bool true)).drew g vr (fun a b c => (decide (a = d) && (decide (b = i) && decide (c = j))) || sn a b c) := by
 refine ⟨by show g < (W.setCell _ _).heap.size; simpa using h.lt, ?_, fun a b c ha hb hc => ?_, fun a b c ha hb hc => ?_⟩
 ·refine (World.cell?_setCell_other _ _ _ _ (fun e => ?_)).trans h.rects
  injection e with _ e
  omega
 ·by_cases he : a = d ∧ b = i ∧ c = j
  ·obtain ⟨rfl, rfl, rfl⟩ := he
   have := World.cell?_setCell_same _ _ (.bool true) (h.cell a b c ha hb hc)
   simpa [seenAt] using this
  ·have hne : (decide (a = d) && (decide (b = i) && decide (c = j))) = false := by
    rw [Bool.eq_false_iff]
    intro hh
    simp only [Bool.and_eq_true, decide_eq_true_eq] at hh
    exact he hh
   rw [hne, Bool.false_or]
   refine (World.cell?_setCell_other _ _ _ _ (fun e => ?_)).trans (h.cell a b c ha hb hc)
   injection e with _ e
   unfold seenAt at e
   exact he ⟨by omega, by omega, by omega⟩
 ·have := h.froz a b c ha hb hc
  show (W.setCell _ _).frozen? _ = false
  simpa [go_sem] using this
set_option maxRecDepth 100000 in
set_option maxHeartbeats 8000000 in
theorem rMark13_any {w : World} {g : Nat} {vr : Value} {sn : Nat → Nat → Nat → Bool} (h : SnW w g vr sn) (d i j : Nat) (hd : d < 4) (hi : i < 140) (hj : j < 140) :
  Calls Tryz.prog 81 #[.pointer (some ⟨g, 0, none⟩), .agg #[.int .i64 ((i : Int) - 70), .int .i64 ((j : Int) - 70)], .int .i64 (d : Int)] w fun e w' => e = .returned (.bool (!(sn d i j))) ∧ SnW w' g vr (fun a b c => (decide (a = d) && (decide (b = i) && decide (c = j))) || sn a b c) ∧ w.grownBy w' (some g) := by
 have HS := hide h
 have w1 : IntKind.i64.wrap ((i : Int) - 70 + 70) = (i : Int) := by rw [show (i : Int) - 70 + 70 = (i : Int) by omega]; exact wr63 (by omega) (by omega)
 have w2 : IntKind.i64.wrap ((j : Int) - 70 + 70) = (j : Int) := by rw [show (j : Int) - 70 + 70 = (j : Int) by omega]; exact wr63 (by omega) (by omega)
 have w3 : IntKind.i64.wrap (i : Int) = (i : Int) := wr63 (by omega) (by omega)
 have w4 : IntKind.i64.wrap (j : Int) = (j : Int) := wr63 (by omega) (by omega)
 have c0 : w.cell? ⟨g, 1 + d * 19600 + i * 140 + j, none⟩ = some (.bool (sn d i j)) := h.cell d i j hd hi hj
 have f0 : w.frozen? ⟨g, 1 + d * 19600 + i * 140 + j, none⟩ = false := h.froz d i j hd hi hj
 have hg := h.lt
 have z1 : (d : Int) < 4 := by omega
 have z2 : (i : Int) < 140 := by omega
 have z3 : (j : Int) < 140 := by omega
 go_enter Tryz.func81, Tryz.ntmps81
 go_upto_region 1 with fail
 refine wp_name fun W1 hW1 => ?_
 have p0 : W1.cell? ⟨w.heap.size, 0, none⟩ = some (.int .i64 ((i : Int) - 70)) := by rw [hW1]; simp [go_sem]
 have p1 : W1.cell? ⟨w.heap.size, 1, none⟩ = some (.int .i64 ((j : Int) - 70)) := by rw [hW1]; simp [go_sem]
 have HB1 : Hid (Below w.heap.size w W1) := hide (by rw [hW1]; exact (Below.refl _ _).alloc (Nat.le_refl _) _)
 have c1 := (HB1.out.cell (p := ⟨g, _, none⟩) hg).trans c0
 have f1 := (HB1.out.frozen (p := ⟨g, _, none⟩) hg).trans f0
 have hg1 : g < W1.heap.size := Nat.lt_of_lt_of_le hg HB1.out.size
 clear hW1 c0 f0
 go_quiet (fail)
 refine name_exit fun W2 hW2 => ?_
 have HB2 : Hid (Below w.heap.size w W2) := hide (by rw [hW2]; exact below_drewN HB1.out _)
 have HB12 : Hid (Below W1.heap.size W1 W2) := hide (by rw [hW2]; exact below_drewN (Below.refl _ _) _)
 have hz1 : w.heap.size < W1.heap.size := lt_of_cell p0
 have q0 := (HB12.out.cell (p := ⟨w.heap.size, _, none⟩) hz1).trans p0
 have q1 := (HB12.out.cell (p := ⟨w.heap.size, _, none⟩) hz1).trans p1
 have c2 := (HB12.out.cell (p := ⟨g, _, none⟩) hg1).trans c1
 have f2 := (HB12.out.frozen (p := ⟨g, _, none⟩) hg1).trans f1
 have hg2 : g < W2.heap.size := Nat.lt_of_lt_of_le hg HB2.out.size
 have HSW := hide (HS.out.below HB2.out)
 clear hW2 p0 p1 c1 f1
 go_upto_region 2 with fail
 go_region
 refine name_exit fun W3 hW3 => ?_
 have HS3 : Hid (SnW W3 g vr (fun a b c => (decide (a = d) && (decide (b = i) && decide (c = j))) || sn a b c)) := hide (by
  rw [hW3]
  exact HSW.out.set hd hi hj)
 have HG3 : Hid (w.grownBy W3 (some g)) := hide (by
  rw [hW3]
  exact ⟨HB2.out.os, HB2.out.tape, HB2.out.output, Nat.le_trans HB2.out.size (by show W2.heap.size ≤ (W2.setCell _ _).heap.size; simp), fun k hk hne => (Go.Deep.blk_setCell_other _ _ _ _ (fun e => hne (by rw [e]))).trans (HB2.out.block k hk)⟩)
 clear hW3
 go_wp2
 go_ret
 exact ⟨ret_eq rfl, HS3.out, HG3.out⟩
end Go.Proofs.YtdfpbhlnlkjjlaaGreat
