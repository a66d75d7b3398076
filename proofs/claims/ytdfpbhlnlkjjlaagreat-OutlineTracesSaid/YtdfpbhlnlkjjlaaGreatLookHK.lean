/- region.Hull and the reference's Hull. -/
import Derived.Test.YtdfpbhlnlkjjlaaGreatXtoK
namespace Go.Proofs.YtdfpbhlnlkjjlaaGreat
open Go.RowKit
set_option linter.unusedVariables false
set_option linter.unusedSimpArgs false
structure HullR (w : World) (H : Nat) (P : R4) (wr : World) : Prop where
 low : Below w.heap.size w wr
 gt : w.heap.size < H
 lt : H < wr.heap.size
 c : wr.cell? ⟨H, 0, none⟩ = some (.int .i64 P.x0) ∧ wr.cell? ⟨H, 1, none⟩ = some (.int .i64 P.y0) ∧ wr.cell? ⟨H, 2, none⟩ = some (.int .i64 P.x1) ∧ wr.cell? ⟨H, 3, none⟩ = some (.int .i64 P.y1)
 f : ∀ j, wr.frozen? ⟨H, j, none⟩ = false
 r : wr.cell? ⟨w.heap.size, 0, none⟩ = some (.int .i64 0) ∧ wr.cell? ⟨w.heap.size, 1, none⟩ = some (.int .i64 0) ∧ wr.cell? ⟨w.heap.size, 2, none⟩ = some (.int .i64 0) ∧ wr.cell? ⟨w.heap.size, 3, none⟩ = some (.int .i64 0)
 fr : ∀ j, wr.frozen? ⟨w.heap.size, j, none⟩ = false
theorem HullR.below {w wr w2 : World} {H : Nat} {P : R4} (h : HullR w H P wr) (hb : Below wr.heap.size wr w2) : HullR w H P w2 := by
 have hl := h.lt
 have hg := h.gt
 have k1 := fun j => hb.cell (p := ⟨H, j, none⟩) hl
 have k2 := fun j => hb.frozen (p := ⟨H, j, none⟩) hl
 have k3 := fun j => hb.cell (p := ⟨w.heap.size, j, none⟩) (by show w.heap.size < _; omega)
 have k4 := fun j => hb.frozen (p := ⟨w.heap.size, j, none⟩) (by show w.heap.size < _; omega)
 exact ⟨h.low.trans (hb.mono h.low.size), hg, Nat.lt_of_lt_of_le hl hb.size, ⟨(k1 0).trans h.c.1, (k1 1).trans h.c.2.1, (k1 2).trans h.c.2.2.1, (k1 3).trans h.c.2.2.2⟩, fun j => (k2 j).trans (h.f j), ⟨(k3 0).trans h.r.1, (k3 1).trans h.r.2.1, (k3 2).trans h.r.2.2.1, (k3 3).trans h.r.2.2.2⟩, fun j => (k4 j).trans (h.fr j)⟩
theorem HullR.set {w wr : World} {H : Nat} {P : R4} (h : HullR w H P wr) (a b c d : Int) : HullR w H ⟨a, b, c, d⟩ ((((wr.setCell ⟨H, 0, none⟩ (.int .i64 a)).setCell ⟨H, 1, none⟩ (.int .i64 b)).setCell ⟨H, 2, none⟩ (.int .i64 c)).setCell ⟨H, 3, none⟩ (.int .i64 d)) := by
 have hl := h.lt
 have hg := h.gt
 obtain ⟨c0, c1, c2, c3⟩ := h.c
 obtain ⟨r0, r1, r2, r3⟩ := h.r
 have ne : w.heap.size ≠ H := by omega
 have ge : w.heap.size ≤ H := by omega
 refine ⟨(((h.low.setCell ge _).setCell ge _).setCell ge _).setCell ge _, hg, by simpa [World.setCell] using hl, ⟨by simp [go_sem, c0], by simp [go_sem, c1], by simp [go_sem, c2], by simp [go_sem, c3]⟩, fun j => ?_, ⟨by simp [go_sem, r0, ne], by simp [go_sem, r1, ne], by simp [go_sem, r2, ne], by simp [go_sem, r3, ne]⟩, fun j => ?_⟩
 ·rw [World.frozen?_setCell, World.frozen?_setCell, World.frozen?_setCell, World.frozen?_setCell]; exact h.f j
 ·rw [World.frozen?_setCell, World.frozen?_setCell, World.frozen?_setCell, World.frozen?_setCell]; exact h.fr j
set_option maxRecDepth 100000 in
set_option maxHeartbeats 4000000 in
theorem rHull_any {w : World} {v : Value} {l : List R4} (hr : RdK encR 4 w w.heap.size v l) (hl : l.length ≤ 100000000) :
  Calls Tryz.prog 79 #[v] w fun e w' => e = .returned (.tuple #[.agg (encR (hullF l).1).toArray, .int .i64 (hullF l).2]) ∧ Below w.heap.size w w' := by
 have hck := fun (W : World) (hW : Below w.heap.size w W) => rCheck_any (w := W) ((hr.below hW).mono hW.size) hl
 obtain ⟨A, c, hv, hc⟩ := id hr
 subst hv
 have HCK := hide hck
 have HR := hide hr
 clear hck hr hc
 have hb0 : Below w.heap.size w (w.alloc (.cells #[.int .i64 0, .int .i64 0, .int .i64 0, .int .i64 0] 49)) := (Below.refl _ _).alloc (Nat.le_refl _) _
 have HB0 := hide hb0
 clear hb0
 have key : ∀ w1, Below (w.alloc (.cells #[.int .i64 0, .int .i64 0, .int .i64 0, .int .i64 0] 49)).heap.size (w.alloc (.cells #[.int .i64 0, .int .i64 0, .int .i64 0, .int .i64 0] 49)) w1 →
   (w1.cell? ⟨w.heap.size, 0, none⟩ = some (.int .i64 0) ∧ w1.cell? ⟨w.heap.size, 1, none⟩ = some (.int .i64 0) ∧ w1.cell? ⟨w.heap.size, 2, none⟩ = some (.int .i64 0) ∧ w1.cell? ⟨w.heap.size, 3, none⟩ = some (.int .i64 0)) ∧ ∀ j, w1.frozen? ⟨w.heap.size, j, none⟩ = false := by
  intro w1 hb
  have hc := fun j => hb.cell (p := ⟨w.heap.size, j, none⟩) (by simp)
  have hf := fun j => hb.frozen (p := ⟨w.heap.size, j, none⟩) (by simp)
  exact ⟨⟨(hc 0).trans (by simp [go_sem]), (hc 1).trans (by simp [go_sem]), (hc 2).trans (by simp [go_sem]), (hc 3).trans (by simp [go_sem])⟩, fun j => (hf j).trans (by simp [go_sem])⟩
 have KEY := hide key
 clear key
 by_cases h0 : checkF l = 0
 ·obtain ⟨k1, k2, _⟩ := checkF_ok h0
  rw [h0] at HCK
  have H0 := hide h0
  clear h0
  by_cases hle : l = []
  ·have HF : Hid (hullF l = (⟨0, 0, 0, 0⟩, 6)) := hide (by unfold hullF; rw [if_pos H0.out, if_pos hle])
   subst hle
   clear k2
   go_enter Tryz.func79, Tryz.ntmps79
   go_wp2_with (fail)
   refine (HCK.out _ HB0.out).mono ?_
   rintro e w1 ⟨rfl, hb1⟩
   obtain ⟨⟨r0, r1, r2, r3⟩, hf⟩ := KEY.out w1 hb1
   have f0 := hf 0
   have f1 := hf 1
   have f2 := hf 2
   have f3 := hf 3
   have HB1 := hide hb1
   clear hb1 hf
   go_wp2_with (fail)
   refine bodyPost_ret (v := .tuple #[.agg #[.int .i64 0, .int .i64 0, .int .i64 0, .int .i64 0], .int .i64 6]) (by simp [results, Tryz.results79, go_sem, r0, r1, r2, r3]) rfl ⟨by rw [HF.out]; rfl, ?_⟩
   exact ((((HB0.out.trans (HB1.out.mono (by simp))).setCell (Nat.le_refl _) _).setCell (Nat.le_refl _) _).setCell (Nat.le_refl _) _).setCell (Nat.le_refl _) _
  ·have HF : Hid (hullF l = (hullL l, 0)) := hide (by unfold hullF; rw [if_pos H0.out, if_neg hle])
   have hlp : 0 < l.length := List.length_pos_iff.2 hle
   have hne0 : ((l.length : Int) == 0) = false := by simp; omega
   have hcuts := hull_cuts hle (fun r hr => ⟨(k2 r hr).1, (k2 r hr).2.1⟩)
   have hX := fun (W : World) (hW : Below w.heap.size w W) => rXs_any (w := W) ((HR.out.below hW).mono hW.size) (RdK.nil (α := R4) none 0) (Nat.le_refl _) (by omega) (by simp)
   have hY := fun (W : World) (hW : Below w.heap.size w W) => rYs_any (w := W) ((HR.out.below hW).mono hW.size) (RdK.nil (α := R4) none 0) (Nat.le_refl _) (by omega) (by simp)
   have hxl : (srt (cutsL l ++ cutsL [])).length ≤ 1000 := by have := srt_len (cutsL l ++ cutsL []); rw [List.length_append, cutsL_len, cutsL_len] at this; simp at this; omega
   have hyl : (srt (cutsY l ++ cutsY [])).length ≤ 1000 := by have := srt_len (cutsY l ++ cutsY []); rw [List.length_append, cutsY_len, cutsY_len] at this; simp at this; omega
   generalize srt (cutsL l ++ cutsL []) = xs at *
   generalize srt (cutsY l ++ cutsY []) = ys at *
   generalize hullL l = P at *
   obtain ⟨p0, p1, p2, p3⟩ := P
   obtain ⟨⟨e0, e2, lx⟩, e1, e3, ly⟩ := hcuts
   obtain ⟨nx, hnx⟩ : ∃ nx, xs.length = nx + 1 := ⟨xs.length - 1, by omega⟩
   obtain ⟨ny, hny⟩ : ∃ ny, ys.length = ny + 1 := ⟨ys.length - 1, by omega⟩
   rw [hnx, Nat.add_sub_cancel] at e2
   rw [hny, Nat.add_sub_cancel] at e3
   have hnx2 : nx ≤ 1000 := by omega
   have hny2 : ny ≤ 1000 := by omega
   have HE := hide (And.intro (And.intro e0 e2) (And.intro e1 e3))
   have HNX := hide hnx
   have HNY := hide hny
   have HX := hide hX
   have HY := hide hY
   clear hle k2 hX hY e0 e1 e2 e3 hnx hny hxl hyl lx ly
   go_enter Tryz.func79, Tryz.ntmps79
   go_wp2_with (fail)
   refine (HCK.out _ HB0.out).mono ?_
   rintro e w1 ⟨rfl, hb1⟩
   have HB1 := hide (HB0.out.trans (hb1.mono (by simp)))
   have HB1' := hide hb1
   clear hb1
   go_wp2_with (fail)
   refine (HX.out _ HB1.out).mono ?_
   rintro e w2 ⟨vx, rfl, ox, hb2⟩
   have HB2 := hide (HB1.out.trans (hb2.mono HB1.out.size))
   have HB2' := hide (HB1'.out.trans (hb2.mono HB1'.out.size))
   obtain ⟨gx, cpx, hvx, hgx0, hgx⟩ := ox.form (by rw [HNX.out]; omega)
   subst hvx
   have OX := hide ox
   clear hb2 ox
   go_wp2_with (fail)
   refine (HY.out _ HB2.out).mono ?_
   rintro e w3 ⟨vy, rfl, oy, hb3⟩
   obtain ⟨gy, cpy, hvy, hgy0, hgy⟩ := oy.form (by rw [HNY.out]; omega)
   subst hvy
   have ox3 := own_below OX.out hb3
   have x0 : w3.cell? ⟨gx, 0, none⟩ = some (.int .i64 p0) := by
    have := (ox3.cells (g := gx) rfl) 0 (iv p0) (by rw [List.getElem?_map, HE.out.1.1]; rfl)
    rwa [addr_add] at this
   have x2 : w3.cell? ⟨gx, nx, none⟩ = some (.int .i64 p2) := by
    have := (ox3.cells (g := gx) rfl) nx (iv p2) (by rw [List.getElem?_map, HE.out.1.2]; rfl)
    rwa [addr_add] at this
   have x1 : w3.cell? ⟨gy, 0, none⟩ = some (.int .i64 p1) := by
    have := (oy.cells (g := gy) rfl) 0 (iv p1) (by rw [List.getElem?_map, HE.out.2.1]; rfl)
    rwa [addr_add] at this
   have x3 : w3.cell? ⟨gy, ny, none⟩ = some (.int .i64 p3) := by
    have := (oy.cells (g := gy) rfl) ny (iv p3) (by rw [List.getElem?_map, HE.out.2.2]; rfl)
    rwa [addr_add] at this
   have HB3 := hide (HB2.out.trans (hb3.mono HB2.out.size))
   have hs1 : w.heap.size < w1.heap.size := by have := HB1'.out.size; simp at this; omega
   have hs2 := HB2'.out.size
   have hs3 := HB2.out.size
   have nx1 : gx ≠ w.heap.size := by omega
   have ny1 : gy ≠ w.heap.size := by simp at hs2; omega
   have nx2 : w.heap.size ≠ gx := fun e => nx1 e.symm
   have ny2 : w.heap.size ≠ gy := fun e => ny1 e.symm
   obtain ⟨⟨r0, r1, r2, r3⟩, hf⟩ := KEY.out w3 (HB2'.out.trans (hb3.mono HB2'.out.size))
   have f0 := hf 0
   have f1 := hf 1
   have f2 := hf 2
   have f3 := hf 3
   clear hb3 oy ox3 hf
   rw [HNX.out, HNY.out]
   have t1 : IntKind.i64.wrap (nx : Int) = nx := by simp [IntKind.wrap, IntKind.bits, IntKind.signed]; omega
   have t2 : IntKind.i64.wrap (ny : Int) = ny := by simp [IntKind.wrap, IntKind.bits, IntKind.signed]; omega
   have q1 : (0 : Int) ≤ (nx : Int) := by omega
   have q2 : (0 : Int) ≤ (ny : Int) := by omega
   have q3 : (nx : Int) < (nx : Int) + 1 := by omega
   have q4 : (ny : Int) < (ny : Int) + 1 := by omega
   have q5 : (0 : Int) < (nx : Int) + 1 := by omega
   have q6 : (0 : Int) < (ny : Int) + 1 := by omega
   go_wp2_with (fail)
   refine wp_region_mix [0, 1, 2, 3, 4, 5, 6, 7, 8, 9, 10, 11, 12, 13, 14, 15, 16, 17, 18] [19, 20] (fun w' => (w'.cell? ⟨gx, 0, none⟩ = some (.int .i64 p0) ∧ w'.cell? ⟨gx, nx, none⟩ = some (.int .i64 p2)) ∧ w'.cell? ⟨gy, 0, none⟩ = some (.int .i64 p1) ∧ w'.cell? ⟨gy, ny, none⟩ = some (.int .i64 p3)) (by kernel_rfl) (by kernel_rfl) ⟨⟨x0, x2⟩, x1, x3⟩ ?_
   simp only [List.map_cons, List.map_nil, opAt, List.getElem?_cons_succ, List.getElem?_cons_zero, Option.getD_some]
   iterate 19
    refine ⟨?_, Or.inl ⟨by rfl, ?_⟩, ?_⟩
    rotate_left 1
    ·intro w' hSw
     obtain ⟨⟨z1, z2⟩, z3, z4⟩ := hSw
     go_simp
     first | done | with_reducible rfl
    simp only [Act.put, List.setIfInBounds_toArray, List.set_cons_zero, List.set_cons_succ]
   clear t1 t2 q1 q2 q3 q4 q5 q6
   simp only [wpReads]
   intro K hK
   simp only [Act.put, List.setIfInBounds_toArray, List.set_cons_zero, List.set_cons_succ] at hK ⊢
   go_simp
   refine hK _ _ (fun _ => ⟨⟨by go_keep, by go_keep⟩, by go_keep, by go_keep⟩) ?_
   clear hK K
   intro K hK
   simp only [Act.put, List.setIfInBounds_toArray, List.set_cons_zero, List.set_cons_succ] at hK ⊢
   go_simp
   refine hK _ _ (fun h => absurd rfl h) ?_
   clear hK K
   refine NoPanic.normal ?_
   go_wp2_with (fail)
   refine bodyPost_ret (v := .tuple #[.agg #[.int .i64 p0, .int .i64 p1, .int .i64 p2, .int .i64 p3], .int .i64 0]) (by simp [results, Tryz.results79, go_sem, r0, r1, r2, r3]) rfl ⟨by rw [HF.out]; rfl, ?_⟩
   exact ((((HB3.out.drew).setCell (Nat.le_refl _) _).setCell (Nat.le_refl _) _).setCell (Nat.le_refl _) _).setCell (Nat.le_refl _) _
 ·have HF : Hid (hullF l = (⟨0, 0, 0, 0⟩, checkF l)) := hide (if_neg h0)
  generalize checkF l = ck at *
  have hne : (ck != 0) = true := by simpa using h0
  clear h0
  go_enter Tryz.func79, Tryz.ntmps79
  go_wp2_with (fail)
  refine (HCK.out _ HB0.out).mono ?_
  rintro e w1 ⟨rfl, hb1⟩
  have HB1 := hide (HB0.out.trans (hb1.mono (by simp)))
  have HB1' := hide hb1
  clear hb1
  go_wp2_with (fail)
  refine (HCK.out _ HB1.out).mono ?_
  rintro e w2 ⟨rfl, hb2⟩
  obtain ⟨⟨r0, r1, r2, r3⟩, hf⟩ := KEY.out w2 (HB1'.out.trans (hb2.mono HB1'.out.size))
  have f0 := hf 0
  have f1 := hf 1
  have f2 := hf 2
  have f3 := hf 3
  have HB2 := hide (HB1.out.trans (hb2.mono HB1.out.size))
  clear hb2 hf
  go_wp2_with (fail)
  refine bodyPost_ret (v := .tuple #[.agg #[.int .i64 0, .int .i64 0, .int .i64 0, .int .i64 0], .int .i64 ck]) (by simp [results, Tryz.results79, go_sem, r0, r1, r2, r3]) rfl ⟨by rw [HF.out]; rfl, ?_⟩
  exact (((HB2.out.setCell (Nat.le_refl _) _).setCell (Nat.le_refl _) _).setCell (Nat.le_refl _) _).setCell (Nat.le_refl _) _
end Go.Proofs.YtdfpbhlnlkjjlaaGreat
