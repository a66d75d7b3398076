/- Texts laid together: ParD, ParE, ParF, RefA, ParR, ParS, MixTwo. Lemmas for the statements of this seat; no condition. -/
import Derived.Test.YtgdlbaabdebclaaPk4
import Derived.Test.YtgdlbaabdebclaaPk2
import Derived.Deep.RegionHeld3
import Derived.Deep.DeepCutAuto
import Derived.Test.YtgdlbaabdebclaaPk1
import Derived.Test.YtgdlbaabdebclaaPk3

/- The walks of parcel.Good and Front. -/
namespace Go.Proofs.Ytgdlbaabdebclaa
open Go.RowKit
set_option linter.unusedVariables false
set_option linter.unusedSimpArgs false

def goodR (l : Lot5) (p : Pl3) : Bool × Int := if checkL l p = 0 then (decide (goodL p l), 0) else (false, checkL l p)
def frontR (l : Lot5) : Int × Int := if validL l then (longL l, 0) else (0, 8)
set_option maxRecDepth 100000 in
set_option maxHeartbeats 4000000 in
theorem pgood_any (l : Lot5) (p : Pl3) (hf : 0 ≤ l.f ∧ l.f ≤ 255) (w : World) : Calls Try.prog 19 #[.agg (encL l).toArray, .agg (encP p).toArray] w fun e w' => e = .returned (.tuple #[.bool (goodR l p).1, .int .i64 (goodR l p).2]) ∧ Below w.heap.size w w' := by
  have HCK := hide (fun W => checkL_any l p hf W)
  have HGD := hide (fun W => good_any l p hf W)
  by_cases h0 : checkL l p = 0
  · have hR : goodR l p = (decide (goodL p l), 0) := if_pos h0
    rw [h0] at HCK
    have HR := hide hR
    clear hR h0 hf
    generalize goodR l p = R at *
    generalize decide (goodL p l) = G at *
    obtain ⟨⟨x0, y0, x1, y1⟩, f⟩ := l
    obtain ⟨mf, ms, ma⟩ := p
    show Calls Try.prog _ #[.agg #[.int .i64 x0, .int .i64 y0, .int .i64 x1, .int .i64 y1, .int .u8 f], .agg #[.int .i64 mf, .int .i64 ms, .int .i64 ma]] w _
    simp only [encL, encP] at HCK HGD
    go_enter Try.func19, Try.ntmps19
    go_wp2_with (fail)
    obtain ⟨W, hW⟩ : ∃ x, x = (w.alloc (.cells #[.int .i64 x0, .int .i64 y0, .int .i64 x1, .int .i64 y1, .int .u8 f] 25)).alloc (.cells #[.int .i64 mf, .int .i64 ms, .int .i64 ma] 27) := ⟨_, rfl⟩
    rw [← hW]
    have hb0 : Below w.heap.size w W := by rw [hW]; exact ((Below.refl _ _).alloc (Nat.le_refl _) _).alloc (by simp) _
    have hs0 : w.heap.size + 1 < W.heap.size := by rw [hW]; simp
    have l0 : W.cell? ⟨w.heap.size, 0, none⟩ = some (.int .i64 x0) := by rw [hW]; simp [go_sem]
    have l1 : W.cell? ⟨w.heap.size, 1, none⟩ = some (.int .i64 y0) := by rw [hW]; simp [go_sem]
    have l2 : W.cell? ⟨w.heap.size, 2, none⟩ = some (.int .i64 x1) := by rw [hW]; simp [go_sem]
    have l3 : W.cell? ⟨w.heap.size, 3, none⟩ = some (.int .i64 y1) := by rw [hW]; simp [go_sem]
    have l4 : W.cell? ⟨w.heap.size, 4, none⟩ = some (.int .u8 f) := by rw [hW]; simp [go_sem]
    have p0 : W.cell? ⟨w.heap.size + 1, 0, none⟩ = some (.int .i64 mf) := by rw [hW]; simp [go_sem]
    have p1 : W.cell? ⟨w.heap.size + 1, 1, none⟩ = some (.int .i64 ms) := by rw [hW]; simp [go_sem]
    have p2 : W.cell? ⟨w.heap.size + 1, 2, none⟩ = some (.int .i64 ma) := by rw [hW]; simp [go_sem]
    have L0 := hide l0
    have L1 := hide l1
    have L2 := hide l2
    have L3 := hide l3
    have L4 := hide l4
    have P0 := hide p0
    have P1 := hide p1
    have P2 := hide p2
    have HS := hide hs0
    have K0 := hide hb0
    clear hW hb0 hs0 l0 l1 l2 l3 l4 p0 p1 p2
    refine (HCK.out _).mono ?_
    rintro e w1 ⟨rfl, hb⟩
    have l0 := (hb.cell (p := ⟨w.heap.size, 0, none⟩) (by have := HS.out; show w.heap.size < _; omega)).trans L0.out
    have l1 := (hb.cell (p := ⟨w.heap.size, 1, none⟩) (by have := HS.out; show w.heap.size < _; omega)).trans L1.out
    have l2 := (hb.cell (p := ⟨w.heap.size, 2, none⟩) (by have := HS.out; show w.heap.size < _; omega)).trans L2.out
    have l3 := (hb.cell (p := ⟨w.heap.size, 3, none⟩) (by have := HS.out; show w.heap.size < _; omega)).trans L3.out
    have l4 := (hb.cell (p := ⟨w.heap.size, 4, none⟩) (by have := HS.out; show w.heap.size < _; omega)).trans L4.out
    have p0 := (hb.cell (p := ⟨w.heap.size + 1, 0, none⟩) HS.out).trans P0.out
    have p1 := (hb.cell (p := ⟨w.heap.size + 1, 1, none⟩) HS.out).trans P1.out
    have p2 := (hb.cell (p := ⟨w.heap.size + 1, 2, none⟩) HS.out).trans P2.out
    have K1 := hide (K0.out.trans (hb.mono K0.out.size))
    clear hb
    go_wp2_with (fail)
    refine (HGD.out _).mono ?_
    rintro e w2 ⟨rfl, hb⟩
    have K2 := hide (K1.out.trans (hb.mono K1.out.size))
    clear hb l0 l1 l2 l3 l4 p0 p1 p2
    go_wp2_with (fail)
    go_ret2
    exact ⟨by rw [HR.out]; rfl, K2.out⟩
  · have hR : goodR l p = (false, checkL l p) := if_neg h0
    have HR := hide hR
    clear hR HGD hf
    generalize goodR l p = R at *
    generalize checkL l p = c at *
    have hne : (c != 0) = true := by simpa using h0
    clear h0
    obtain ⟨⟨x0, y0, x1, y1⟩, f⟩ := l
    obtain ⟨mf, ms, ma⟩ := p
    show Calls Try.prog _ #[.agg #[.int .i64 x0, .int .i64 y0, .int .i64 x1, .int .i64 y1, .int .u8 f], .agg #[.int .i64 mf, .int .i64 ms, .int .i64 ma]] w _
    simp only [encL, encP] at HCK
    go_enter Try.func19, Try.ntmps19
    go_wp2_with (fail)
    refine (HCK.out _).mono ?_
    rintro e w1 ⟨rfl, hb⟩
    have K1 := hide ((((Below.refl w.heap.size w).alloc (Nat.le_refl _) (.cells #[.int .i64 x0, .int .i64 y0, .int .i64 x1, .int .i64 y1, .int .u8 f] 25)).alloc (by simp) (.cells #[.int .i64 mf, .int .i64 ms, .int .i64 ma] 27)).trans (hb.mono (by simp; omega)))
    clear hb
    go_wp2_with (fail)
    go_ret2
    exact ⟨by rw [HR.out]; rfl, K1.out⟩
set_option maxRecDepth 100000 in
set_option maxHeartbeats 4000000 in
theorem pfront_any (l : Lot5) (hf : 0 ≤ l.f ∧ l.f ≤ 255) (w : World) : Calls Try.prog 21 #[.agg (encL l).toArray] w fun e w' => e = .returned (.tuple #[.int .i64 (frontR l).1, .int .i64 (frontR l).2]) ∧ Below w.heap.size w w' := by
  have hpv := fun W => pvalid_any l hf W
  by_cases hv : validL l
  · rw [decide_eq_true hv] at hpv
    have HPV := hide hpv
    have HLO := hide (fun W => longest_any l hv W)
    have hR : frontR l = (longL l, 0) := if_pos hv
    have HR := hide hR
    clear hR hpv hv hf
    generalize frontR l = R at *
    generalize longL l = L at *
    obtain ⟨⟨x0, y0, x1, y1⟩, f⟩ := l
    show Calls Try.prog _ #[.agg #[.int .i64 x0, .int .i64 y0, .int .i64 x1, .int .i64 y1, .int .u8 f]] w _
    simp only [encL] at HPV HLO
    go_enter Try.func21, Try.ntmps21
    go_wp2_with (fail)
    obtain ⟨W, hW⟩ : ∃ x, x = w.alloc (.cells #[.int .i64 x0, .int .i64 y0, .int .i64 x1, .int .i64 y1, .int .u8 f] 25) := ⟨_, rfl⟩
    rw [← hW]
    have hb0 : Below w.heap.size w W := by rw [hW]; exact (Below.refl _ _).alloc (Nat.le_refl _) _
    have hs0 : w.heap.size < W.heap.size := by rw [hW]; simp
    have l0 : W.cell? ⟨w.heap.size, 0, none⟩ = some (.int .i64 x0) := by rw [hW]; simp [go_sem]
    have l1 : W.cell? ⟨w.heap.size, 1, none⟩ = some (.int .i64 y0) := by rw [hW]; simp [go_sem]
    have l2 : W.cell? ⟨w.heap.size, 2, none⟩ = some (.int .i64 x1) := by rw [hW]; simp [go_sem]
    have l3 : W.cell? ⟨w.heap.size, 3, none⟩ = some (.int .i64 y1) := by rw [hW]; simp [go_sem]
    have l4 : W.cell? ⟨w.heap.size, 4, none⟩ = some (.int .u8 f) := by rw [hW]; simp [go_sem]
    have L0 := hide l0
    have L1 := hide l1
    have L2 := hide l2
    have L3 := hide l3
    have L4 := hide l4
    have HS := hide hs0
    have K0 := hide hb0
    clear hW hb0 hs0 l0 l1 l2 l3 l4
    refine (HPV.out _).mono ?_
    rintro e w1 ⟨rfl, hb⟩
    have l0 := (hb.cell (p := ⟨w.heap.size, 0, none⟩) (by have := HS.out; show w.heap.size < _; omega)).trans L0.out
    have l1 := (hb.cell (p := ⟨w.heap.size, 1, none⟩) (by have := HS.out; show w.heap.size < _; omega)).trans L1.out
    have l2 := (hb.cell (p := ⟨w.heap.size, 2, none⟩) (by have := HS.out; show w.heap.size < _; omega)).trans L2.out
    have l3 := (hb.cell (p := ⟨w.heap.size, 3, none⟩) (by have := HS.out; show w.heap.size < _; omega)).trans L3.out
    have l4 := (hb.cell (p := ⟨w.heap.size, 4, none⟩) (by have := HS.out; show w.heap.size < _; omega)).trans L4.out
    have K1 := hide (K0.out.trans (hb.mono K0.out.size))
    clear hb
    go_wp2_with (fail)
    refine (HLO.out _).mono ?_
    rintro e w2 ⟨rfl, hb⟩
    have K2 := hide (K1.out.trans (hb.mono K1.out.size))
    clear hb l0 l1 l2 l3 l4
    go_wp2_with (fail)
    go_ret2
    exact ⟨by rw [HR.out]; rfl, K2.out⟩
  · rw [decide_eq_false hv] at hpv
    have HPV := hide hpv
    have hR : frontR l = (0, 8) := if_neg hv
    have HR := hide hR
    clear hR hpv hv hf
    generalize frontR l = R at *
    obtain ⟨⟨x0, y0, x1, y1⟩, f⟩ := l
    show Calls Try.prog _ #[.agg #[.int .i64 x0, .int .i64 y0, .int .i64 x1, .int .i64 y1, .int .u8 f]] w _
    simp only [encL] at HPV
    go_enter Try.func21, Try.ntmps21
    go_wp2_with (fail)
    refine (HPV.out _).mono ?_
    rintro e w1 ⟨rfl, hb⟩
    have K1 := hide (((Below.refl w.heap.size w).alloc (Nat.le_refl _) (.cells #[.int .i64 x0, .int .i64 y0, .int .i64 x1, .int .i64 y1, .int .u8 f] 25)).trans (hb.mono (by simp)))
    clear hb
    go_wp2_with (fail)
    go_ret2
    exact ⟨by rw [HR.out]; rfl, K1.out⟩
end Go.Proofs.Ytgdlbaabdebclaa

/- The walk of the closure of parcel.cut. -/
namespace Go.Proofs.Ytgdlbaabdebclaa
open Go.RowKit
set_option linter.unusedVariables false
set_option linter.unusedSimpArgs false

theorem exit_name {Q : Exit → Act → World → Prop} {e : Exit} {a : Act} {W : World} (h : ∀ w, w = W → Q e a w) : Q e a W := h W rfl
theorem calls_name {P : Program} {F : Nat} {A : Array Value} {W : World} {Q : Ending → World → Prop} (h : ∀ w, w = W → Calls P F A w Q) : Calls P F A W Q := h W rfl
theorem upd_drew {o : Nat} {row : Option Nat} {a b : World} (h : Upd o row a b) : Upd o row a b.drew := ⟨h.os, h.tape, h.output, h.size, h.block⟩
/-- A box of five cells, and none of them frozen. -/
structure Box5 (w : World) (b : Nat) (v0 v1 v2 v3 v4 : Value) : Prop where
  c0 : w.cell? ⟨b, 0, none⟩ = some v0
  c1 : w.cell? ⟨b, 1, none⟩ = some v1
  c2 : w.cell? ⟨b, 2, none⟩ = some v2
  c3 : w.cell? ⟨b, 3, none⟩ = some v3
  c4 : w.cell? ⟨b, 4, none⟩ = some v4
  z0 : w.frozen? ⟨b, 0, none⟩ = false
  z1 : w.frozen? ⟨b, 1, none⟩ = false
  z2 : w.frozen? ⟨b, 2, none⟩ = false
  z3 : w.frozen? ⟨b, 3, none⟩ = false
  z4 : w.frozen? ⟨b, 4, none⟩ = false
theorem Box5.below {w w' : World} {b : Nat} {v0 v1 v2 v3 v4 : Value} (h : Box5 w b v0 v1 v2 v3 v4) (hb : Below w.heap.size w w') : Box5 w' b v0 v1 v2 v3 v4 := by
  have hs := lt_of_cell h.c0
  exact ⟨(hb.cell (p := ⟨b, 0, none⟩) hs).trans h.c0, (hb.cell (p := ⟨b, 1, none⟩) hs).trans h.c1, (hb.cell (p := ⟨b, 2, none⟩) hs).trans h.c2, (hb.cell (p := ⟨b, 3, none⟩) hs).trans h.c3, (hb.cell (p := ⟨b, 4, none⟩) hs).trans h.c4, (hb.frozen (p := ⟨b, 0, none⟩) hs).trans h.z0, (hb.frozen (p := ⟨b, 1, none⟩) hs).trans h.z1, (hb.frozen (p := ⟨b, 2, none⟩) hs).trans h.z2, (hb.frozen (p := ⟨b, 3, none⟩) hs).trans h.z3, (hb.frozen (p := ⟨b, 4, none⟩) hs).trans h.z4⟩
set_option maxRecDepth 100000 in
set_option maxHeartbeats 4000000 in
theorem try_true {w : World} {bl ba bb bw bh bp : Nat} {x0 y0 x1 y1 f mf ms ma wd hg m fa fb : Int} {g1 g2 : Bool} {A0 A1 A2 A3 A4 B0 B1 B2 B3 B4 : Value}
    (l0 : w.cell? ⟨bl, 0, none⟩ = some (.int .i64 x0)) (l1 : w.cell? ⟨bl, 1, none⟩ = some (.int .i64 y0)) (l2 : w.cell? ⟨bl, 2, none⟩ = some (.int .i64 x1)) (l3 : w.cell? ⟨bl, 3, none⟩ = some (.int .i64 y1)) (l4 : w.cell? ⟨bl, 4, none⟩ = some (.int .u8 f))
    (p0 : w.cell? ⟨bp, 0, none⟩ = some (.int .i64 mf)) (p1 : w.cell? ⟨bp, 1, none⟩ = some (.int .i64 ms)) (p2 : w.cell? ⟨bp, 2, none⟩ = some (.int .i64 ma))
    (w0 : w.cell? ⟨bw, 0, none⟩ = some (.int .i64 wd)) (h0 : w.cell? ⟨bh, 0, none⟩ = some (.int .i64 hg))
    (ha : Box5 w ba A0 A1 A2 A3 A4) (hb : Box5 w bb B0 B1 B2 B3 B4)
    (d1 : bl ≠ ba) (d2 : bl ≠ bb) (d3 : ba ≠ bb) (d4 : bw ≠ ba) (d5 : bw ≠ bb) (d6 : bh ≠ ba) (d7 : bh ≠ bb) (d8 : bp ≠ ba) (d9 : bp ≠ bb)
    (hm : wrap64 (x0 + wrap64 (wd.tdiv 2)) = m) (hfa : bits .andNot .u8 f 2 = fa) (hfb : bits .andNot .u8 f 1 = fb)
    (hg1 : ∀ W : World, Calls Try.prog 41 #[.agg #[.int .i64 x0, .int .i64 y0, .int .i64 m, .int .i64 y1, .int .u8 fa], .agg #[.int .i64 mf, .int .i64 ms, .int .i64 ma]] W fun e w' => e = .returned (.bool g1) ∧ Below W.heap.size W w')
    (hg2 : ∀ W : World, Calls Try.prog 41 #[.agg #[.int .i64 m, .int .i64 y0, .int .i64 x1, .int .i64 y1, .int .u8 fb], .agg #[.int .i64 mf, .int .i64 ms, .int .i64 ma]] W fun e w' => e = .returned (.bool g2) ∧ Below W.heap.size W w') :
    Calls Try.prog 50 #[.bool true, .pointer (some ⟨bl, 0, none⟩), .pointer (some ⟨ba, 0, none⟩), .pointer (some ⟨bb, 0, none⟩), .pointer (some ⟨bw, 0, none⟩), .pointer (some ⟨bh, 0, none⟩), .pointer (some ⟨bp, 0, none⟩)] w fun e w' => e = .returned (.bool (g1 && g2)) ∧ Upd ba (some bb) w w' ∧ Box5 w' ba (.int .i64 x0) (.int .i64 y0) (.int .i64 m) (.int .i64 y1) (.int .u8 fa) ∧ Box5 w' bb (.int .i64 m) (.int .i64 y0) (.int .i64 x1) (.int .i64 y1) (.int .u8 fb) := by
  obtain ⟨a0, a1, a2, a3, a4, af0, af1, af2, af3, af4⟩ := ha
  obtain ⟨b0, b1, b2, b3, b4, bf0, bf1, bf2, bf3, bf4⟩ := hb
  have HG1 := hide hg1
  have HG2 := hide hg2
  have HM := hide hm
  have HFA := hide hfa
  have HFB := hide hfb
  clear hg1 hg2 hm hfa hfb
  go_enter Try.func50, Try.ntmps50
  go_wp2
  go_region
  refine exit_name fun W hW => ?_
  have U1 : Upd ba (some bb) w W := by
    rw [hW]
    exact upd_drew (Upd.refl ba (some bb) w |>.setCell 0 _ |>.setCell 1 _ |>.setCell 2 _ |>.setCell 3 _ |>.setCell 4 _ |>.setRow 0 _ |>.setRow 1 _ |>.setRow 2 _ |>.setRow 3 _ |>.setRow 4 _)
  have A0 : W.cell? ⟨ba, 0, none⟩ = some (.int .i64 x0) := by rw [hW]; simp [go_sem, d1, d2, d3, d1.symm, d2.symm, d3.symm, d8, d9, d8.symm, d9.symm, a0, a1, a2, a3, a4]
  have A1 : W.cell? ⟨ba, 1, none⟩ = some (.int .i64 y0) := by rw [hW]; simp [go_sem, d1, d2, d3, d1.symm, d2.symm, d3.symm, d8, d9, d8.symm, d9.symm, a0, a1, a2, a3, a4]
  have A2 : W.cell? ⟨ba, 2, none⟩ = some (.int .i64 x1) := by rw [hW]; simp [go_sem, d1, d2, d3, d1.symm, d2.symm, d3.symm, d8, d9, d8.symm, d9.symm, a0, a1, a2, a3, a4]
  have A3 : W.cell? ⟨ba, 3, none⟩ = some (.int .i64 y1) := by rw [hW]; simp [go_sem, d1, d2, d3, d1.symm, d2.symm, d3.symm, d8, d9, d8.symm, d9.symm, a0, a1, a2, a3, a4]
  have A4 : W.cell? ⟨ba, 4, none⟩ = some (.int .u8 f) := by rw [hW]; simp [go_sem, d1, d2, d3, d1.symm, d2.symm, d3.symm, d8, d9, d8.symm, d9.symm, a0, a1, a2, a3, a4]
  have B0 : W.cell? ⟨bb, 0, none⟩ = some (.int .i64 x0) := by rw [hW]; simp [go_sem, d1, d2, d3, d1.symm, d2.symm, d3.symm, d8, d9, d8.symm, d9.symm, b0, b1, b2, b3, b4]
  have B1 : W.cell? ⟨bb, 1, none⟩ = some (.int .i64 y0) := by rw [hW]; simp [go_sem, d1, d2, d3, d1.symm, d2.symm, d3.symm, d8, d9, d8.symm, d9.symm, b0, b1, b2, b3, b4]
  have B2 : W.cell? ⟨bb, 2, none⟩ = some (.int .i64 x1) := by rw [hW]; simp [go_sem, d1, d2, d3, d1.symm, d2.symm, d3.symm, d8, d9, d8.symm, d9.symm, b0, b1, b2, b3, b4]
  have B3 : W.cell? ⟨bb, 3, none⟩ = some (.int .i64 y1) := by rw [hW]; simp [go_sem, d1, d2, d3, d1.symm, d2.symm, d3.symm, d8, d9, d8.symm, d9.symm, b0, b1, b2, b3, b4]
  have B4 : W.cell? ⟨bb, 4, none⟩ = some (.int .u8 f) := by rw [hW]; simp [go_sem, d1, d2, d3, d1.symm, d2.symm, d3.symm, d8, d9, d8.symm, d9.symm, b0, b1, b2, b3, b4]
  have AF0 : W.frozen? ⟨ba, 0, none⟩ = false := by rw [hW]; simp [go_sem, af0]
  have AF1 : W.frozen? ⟨ba, 1, none⟩ = false := by rw [hW]; simp [go_sem, af1]
  have AF2 : W.frozen? ⟨ba, 2, none⟩ = false := by rw [hW]; simp [go_sem, af2]
  have AF3 : W.frozen? ⟨ba, 3, none⟩ = false := by rw [hW]; simp [go_sem, af3]
  have AF4 : W.frozen? ⟨ba, 4, none⟩ = false := by rw [hW]; simp [go_sem, af4]
  have BF0 : W.frozen? ⟨bb, 0, none⟩ = false := by rw [hW]; simp [go_sem, bf0]
  have BF1 : W.frozen? ⟨bb, 1, none⟩ = false := by rw [hW]; simp [go_sem, bf1]
  have BF2 : W.frozen? ⟨bb, 2, none⟩ = false := by rw [hW]; simp [go_sem, bf2]
  have BF3 : W.frozen? ⟨bb, 3, none⟩ = false := by rw [hW]; simp [go_sem, bf3]
  have BF4 : W.frozen? ⟨bb, 4, none⟩ = false := by rw [hW]; simp [go_sem, bf4]
  have L0 := (U1.cell (off := 0) (lt_of_cell l0) d1 (fun e => d2 (by injection e with e; exact e.symm))).trans l0
  have L1 := (U1.cell (off := 1) (lt_of_cell l1) d1 (fun e => d2 (by injection e with e; exact e.symm))).trans l1
  have L2 := (U1.cell (off := 2) (lt_of_cell l2) d1 (fun e => d2 (by injection e with e; exact e.symm))).trans l2
  have L3 := (U1.cell (off := 3) (lt_of_cell l3) d1 (fun e => d2 (by injection e with e; exact e.symm))).trans l3
  have L4 := (U1.cell (off := 4) (lt_of_cell l4) d1 (fun e => d2 (by injection e with e; exact e.symm))).trans l4
  have P0 := (U1.cell (off := 0) (lt_of_cell p0) d8 (fun e => d9 (by injection e with e; exact e.symm))).trans p0
  have P1 := (U1.cell (off := 1) (lt_of_cell p1) d8 (fun e => d9 (by injection e with e; exact e.symm))).trans p1
  have P2 := (U1.cell (off := 2) (lt_of_cell p2) d8 (fun e => d9 (by injection e with e; exact e.symm))).trans p2
  have W0 := (U1.cell (off := 0) (lt_of_cell w0) d4 (fun e => d5 (by injection e with e; exact e.symm))).trans w0
  have H0 := (U1.cell (off := 0) (lt_of_cell h0) d6 (fun e => d7 (by injection e with e; exact e.symm))).trans h0
  have HW1 := hide U1
  clear U1 hW a0 a1 a2 a3 a4 b0 b1 b2 b3 b4 l0 l1 l2 l3 l4 p0 p1 p2 w0 h0 af0 af1 af2 af3 af4 bf0 bf1 bf2 bf3 bf4
  go_wp2_with (fail)
  simp only [HM.out, HFA.out, HFB.out]
  refine calls_name fun V hV => ?_
  have U2 : Upd ba (some bb) w V := by
    rw [hV]
    exact HW1.out |>.setCell _ _ |>.setRow _ _ |>.setCell _ _ |>.setRow _ _
  have HA : Box5 V ba (.int .i64 x0) (.int .i64 y0) (.int .i64 m) (.int .i64 y1) (.int .u8 fa) := by
    rw [hV]
    refine ⟨?_, ?_, ?_, ?_, ?_, ?_, ?_, ?_, ?_, ?_⟩ <;> simp [go_sem, d1, d2, d3, d1.symm, d2.symm, d3.symm, d8, d9, d8.symm, d9.symm, A0, A1, A2, A3, A4, AF0, AF1, AF2, AF3, AF4]
  have HB : Box5 V bb (.int .i64 m) (.int .i64 y0) (.int .i64 x1) (.int .i64 y1) (.int .u8 fb) := by
    rw [hV]
    refine ⟨?_, ?_, ?_, ?_, ?_, ?_, ?_, ?_, ?_, ?_⟩ <;> simp [go_sem, d1, d2, d3, d1.symm, d2.symm, d3.symm, d8, d9, d8.symm, d9.symm, B0, B1, B2, B3, B4, BF0, BF1, BF2, BF3, BF4]
  have p0 : V.cell? ⟨bp, 0, none⟩ = some (.int .i64 mf) := by rw [hV]; simp [go_sem, d1, d2, d3, d1.symm, d2.symm, d3.symm, d8, d9, d8.symm, d9.symm, P0]
  have p1 : V.cell? ⟨bp, 1, none⟩ = some (.int .i64 ms) := by rw [hV]; simp [go_sem, d1, d2, d3, d1.symm, d2.symm, d3.symm, d8, d9, d8.symm, d9.symm, P1]
  have p2 : V.cell? ⟨bp, 2, none⟩ = some (.int .i64 ma) := by rw [hV]; simp [go_sem, d1, d2, d3, d1.symm, d2.symm, d3.symm, d8, d9, d8.symm, d9.symm, P2]
  have HU := hide U2
  have hs0 := lt_of_cell p0
  have HS := hide hs0
  clear hV U2 A0 A1 A2 A3 A4 B0 B1 B2 B3 B4 L0 L1 L2 L3 L4 P0 P1 P2 W0 H0 AF0 AF1 AF2 AF3 AF4 BF0 BF1 BF2 BF3 BF4 hs0
  refine (HG1.out _).mono ?_
  rintro e w1 ⟨rfl, hb⟩
  have K1 := hide (HU.out.trans (Upd.of_below hb))
  have HA1 := HA.below hb
  have HB1 := HB.below hb
  have q0 := (hb.cell (p := ⟨bp, 0, none⟩) HS.out).trans p0
  have q1 := (hb.cell (p := ⟨bp, 1, none⟩) HS.out).trans p1
  have q2 := (hb.cell (p := ⟨bp, 2, none⟩) HS.out).trans p2
  clear hb p0 p1 p2 HA HB
  cases g1 with
  | false =>
    go_wp2_with (fail)
    go_ret
    exact ⟨rfl, K1.out, HA1, HB1⟩
  | true =>
    obtain ⟨b0, b1, b2, b3, b4, bf0, bf1, bf2, bf3, bf4⟩ := id HB1
    have HB2 := hide HB1
    have HA2 := hide HA1
    clear HA1 HB1 bf0 bf1 bf2 bf3 bf4
    go_wp2_with (fail)
    refine (HG2.out _).mono ?_
    rintro e w2 ⟨rfl, hb⟩
    have K2 := hide (K1.out.trans (Upd.of_below hb))
    have HA3 := hide (HA2.out.below hb)
    have HB3 := hide (HB2.out.below hb)
    clear hb b0 b1 b2 b3 b4 q0 q1 q2
    go_wp2_with (fail)
    go_ret
    exact ⟨rfl, K2.out, HA3.out, HB3.out⟩
set_option maxRecDepth 100000 in
set_option maxHeartbeats 4000000 in
theorem try_false {w : World} {bl ba bb bw bh bp : Nat} {x0 y0 x1 y1 f mf ms ma wd hg m fa fb : Int} {g1 g2 : Bool} {A0 A1 A2 A3 A4 B0 B1 B2 B3 B4 : Value}
    (l0 : w.cell? ⟨bl, 0, none⟩ = some (.int .i64 x0)) (l1 : w.cell? ⟨bl, 1, none⟩ = some (.int .i64 y0)) (l2 : w.cell? ⟨bl, 2, none⟩ = some (.int .i64 x1)) (l3 : w.cell? ⟨bl, 3, none⟩ = some (.int .i64 y1)) (l4 : w.cell? ⟨bl, 4, none⟩ = some (.int .u8 f))
    (p0 : w.cell? ⟨bp, 0, none⟩ = some (.int .i64 mf)) (p1 : w.cell? ⟨bp, 1, none⟩ = some (.int .i64 ms)) (p2 : w.cell? ⟨bp, 2, none⟩ = some (.int .i64 ma))
    (w0 : w.cell? ⟨bw, 0, none⟩ = some (.int .i64 wd)) (h0 : w.cell? ⟨bh, 0, none⟩ = some (.int .i64 hg))
    (ha : Box5 w ba A0 A1 A2 A3 A4) (hb : Box5 w bb B0 B1 B2 B3 B4)
    (d1 : bl ≠ ba) (d2 : bl ≠ bb) (d3 : ba ≠ bb) (d4 : bw ≠ ba) (d5 : bw ≠ bb) (d6 : bh ≠ ba) (d7 : bh ≠ bb) (d8 : bp ≠ ba) (d9 : bp ≠ bb)
    (hm : wrap64 (y0 + wrap64 (hg.tdiv 2)) = m) (hfa : bits .andNot .u8 f 8 = fa) (hfb : bits .andNot .u8 f 4 = fb)
    (hg1 : ∀ W : World, Calls Try.prog 41 #[.agg #[.int .i64 x0, .int .i64 y0, .int .i64 x1, .int .i64 m, .int .u8 fa], .agg #[.int .i64 mf, .int .i64 ms, .int .i64 ma]] W fun e w' => e = .returned (.bool g1) ∧ Below W.heap.size W w')
    (hg2 : ∀ W : World, Calls Try.prog 41 #[.agg #[.int .i64 x0, .int .i64 m, .int .i64 x1, .int .i64 y1, .int .u8 fb], .agg #[.int .i64 mf, .int .i64 ms, .int .i64 ma]] W fun e w' => e = .returned (.bool g2) ∧ Below W.heap.size W w') :
    Calls Try.prog 50 #[.bool false, .pointer (some ⟨bl, 0, none⟩), .pointer (some ⟨ba, 0, none⟩), .pointer (some ⟨bb, 0, none⟩), .pointer (some ⟨bw, 0, none⟩), .pointer (some ⟨bh, 0, none⟩), .pointer (some ⟨bp, 0, none⟩)] w fun e w' => e = .returned (.bool (g1 && g2)) ∧ Upd ba (some bb) w w' ∧ Box5 w' ba (.int .i64 x0) (.int .i64 y0) (.int .i64 x1) (.int .i64 m) (.int .u8 fa) ∧ Box5 w' bb (.int .i64 x0) (.int .i64 m) (.int .i64 x1) (.int .i64 y1) (.int .u8 fb) := by
  obtain ⟨a0, a1, a2, a3, a4, af0, af1, af2, af3, af4⟩ := ha
  obtain ⟨b0, b1, b2, b3, b4, bf0, bf1, bf2, bf3, bf4⟩ := hb
  have HG1 := hide hg1
  have HG2 := hide hg2
  have HM := hide hm
  have HFA := hide hfa
  have HFB := hide hfb
  clear hg1 hg2 hm hfa hfb
  go_enter Try.func50, Try.ntmps50
  go_wp2
  go_region
  refine exit_name fun W hW => ?_
  have U1 : Upd ba (some bb) w W := by
    rw [hW]
    exact upd_drew (Upd.refl ba (some bb) w |>.setCell 0 _ |>.setCell 1 _ |>.setCell 2 _ |>.setCell 3 _ |>.setCell 4 _ |>.setRow 0 _ |>.setRow 1 _ |>.setRow 2 _ |>.setRow 3 _ |>.setRow 4 _)
  have A0 : W.cell? ⟨ba, 0, none⟩ = some (.int .i64 x0) := by rw [hW]; simp [go_sem, d1, d2, d3, d1.symm, d2.symm, d3.symm, d8, d9, d8.symm, d9.symm, a0, a1, a2, a3, a4]
  have A1 : W.cell? ⟨ba, 1, none⟩ = some (.int .i64 y0) := by rw [hW]; simp [go_sem, d1, d2, d3, d1.symm, d2.symm, d3.symm, d8, d9, d8.symm, d9.symm, a0, a1, a2, a3, a4]
  have A2 : W.cell? ⟨ba, 2, none⟩ = some (.int .i64 x1) := by rw [hW]; simp [go_sem, d1, d2, d3, d1.symm, d2.symm, d3.symm, d8, d9, d8.symm, d9.symm, a0, a1, a2, a3, a4]
  have A3 : W.cell? ⟨ba, 3, none⟩ = some (.int .i64 y1) := by rw [hW]; simp [go_sem, d1, d2, d3, d1.symm, d2.symm, d3.symm, d8, d9, d8.symm, d9.symm, a0, a1, a2, a3, a4]
  have A4 : W.cell? ⟨ba, 4, none⟩ = some (.int .u8 f) := by rw [hW]; simp [go_sem, d1, d2, d3, d1.symm, d2.symm, d3.symm, d8, d9, d8.symm, d9.symm, a0, a1, a2, a3, a4]
  have B0 : W.cell? ⟨bb, 0, none⟩ = some (.int .i64 x0) := by rw [hW]; simp [go_sem, d1, d2, d3, d1.symm, d2.symm, d3.symm, d8, d9, d8.symm, d9.symm, b0, b1, b2, b3, b4]
  have B1 : W.cell? ⟨bb, 1, none⟩ = some (.int .i64 y0) := by rw [hW]; simp [go_sem, d1, d2, d3, d1.symm, d2.symm, d3.symm, d8, d9, d8.symm, d9.symm, b0, b1, b2, b3, b4]
  have B2 : W.cell? ⟨bb, 2, none⟩ = some (.int .i64 x1) := by rw [hW]; simp [go_sem, d1, d2, d3, d1.symm, d2.symm, d3.symm, d8, d9, d8.symm, d9.symm, b0, b1, b2, b3, b4]
  have B3 : W.cell? ⟨bb, 3, none⟩ = some (.int .i64 y1) := by rw [hW]; simp [go_sem, d1, d2, d3, d1.symm, d2.symm, d3.symm, d8, d9, d8.symm, d9.symm, b0, b1, b2, b3, b4]
  have B4 : W.cell? ⟨bb, 4, none⟩ = some (.int .u8 f) := by rw [hW]; simp [go_sem, d1, d2, d3, d1.symm, d2.symm, d3.symm, d8, d9, d8.symm, d9.symm, b0, b1, b2, b3, b4]
  have AF0 : W.frozen? ⟨ba, 0, none⟩ = false := by rw [hW]; simp [go_sem, af0]
  have AF1 : W.frozen? ⟨ba, 1, none⟩ = false := by rw [hW]; simp [go_sem, af1]
  have AF2 : W.frozen? ⟨ba, 2, none⟩ = false := by rw [hW]; simp [go_sem, af2]
  have AF3 : W.frozen? ⟨ba, 3, none⟩ = false := by rw [hW]; simp [go_sem, af3]
  have AF4 : W.frozen? ⟨ba, 4, none⟩ = false := by rw [hW]; simp [go_sem, af4]
  have BF0 : W.frozen? ⟨bb, 0, none⟩ = false := by rw [hW]; simp [go_sem, bf0]
  have BF1 : W.frozen? ⟨bb, 1, none⟩ = false := by rw [hW]; simp [go_sem, bf1]
  have BF2 : W.frozen? ⟨bb, 2, none⟩ = false := by rw [hW]; simp [go_sem, bf2]
  have BF3 : W.frozen? ⟨bb, 3, none⟩ = false := by rw [hW]; simp [go_sem, bf3]
  have BF4 : W.frozen? ⟨bb, 4, none⟩ = false := by rw [hW]; simp [go_sem, bf4]
  have L0 := (U1.cell (off := 0) (lt_of_cell l0) d1 (fun e => d2 (by injection e with e; exact e.symm))).trans l0
  have L1 := (U1.cell (off := 1) (lt_of_cell l1) d1 (fun e => d2 (by injection e with e; exact e.symm))).trans l1
  have L2 := (U1.cell (off := 2) (lt_of_cell l2) d1 (fun e => d2 (by injection e with e; exact e.symm))).trans l2
  have L3 := (U1.cell (off := 3) (lt_of_cell l3) d1 (fun e => d2 (by injection e with e; exact e.symm))).trans l3
  have L4 := (U1.cell (off := 4) (lt_of_cell l4) d1 (fun e => d2 (by injection e with e; exact e.symm))).trans l4
  have P0 := (U1.cell (off := 0) (lt_of_cell p0) d8 (fun e => d9 (by injection e with e; exact e.symm))).trans p0
  have P1 := (U1.cell (off := 1) (lt_of_cell p1) d8 (fun e => d9 (by injection e with e; exact e.symm))).trans p1
  have P2 := (U1.cell (off := 2) (lt_of_cell p2) d8 (fun e => d9 (by injection e with e; exact e.symm))).trans p2
  have W0 := (U1.cell (off := 0) (lt_of_cell w0) d4 (fun e => d5 (by injection e with e; exact e.symm))).trans w0
  have H0 := (U1.cell (off := 0) (lt_of_cell h0) d6 (fun e => d7 (by injection e with e; exact e.symm))).trans h0
  have HW1 := hide U1
  clear U1 hW a0 a1 a2 a3 a4 b0 b1 b2 b3 b4 l0 l1 l2 l3 l4 p0 p1 p2 w0 h0 af0 af1 af2 af3 af4 bf0 bf1 bf2 bf3 bf4
  go_wp2_with (fail)
  simp only [HM.out, HFA.out, HFB.out]
  refine calls_name fun V hV => ?_
  have U2 : Upd ba (some bb) w V := by
    rw [hV]
    exact HW1.out |>.setCell _ _ |>.setRow _ _ |>.setCell _ _ |>.setRow _ _
  have HA : Box5 V ba (.int .i64 x0) (.int .i64 y0) (.int .i64 x1) (.int .i64 m) (.int .u8 fa) := by
    rw [hV]
    refine ⟨?_, ?_, ?_, ?_, ?_, ?_, ?_, ?_, ?_, ?_⟩ <;> simp [go_sem, d1, d2, d3, d1.symm, d2.symm, d3.symm, d8, d9, d8.symm, d9.symm, A0, A1, A2, A3, A4, AF0, AF1, AF2, AF3, AF4]
  have HB : Box5 V bb (.int .i64 x0) (.int .i64 m) (.int .i64 x1) (.int .i64 y1) (.int .u8 fb) := by
    rw [hV]
    refine ⟨?_, ?_, ?_, ?_, ?_, ?_, ?_, ?_, ?_, ?_⟩ <;> simp [go_sem, d1, d2, d3, d1.symm, d2.symm, d3.symm, d8, d9, d8.symm, d9.symm, B0, B1, B2, B3, B4, BF0, BF1, BF2, BF3, BF4]
  have p0 : V.cell? ⟨bp, 0, none⟩ = some (.int .i64 mf) := by rw [hV]; simp [go_sem, d1, d2, d3, d1.symm, d2.symm, d3.symm, d8, d9, d8.symm, d9.symm, P0]
  have p1 : V.cell? ⟨bp, 1, none⟩ = some (.int .i64 ms) := by rw [hV]; simp [go_sem, d1, d2, d3, d1.symm, d2.symm, d3.symm, d8, d9, d8.symm, d9.symm, P1]
  have p2 : V.cell? ⟨bp, 2, none⟩ = some (.int .i64 ma) := by rw [hV]; simp [go_sem, d1, d2, d3, d1.symm, d2.symm, d3.symm, d8, d9, d8.symm, d9.symm, P2]
  have HU := hide U2
  have hs0 := lt_of_cell p0
  have HS := hide hs0
  clear hV U2 A0 A1 A2 A3 A4 B0 B1 B2 B3 B4 L0 L1 L2 L3 L4 P0 P1 P2 W0 H0 AF0 AF1 AF2 AF3 AF4 BF0 BF1 BF2 BF3 BF4 hs0
  refine (HG1.out _).mono ?_
  rintro e w1 ⟨rfl, hb⟩
  have K1 := hide (HU.out.trans (Upd.of_below hb))
  have HA1 := HA.below hb
  have HB1 := HB.below hb
  have q0 := (hb.cell (p := ⟨bp, 0, none⟩) HS.out).trans p0
  have q1 := (hb.cell (p := ⟨bp, 1, none⟩) HS.out).trans p1
  have q2 := (hb.cell (p := ⟨bp, 2, none⟩) HS.out).trans p2
  clear hb p0 p1 p2 HA HB
  cases g1 with
  | false =>
    go_wp2_with (fail)
    go_ret
    exact ⟨rfl, K1.out, HA1, HB1⟩
  | true =>
    obtain ⟨b0, b1, b2, b3, b4, bf0, bf1, bf2, bf3, bf4⟩ := id HB1
    have HB2 := hide HB1
    have HA2 := hide HA1
    clear HA1 HB1 bf0 bf1 bf2 bf3 bf4
    go_wp2_with (fail)
    refine (HG2.out _).mono ?_
    rintro e w2 ⟨rfl, hb⟩
    have K2 := hide (K1.out.trans (Upd.of_below hb))
    have HA3 := hide (HA2.out.below hb)
    have HB3 := hide (HB2.out.below hb)
    clear hb b0 b1 b2 b3 b4 q0 q1 q2
    go_wp2_with (fail)
    go_ret
    exact ⟨rfl, K2.out, HA3.out, HB3.out⟩
def Box5L (w : World) (b : Nat) (l : Lot5) : Prop := Box5 w b (.int .i64 l.r.x0) (.int .i64 l.r.y0) (.int .i64 l.r.x1) (.int .i64 l.r.y1) (.int .u8 l.f)
theorem less_range {f s : Int} (h : 1 ≤ f ∧ f ≤ 15) (hs : isSide s) : 0 ≤ lessS f s ∧ lessS f s ≤ 255 := by
  have h16 : 0 ≤ f ∧ f ≤ 15 := by omega
  obtain ⟨n, hn, rfl⟩ := f16 h16
  have key : ∀ n ∈ List.range 16, ∀ s ∈ ([1, 2, 4, 8] : List Int), 0 ≤ lessS (n : Int) s ∧ lessS (n : Int) s ≤ 255 := by decide
  exact key n hn s (side_mem hs)
theorem half_wrap {x d : Int} (hx : inR x) (hd : 0 < d ∧ d ≤ 2000000) : wrap64 (x + wrap64 (d.tdiv 2)) = x + d / 2 := by
  unfold inR at hx
  rw [Int.tdiv_eq_ediv_of_nonneg (by omega), show wrap64 (d / 2) = d / 2 from by unfold wrap64; omega]
  unfold wrap64; omega
theorem try_any (d : Bool) (l : Lot5) (p : Pl3) (hv : validL l) {w : World} {bl ba bb bw bh bp : Nat} {A0 A1 A2 A3 A4 B0 B1 B2 B3 B4 : Value}
    (l0 : w.cell? ⟨bl, 0, none⟩ = some (.int .i64 l.r.x0)) (l1 : w.cell? ⟨bl, 1, none⟩ = some (.int .i64 l.r.y0)) (l2 : w.cell? ⟨bl, 2, none⟩ = some (.int .i64 l.r.x1)) (l3 : w.cell? ⟨bl, 3, none⟩ = some (.int .i64 l.r.y1)) (l4 : w.cell? ⟨bl, 4, none⟩ = some (.int .u8 l.f))
    (p0 : w.cell? ⟨bp, 0, none⟩ = some (.int .i64 p.mf)) (p1 : w.cell? ⟨bp, 1, none⟩ = some (.int .i64 p.ms)) (p2 : w.cell? ⟨bp, 2, none⟩ = some (.int .i64 p.ma))
    (w0 : w.cell? ⟨bw, 0, none⟩ = some (.int .i64 l.w)) (h0 : w.cell? ⟨bh, 0, none⟩ = some (.int .i64 l.h))
    (ha : Box5 w ba A0 A1 A2 A3 A4) (hb : Box5 w bb B0 B1 B2 B3 B4)
    (d1 : bl ≠ ba) (d2 : bl ≠ bb) (d3 : ba ≠ bb) (d4 : bw ≠ ba) (d5 : bw ≠ bb) (d6 : bh ≠ ba) (d7 : bh ≠ bb) (d8 : bp ≠ ba) (d9 : bp ≠ bb) :
    Calls Try.prog 50 #[.bool d, .pointer (some ⟨bl, 0, none⟩), .pointer (some ⟨ba, 0, none⟩), .pointer (some ⟨bb, 0, none⟩), .pointer (some ⟨bw, 0, none⟩), .pointer (some ⟨bh, 0, none⟩), .pointer (some ⟨bp, 0, none⟩)] w fun e w' => e = .returned (.bool (bothG p (wayL d l))) ∧ Upd ba (some bb) w w' ∧ Box5L w' ba (wayL d l).1 ∧ Box5L w' bb (wayL d l).2 := by
  have hf : 0 ≤ l.f ∧ l.f ≤ 15 := by have := hv.2; omega
  have hp := valid_pos hv
  have s1 : isSide 1 := by unfold isSide; omega
  have s2 : isSide 2 := by unfold isSide; omega
  have s4 : isSide 4 := by unfold isSide; omega
  have s8 : isSide 8 := by unfold isSide; omega
  cases d with
  | true => exact try_true l0 l1 l2 l3 l4 p0 p1 p2 w0 h0 ha hb d1 d2 d3 d4 d5 d6 d7 d8 d9 (half_wrap hv.1.2.2.1 ⟨hp.1, hp.2.2.1⟩) (bit_less hf s2) (bit_less hf s1) (fun W => good_any (wideL l).1 p (less_range hv.2 s2) W) (fun W => good_any (wideL l).2 p (less_range hv.2 s1) W)
  | false => exact try_false l0 l1 l2 l3 l4 p0 p1 p2 w0 h0 ha hb d1 d2 d3 d4 d5 d6 d7 d8 d9 (half_wrap hv.1.2.2.2.2.1 ⟨hp.2.1, hp.2.2.2⟩) (bit_less hf s8) (bit_less hf s4) (fun W => good_any (highL l).1 p (less_range hv.2 s8) W) (fun W => good_any (highL l).2 p (less_range hv.2 s4) W)
end Go.Proofs.Ytgdlbaabdebclaa

/- The walk of parcel.cut. -/
namespace Go.Proofs.Ytgdlbaabdebclaa
open Go.RowKit
set_option linter.unusedVariables false
set_option linter.unusedSimpArgs false

set_option maxHeartbeats 1000000 in
theorem width_exact (l : Lot5) (h : okR l.r) (w : World) : Calls Try.prog 48 #[.agg (encL l).toArray] w fun e w' => e = .returned (.int .i64 l.w) ∧ w' = w.alloc (.cells (encL l).toArray 65) := by
  obtain ⟨⟨x0, y0, x1, y1⟩, f⟩ := l
  simp only [okR, inR] at h
  obtain ⟨h1, h2, ⟨h3, h4⟩, ⟨h5, h6⟩, ⟨h7, h8⟩, ⟨h9, h10⟩⟩ := h
  show Calls Try.prog _ #[.agg #[.int .i64 x0, .int .i64 y0, .int .i64 x1, .int .i64 y1, .int .u8 f]] w fun e w' => e = .returned (.int .i64 (x1 - x0)) ∧ w' = w.alloc (.cells #[.int .i64 x0, .int .i64 y0, .int .i64 x1, .int .i64 y1, .int .u8 f] 65)
  go_enter Try.func48, Try.ntmps48
  go_wp2
  go_ret
  exact ⟨rfl, rfl⟩
set_option maxHeartbeats 1000000 in
theorem height_exact (l : Lot5) (h : okR l.r) (w : World) : Calls Try.prog 49 #[.agg (encL l).toArray] w fun e w' => e = .returned (.int .i64 l.h) ∧ w' = w.alloc (.cells (encL l).toArray 65) := by
  obtain ⟨⟨x0, y0, x1, y1⟩, f⟩ := l
  simp only [okR, inR] at h
  obtain ⟨h1, h2, ⟨h3, h4⟩, ⟨h5, h6⟩, ⟨h7, h8⟩, ⟨h9, h10⟩⟩ := h
  show Calls Try.prog _ #[.agg #[.int .i64 x0, .int .i64 y0, .int .i64 x1, .int .i64 y1, .int .u8 f]] w fun e w' => e = .returned (.int .i64 (y1 - y0)) ∧ w' = w.alloc (.cells #[.int .i64 x0, .int .i64 y0, .int .i64 x1, .int .i64 y1, .int .u8 f] 65)
  go_enter Try.func49, Try.ntmps49
  go_wp2
  go_ret
  exact ⟨rfl, rfl⟩
theorem keepS {n : Nat} {A B : World} {v0 v1 v2 v3 v4 : Value} (hb : Below A.heap.size A B) (h : A.cell? ⟨n, 0, none⟩ = some v0 ∧ A.cell? ⟨n, 1, none⟩ = some v1 ∧ A.cell? ⟨n, 2, none⟩ = some v2 ∧ A.cell? ⟨n, 3, none⟩ = some v3 ∧ A.cell? ⟨n, 4, none⟩ = some v4) : B.cell? ⟨n, 0, none⟩ = some v0 ∧ B.cell? ⟨n, 1, none⟩ = some v1 ∧ B.cell? ⟨n, 2, none⟩ = some v2 ∧ B.cell? ⟨n, 3, none⟩ = some v3 ∧ B.cell? ⟨n, 4, none⟩ = some v4 :=
  have hs := lt_of_cell h.1
  ⟨(hb.cell (p := ⟨n, 0, none⟩) hs).trans h.1, (hb.cell (p := ⟨n, 1, none⟩) hs).trans h.2.1, (hb.cell (p := ⟨n, 2, none⟩) hs).trans h.2.2.1, (hb.cell (p := ⟨n, 3, none⟩) hs).trans h.2.2.2.1, (hb.cell (p := ⟨n, 4, none⟩) hs).trans h.2.2.2.2⟩
theorem keepD {n : Nat} {A : World} {v0 v1 v2 v3 v4 : Value} (h : A.cell? ⟨n, 0, none⟩ = some v0 ∧ A.cell? ⟨n, 1, none⟩ = some v1 ∧ A.cell? ⟨n, 2, none⟩ = some v2 ∧ A.cell? ⟨n, 3, none⟩ = some v3 ∧ A.cell? ⟨n, 4, none⟩ = some v4) : A.drew.cell? ⟨n, 0, none⟩ = some v0 ∧ A.drew.cell? ⟨n, 1, none⟩ = some v1 ∧ A.drew.cell? ⟨n, 2, none⟩ = some v2 ∧ A.drew.cell? ⟨n, 3, none⟩ = some v3 ∧ A.drew.cell? ⟨n, 4, none⟩ = some v4 := h
theorem keepA {n : Nat} {A : World} {v0 v1 v2 v3 v4 : Value} {o : Obj} (h : A.cell? ⟨n, 0, none⟩ = some v0 ∧ A.cell? ⟨n, 1, none⟩ = some v1 ∧ A.cell? ⟨n, 2, none⟩ = some v2 ∧ A.cell? ⟨n, 3, none⟩ = some v3 ∧ A.cell? ⟨n, 4, none⟩ = some v4) : (A.alloc o).cell? ⟨n, 0, none⟩ = some v0 ∧ (A.alloc o).cell? ⟨n, 1, none⟩ = some v1 ∧ (A.alloc o).cell? ⟨n, 2, none⟩ = some v2 ∧ (A.alloc o).cell? ⟨n, 3, none⟩ = some v3 ∧ (A.alloc o).cell? ⟨n, 4, none⟩ = some v4 := keepS ((Below.refl _ _).alloc (Nat.le_refl _) o) h
theorem keepC {n : Nat} {A : World} {v0 v1 v2 v3 v4 : Value} {g k : Nat} {v : Value} (h : A.cell? ⟨n, 0, none⟩ = some v0 ∧ A.cell? ⟨n, 1, none⟩ = some v1 ∧ A.cell? ⟨n, 2, none⟩ = some v2 ∧ A.cell? ⟨n, 3, none⟩ = some v3 ∧ A.cell? ⟨n, 4, none⟩ = some v4) (hg : n ≠ g) : (A.setCell ⟨g, k, none⟩ v).cell? ⟨n, 0, none⟩ = some v0 ∧ (A.setCell ⟨g, k, none⟩ v).cell? ⟨n, 1, none⟩ = some v1 ∧ (A.setCell ⟨g, k, none⟩ v).cell? ⟨n, 2, none⟩ = some v2 ∧ (A.setCell ⟨g, k, none⟩ v).cell? ⟨n, 3, none⟩ = some v3 ∧ (A.setCell ⟨g, k, none⟩ v).cell? ⟨n, 4, none⟩ = some v4 := by
  refine ⟨?_, ?_, ?_, ?_, ?_⟩ <;> simp [go_sem, hg, hg.symm, h]
theorem wp_name5 {P : Program} {c : Code} {Q : Exit → Act → World → Prop} {a : Act} {W : World} (h : ∀ w, w = W → c.wp P Q a w) : c.wp P Q a W := h W rfl
def zeroL : Lot5 := ⟨⟨0, 0, 0, 0⟩, 0⟩
def cutR (l : Lot5) (p : Pl3) : Lot5 × Lot5 × Bool := match cutL p l with
  | some x => (x.1, x.2, true)
  | none => (zeroL, zeroL, false)
theorem cutR_eq (l : Lot5) (p : Pl3) : cutR l p = if decide (l.w * l.h ≤ p.ma) = true then (zeroL, zeroL, false) else if decide (goodL p l) = false then (zeroL, zeroL, false) else if bothG p (wayL (decide (l.h ≤ l.w)) l) = true then ((wayL (decide (l.h ≤ l.w)) l).1, (wayL (decide (l.h ≤ l.w)) l).2, true) else if bothG p (wayL (decide (l.w < l.h)) l) = true then ((wayL (decide (l.w < l.h)) l).1, (wayL (decide (l.w < l.h)) l).2, true) else (zeroL, zeroL, false) := by
  unfold cutR cutL
  by_cases h1 : l.w * l.h ≤ p.ma
  · simp [h1]
  · by_cases h2 : goodL p l
    · simp only [h1, h2, decide_true, decide_false, not_true_eq_false, or_self, if_false, Bool.false_eq_true, Bool.true_eq_false]
      repeat' split
      all_goals first | rfl | simp_all
    · simp [h1, h2]
set_option maxRecDepth 100000 in
set_option maxHeartbeats 8000000 in
theorem cut_any (l : Lot5) (p : Pl3) (hv : validL l) (w : World) : Calls Try.prog 35 #[.agg (encL l).toArray, .agg (encP p).toArray] w fun e w' => e = .returned (.tuple #[.agg (encL (cutR l p).1).toArray, .agg (encL (cutR l p).2.1).toArray, .bool (cutR l p).2.2]) ∧ Below w.heap.size w w' := by
  have HWI := hide (fun W => width_exact l hv.1 W)
  have HHE := hide (fun W => height_exact l hv.1 W)
  have HGD := hide (fun W => good_any l p (by have := hv.2; omega) W)
  have HT := hide (fun d w bl ba bb bw bh bp A0 A1 A2 A3 A4 B0 B1 B2 B3 B4 => @try_any d l p hv w bl ba bb bw bh bp A0 A1 A2 A3 A4 B0 B1 B2 B3 B4)
  have hpos := valid_pos hv
  have HR := hide (cutR_eq l p)
  generalize cutR l p = R at *
  generalize decide (goodL p l) = G at *
  generalize l.w = wd at *
  generalize l.h = hg at *
  obtain ⟨⟨x0, y0, x1, y1⟩, f⟩ := l
  obtain ⟨mf, ms, ma⟩ := p
  clear hv
  show Calls Try.prog _ #[.agg #[.int .i64 x0, .int .i64 y0, .int .i64 x1, .int .i64 y1, .int .u8 f], .agg #[.int .i64 mf, .int .i64 ms, .int .i64 ma]] w _
  simp only [encL, encP] at HWI HHE HGD
  go_enter Try.func35, Try.ntmps35
  go_upto_region 1 with fail
  refine wp_name5 fun W hW => ?_
  have hb0 : Below w.heap.size w W := by rw [hW]; exact ((((Below.refl _ _).alloc (Nat.le_refl _) _).alloc (by simp) _).alloc (by simp; omega) _).alloc (by simp; omega) _
  have hs0 : w.heap.size + 3 < W.heap.size := by rw [hW]; simp
  have l0 : W.cell? ⟨w.heap.size, 0, none⟩ = some (.int .i64 x0) := by rw [hW]; simp [go_sem]
  have l1 : W.cell? ⟨w.heap.size, 1, none⟩ = some (.int .i64 y0) := by rw [hW]; simp [go_sem]
  have l2 : W.cell? ⟨w.heap.size, 2, none⟩ = some (.int .i64 x1) := by rw [hW]; simp [go_sem]
  have l3 : W.cell? ⟨w.heap.size, 3, none⟩ = some (.int .i64 y1) := by rw [hW]; simp [go_sem]
  have l4 : W.cell? ⟨w.heap.size, 4, none⟩ = some (.int .u8 f) := by rw [hW]; simp [go_sem]
  have p0 : W.cell? ⟨w.heap.size + 1, 0, none⟩ = some (.int .i64 mf) := by rw [hW]; simp [go_sem]
  have p1 : W.cell? ⟨w.heap.size + 1, 1, none⟩ = some (.int .i64 ms) := by rw [hW]; simp [go_sem]
  have p2 : W.cell? ⟨w.heap.size + 1, 2, none⟩ = some (.int .i64 ma) := by rw [hW]; simp [go_sem]
  have HA0 : Box5 W (w.heap.size + 2) (.int .i64 0) (.int .i64 0) (.int .i64 0) (.int .i64 0) (.int .u8 0) := by rw [hW]; refine ⟨?_, ?_, ?_, ?_, ?_, ?_, ?_, ?_, ?_, ?_⟩ <;> simp [go_sem]
  have HB0 : Box5 W (w.heap.size + 3) (.int .i64 0) (.int .i64 0) (.int .i64 0) (.int .i64 0) (.int .u8 0) := by rw [hW]; refine ⟨?_, ?_, ?_, ?_, ?_, ?_, ?_, ?_, ?_, ?_⟩ <;> simp [go_sem]
  generalize hn : w.heap.size = n at *
  clear hW
  go_cut [7, 8] (fun s7 s8 wx => ∃ g7 g8 : Nat, s7 = .pointer (some ⟨g7, 0, none⟩) ∧ s8 = .pointer (some ⟨g8, 0, none⟩) ∧ Below W.heap.size W wx ∧ W.heap.size ≤ g7 ∧ W.heap.size ≤ g8 ∧ wx.cell? ⟨g7, 0, none⟩ = some (.int .i64 wd) ∧ wx.cell? ⟨g8, 0, none⟩ = some (.int .i64 hg))
  case first =>
    go_region_held3 (fun w' => w'.cell? ⟨n, 0, none⟩ = some (.int .i64 x0) ∧ w'.cell? ⟨n, 1, none⟩ = some (.int .i64 y0) ∧ w'.cell? ⟨n, 2, none⟩ = some (.int .i64 x1) ∧ w'.cell? ⟨n, 3, none⟩ = some (.int .i64 y1) ∧ w'.cell? ⟨n, 4, none⟩ = some (.int .u8 f)) (((repeat (first | with_reducible refine keepA ?_ | with_reducible refine keepC ?_ (by have := hs0; simp; omega) | with_reducible refine keepD ?_)); exact ⟨l0, l1, l2, l3, l4⟩))
      (first
        | (go_at_call 48; refine (HWI.out _).mono ?_; rintro e w' ⟨rfl, rfl⟩)
        | (go_at_call 49; refine (HHE.out _).mono ?_; rintro e w' ⟨rfl, rfl⟩))
    all_goals (go_wp2_with (fail); go_meet)
    all_goals
      refine ⟨_, _, rfl, rfl, ?_, ?_, ?_, ?_, ?_⟩
      · repeat (first | with_reducible exact Below.refl _ _ | with_reducible refine Below.setCell ?_ (by simp) _ | with_reducible refine Below.alloc ?_ (by simp <;> omega) _ | with_reducible refine Below.drew ?_)
      · first | omega | simp
      · first | omega | simp
      · simp [go_sem]
      · simp [go_sem]
  case rest =>
    obtain ⟨g7, g8, rfl, rfl, hb, hg7, hg8, c7, c8⟩ := hcut
    have L0 := (hb.cell (p := ⟨n, 0, none⟩) (by show n < _; omega)).trans l0
    have L1 := (hb.cell (p := ⟨n, 1, none⟩) (by show n < _; omega)).trans l1
    have L2 := (hb.cell (p := ⟨n, 2, none⟩) (by show n < _; omega)).trans l2
    have L3 := (hb.cell (p := ⟨n, 3, none⟩) (by show n < _; omega)).trans l3
    have L4 := (hb.cell (p := ⟨n, 4, none⟩) (by show n < _; omega)).trans l4
    have P0 := (hb.cell (p := ⟨n + 1, 0, none⟩) (by show n + 1 < _; omega)).trans p0
    have P1 := (hb.cell (p := ⟨n + 1, 1, none⟩) (by show n + 1 < _; omega)).trans p1
    have P2 := (hb.cell (p := ⟨n + 1, 2, none⟩) (by show n + 1 < _; omega)).trans p2
    have HA := HA0.below hb
    have HB := HB0.below hb
    have K0 := hide (hb0.trans (hb.mono (by omega)))
    have hsz : n + 3 < wc.heap.size := by have := hb.size; omega
    clear l0 l1 l2 l3 l4 p0 p1 p2 HA0 HB0 hb hb0
    obtain ⟨hw1, hh1, hw2, hh2⟩ := hpos
    have hm0 : 0 ≤ wd * hg := Int.mul_nonneg (by omega) (by omega)
    have hm1 : wd * hg ≤ 2000000 * 2000000 := Int.mul_le_mul hw2 hh2 (by omega) (by omega)
    cases hS : decide (wd * hg ≤ ma) with
    | true =>
      rw [hS] at HR
      have hS' : wd * hg ≤ ma := of_decide_eq_true hS
      obtain ⟨a0, a1, a2, a3, a4, af0, af1, af2, af3, af4⟩ := HA
      obtain ⟨b0, b1, b2, b3, b4, bf0, bf1, bf2, bf3, bf4⟩ := HB
      clear hS
      go_wp2_with (fail)
      refine exit_name fun V hV => ?_
      have HAV : Box5L V (n + 1 + 1) zeroL := by rw [hV]; refine ⟨?_, ?_, ?_, ?_, ?_, ?_, ?_, ?_, ?_, ?_⟩ <;> simp [go_sem, a0, a1, a2, a3, a4, af0, af1, af2, af3, af4, zeroL]
      have HBV : Box5L V (n + 1 + 1 + 1) zeroL := by rw [hV]; refine ⟨?_, ?_, ?_, ?_, ?_, ?_, ?_, ?_, ?_, ?_⟩ <;> simp [go_sem, b0, b1, b2, b3, b4, bf0, bf1, bf2, bf3, bf4, zeroL]
      have KV : Below n w V := by
        rw [hV]
        repeat (first | with_reducible exact K0.out | with_reducible refine Below.setCell ?_ (by first | (simp; done) | (simp; omega)) _ | with_reducible refine Below.drew ?_)
      have hsV : n + 3 < V.heap.size := by have := lt_of_cell HBV.c0; omega
      clear hV a0 a1 a2 a3 a4 b0 b1 b2 b3 b4 af0 af1 af2 af3 af4 bf0 bf1 bf2 bf3 bf4
      obtain ⟨a0, a1, a2, a3, a4, -, -, -, -, -⟩ := HAV
      obtain ⟨b0, b1, b2, b3, b4, -, -, -, -, -⟩ := HBV
      refine bodyPost_ret (v := .tuple #[.agg (encL zeroL).toArray, .agg (encL zeroL).toArray, .bool false]) (by simp [results, Try.results35, go_sem, a0, a1, a2, a3, a4, b0, b1, b2, b3, b4, encL]) rfl ⟨by rw [HR.out]; rfl, by first | exact KV | (rw [hn]; exact KV)⟩
    | false =>
      rw [hS] at HR
      have hS1 : ¬ wd * hg ≤ ma := of_decide_eq_false hS
      have hS2 : ma < wd * hg := by omega
      clear hS
      obtain ⟨a0, a1, a2, a3, a4, af0, af1, af2, af3, af4⟩ := id HA
      obtain ⟨b0, b1, b2, b3, b4, bf0, bf1, bf2, bf3, bf4⟩ := id HB
      cases G with
      | false =>
        go_wp2_with (fail)
        refine (HGD.out _).mono ?_
        rintro e w1 ⟨rfl, hb⟩
        have HA1 := HA.below hb
        have HB1 := HB.below hb
        have K1 := hide (K0.out.trans (hb.mono (by omega)))
        have l0 := (hb.cell (p := ⟨n, 0, none⟩) (by show n < _; omega)).trans L0
        have l1 := (hb.cell (p := ⟨n, 1, none⟩) (by show n < _; omega)).trans L1
        have l2 := (hb.cell (p := ⟨n, 2, none⟩) (by show n < _; omega)).trans L2
        have l3 := (hb.cell (p := ⟨n, 3, none⟩) (by show n < _; omega)).trans L3
        have l4 := (hb.cell (p := ⟨n, 4, none⟩) (by show n < _; omega)).trans L4
        have p0 := (hb.cell (p := ⟨n + 1, 0, none⟩) (by show n + 1 < _; omega)).trans P0
        have p1 := (hb.cell (p := ⟨n + 1, 1, none⟩) (by show n + 1 < _; omega)).trans P1
        have p2 := (hb.cell (p := ⟨n + 1, 2, none⟩) (by show n + 1 < _; omega)).trans P2
        have d7 := (hb.cell (p := ⟨g7, 0, none⟩) (lt_of_cell c7)).trans c7
        have d8 := (hb.cell (p := ⟨g8, 0, none⟩) (lt_of_cell c8)).trans c8
        have hsz1 : n + 3 < w1.heap.size := by have := hb.size; omega
        clear hb L0 L1 L2 L3 L4 P0 P1 P2 c7 c8 HA HB hsz a0 a1 a2 a3 a4 b0 b1 b2 b3 b4 af0 af1 af2 af3 af4 bf0 bf1 bf2 bf3 bf4
        obtain ⟨a0, a1, a2, a3, a4, af0, af1, af2, af3, af4⟩ := id HA1
        obtain ⟨b0, b1, b2, b3, b4, bf0, bf1, bf2, bf3, bf4⟩ := id HB1
        clear HA1 HB1
        go_wp2_with (fail)
        refine exit_name fun V hV => ?_
        have HAV : Box5L V (n + 1 + 1) zeroL := by rw [hV]; refine ⟨?_, ?_, ?_, ?_, ?_, ?_, ?_, ?_, ?_, ?_⟩ <;> simp [go_sem, a0, a1, a2, a3, a4, af0, af1, af2, af3, af4, zeroL]
        have HBV : Box5L V (n + 1 + 1 + 1) zeroL := by rw [hV]; refine ⟨?_, ?_, ?_, ?_, ?_, ?_, ?_, ?_, ?_, ?_⟩ <;> simp [go_sem, b0, b1, b2, b3, b4, bf0, bf1, bf2, bf3, bf4, zeroL]
        have KV : Below n w V := by
          rw [hV]
          repeat (first | with_reducible exact K1.out | with_reducible refine Below.setCell ?_ (by first | (simp; done) | (simp; omega)) _ | with_reducible refine Below.drew ?_)
        have hsV : n + 3 < V.heap.size := by have := lt_of_cell HBV.c0; omega
        clear hV a0 a1 a2 a3 a4 b0 b1 b2 b3 b4 af0 af1 af2 af3 af4 bf0 bf1 bf2 bf3 bf4
        obtain ⟨a0, a1, a2, a3, a4, -, -, -, -, -⟩ := HAV
        obtain ⟨b0, b1, b2, b3, b4, -, -, -, -, -⟩ := HBV
        refine bodyPost_ret (v := .tuple #[.agg (encL zeroL).toArray, .agg (encL zeroL).toArray, .bool false]) (by simp [results, Try.results35, go_sem, a0, a1, a2, a3, a4, b0, b1, b2, b3, b4, encL]) rfl ⟨by rw [HR.out]; rfl, by first | exact KV | (rw [hn]; exact KV)⟩
      | true =>
        have HT1 := hide (HT.out (decide (hg ≤ wd)))
        have HT2 := hide (HT.out (decide (wd < hg)))
        clear HT
        generalize wayL (decide (hg ≤ wd)) ⟨⟨x0, y0, x1, y1⟩, f⟩ = X1 at *
        generalize wayL (decide (wd < hg)) ⟨⟨x0, y0, x1, y1⟩, f⟩ = X2 at *
        generalize bothG ⟨mf, ms, ma⟩ X1 = T1 at *
        generalize bothG ⟨mf, ms, ma⟩ X2 = T2 at *
        go_wp2_with (fail)
        refine (HGD.out _).mono ?_
        rintro e w1 ⟨rfl, hb⟩
        have HA1 := HA.below hb
        have HB1 := HB.below hb
        have K1 := hide (K0.out.trans (hb.mono (by omega)))
        have l0 := (hb.cell (p := ⟨n, 0, none⟩) (by show n < _; omega)).trans L0
        have l1 := (hb.cell (p := ⟨n, 1, none⟩) (by show n < _; omega)).trans L1
        have l2 := (hb.cell (p := ⟨n, 2, none⟩) (by show n < _; omega)).trans L2
        have l3 := (hb.cell (p := ⟨n, 3, none⟩) (by show n < _; omega)).trans L3
        have l4 := (hb.cell (p := ⟨n, 4, none⟩) (by show n < _; omega)).trans L4
        have p0 := (hb.cell (p := ⟨n + 1, 0, none⟩) (by show n + 1 < _; omega)).trans P0
        have p1 := (hb.cell (p := ⟨n + 1, 1, none⟩) (by show n + 1 < _; omega)).trans P1
        have p2 := (hb.cell (p := ⟨n + 1, 2, none⟩) (by show n + 1 < _; omega)).trans P2
        have d7 := (hb.cell (p := ⟨g7, 0, none⟩) (lt_of_cell c7)).trans c7
        have d8 := (hb.cell (p := ⟨g8, 0, none⟩) (lt_of_cell c8)).trans c8
        have hsz1 : n + 3 < w1.heap.size := by have := hb.size; omega
        clear hb L0 L1 L2 L3 L4 P0 P1 P2 c7 c8 HA HB hsz a0 a1 a2 a3 a4 b0 b1 b2 b3 b4 af0 af1 af2 af3 af4 bf0 bf1 bf2 bf3 bf4
        obtain ⟨a0, a1, a2, a3, a4, af0, af1, af2, af3, af4⟩ := id HA1
        obtain ⟨b0, b1, b2, b3, b4, bf0, bf1, bf2, bf3, bf4⟩ := id HB1
        clear a0 a1 a2 a3 a4 b0 b1 b2 b3 b4 af0 af1 af2 af3 af4 bf0 bf1 bf2 bf3 bf4
        go_wp2_with (fail)
        refine (HT1.out _ _ _ _ _ _ _ _ _ _ _ _ _ _ _ _ _ l0 l1 l2 l3 l4 p0 p1 p2 d7 d8 HA1 HB1 (by omega) (by omega) (by omega) (by omega) (by omega) (by omega) (by omega) (by omega) (by omega)).mono ?_
        rintro e w2 ⟨rfl, hu, HA2, HB2⟩
        have K2 := hide (K1.out.trans ((hu.below (n := n) (by omega) (by omega) (fun k hk => by injection hk with hk; omega)).mono (Nat.le_refl _)))
        have m0 := (hu.cell (off := 0) (lt_of_cell l0) (by omega) (by intro e; injection e with e; omega)).trans l0
        have m1 := (hu.cell (off := 1) (lt_of_cell l1) (by omega) (by intro e; injection e with e; omega)).trans l1
        have m2 := (hu.cell (off := 2) (lt_of_cell l2) (by omega) (by intro e; injection e with e; omega)).trans l2
        have m3 := (hu.cell (off := 3) (lt_of_cell l3) (by omega) (by intro e; injection e with e; omega)).trans l3
        have m4 := (hu.cell (off := 4) (lt_of_cell l4) (by omega) (by intro e; injection e with e; omega)).trans l4
        have q0 := (hu.cell (off := 0) (lt_of_cell p0) (by omega) (by intro e; injection e with e; omega)).trans p0
        have q1 := (hu.cell (off := 1) (lt_of_cell p1) (by omega) (by intro e; injection e with e; omega)).trans p1
        have q2 := (hu.cell (off := 2) (lt_of_cell p2) (by omega) (by intro e; injection e with e; omega)).trans p2
        have e7 := (hu.cell (off := 0) (lt_of_cell d7) (by omega) (by intro e; injection e with e; omega)).trans d7
        have e8 := (hu.cell (off := 0) (lt_of_cell d8) (by omega) (by intro e; injection e with e; omega)).trans d8
        have hsz2 : n + 3 < w2.heap.size := by have := hu.size; omega
        clear hu HA1 HB1 l0 l1 l2 l3 l4 p0 p1 p2 d7 d8 hsz1
        cases T1 with
        | true =>
          obtain ⟨a0, a1, a2, a3, a4, af0, af1, af2, af3, af4⟩ := HA2
          obtain ⟨b0, b1, b2, b3, b4, bf0, bf1, bf2, bf3, bf4⟩ := HB2
          obtain ⟨X, Y⟩ := X1
          obtain ⟨⟨u0, u1, u2, u3⟩, u4⟩ := X
          obtain ⟨⟨v0, v1, v2, v3⟩, v4⟩ := Y
          simp only at a0 a1 a2 a3 a4 b0 b1 b2 b3 b4
          clear m0 m1 m2 m3 m4 q0 q1 q2 e7 e8
          go_wp2_with (fail)
          go_region
          go_wp2_with (fail)
          refine exit_name fun V hV => ?_
          have HAV : Box5L V (n + 1 + 1) ⟨⟨u0, u1, u2, u3⟩, u4⟩ := by rw [hV]; refine ⟨?_, ?_, ?_, ?_, ?_, ?_, ?_, ?_, ?_, ?_⟩ <;> simp [go_sem, a0, a1, a2, a3, a4, af0, af1, af2, af3, af4]
          have HBV : Box5L V (n + 1 + 1 + 1) ⟨⟨v0, v1, v2, v3⟩, v4⟩ := by rw [hV]; refine ⟨?_, ?_, ?_, ?_, ?_, ?_, ?_, ?_, ?_, ?_⟩ <;> simp [go_sem, b0, b1, b2, b3, b4, bf0, bf1, bf2, bf3, bf4]
          have KV : Below n w V := by
            rw [hV]
            repeat (first | with_reducible exact K2.out | with_reducible refine Below.setCell ?_ (by first | (simp; done) | (simp; omega)) _ | with_reducible refine Below.drew ?_)
          have hsV : n + 3 < V.heap.size := by have := lt_of_cell HBV.c0; omega
          clear hV a0 a1 a2 a3 a4 b0 b1 b2 b3 b4 af0 af1 af2 af3 af4 bf0 bf1 bf2 bf3 bf4
          obtain ⟨a0, a1, a2, a3, a4, -, -, -, -, -⟩ := HAV
          obtain ⟨b0, b1, b2, b3, b4, -, -, -, -, -⟩ := HBV
          refine bodyPost_ret (v := .tuple #[.agg (encL ⟨⟨u0, u1, u2, u3⟩, u4⟩).toArray, .agg (encL ⟨⟨v0, v1, v2, v3⟩, v4⟩).toArray, .bool true]) (by simp [results, Try.results35, go_sem, a0, a1, a2, a3, a4, b0, b1, b2, b3, b4, encL]) rfl ⟨by rw [HR.out]; rfl, by first | exact KV | (rw [hn]; exact KV)⟩
        | false =>
          go_wp2_with (fail)
          refine (HT2.out _ _ _ _ _ _ _ _ _ _ _ _ _ _ _ _ _ m0 m1 m2 m3 m4 q0 q1 q2 e7 e8 HA2 HB2 (by omega) (by omega) (by omega) (by omega) (by omega) (by omega) (by omega) (by omega) (by omega)).mono ?_
          rintro e w3 ⟨rfl, hu, HA3, HB3⟩
          have K3 := hide (K2.out.trans ((hu.below (n := n) (by omega) (by omega) (fun k hk => by injection hk with hk; omega)).mono (Nat.le_refl _)))
          have hsz3 : n + 3 < w3.heap.size := by have := hu.size; omega
          clear hu HA2 HB2 m0 m1 m2 m3 m4 q0 q1 q2 e7 e8 hsz2
          obtain ⟨a0, a1, a2, a3, a4, af0, af1, af2, af3, af4⟩ := HA3
          obtain ⟨b0, b1, b2, b3, b4, bf0, bf1, bf2, bf3, bf4⟩ := HB3
          obtain ⟨X, Y⟩ := X2
          obtain ⟨⟨u0, u1, u2, u3⟩, u4⟩ := X
          obtain ⟨⟨v0, v1, v2, v3⟩, v4⟩ := Y
          simp only at a0 a1 a2 a3 a4 b0 b1 b2 b3 b4
          cases T2 with
          | true =>
            go_wp2_with (fail)
            go_region
            go_wp2_with (fail)
            refine exit_name fun V hV => ?_
            have HAV : Box5L V (n + 1 + 1) ⟨⟨u0, u1, u2, u3⟩, u4⟩ := by rw [hV]; refine ⟨?_, ?_, ?_, ?_, ?_, ?_, ?_, ?_, ?_, ?_⟩ <;> simp [go_sem, a0, a1, a2, a3, a4, af0, af1, af2, af3, af4]
            have HBV : Box5L V (n + 1 + 1 + 1) ⟨⟨v0, v1, v2, v3⟩, v4⟩ := by rw [hV]; refine ⟨?_, ?_, ?_, ?_, ?_, ?_, ?_, ?_, ?_, ?_⟩ <;> simp [go_sem, b0, b1, b2, b3, b4, bf0, bf1, bf2, bf3, bf4]
            have KV : Below n w V := by
              rw [hV]
              repeat (first | with_reducible exact K3.out | with_reducible refine Below.setCell ?_ (by first | (simp; done) | (simp; omega)) _ | with_reducible refine Below.drew ?_)
            have hsV : n + 3 < V.heap.size := by have := lt_of_cell HBV.c0; omega
            clear hV a0 a1 a2 a3 a4 b0 b1 b2 b3 b4 af0 af1 af2 af3 af4 bf0 bf1 bf2 bf3 bf4
            obtain ⟨a0, a1, a2, a3, a4, -, -, -, -, -⟩ := HAV
            obtain ⟨b0, b1, b2, b3, b4, -, -, -, -, -⟩ := HBV
            refine bodyPost_ret (v := .tuple #[.agg (encL ⟨⟨u0, u1, u2, u3⟩, u4⟩).toArray, .agg (encL ⟨⟨v0, v1, v2, v3⟩, v4⟩).toArray, .bool true]) (by simp [results, Try.results35, go_sem, a0, a1, a2, a3, a4, b0, b1, b2, b3, b4, encL]) rfl ⟨by rw [HR.out]; rfl, by first | exact KV | (rw [hn]; exact KV)⟩
          | false =>
            go_wp2_with (fail)
            refine exit_name fun V hV => ?_
            have HAV : Box5L V (n + 1 + 1) zeroL := by rw [hV]; refine ⟨?_, ?_, ?_, ?_, ?_, ?_, ?_, ?_, ?_, ?_⟩ <;> simp [go_sem, a0, a1, a2, a3, a4, af0, af1, af2, af3, af4, zeroL]
            have HBV : Box5L V (n + 1 + 1 + 1) zeroL := by rw [hV]; refine ⟨?_, ?_, ?_, ?_, ?_, ?_, ?_, ?_, ?_, ?_⟩ <;> simp [go_sem, b0, b1, b2, b3, b4, bf0, bf1, bf2, bf3, bf4, zeroL]
            have KV : Below n w V := by
              rw [hV]
              repeat (first | with_reducible exact K3.out | with_reducible refine Below.setCell ?_ (by first | (simp; done) | (simp; omega)) _ | with_reducible refine Below.drew ?_)
            have hsV : n + 3 < V.heap.size := by have := lt_of_cell HBV.c0; omega
            clear hV a0 a1 a2 a3 a4 b0 b1 b2 b3 b4 af0 af1 af2 af3 af4 bf0 bf1 bf2 bf3 bf4
            obtain ⟨a0, a1, a2, a3, a4, -, -, -, -, -⟩ := HAV
            obtain ⟨b0, b1, b2, b3, b4, -, -, -, -, -⟩ := HBV
            refine bodyPost_ret (v := .tuple #[.agg (encL zeroL).toArray, .agg (encL zeroL).toArray, .bool false]) (by simp [results, Try.results35, go_sem, a0, a1, a2, a3, a4, b0, b1, b2, b3, b4, encL]) rfl ⟨by rw [HR.out]; rfl, by first | exact KV | (rw [hn]; exact KV)⟩
end Go.Proofs.Ytgdlbaabdebclaa

/- The reference's small functions: In, Valid, Has, Holds, Great. -/
namespace Go.Proofs.Ytgdlbaabdebclaa
open Go.RowKit
set_option linter.unusedVariables false
set_option linter.unusedSimpArgs false

instance (x : Int) : Decidable (fineP x) := by unfold fineP; infer_instance
set_option maxHeartbeats 1000000 in
theorem rIn_any (x : Int) (w : World) : Calls Try.prog 70 #[.int .i64 x] w fun e w' => e = .returned (.bool (decide (fineP x))) ∧ w = w' := by
  go_enter Try.func70, Try.ntmps70
  go_wp2
  all_goals
    go_ret
    refine ⟨ret_eq (bool_eq ?_), rfl⟩
    first
      | exact (decide_eq_false (by simp only [fineP]; omega)).symm
      | exact (decide_eq_true (by simp only [fineP]; omega)).symm
      | exact decide_eq_decide.2 (by simp only [fineP]; omega)

set_option maxHeartbeats 2000000 in
theorem rValid_any (r : R4) (w : World) :
    Calls Try.prog 58 #[.agg (encR r).toArray] w fun e w' => e = .returned (.bool (decide (valid4 r))) ∧ Below w.heap.size w w' := by
  obtain ⟨a, b, c, d⟩ := r
  show Calls Try.prog 58 #[.agg #[.int .i64 a, .int .i64 b, .int .i64 c, .int .i64 d]] w _
  have h1 : decide (valid4 ⟨a, b, c, d⟩) = (decide (a < c) && decide (b < d) && decide (fineP a) && decide (fineP c) && decide (fineP b) && decide (fineP d)) := by
    rw [Bool.eq_iff_iff, decide_eq_true_iff]; simp [valid4, and_assoc]
  rw [h1]
  have ha := fun W => rIn_any a W
  have hb := fun W => rIn_any b W
  have hc := fun W => rIn_any c W
  have hd := fun W => rIn_any d W
  generalize decide (fineP a) = fa at *
  generalize decide (fineP b) = fb at *
  generalize decide (fineP c) = fc at *
  generalize decide (fineP d) = fd at *
  have HA := hide ha
  have HB := hide hb
  have HC := hide hc
  have HD := hide hd
  clear ha hb hc hd h1
  have fin : Below w.heap.size w (w.alloc (.cells #[.int .i64 a, .int .i64 b, .int .i64 c, .int .i64 d] 23)) := (Below.refl _ _).alloc (Nat.le_refl _) _
  have FIN := hide fin
  clear fin
  by_cases t1 : a < c
  · by_cases t2 : b < d
    · cases fa with
      | false =>
        go_enter Try.func58, Try.ntmps58
        go_wp2_with (go_at_call 70; refine (HA.out _).mono ?_; rintro e w1 ⟨rfl, rfl⟩)
        go_ret
        exact ⟨ret_eq (bool_eq (by simp)), FIN.out⟩
      | true =>
        cases fc with
        | false =>
          go_enter Try.func58, Try.ntmps58
          go_wp2_with (fail)
          refine (HA.out _).mono ?_
          rintro e w1 ⟨rfl, rfl⟩
          go_wp2_with (fail)
          refine (HC.out _).mono ?_
          rintro e w1 ⟨rfl, rfl⟩
          go_wp2_with (fail)
          go_ret
          exact ⟨ret_eq (bool_eq (by simp)), FIN.out⟩
        | true =>
          cases fb with
          | false =>
            go_enter Try.func58, Try.ntmps58
            go_wp2_with (fail)
            refine (HA.out _).mono ?_
            rintro e w1 ⟨rfl, rfl⟩
            go_wp2_with (fail)
            refine (HC.out _).mono ?_
            rintro e w1 ⟨rfl, rfl⟩
            go_wp2_with (fail)
            refine (HB.out _).mono ?_
            rintro e w1 ⟨rfl, rfl⟩
            go_wp2_with (fail)
            go_ret
            exact ⟨ret_eq (bool_eq (by simp)), FIN.out⟩
          | true =>
            go_enter Try.func58, Try.ntmps58
            go_wp2_with (fail)
            refine (HA.out _).mono ?_
            rintro e w1 ⟨rfl, rfl⟩
            go_wp2_with (fail)
            refine (HC.out _).mono ?_
            rintro e w1 ⟨rfl, rfl⟩
            go_wp2_with (fail)
            refine (HB.out _).mono ?_
            rintro e w1 ⟨rfl, rfl⟩
            go_wp2_with (fail)
            refine (HD.out _).mono ?_
            rintro e w1 ⟨rfl, rfl⟩
            go_wp2_with (fail)
            go_ret
            exact ⟨ret_eq (bool_eq (by simp [t1, t2])), FIN.out⟩
    · go_enter Try.func58, Try.ntmps58
      have t2' : decide (b < d) = false := decide_eq_false t2
      go_wp2
      go_ret
      exact ⟨ret_eq (bool_eq (by simp [t2])), FIN.out⟩
  · go_enter Try.func58, Try.ntmps58
    have t1' : decide (a < c) = false := decide_eq_false t1
    go_wp2
    go_ret
    exact ⟨ret_eq (bool_eq (by simp [t1])), FIN.out⟩

def hk (k : Int) (a b : Bool) : Bool := if k = 1 then a && b else if k = 2 then a || b else a && !b
def greatP (n : Nat) : Prop := (60 < n ∧ n ≤ 400) ∨ 420 < n
instance (n : Nat) : Decidable (greatP n) := by unfold greatP; infer_instance
end Go.Proofs.Ytgdlbaabdebclaa

/- The reference of lots: sides, checks, lengths, good lots. -/
namespace Go.Proofs.Ytgdlbaabdebclaa
open Go.RowKit
set_option linter.unusedVariables false
set_option linter.unusedSimpArgs false

set_option maxHeartbeats 1000000 in
theorem rHasS_any {f s : Int} (hf : 0 ≤ f ∧ f ≤ 255) (hs : isSide s) (w : World) : Calls Try.prog 27 #[.int .u8 f, .int .u8 s] w fun e w' => e = .returned (.bool (hasS f s)) ∧ w' = w := by
  obtain ⟨h0, h1⟩ := hf
  rcases hs with rfl | rfl | rfl | rfl
  all_goals
    go_enter Try.func27, Try.ntmps27
    go_wp2
    go_ret
    refine ⟨ret_eq (bool_eq ?_), rfl⟩
    unfold hasS
    rw [Bool.eq_iff_iff]
    simp
set_option maxHeartbeats 1000000 in
theorem rless_any {f s : Int} (hf : 0 ≤ f ∧ f ≤ 255) (hs : isSide s) (w : World) : Calls Try.prog 71 #[.int .u8 f, .int .u8 s] w fun e w' => e = .returned (.int .u8 (lessS f s)) ∧ w' = w := by
  have HH := hide (fun W => rHasS_any hf hs W)
  have hb : hasS f s = true → (f - s) % 256 = f - s := fun h => by
    have : s ≤ f := by
      unfold hasS at h
      have h := of_decide_eq_true h
      rcases hs with rfl | rfl | rfl | rfl <;> omega
    have : 1 ≤ s ∧ s ≤ 8 := by rcases hs with rfl | rfl | rfl | rfl <;> omega
    omega
  have hl : lessS f s = if hasS f s = true then f - s else f := rfl
  have HL := hide hl
  clear hl hf hs
  cases h : hasS f s with
  | true =>
    rw [h] at HH HL
    have hb1 := hb h
    have HB := hide hb1
    clear hb h hb1
    go_enter Try.func71, Try.ntmps71
    go_wp2_with (fail)
    refine (HH.out _).mono ?_
    rintro e w1 ⟨rfl, rfl⟩
    go_wp2_with (fail)
    go_ret
    exact ⟨by rw [HL.out]; show Ending.returned (.int .u8 ((f - s) % 256)) = _; simp [HB.out], rfl⟩
  | false =>
    rw [h] at HH HL
    clear hb h
    go_enter Try.func71, Try.ntmps71
    go_wp2_with (fail)
    refine (HH.out _).mono ?_
    rintro e w1 ⟨rfl, rfl⟩
    go_wp2_with (fail)
    go_ret
    exact ⟨by rw [HL.out]; rfl, rfl⟩
theorem ok_valid (r : R4) : okR r ↔ valid4 r := by simp only [okR, inR, valid4, fineP]
set_option maxHeartbeats 1000000 in
theorem rLot_any (l : Lot5) (hf : 0 ≤ l.f ∧ l.f ≤ 255) (w : World) : Calls Try.prog 45 #[.agg (encL l).toArray] w fun e w' => e = .returned (.bool (decide (validL l))) ∧ Below w.heap.size w w' := by
  have hv := fun W => rValid_any l.r W
  have e0 : decide (valid4 l.r) = decide (okR l.r) := decide_eq_decide.2 (ok_valid l.r).symm
  rw [e0] at hv
  have HD : Hid (decide (validL l) = (decide (okR l.r) && (decide (1 ≤ l.f) && decide (l.f ≤ 15)))) := hide (by
    rw [Bool.eq_iff_iff, decide_eq_true_iff]; simp only [Bool.and_eq_true, decide_eq_true_iff]; exact Iff.rfl)
  generalize decide (validL l) = V at *
  generalize decide (okR l.r) = D at *
  obtain ⟨⟨x0, y0, x1, y1⟩, f⟩ := l
  obtain ⟨f1, f2⟩ := hf
  simp only at f1 f2 HD
  have HV := hide hv
  clear hv e0
  show Calls Try.prog _ #[.agg #[.int .i64 x0, .int .i64 y0, .int .i64 x1, .int .i64 y1, .int .u8 f]] w _
  simp only [encR] at HV
  go_enter Try.func45, Try.ntmps45
  go_wp2_with (fail)
  obtain ⟨W, hW⟩ : ∃ x, x = w.alloc (.cells #[.int .i64 x0, .int .i64 y0, .int .i64 x1, .int .i64 y1, .int .u8 f] 25) := ⟨_, rfl⟩
  rw [← hW]
  have hb0 : Below w.heap.size w W := by rw [hW]; exact (Below.refl _ _).alloc (Nat.le_refl _) _
  have hs0 : w.heap.size < W.heap.size := by rw [hW]; simp
  have b4 : W.cell? ⟨w.heap.size, 4, none⟩ = some (.int .u8 f) := by rw [hW]; simp [go_sem]
  have K0 := hide hb0
  have HS0 := hide hs0
  have B4 := hide b4
  clear hW hb0 b4 hs0
  refine (HV.out _).mono ?_
  rintro e w1 ⟨rfl, hb⟩
  have d4 := (hb.cell (p := ⟨w.heap.size, 4, none⟩) HS0.out).trans B4.out
  have K1 := hide (K0.out.trans (hb.mono K0.out.size))
  clear hb
  cases D with
  | false =>
    go_wp2_with (fail)
    go_ret
    exact ⟨by rw [HD.out]; rfl, K1.out⟩
  | true =>
    go_wp2_with (fail)
    all_goals
      go_ret
      refine ⟨ret_eq (bool_eq ?_), K1.out⟩
      rw [HD.out, Bool.eq_iff_iff]
      simp
      try omega
set_option maxRecDepth 100000 in
set_option maxHeartbeats 4000000 in
theorem rCheckL_any (l : Lot5) (p : Pl3) (hf : 0 ≤ l.f ∧ l.f ≤ 255) (w : World) : Calls Try.prog 26 #[.agg (encL l).toArray, .agg (encP p).toArray] w fun e w' => e = .returned (.int .i64 (checkL l p)) ∧ Below w.heap.size w w' := by
  have hpv := fun W => rLot_any l hf W
  by_cases hv : validL l
  · rw [decide_eq_true hv] at hpv
    have HPV := hide hpv
    have HC : Hid (∀ b : Int, ((okP p → b = 0) ∧ (¬ okP p → b = 2)) → checkL l p = b) := hide (fun b hb => by
      unfold checkL
      rw [if_pos hv]
      by_cases h : okP p
      · rw [if_pos h, hb.1 h]
      · rw [if_neg h, hb.2 h])
    generalize checkL l p = C at *
    clear hpv hv hf
    obtain ⟨⟨x0, y0, x1, y1⟩, f⟩ := l
    obtain ⟨mf, ms, ma⟩ := p
    show Calls Try.prog _ #[.agg #[.int .i64 x0, .int .i64 y0, .int .i64 x1, .int .i64 y1, .int .u8 f], .agg #[.int .i64 mf, .int .i64 ms, .int .i64 ma]] w _
    simp only [encL] at HPV
    simp only [okP] at HC
    go_enter Try.func26, Try.ntmps26
    go_wp2_with (fail)
    obtain ⟨W, hW⟩ : ∃ x, x = (w.alloc (.cells #[.int .i64 x0, .int .i64 y0, .int .i64 x1, .int .i64 y1, .int .u8 f] 25)).alloc (.cells #[.int .i64 mf, .int .i64 ms, .int .i64 ma] 27) := ⟨_, rfl⟩
    rw [← hW]
    have hb0 : Below w.heap.size w W := by rw [hW]; exact ((Below.refl _ _).alloc (Nat.le_refl _) _).alloc (by simp) _
    have hs0 : w.heap.size + 1 < W.heap.size := by rw [hW]; simp
    have b0 : W.cell? ⟨w.heap.size + 1, 0, none⟩ = some (.int .i64 mf) := by rw [hW]; simp [go_sem]
    have b1 : W.cell? ⟨w.heap.size + 1, 1, none⟩ = some (.int .i64 ms) := by rw [hW]; simp [go_sem]
    have b2 : W.cell? ⟨w.heap.size + 1, 2, none⟩ = some (.int .i64 ma) := by rw [hW]; simp [go_sem]
    have HS := hide hs0
    have B0 := hide b0
    have B1 := hide b1
    have B2 := hide b2
    have K0 := hide hb0
    clear hW hb0 hs0 b0 b1 b2
    refine (HPV.out _).mono ?_
    rintro e w1 ⟨rfl, hb⟩
    have d0 := (hb.cell (p := ⟨w.heap.size + 1, 0, none⟩) HS.out).trans B0.out
    have d1 := (hb.cell (p := ⟨w.heap.size + 1, 1, none⟩) HS.out).trans B1.out
    have d2 := (hb.cell (p := ⟨w.heap.size + 1, 2, none⟩) HS.out).trans B2.out
    have K1 := hide (K0.out.trans (hb.mono K0.out.size))
    clear hb
    go_wp2_with (fail)
    all_goals
      go_ret
      refine ⟨ret_eq (int_eq (HC.out _ ?_).symm), K1.out⟩
      first
        | exact ⟨fun _ => rfl, fun h => absurd (by omega) h⟩
        | exact ⟨fun h => absurd h (by omega), fun _ => rfl⟩
  · rw [decide_eq_false hv] at hpv
    have HPV := hide hpv
    have hc8 : checkL l p = 8 := if_neg hv
    have HC := hide hc8
    clear hc8
    generalize checkL l p = C at *
    clear hpv hv hf
    obtain ⟨⟨x0, y0, x1, y1⟩, f⟩ := l
    obtain ⟨mf, ms, ma⟩ := p
    show Calls Try.prog _ #[.agg #[.int .i64 x0, .int .i64 y0, .int .i64 x1, .int .i64 y1, .int .u8 f], .agg #[.int .i64 mf, .int .i64 ms, .int .i64 ma]] w _
    simp only [encL] at HPV
    go_enter Try.func26, Try.ntmps26
    go_wp2_with (fail)
    refine (HPV.out _).mono ?_
    rintro e w1 ⟨rfl, hb⟩
    have K1 := hide ((((Below.refl w.heap.size w).alloc (Nat.le_refl _) (.cells #[.int .i64 x0, .int .i64 y0, .int .i64 x1, .int .i64 y1, .int .u8 f] 25)).alloc (by simp) (.cells #[.int .i64 mf, .int .i64 ms, .int .i64 ma] 27)).trans (hb.mono (by simp; omega)))
    clear hb
    go_wp2_with (fail)
    go_ret
    exact ⟨ret_eq (int_eq HC.out.symm), K1.out⟩
set_option maxHeartbeats 1000000 in
theorem rWidth_any (r : R4) (h : okR r) (w : World) : Calls Try.prog 29 #[.agg (encR r).toArray] w fun e w' => e = .returned (.int .i64 (r.x1 - r.x0)) ∧ Below w.heap.size w w' := by
  obtain ⟨x0, y0, x1, y1⟩ := r
  simp only [okR, inR] at h
  obtain ⟨h1, h2, ⟨h3, h4⟩, ⟨h5, h6⟩, ⟨h7, h8⟩, ⟨h9, h10⟩⟩ := h
  show Calls Try.prog _ #[.agg #[.int .i64 x0, .int .i64 y0, .int .i64 x1, .int .i64 y1]] w fun e w' => e = .returned (.int .i64 (x1 - x0)) ∧ Below w.heap.size w w'
  go_enter Try.func29, Try.ntmps29
  go_wp2
  go_ret
  exact ⟨rfl, (Below.refl _ _).alloc (Nat.le_refl _) _⟩
set_option maxHeartbeats 1000000 in
theorem rHeight_any (r : R4) (h : okR r) (w : World) : Calls Try.prog 30 #[.agg (encR r).toArray] w fun e w' => e = .returned (.int .i64 (r.y1 - r.y0)) ∧ Below w.heap.size w w' := by
  obtain ⟨x0, y0, x1, y1⟩ := r
  simp only [okR, inR] at h
  obtain ⟨h1, h2, ⟨h3, h4⟩, ⟨h5, h6⟩, ⟨h7, h8⟩, ⟨h9, h10⟩⟩ := h
  show Calls Try.prog _ #[.agg #[.int .i64 x0, .int .i64 y0, .int .i64 x1, .int .i64 y1]] w fun e w' => e = .returned (.int .i64 (y1 - y0)) ∧ Below w.heap.size w w'
  go_enter Try.func30, Try.ntmps30
  go_wp2
  go_ret
  exact ⟨rfl, (Below.refl _ _).alloc (Nat.le_refl _) _⟩
theorem ok_pos {r : R4} (h : okR r) : 0 < r.x1 - r.x0 ∧ 0 < r.y1 - r.y0 ∧ r.x1 - r.x0 ≤ 2000000 ∧ r.y1 - r.y0 ≤ 2000000 := by
  obtain ⟨h1, h2, h3, h4, h5, h6⟩ := h
  unfold inR at h3 h4 h5 h6
  omega
set_option maxHeartbeats 2000000 in
theorem rArea_box (r : R4) (h : okR r) (w : World) : Calls Try.prog 16 #[.agg (encR r).toArray] w fun e w' => e = .returned (.int .i64 ((r.x1 - r.x0) * (r.y1 - r.y0))) ∧ Below w.heap.size w w' := by
  have HW := hide (fun W => rWidth_any r h W)
  have HH := hide (fun W => rHeight_any r h W)
  obtain ⟨h1, h2, h3, h4⟩ := ok_pos h
  have hm : IntKind.i64.wrap ((r.x1 - r.x0) * (r.y1 - r.y0)) = (r.x1 - r.x0) * (r.y1 - r.y0) := by
    have a1 : 0 ≤ (r.x1 - r.x0) * (r.y1 - r.y0) := Int.mul_nonneg (by omega) (by omega)
    have a2 : (r.x1 - r.x0) * (r.y1 - r.y0) ≤ 2000000 * 2000000 := Int.mul_le_mul h3 h4 (by omega) (by omega)
    exact IntWalk.i64_in _ (by omega)
  clear h h1 h2 h3 h4
  generalize r.x1 - r.x0 = ww at *
  generalize r.y1 - r.y0 = hh at *
  obtain ⟨x0, y0, x1, y1⟩ := r
  show Calls Try.prog _ #[.agg #[.int .i64 x0, .int .i64 y0, .int .i64 x1, .int .i64 y1]] w _
  simp only [encR] at HW HH
  go_enter Try.func16, Try.ntmps16
  go_wp2
  refine wp_hab fun hab => ?_
  refine wp_region_above (by kernel_rfl) (by kernel_rfl) ?_
  repeat (go_big_quiet_step (((first | (go_at_call 29; exact above_of (HW.out _)) | (go_at_call 30; exact above_of (HH.out _))))))
  refine wpQuiet_nil ?_
  refine above_ends fun w3 hb3 => ?_
  clear hab
  have HB := hide (((Below.refl w.heap.size w).alloc (Nat.le_refl _) (.cells #[.int .i64 x0, .int .i64 y0, .int .i64 x1, .int .i64 y1] 23)).trans (hb3.mono (by simp)))
  have HM := hide hm
  clear hb3 hm
  go_wp2_with (fail)
  go_ret
  exact ⟨by first | rfl | rw [HM.out], HB.out⟩
end Go.Proofs.Ytgdlbaabdebclaa

/- The reference of lots: the longest side in a front, good lots. -/
namespace Go.Proofs.Ytgdlbaabdebclaa
open Go.RowKit
set_option linter.unusedVariables false
set_option linter.unusedSimpArgs false

structure Box3 (w : World) (b : Nat) (v0 v1 v2 : Value) : Prop where
  c0 : w.cell? ⟨b, 0, none⟩ = some v0
  c1 : w.cell? ⟨b, 1, none⟩ = some v1
  c2 : w.cell? ⟨b, 2, none⟩ = some v2
theorem Box3.below {w w' : World} {b : Nat} {v0 v1 v2 : Value} (h : Box3 w b v0 v1 v2) (hb : Below w.heap.size w w') : Box3 w' b v0 v1 v2 := by
  have hs := lt_of_cell h.c0
  exact ⟨(hb.cell (p := ⟨b, 0, none⟩) hs).trans h.c0, (hb.cell (p := ⟨b, 1, none⟩) hs).trans h.c1, (hb.cell (p := ⟨b, 2, none⟩) hs).trans h.c2⟩
theorem Box5L.below {w w' : World} {b : Nat} {l : Lot5} (h : Box5L w b l) (hb : Below w.heap.size w w') : Box5L w' b l := Box5.below h hb
set_option maxRecDepth 100000 in
set_option maxHeartbeats 8000000 in
theorem rlongest_any (l : Lot5) (h : validL l) (w : World) : Calls Try.prog 46 #[.agg (encL l).toArray] w fun e w' => e = .returned (.int .i64 (longL l)) ∧ Below w.heap.size w w' := by
  have hf : 0 ≤ l.f ∧ l.f ≤ 255 := by have := h.2; omega
  have H1 := hide (fun W => rHasS_any hf (s := 1) (.inl rfl) W)
  have H2 := hide (fun W => rHasS_any hf (s := 2) (.inr (.inl rfl)) W)
  have H4 := hide (fun W => rHasS_any hf (s := 4) (.inr (.inr (.inl rfl))) W)
  have H8 := hide (fun W => rHasS_any hf (s := 8) (.inr (.inr (.inr rfl))) W)
  have HHE : Hid (∀ W, Calls Try.prog 30 #[.agg (encR l.r).toArray] W fun e w' => e = .returned (.int .i64 l.h) ∧ Below W.heap.size W w') := hide (fun W => rHeight_any l.r h.1 W)
  have HWI : Hid (∀ W, Calls Try.prog 29 #[.agg (encR l.r).toArray] W fun e w' => e = .returned (.int .i64 l.w) ∧ Below W.heap.size W w') := hide (fun W => rWidth_any l.r h.1 W)
  have HLL : Hid (longL l = max (if hasS l.f 1 = true ∨ hasS l.f 2 = true then l.h else 0) (if hasS l.f 4 = true ∨ hasS l.f 8 = true then l.w else 0)) := hide rfl
  have hp := valid_pos h
  obtain ⟨hw0, hh0, hw1, hh1⟩ := hp
  clear h hf
  generalize longL l = L at *
  generalize l.h = hh at *
  generalize l.w = ww at *
  generalize hasS l.f 1 = b1 at *
  generalize hasS l.f 2 = b2 at *
  generalize hasS l.f 4 = b4 at *
  generalize hasS l.f 8 = b8 at *
  obtain ⟨⟨x0, y0, x1, y1⟩, f⟩ := l
  show Calls Try.prog _ #[.agg #[.int .i64 x0, .int .i64 y0, .int .i64 x1, .int .i64 y1, .int .u8 f]] w _
  simp only [encR] at HHE HWI
  go_enter Try.func46, Try.ntmps46
  go_wp2_with (fail)
  obtain ⟨W, hW⟩ : ∃ x, x = w.alloc (.cells #[.int .i64 x0, .int .i64 y0, .int .i64 x1, .int .i64 y1, .int .u8 f] 25) := ⟨_, rfl⟩
  rw [← hW]
  have hb0 : Below w.heap.size w W := by rw [hW]; exact (Below.refl _ _).alloc (Nat.le_refl _) _
  have HL : Box5L W w.heap.size ⟨⟨x0, y0, x1, y1⟩, f⟩ := by rw [hW]; refine ⟨?_, ?_, ?_, ?_, ?_, ?_, ?_, ?_, ?_, ?_⟩ <;> simp [go_sem]
  have K0 := hide hb0
  clear hW hb0
  obtain ⟨l0, l1, l2, l3, l4, -, -, -, -, -⟩ := id HL
  refine (H1.out _).mono ?_
  rintro e wx ⟨rfl, rfl⟩
  cases b1 with
  | true =>
    go_wp2_with (fail)
    refine (HHE.out _).mono ?_
    rintro e w1 ⟨rfl, hb⟩
    have HL1 := HL.below hb
    have K1 := hide (K0.out.trans (hb.mono K0.out.size))
    clear hb
    clear l0 l1 l2 l3 l4
    obtain ⟨l0, l1, l2, l3, l4, -, -, -, -, -⟩ := id HL1
    go_wp2_with (fail)
    refine (H4.out _).mono ?_
    rintro e wx ⟨rfl, rfl⟩
    cases b4 with
    | true =>
      go_wp2_with (fail)
      refine (HWI.out _).mono ?_
      rintro e w2 ⟨rfl, hb⟩
      have HL2 := HL1.below hb
      have K2 := hide (K1.out.trans (hb.mono K1.out.size))
      clear hb
      go_wp2_with (fail)
      go_ret
      refine ⟨ret_eq (int_eq ?_), K2.out⟩
      rw [HLL.out]
      simp
      try omega
    | false =>
      go_wp2_with (fail)
      refine (H8.out _).mono ?_
      rintro e wx ⟨rfl, rfl⟩
      cases b8 with
      | true =>
        go_wp2_with (fail)
        refine (HWI.out _).mono ?_
        rintro e w2 ⟨rfl, hb⟩
        have HL2 := HL1.below hb
        have K2 := hide (K1.out.trans (hb.mono K1.out.size))
        clear hb
        go_wp2_with (fail)
        go_ret
        refine ⟨ret_eq (int_eq ?_), K2.out⟩
        rw [HLL.out]
        simp
        try omega
      | false =>
        go_wp2_with (fail)
        go_ret
        refine ⟨ret_eq (int_eq ?_), K1.out⟩
        rw [HLL.out]
        simp
        try omega
  | false =>
    go_wp2_with (fail)
    refine (H2.out _).mono ?_
    rintro e wx ⟨rfl, rfl⟩
    cases b2 with
    | true =>
      go_wp2_with (fail)
      refine (HHE.out _).mono ?_
      rintro e w1 ⟨rfl, hb⟩
      have HL1 := HL.below hb
      have K1 := hide (K0.out.trans (hb.mono K0.out.size))
      clear hb
      clear l0 l1 l2 l3 l4
      obtain ⟨l0, l1, l2, l3, l4, -, -, -, -, -⟩ := id HL1
      go_wp2_with (fail)
      refine (H4.out _).mono ?_
      rintro e wx ⟨rfl, rfl⟩
      cases b4 with
      | true =>
        go_wp2_with (fail)
        refine (HWI.out _).mono ?_
        rintro e w2 ⟨rfl, hb⟩
        have HL2 := HL1.below hb
        have K2 := hide (K1.out.trans (hb.mono K1.out.size))
        clear hb
        go_wp2_with (fail)
        go_ret
        refine ⟨ret_eq (int_eq ?_), K2.out⟩
        rw [HLL.out]
        simp
        try omega
      | false =>
        go_wp2_with (fail)
        refine (H8.out _).mono ?_
        rintro e wx ⟨rfl, rfl⟩
        cases b8 with
        | true =>
          go_wp2_with (fail)
          refine (HWI.out _).mono ?_
          rintro e w2 ⟨rfl, hb⟩
          have HL2 := HL1.below hb
          have K2 := hide (K1.out.trans (hb.mono K1.out.size))
          clear hb
          go_wp2_with (fail)
          go_ret
          refine ⟨ret_eq (int_eq ?_), K2.out⟩
          rw [HLL.out]
          simp
          try omega
        | false =>
          go_wp2_with (fail)
          go_ret
          refine ⟨ret_eq (int_eq ?_), K1.out⟩
          rw [HLL.out]
          simp
          try omega
    | false =>
      have HL0 := HL
      go_wp2_with (fail)
      refine (H4.out _).mono ?_
      rintro e wx ⟨rfl, rfl⟩
      cases b4 with
      | true =>
        go_wp2_with (fail)
        refine (HWI.out _).mono ?_
        rintro e w1 ⟨rfl, hb⟩
        have HL1 := HL.below hb
        have K1 := hide (K0.out.trans (hb.mono K0.out.size))
        clear hb
        go_wp2_with (fail)
        go_ret
        refine ⟨ret_eq (int_eq ?_), K1.out⟩
        rw [HLL.out]
        simp
        try omega
      | false =>
        go_wp2_with (fail)
        refine (H8.out _).mono ?_
        rintro e wx ⟨rfl, rfl⟩
        cases b8 with
        | true =>
          go_wp2_with (fail)
          refine (HWI.out _).mono ?_
          rintro e w1 ⟨rfl, hb⟩
          have HL1 := HL.below hb
          have K1 := hide (K0.out.trans (hb.mono K0.out.size))
          clear hb
          go_wp2_with (fail)
          go_ret
          refine ⟨ret_eq (int_eq ?_), K1.out⟩
          rw [HLL.out]
          simp
          try omega
        | false =>
          go_wp2_with (fail)
          go_ret
          refine ⟨ret_eq (int_eq ?_), K0.out⟩
          rw [HLL.out]
          simp
          try omega
set_option maxRecDepth 100000 in
set_option maxHeartbeats 4000000 in
theorem rFront24_any (l : Lot5) (hf : 0 ≤ l.f ∧ l.f ≤ 255) (w : World) : Calls Try.prog 22 #[.agg (encL l).toArray] w fun e w' => e = .returned (.tuple #[.int .i64 (frontR l).1, .int .i64 (frontR l).2]) ∧ Below w.heap.size w w' := by
  have hpv := fun W => rLot_any l hf W
  by_cases hv : validL l
  · rw [decide_eq_true hv] at hpv
    have HPV := hide hpv
    have HLO := hide (fun W => rlongest_any l hv W)
    have hR : frontR l = (longL l, 0) := if_pos hv
    have HR := hide hR
    clear hR hpv hv hf
    generalize frontR l = R at *
    generalize longL l = L at *
    obtain ⟨⟨x0, y0, x1, y1⟩, f⟩ := l
    show Calls Try.prog _ #[.agg #[.int .i64 x0, .int .i64 y0, .int .i64 x1, .int .i64 y1, .int .u8 f]] w _
    simp only [encL] at HPV HLO
    go_enter Try.func22, Try.ntmps22
    go_wp2_with (fail)
    obtain ⟨W, hW⟩ : ∃ x, x = w.alloc (.cells #[.int .i64 x0, .int .i64 y0, .int .i64 x1, .int .i64 y1, .int .u8 f] 25) := ⟨_, rfl⟩
    rw [← hW]
    have hb0 : Below w.heap.size w W := by rw [hW]; exact (Below.refl _ _).alloc (Nat.le_refl _) _
    have HL : Box5L W w.heap.size ⟨⟨x0, y0, x1, y1⟩, f⟩ := by rw [hW]; refine ⟨?_, ?_, ?_, ?_, ?_, ?_, ?_, ?_, ?_, ?_⟩ <;> simp [go_sem]
    have K0 := hide hb0
    clear hW hb0
    refine (HPV.out _).mono ?_
    rintro e w1 ⟨rfl, hb⟩
    have HL1 := HL.below hb
    have K1 := hide (K0.out.trans (hb.mono K0.out.size))
    clear hb
    obtain ⟨l0, l1, l2, l3, l4, -, -, -, -, -⟩ := id HL1
    go_wp2_with (fail)
    refine (HLO.out _).mono ?_
    rintro e w2 ⟨rfl, hb⟩
    have HL2 := HL1.below hb
    have K2 := hide (K1.out.trans (hb.mono K1.out.size))
    clear hb
    clear l0 l1 l2 l3 l4
    go_wp2_with (fail)
    go_ret2
    exact ⟨by rw [HR.out]; rfl, K2.out⟩
  · rw [decide_eq_false hv] at hpv
    have HPV := hide hpv
    have hR : frontR l = (0, 8) := if_neg hv
    have HR := hide hR
    clear hR hpv hv hf
    generalize frontR l = R at *
    obtain ⟨⟨x0, y0, x1, y1⟩, f⟩ := l
    show Calls Try.prog _ #[.agg #[.int .i64 x0, .int .i64 y0, .int .i64 x1, .int .i64 y1, .int .u8 f]] w _
    simp only [encL] at HPV
    go_enter Try.func22, Try.ntmps22
    go_wp2_with (fail)
    obtain ⟨W, hW⟩ : ∃ x, x = w.alloc (.cells #[.int .i64 x0, .int .i64 y0, .int .i64 x1, .int .i64 y1, .int .u8 f] 25) := ⟨_, rfl⟩
    rw [← hW]
    have hb0 : Below w.heap.size w W := by rw [hW]; exact (Below.refl _ _).alloc (Nat.le_refl _) _
    have HL : Box5L W w.heap.size ⟨⟨x0, y0, x1, y1⟩, f⟩ := by rw [hW]; refine ⟨?_, ?_, ?_, ?_, ?_, ?_, ?_, ?_, ?_, ?_⟩ <;> simp [go_sem]
    have K0 := hide hb0
    clear hW hb0
    refine (HPV.out _).mono ?_
    rintro e w1 ⟨rfl, hb⟩
    have HL1 := HL.below hb
    have K1 := hide (K0.out.trans (hb.mono K0.out.size))
    clear hb
    go_wp2_with (fail)
    go_ret2
    exact ⟨by rw [HR.out]; rfl, K1.out⟩
set_option maxRecDepth 100000 in
set_option maxHeartbeats 8000000 in
theorem rFine_any (l : Lot5) (p : Pl3) (hf : 0 ≤ l.f ∧ l.f ≤ 255) (w : World) : Calls Try.prog 42 #[.agg (encL l).toArray, .agg (encP p).toArray] w fun e w' => e = .returned (.bool (decide (goodL p l))) ∧ Below w.heap.size w w' := by
  have hpv := fun W => rLot_any l hf W
  by_cases hv : validL l
  · rw [decide_eq_true hv] at hpv
    have HPV := hide hpv
    have HLO := hide (fun W => rlongest_any l hv W)
    have HHE : Hid (∀ W, Calls Try.prog 30 #[.agg (encR l.r).toArray] W fun e w' => e = .returned (.int .i64 l.h) ∧ Below W.heap.size W w') := hide (fun W => rHeight_any l.r hv.1 W)
    have HWI : Hid (∀ W, Calls Try.prog 29 #[.agg (encR l.r).toArray] W fun e w' => e = .returned (.int .i64 l.w) ∧ Below W.heap.size W w') := hide (fun W => rWidth_any l.r hv.1 W)
    have HG : Hid (∀ b : Bool, ((p.mf ≤ longL l ∧ p.ms ≤ l.w ∧ p.ms ≤ l.h) ↔ b = true) → decide (goodL p l) = b) := hide (fun b hb => by
      have e : goodL p l ↔ b = true := by
        rw [← hb]
        exact ⟨fun h => h.2, fun h => ⟨hv, h⟩⟩
      cases b with
      | true => exact decide_eq_true (e.2 rfl)
      | false => exact decide_eq_false (fun h => Bool.false_ne_true (e.1 h)))
    generalize longL l = L at *
    generalize l.h = hh at *
    generalize l.w = ww at *
    generalize decide (goodL p l) = G at *
    clear hpv hv hf
    obtain ⟨⟨x0, y0, x1, y1⟩, f⟩ := l
    obtain ⟨mf, ms, ma⟩ := p
    show Calls Try.prog _ #[.agg #[.int .i64 x0, .int .i64 y0, .int .i64 x1, .int .i64 y1, .int .u8 f], .agg #[.int .i64 mf, .int .i64 ms, .int .i64 ma]] w _
    simp only [encL, encR] at HPV HLO HHE HWI
    simp only at HG
    by_cases h1 : mf ≤ L
    · have d1 : decide (mf ≤ L) = true := decide_eq_true h1
      by_cases h2 : ms ≤ ww
      · have d2 : decide (ms ≤ ww) = true := decide_eq_true h2
        by_cases h3 : ms ≤ hh
        · have d3 : decide (ms ≤ hh) = true := decide_eq_true h3
          have HGG := hide (HG.out true ⟨fun _ => rfl, fun _ => ⟨h1, h2, h3⟩⟩)
          clear HG h1 h2 h3
          go_enter Try.func42, Try.ntmps42
          go_wp2
          refine wp_hab fun hab => ?_
          refine wp_region_above (by kernel_rfl) (by kernel_rfl) ?_
          repeat (go_big_quiet_step (((first | (go_at_call 45; exact above_of (HPV.out _)) | (go_at_call 46; exact above_of (HLO.out _)) | (go_at_call 29; exact above_of (HWI.out _)) | (go_at_call 30; exact above_of (HHE.out _))))))
          refine wpQuiet_nil ?_
          refine above_ends fun w3 hb3 => ?_
          clear hab
          have HB := hide ((((Below.refl w.heap.size w).alloc (Nat.le_refl _) (.cells #[.int .i64 x0, .int .i64 y0, .int .i64 x1, .int .i64 y1, .int .u8 f] 25)).alloc (by simp) (.cells #[.int .i64 mf, .int .i64 ms, .int .i64 ma] 27)).trans (hb3.mono (by simp; omega)))
          clear hb3
          go_wp2_with (fail)
          go_ret
          exact ⟨ret_eq (bool_eq HGG.out.symm), HB.out⟩
        · have d3 : decide (ms ≤ hh) = false := decide_eq_false h3
          have HGG := hide (HG.out false ⟨fun h => absurd h.2.2 h3, fun h => by cases h⟩)
          clear HG h1 h2 h3
          go_enter Try.func42, Try.ntmps42
          go_wp2
          refine wp_hab fun hab => ?_
          refine wp_region_above (by kernel_rfl) (by kernel_rfl) ?_
          repeat (go_big_quiet_step (((first | (go_at_call 45; exact above_of (HPV.out _)) | (go_at_call 46; exact above_of (HLO.out _)) | (go_at_call 29; exact above_of (HWI.out _)) | (go_at_call 30; exact above_of (HHE.out _))))))
          refine wpQuiet_nil ?_
          refine above_ends fun w3 hb3 => ?_
          clear hab
          have HB := hide ((((Below.refl w.heap.size w).alloc (Nat.le_refl _) (.cells #[.int .i64 x0, .int .i64 y0, .int .i64 x1, .int .i64 y1, .int .u8 f] 25)).alloc (by simp) (.cells #[.int .i64 mf, .int .i64 ms, .int .i64 ma] 27)).trans (hb3.mono (by simp; omega)))
          clear hb3
          go_wp2_with (fail)
          go_ret
          exact ⟨ret_eq (bool_eq HGG.out.symm), HB.out⟩
      · have d2 : decide (ms ≤ ww) = false := decide_eq_false h2
        have HGG := hide (HG.out false ⟨fun h => absurd h.2.1 h2, fun h => by cases h⟩)
        clear HG h1 h2
        go_enter Try.func42, Try.ntmps42
        go_wp2
        refine wp_hab fun hab => ?_
        refine wp_region_above (by kernel_rfl) (by kernel_rfl) ?_
        repeat (go_big_quiet_step (((first | (go_at_call 45; exact above_of (HPV.out _)) | (go_at_call 46; exact above_of (HLO.out _)) | (go_at_call 29; exact above_of (HWI.out _)) | (go_at_call 30; exact above_of (HHE.out _))))))
        refine wpQuiet_nil ?_
        refine above_ends fun w3 hb3 => ?_
        clear hab
        have HB := hide ((((Below.refl w.heap.size w).alloc (Nat.le_refl _) (.cells #[.int .i64 x0, .int .i64 y0, .int .i64 x1, .int .i64 y1, .int .u8 f] 25)).alloc (by simp) (.cells #[.int .i64 mf, .int .i64 ms, .int .i64 ma] 27)).trans (hb3.mono (by simp; omega)))
        clear hb3
        go_wp2_with (fail)
        go_ret
        exact ⟨ret_eq (bool_eq HGG.out.symm), HB.out⟩
    · have d1 : decide (mf ≤ L) = false := decide_eq_false h1
      have HGG := hide (HG.out false ⟨fun h => absurd h.1 h1, fun h => by cases h⟩)
      clear HG h1
      go_enter Try.func42, Try.ntmps42
      go_wp2
      refine wp_hab fun hab => ?_
      refine wp_region_above (by kernel_rfl) (by kernel_rfl) ?_
      repeat (go_big_quiet_step (((first | (go_at_call 45; exact above_of (HPV.out _)) | (go_at_call 46; exact above_of (HLO.out _)) | (go_at_call 29; exact above_of (HWI.out _)) | (go_at_call 30; exact above_of (HHE.out _))))))
      refine wpQuiet_nil ?_
      refine above_ends fun w3 hb3 => ?_
      clear hab
      have HB := hide ((((Below.refl w.heap.size w).alloc (Nat.le_refl _) (.cells #[.int .i64 x0, .int .i64 y0, .int .i64 x1, .int .i64 y1, .int .u8 f] 25)).alloc (by simp) (.cells #[.int .i64 mf, .int .i64 ms, .int .i64 ma] 27)).trans (hb3.mono (by simp; omega)))
      clear hb3
      go_wp2_with (fail)
      go_ret
      exact ⟨ret_eq (bool_eq HGG.out.symm), HB.out⟩
  · rw [decide_eq_false hv] at hpv
    have HPV := hide hpv
    have HGG := hide (decide_eq_false (fun h => hv h.1) : decide (goodL p l) = false)
    generalize decide (goodL p l) = G at *
    clear hpv hv hf
    obtain ⟨⟨x0, y0, x1, y1⟩, f⟩ := l
    obtain ⟨mf, ms, ma⟩ := p
    show Calls Try.prog _ #[.agg #[.int .i64 x0, .int .i64 y0, .int .i64 x1, .int .i64 y1, .int .u8 f], .agg #[.int .i64 mf, .int .i64 ms, .int .i64 ma]] w _
    simp only [encL] at HPV
    go_enter Try.func42, Try.ntmps42
    go_wp2
    refine wp_hab fun hab => ?_
    refine wp_region_above (by kernel_rfl) (by kernel_rfl) ?_
    repeat (go_big_quiet_step (((go_at_call 45; exact above_of (HPV.out _)))))
    refine wpQuiet_nil ?_
    refine above_ends fun w3 hb3 => ?_
    clear hab
    have HB := hide ((((Below.refl w.heap.size w).alloc (Nat.le_refl _) (.cells #[.int .i64 x0, .int .i64 y0, .int .i64 x1, .int .i64 y1, .int .u8 f] 25)).alloc (by simp) (.cells #[.int .i64 mf, .int .i64 ms, .int .i64 ma] 27)).trans (hb3.mono (by simp; omega)))
    clear hb3
    go_wp2_with (fail)
    go_ret
    exact ⟨ret_eq (bool_eq HGG.out.symm), HB.out⟩
set_option maxRecDepth 100000 in
set_option maxHeartbeats 4000000 in
theorem rGood24_any (l : Lot5) (p : Pl3) (hf : 0 ≤ l.f ∧ l.f ≤ 255) (w : World) : Calls Try.prog 20 #[.agg (encL l).toArray, .agg (encP p).toArray] w fun e w' => e = .returned (.tuple #[.bool (goodR l p).1, .int .i64 (goodR l p).2]) ∧ Below w.heap.size w w' := by
  have HCK := hide (fun W => rCheckL_any l p hf W)
  have HGD := hide (fun W => rFine_any l p hf W)
  by_cases h0 : checkL l p = 0
  · have hR : goodR l p = (decide (goodL p l), 0) := if_pos h0
    rw [h0] at HCK
    have HR := hide hR
    clear hR h0 hf
    generalize goodR l p = R at *
    generalize decide (goodL p l) = G at *
    obtain ⟨⟨x0, y0, x1, y1⟩, f⟩ := l
    obtain ⟨mf, ms, ma⟩ := p
    show Calls Try.prog _ #[.agg #[.int .i64 x0, .int .i64 y0, .int .i64 x1, .int .i64 y1, .int .u8 f], .agg #[.int .i64 mf, .int .i64 ms, .int .i64 ma]] w _
    simp only [encL, encP] at HCK HGD
    go_enter Try.func20, Try.ntmps20
    go_wp2_with (fail)
    obtain ⟨W, hW⟩ : ∃ x, x = (w.alloc (.cells #[.int .i64 x0, .int .i64 y0, .int .i64 x1, .int .i64 y1, .int .u8 f] 25)).alloc (.cells #[.int .i64 mf, .int .i64 ms, .int .i64 ma] 27) := ⟨_, rfl⟩
    rw [← hW]
    have hb0 : Below w.heap.size w W := by rw [hW]; exact ((Below.refl _ _).alloc (Nat.le_refl _) _).alloc (by simp) _
    have HL : Box5L W w.heap.size ⟨⟨x0, y0, x1, y1⟩, f⟩ := by rw [hW]; refine ⟨?_, ?_, ?_, ?_, ?_, ?_, ?_, ?_, ?_, ?_⟩ <;> simp [go_sem]
    have HP : Box3 W (w.heap.size + 1) (.int .i64 mf) (.int .i64 ms) (.int .i64 ma) := by rw [hW]; refine ⟨?_, ?_, ?_⟩ <;> simp [go_sem]
    have K0 := hide hb0
    clear hW hb0
    refine (HCK.out _).mono ?_
    rintro e w1 ⟨rfl, hb⟩
    have HL1 := HL.below hb
    have HP1 := HP.below hb
    have K1 := hide (K0.out.trans (hb.mono K0.out.size))
    clear hb
    obtain ⟨l0, l1, l2, l3, l4, -, -, -, -, -⟩ := id HL1
    obtain ⟨p0, p1, p2⟩ := id HP1
    go_wp2_with (fail)
    refine (HGD.out _).mono ?_
    rintro e w2 ⟨rfl, hb⟩
    have HL2 := HL1.below hb
    have HP2 := HP1.below hb
    have K2 := hide (K1.out.trans (hb.mono K1.out.size))
    clear hb
    clear l0 l1 l2 l3 l4 p0 p1 p2
    go_wp2_with (fail)
    go_ret2
    exact ⟨by rw [HR.out]; rfl, K2.out⟩
  · have hR : goodR l p = (false, checkL l p) := if_neg h0
    have HR := hide hR
    clear hR HGD hf
    generalize goodR l p = R at *
    generalize checkL l p = c at *
    have hne : (c != 0) = true := by simpa using h0
    clear h0
    obtain ⟨⟨x0, y0, x1, y1⟩, f⟩ := l
    obtain ⟨mf, ms, ma⟩ := p
    show Calls Try.prog _ #[.agg #[.int .i64 x0, .int .i64 y0, .int .i64 x1, .int .i64 y1, .int .u8 f], .agg #[.int .i64 mf, .int .i64 ms, .int .i64 ma]] w _
    simp only [encL, encP] at HCK
    go_enter Try.func20, Try.ntmps20
    go_wp2_with (fail)
    obtain ⟨W, hW⟩ : ∃ x, x = (w.alloc (.cells #[.int .i64 x0, .int .i64 y0, .int .i64 x1, .int .i64 y1, .int .u8 f] 25)).alloc (.cells #[.int .i64 mf, .int .i64 ms, .int .i64 ma] 27) := ⟨_, rfl⟩
    rw [← hW]
    have hb0 : Below w.heap.size w W := by rw [hW]; exact ((Below.refl _ _).alloc (Nat.le_refl _) _).alloc (by simp) _
    have HL : Box5L W w.heap.size ⟨⟨x0, y0, x1, y1⟩, f⟩ := by rw [hW]; refine ⟨?_, ?_, ?_, ?_, ?_, ?_, ?_, ?_, ?_, ?_⟩ <;> simp [go_sem]
    have HP : Box3 W (w.heap.size + 1) (.int .i64 mf) (.int .i64 ms) (.int .i64 ma) := by rw [hW]; refine ⟨?_, ?_, ?_⟩ <;> simp [go_sem]
    have K0 := hide hb0
    clear hW hb0
    refine (HCK.out _).mono ?_
    rintro e w1 ⟨rfl, hb⟩
    have HL1 := HL.below hb
    have HP1 := HP.below hb
    have K1 := hide (K0.out.trans (hb.mono K0.out.size))
    clear hb
    obtain ⟨l0, l1, l2, l3, l4, -, -, -, -, -⟩ := id HL1
    obtain ⟨p0, p1, p2⟩ := id HP1
    go_wp2_with (fail)
    refine (HCK.out _).mono ?_
    rintro e w2 ⟨rfl, hb⟩
    have HL2 := HL1.below hb
    have HP2 := HP1.below hb
    have K2 := hide (K1.out.trans (hb.mono K1.out.size))
    clear hb
    clear l0 l1 l2 l3 l4 p0 p1 p2
    go_wp2_with (fail)
    go_ret2
    exact ⟨by rw [HR.out]; rfl, K2.out⟩
end Go.Proofs.Ytgdlbaabdebclaa

/- A region that draws its order: reads, a chain (a call) that keeps their condition, reads of slots in any order, and a last operation. The law, in a round and outside of one. -/
namespace Go.Proofs.Ytgdlbaabdebclaa
open Go.RowKit
set_option linter.unusedVariables false
set_option linter.unusedSimpArgs false

section
variable {P : Program} {Q : Exit → Act → World → Prop} {md : Region.Mode} {S : World → Prop}

def mixCB (md : Region.Mode) (ops : Array Oper) (R2 T2 : List Nat) : List Nat → Array Bool → Bool
  | [], l => mixRB md ops T2 R2 l
  | t :: r, l => (Region.ready md ops l == [t]) && mixCB md ops R2 T2 r (l.setIfInBounds t true)
def mixHB (md : Region.Mode) (ops : Array Oper) (T R2 T2 : List Nat) : List Nat → Array Bool → Bool
  | [], l => mixCB md ops R2 T2 T l
  | i :: r, l => Region.free md ops l i && (Region.ready md ops l).contains i && waitsFor md ops (ops.size - 1) i && mixHB md ops T R2 T2 r (l.setIfInBounds i true)
def mixTwoB (md : Region.Mode) (ops : Array Oper) (R T R2 T2 : List Nat) : Bool := Region.noSelect ops && decide (R.length + (T.length + (R2.length + T2.length)) = ops.size) && (T2.getLast? == some (ops.size - 1)) && mixHB md ops T R2 T2 R (Array.replicate ops.size false)

/-- One operation behind the other; behind each, S is shown anew. -/
def wpChain (P : Program) (ops : Array Oper) (S : World → Prop) (Q : Exit → Act → World → Prop) (K : Act → World → Prop) : List Oper → Act → World → Prop
  | [], a, w => K a w
  | o :: r, a, w => ∀ K' : Act → World → Prop, (∀ a' w', S w' → wpChain P ops S Q K r a' w' → K' a' w') → if Region.wanted o (yielded ops a.tmps) = true then o.wp P a w K' Q else K' (a.put o.dst undef) w

theorem wpChain_mix {l : List Oper} {R2 T2 : List Nat} (hsel : ∀ (j : Nat) (o : Oper) cs b, l.toArray[j]? = some o → o.op ≠ .select cs b) (hQ : ∀ c a a' w, Q (.panic c) a w → Q (.panic c) a' w) (hL : ∀ t, T2.getLast? = some t → t = l.length - 1) :
    ∀ (T : List Nat) (listed : Array Bool) (a : Act) (w : World), S w → mixCB md l.toArray R2 T2 T listed = true →
      wpChain P l.toArray S Q (fun a w => wpReads P l.toArray S (fun a' => wpTail P l.toArray S Q (T2.map (opAt l)) a' w) (R2.map (opAt l)) a) (T.map (opAt l)) a w →
      wpAnyE P md l.toArray Q S (l.length - 1) (T.length + (R2.length + T2.length)) listed a w
  | [], listed, a, w, hS, hT, h => by
    rw [List.length_nil, Nat.zero_add]
    exact wpReads_mix hsel hQ hL hS R2 listed a hT h
  | t :: r, listed, a, w, hS, hT, h => by
    simp only [mixCB, Bool.and_eq_true, beq_iff_eq] at hT
    rw [List.length_cons, Nat.add_right_comm]
    refine ⟨fun h0 => (by rw [hT.1] at h0; cases h0), fun i hi => ?_⟩
    obtain ⟨_, o, ho, _⟩ := mem_ready.1 hi
    rw [hT.1] at hi
    obtain rfl : i = t := by simpa using hi
    have ho' : l[i]? = some o := by simpa using ho
    simp only [List.map_cons, opAt_some ho'] at h
    refine wpOp_step ho fun K' hK => h K' fun a' w' hS' hT' => hK a' w' ⟨fun _ => hS', ?_⟩
    exact wpChain_mix hsel hQ hL r _ a' w' hS' hT.2 hT'
theorem wpHead_mix {l : List Oper} {T R2 T2 : List Nat} (hsel : ∀ (j : Nat) (o : Oper) cs b, l.toArray[j]? = some o → o.op ≠ .select cs b) (hQ : ∀ c a a' w, Q (.panic c) a w → Q (.panic c) a' w) (hL : ∀ t, T2.getLast? = some t → t = l.length - 1)
    {w : World} (hS : S w) : ∀ (R : List Nat) (listed : Array Bool) (a : Act), mixHB md l.toArray T R2 T2 R listed = true →
      wpReads P l.toArray S (fun a' => wpChain P l.toArray S Q (fun a w => wpReads P l.toArray S (fun a' => wpTail P l.toArray S Q (T2.map (opAt l)) a' w) (R2.map (opAt l)) a) (T.map (opAt l)) a' w) (R.map (opAt l)) a →
      wpAnyE P md l.toArray Q S (l.length - 1) (R.length + (T.length + (R2.length + T2.length))) listed a w
  | [], listed, a, hR, h => by
    rw [List.length_nil, Nat.zero_add]
    exact wpChain_mix hsel hQ hL T listed a w hS hR h
  | i :: r, listed, a, hR, h => by
    simp only [mixHB, Bool.and_eq_true, List.contains_iff_mem] at hR
    obtain ⟨⟨⟨f1, f2⟩, f3⟩, f4⟩ := hR
    obtain ⟨_, o, ho, _⟩ := mem_ready.1 f2
    have ho' : l[i]? = some o := by simpa using ho
    simp only [List.map_cons, opAt_some ho'] at h
    obtain ⟨v, hy, h⟩ := h
    have ih := wpHead_mix hsel hQ hL hS r _ _ f4 h
    rw [List.length_cons, Nat.add_right_comm]
    refine wpAnyE_first ho hsel (fun c a w h => hQ c _ _ w h) ?_ _ _ _ _ (Region.free_spec ho f1) f2 hy hS ih
    intro oL hoL
    unfold waitsFor at f3
    simp only [List.size_toArray] at f3
    rw [hoL] at f3
    obtain ⟨e, he, h2⟩ := Array.any_eq_true'.1 f3
    simp only [Bool.and_eq_true, beq_iff_eq] at h2
    exact ⟨e, he, h2.1, h2.2⟩
theorem wpAny_two {a : Act} {w : World} {l : List Oper} (R T R2 T2 : List Nat) (hB : mixTwoB .any l.toArray R T R2 T2 = true) (hS : S w)
    (h : wpReads P l.toArray S (fun a' => wpChain P l.toArray S (NoPanic Q) (fun a w => wpReads P l.toArray S (fun a' => wpTail P l.toArray S (NoPanic Q) (T2.map (opAt l)) a' w) (R2.map (opAt l)) a) (T.map (opAt l)) a' w) (R.map (opAt l)) a) :
    wpAny P .any l.toArray (NoPanic Q) l.toArray.size (Array.replicate l.toArray.size false) a w := by
  refine wpAny_of_E (S := S) (L := l.length - 1) _ _ _ _ ?_
  simp only [mixTwoB, Bool.and_eq_true, decide_eq_true_eq, beq_iff_eq, List.size_toArray] at hB
  obtain ⟨⟨⟨b1, b2⟩, b3⟩, b4⟩ := hB
  have := wpHead_mix (Q := NoPanic Q) (S := S) (l := l) (T := T) (R2 := R2) (T2 := T2) (w := w) (Region.noSelect_spec b1) (fun _ _ _ _ h => h) (fun t ht => by rw [b3] at ht; injection ht with ht; exact ht.symm) hS R _ a b4 h
  rw [b2] at this
  exact this
theorem wp_region_two {id : Nat} {a : Act} {w : World} {l : List Oper} (R T R2 T2 : List Nat) (S : World → Prop) (hm : P.follows .mixedOrders = true) (hB : mixTwoB .any l.toArray R T R2 T2 = true) (hS : S w.drew)
    (h : wpReads P l.toArray S (fun a' => wpChain P l.toArray S (NoPanic Q) (fun a w => wpReads P l.toArray S (fun a' => wpTail P l.toArray S (NoPanic Q) (T2.map (opAt l)) a' w) (R2.map (opAt l)) a) (T.map (opAt l)) a' w.drew) (R.map (opAt l)) a) :
    (Code.region id l.toArray true).wp P Q a w :=
  wp_region_noPanic (wp_region_any hm (wpAny_two R T R2 T2 hB hS h))
theorem wpIn_region_two {id r m : Nat} {a : Act} {w : World} {l : List Oper} (R T R2 T2 : List Nat) (S : World → Prop) (hm : P.follows .mixedOrders = true) (hB : mixTwoB .any l.toArray R T R2 T2 = true) (hnd : noDefer l = true) (hout : ∀ a w, ¬ Q .outgrown a w) (hS : S w.drew)
    (h : wpReads P l.toArray S (fun a' => wpChain P l.toArray S (NoPanic Q) (fun a w => wpReads P l.toArray S (fun a' => wpTail P l.toArray S (NoPanic Q) (T2.map (opAt l)) a' w) (R2.map (opAt l)) a) (T.map (opAt l)) a' w.drew) (R.map (opAt l)) a) :
    (Code.region id l.toArray true).wpIn (Fence.wide.inRound r) m P Q a w :=
  Code.wpIn_mono NoPanic.imp (wpIn_region_any hm (wpAny_round (noDefer_spec hnd) (fun a w h => hout a w (NoPanic.imp _ _ _ h)) _ _ _ _ (wpAny_two R T R2 T2 hB hS h)))
end
end Go.Proofs.Ytgdlbaabdebclaa
