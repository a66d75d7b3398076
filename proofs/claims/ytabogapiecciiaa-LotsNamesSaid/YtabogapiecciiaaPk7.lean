/- Texts laid together: ParF, ParR, ParS, ParG, ParH, LotA, LotA2, MLotsB, LotB. Lemmas for the statements of this seat; no condition. -/
import Derived.Test.YtabogapiecciiaaPk6
import Derived.Deep.RegionHeld3
import Derived.Deep.DeepCutAuto
import Derived.Test.YtabogapiecciiaaPk4
import Derived.WalkSmall
import Derived.Test.YtabogapiecciiaaPk2

/- The walk of parcel.cut. -/
namespace Go.Proofs.Ytabogapiecciiaa
open Go.RowKit
set_option linter.unusedVariables false
set_option linter.unusedSimpArgs false

set_option maxHeartbeats 1000000 in
theorem width_exact (l : Lot5) (h : okR l.r) (w : World) : Calls Try.prog 71 #[.agg (encL l).toArray] w fun e w' => e = .returned (.int .i64 l.w) ∧ w' = w.alloc (.cells (encL l).toArray 92) := by
  obtain ⟨⟨x0, y0, x1, y1⟩, f⟩ := l
  simp only [okR, inR] at h
  obtain ⟨h1, h2, ⟨h3, h4⟩, ⟨h5, h6⟩, ⟨h7, h8⟩, ⟨h9, h10⟩⟩ := h
  show Calls Try.prog _ #[.agg #[.int .i64 x0, .int .i64 y0, .int .i64 x1, .int .i64 y1, .int .u8 f]] w fun e w' => e = .returned (.int .i64 (x1 - x0)) ∧ w' = w.alloc (.cells #[.int .i64 x0, .int .i64 y0, .int .i64 x1, .int .i64 y1, .int .u8 f] 92)
  go_enter Try.func71, Try.ntmps71
  go_wp2
  go_ret
  exact ⟨rfl, rfl⟩
set_option maxHeartbeats 1000000 in
theorem height_exact (l : Lot5) (h : okR l.r) (w : World) : Calls Try.prog 72 #[.agg (encL l).toArray] w fun e w' => e = .returned (.int .i64 l.h) ∧ w' = w.alloc (.cells (encL l).toArray 92) := by
  obtain ⟨⟨x0, y0, x1, y1⟩, f⟩ := l
  simp only [okR, inR] at h
  obtain ⟨h1, h2, ⟨h3, h4⟩, ⟨h5, h6⟩, ⟨h7, h8⟩, ⟨h9, h10⟩⟩ := h
  show Calls Try.prog _ #[.agg #[.int .i64 x0, .int .i64 y0, .int .i64 x1, .int .i64 y1, .int .u8 f]] w fun e w' => e = .returned (.int .i64 (y1 - y0)) ∧ w' = w.alloc (.cells #[.int .i64 x0, .int .i64 y0, .int .i64 x1, .int .i64 y1, .int .u8 f] 92)
  go_enter Try.func72, Try.ntmps72
  go_wp2
  go_ret
  exact ⟨rfl, rfl⟩
theorem keepS {n : Nat} {A B : World} {v0 v1 v2 v3 v4 : Value} (hb : Below A.heap.size A B) (h : A.cell? ⟨n, 0, none⟩ = some v0 ∧ A.cell? ⟨n, 1, none⟩ = some v1 ∧ A.cell? ⟨n, 2, none⟩ = some v2 ∧ A.cell? ⟨n, 3, none⟩ = some v3 ∧ A.cell? ⟨n, 4, none⟩ = some v4) : B.cell? ⟨n, 0, none⟩ = some v0 ∧ B.cell? ⟨n, 1, none⟩ = some v1 ∧ B.cell? ⟨n, 2, none⟩ = some v2 ∧ B.cell? ⟨n, 3, none⟩ = some v3 ∧ B.cell? ⟨n, 4, none⟩ = some v4 :=
  have hs := lt_of_cell h.1
  ⟨(hb.cell (p := ⟨n, 0, none⟩) hs).trans h.1, (hb.cell (p := ⟨n, 1, none⟩) hs).trans h.2.1, (hb.cell (p := ⟨n, 2, none⟩) hs).trans h.2.2.1, (hb.cell (p := ⟨n, 3, none⟩) hs).trans h.2.2.2.1, (hb.cell (p := ⟨n, 4, none⟩) hs).trans h.2.2.2.2⟩
theorem keepD {n : Nat} {A : World} {v0 v1 v2 v3 v4 : Value} (h : A.cell? ⟨n, 0, none⟩ = some v0 ∧ A.cell? ⟨n, 1, none⟩ = some v1 ∧ A.cell? ⟨n, 2, none⟩ = some v2 ∧ A.cell? ⟨n, 3, none⟩ = some v3 ∧ A.cell? ⟨n, 4, none⟩ = some v4) : A.drew.cell? ⟨n, 0, none⟩ = some v0 ∧ A.drew.cell? ⟨n, 1, none⟩ = some v1 ∧ A.drew.cell? ⟨n, 2, none⟩ = some v2 ∧ A.drew.cell? ⟨n, 3, none⟩ = some v3 ∧ A.drew.cell? ⟨n, 4, none⟩ = some v4 := h
theorem keepA {n : Nat} {A : World} {v0 v1 v2 v3 v4 : Value} {o : Obj} (h : A.cell? ⟨n, 0, none⟩ = some v0 ∧ A.cell? ⟨n, 1, none⟩ = some v1 ∧ A.cell? ⟨n, 2, none⟩ = some v2 ∧ A.cell? ⟨n, 3, none⟩ = some v3 ∧ A.cell? ⟨n, 4, none⟩ = some v4) : (A.alloc o).cell? ⟨n, 0, none⟩ = some v0 ∧ (A.alloc o).cell? ⟨n, 1, none⟩ = some v1 ∧ (A.alloc o).cell? ⟨n, 2, none⟩ = some v2 ∧ (A.alloc o).cell? ⟨n, 3, none⟩ = some v3 ∧ (A.alloc o).cell? ⟨n, 4, none⟩ = some v4 := keepS ((Below.refl _ _).alloc (Nat.le_refl _) o) h
theorem keepC {n : Nat} {A : World} {v0 v1 v2 v3 v4 : Value} {g k : Nat} {v : Value} (h : A.cell? ⟨n, 0, none⟩ = some v0 ∧ A.cell? ⟨n, 1, none⟩ = some v1 ∧ A.cell? ⟨n, 2, none⟩ = some v2 ∧ A.cell? ⟨n, 3, none⟩ = some v3 ∧ A.cell? ⟨n, 4, none⟩ = some v4) (hg : n ≠ g) : (A.setCell ⟨g, k, none⟩ v).cell? ⟨n, 0, none⟩ = some v0 ∧ (A.setCell ⟨g, k, none⟩ v).cell? ⟨n, 1, none⟩ = some v1 ∧ (A.setCell ⟨g, k, none⟩ v).cell? ⟨n, 2, none⟩ = some v2 ∧ (A.setCell ⟨g, k, none⟩ v).cell? ⟨n, 3, none⟩ = some v3 ∧ (A.setCell ⟨g, k, none⟩ v).cell? ⟨n, 4, none⟩ = some v4 := by
  refine ⟨?_, ?_, ?_, ?_, ?_⟩ <;> simp [go_sem, hg, hg.symm, h]
theorem wp_name5 {P : Program} {c : Code} {Q : Exit → Act → World → Prop} {a : Act} {W : World} (h : ∀ w, w = W → c.wp P Q a w) : c.wp P Q a W := h W rfl
def zeroL : Lot5 := ⟨⟨0, 0, 0, 0⟩, 0⟩
def cutR (l : Lot5) (p : Pl3) : Lot5 × Lot5 × Bool := match cutL p l with
  | some x => (x.1, x.2, true)
  | none => (zeroL, zeroL, false)
theorem cutR_eq (l : Lot5) (p : Pl3) : cutR l p = if decide (l.w * l.h ≤ p.ma) = true then (zeroL, zeroL, false) else if decide (goodL p l) = false then (zeroL, zeroL, false) else if bothG p (wayL (decide (l.h ≤ l.w)) l) = true then ((wayL (decide (l.h ≤ l.w)) l).1, (wayL (decide (l.h ≤ l.w)) l).2, true) else if bothG p (wayL (decide (l.w < l.h)) l) = true then ((wayL (decide (l.w < l.h)) l).1, (wayL (decide (l.w < l.h)) l).2, true) else (zeroL, zeroL, false) := by
  unfold cutR cutL
  by_cases h1 : l.w * l.h ≤ p.ma
  · simp [h1]
  · by_cases h2 : goodL p l
    · simp only [h1, h2, decide_true, decide_false, not_true_eq_false, or_self, if_false, Bool.false_eq_true, Bool.true_eq_false]
      repeat' split
      all_goals first | rfl | simp_all
    · simp [h1, h2]
set_option maxRecDepth 100000 in
set_option maxHeartbeats 8000000 in
theorem cut_any (l : Lot5) (p : Pl3) (hv : validL l) (w : World) : Calls Try.prog 50 #[.agg (encL l).toArray, .agg (encP p).toArray] w fun e w' => e = .returned (.tuple #[.agg (encL (cutR l p).1).toArray, .agg (encL (cutR l p).2.1).toArray, .bool (cutR l p).2.2]) ∧ Below w.heap.size w w' := by
  have HWI := hide (fun W => width_exact l hv.1 W)
  have HHE := hide (fun W => height_exact l hv.1 W)
  have HGD := hide (fun W => good_any l p (by have := hv.2; omega) W)
  have HT := hide (fun d w bl ba bb bw bh bp A0 A1 A2 A3 A4 B0 B1 B2 B3 B4 => @try_any d l p hv w bl ba bb bw bh bp A0 A1 A2 A3 A4 B0 B1 B2 B3 B4)
  have hpos := valid_pos hv
  have HR := hide (cutR_eq l p)
  generalize cutR l p = R at *
  generalize decide (goodL p l) = G at *
  generalize l.w = wd at *
  generalize l.h = hg at *
  obtain ⟨⟨x0, y0, x1, y1⟩, f⟩ := l
  obtain ⟨mf, ms, ma⟩ := p
  clear hv
  show Calls Try.prog _ #[.agg #[.int .i64 x0, .int .i64 y0, .int .i64 x1, .int .i64 y1, .int .u8 f], .agg #[.int .i64 mf, .int .i64 ms, .int .i64 ma]] w _
  simp only [encL, encP] at HWI HHE HGD
  go_enter Try.func50, Try.ntmps50
  go_upto_region 1 with fail
  refine wp_name5 fun W hW => ?_
  have hb0 : Below w.heap.size w W := by rw [hW]; exact ((((Below.refl _ _).alloc (Nat.le_refl _) _).alloc (by simp) _).alloc (by simp; omega) _).alloc (by simp; omega) _
  have hs0 : w.heap.size + 3 < W.heap.size := by rw [hW]; simp
  have l0 : W.cell? ⟨w.heap.size, 0, none⟩ = some (.int .i64 x0) := by rw [hW]; simp [go_sem]
  have l1 : W.cell? ⟨w.heap.size, 1, none⟩ = some (.int .i64 y0) := by rw [hW]; simp [go_sem]
  have l2 : W.cell? ⟨w.heap.size, 2, none⟩ = some (.int .i64 x1) := by rw [hW]; simp [go_sem]
  have l3 : W.cell? ⟨w.heap.size, 3, none⟩ = some (.int .i64 y1) := by rw [hW]; simp [go_sem]
  have l4 : W.cell? ⟨w.heap.size, 4, none⟩ = some (.int .u8 f) := by rw [hW]; simp [go_sem]
  have p0 : W.cell? ⟨w.heap.size + 1, 0, none⟩ = some (.int .i64 mf) := by rw [hW]; simp [go_sem]
  have p1 : W.cell? ⟨w.heap.size + 1, 1, none⟩ = some (.int .i64 ms) := by rw [hW]; simp [go_sem]
  have p2 : W.cell? ⟨w.heap.size + 1, 2, none⟩ = some (.int .i64 ma) := by rw [hW]; simp [go_sem]
  have HA0 : Box5 W (w.heap.size + 2) (.int .i64 0) (.int .i64 0) (.int .i64 0) (.int .i64 0) (.int .u8 0) := by rw [hW]; refine ⟨?_, ?_, ?_, ?_, ?_, ?_, ?_, ?_, ?_, ?_⟩ <;> simp [go_sem]
  have HB0 : Box5 W (w.heap.size + 3) (.int .i64 0) (.int .i64 0) (.int .i64 0) (.int .i64 0) (.int .u8 0) := by rw [hW]; refine ⟨?_, ?_, ?_, ?_, ?_, ?_, ?_, ?_, ?_, ?_⟩ <;> simp [go_sem]
  generalize hn : w.heap.size = n at *
  clear hW
  go_cut [7, 8] (fun s7 s8 wx => ∃ g7 g8 : Nat, s7 = .pointer (some ⟨g7, 0, none⟩) ∧ s8 = .pointer (some ⟨g8, 0, none⟩) ∧ Below W.heap.size W wx ∧ W.heap.size ≤ g7 ∧ W.heap.size ≤ g8 ∧ wx.cell? ⟨g7, 0, none⟩ = some (.int .i64 wd) ∧ wx.cell? ⟨g8, 0, none⟩ = some (.int .i64 hg))
  case first =>
    go_region_held3 (fun w' => w'.cell? ⟨n, 0, none⟩ = some (.int .i64 x0) ∧ w'.cell? ⟨n, 1, none⟩ = some (.int .i64 y0) ∧ w'.cell? ⟨n, 2, none⟩ = some (.int .i64 x1) ∧ w'.cell? ⟨n, 3, none⟩ = some (.int .i64 y1) ∧ w'.cell? ⟨n, 4, none⟩ = some (.int .u8 f)) (((repeat (first | with_reducible refine keepA ?_ | with_reducible refine keepC ?_ (by have := hs0; simp; omega) | with_reducible refine keepD ?_)); exact ⟨l0, l1, l2, l3, l4⟩))
      (first
        | (go_at_call 71; refine (HWI.out _).mono ?_; rintro e w' ⟨rfl, rfl⟩)
        | (go_at_call 72; refine (HHE.out _).mono ?_; rintro e w' ⟨rfl, rfl⟩))
    all_goals (go_wp2_with (fail); go_meet)
    all_goals
      refine ⟨_, _, rfl, rfl, ?_, ?_, ?_, ?_, ?_⟩
      · repeat (first | with_reducible exact Below.refl _ _ | with_reducible refine Below.setCell ?_ (by simp) _ | with_reducible refine Below.alloc ?_ (by simp <;> omega) _ | with_reducible refine Below.drew ?_)
      · first | omega | simp
      · first | omega | simp
      · simp [go_sem]
      · simp [go_sem]
  case rest =>
    obtain ⟨g7, g8, rfl, rfl, hb, hg7, hg8, c7, c8⟩ := hcut
    have L0 := (hb.cell (p := ⟨n, 0, none⟩) (by show n < _; omega)).trans l0
    have L1 := (hb.cell (p := ⟨n, 1, none⟩) (by show n < _; omega)).trans l1
    have L2 := (hb.cell (p := ⟨n, 2, none⟩) (by show n < _; omega)).trans l2
    have L3 := (hb.cell (p := ⟨n, 3, none⟩) (by show n < _; omega)).trans l3
    have L4 := (hb.cell (p := ⟨n, 4, none⟩) (by show n < _; omega)).trans l4
    have P0 := (hb.cell (p := ⟨n + 1, 0, none⟩) (by show n + 1 < _; omega)).trans p0
    have P1 := (hb.cell (p := ⟨n + 1, 1, none⟩) (by show n + 1 < _; omega)).trans p1
    have P2 := (hb.cell (p := ⟨n + 1, 2, none⟩) (by show n + 1 < _; omega)).trans p2
    have HA := HA0.below hb
    have HB := HB0.below hb
    have K0 := hide (hb0.trans (hb.mono (by omega)))
    have hsz : n + 3 < wc.heap.size := by have := hb.size; omega
    clear l0 l1 l2 l3 l4 p0 p1 p2 HA0 HB0 hb hb0
    obtain ⟨hw1, hh1, hw2, hh2⟩ := hpos
    have hm0 : 0 ≤ wd * hg := Int.mul_nonneg (by omega) (by omega)
    have hm1 : wd * hg ≤ 2000000 * 2000000 := Int.mul_le_mul hw2 hh2 (by omega) (by omega)
    cases hS : decide (wd * hg ≤ ma) with
    | true =>
      rw [hS] at HR
      have hS' : wd * hg ≤ ma := of_decide_eq_true hS
      obtain ⟨a0, a1, a2, a3, a4, af0, af1, af2, af3, af4⟩ := HA
      obtain ⟨b0, b1, b2, b3, b4, bf0, bf1, bf2, bf3, bf4⟩ := HB
      clear hS
      go_wp2_with (fail)
      refine exit_name fun V hV => ?_
      have HAV : Box5L V (n + 1 + 1) zeroL := by rw [hV]; refine ⟨?_, ?_, ?_, ?_, ?_, ?_, ?_, ?_, ?_, ?_⟩ <;> simp [go_sem, a0, a1, a2, a3, a4, af0, af1, af2, af3, af4, zeroL]
      have HBV : Box5L V (n + 1 + 1 + 1) zeroL := by rw [hV]; refine ⟨?_, ?_, ?_, ?_, ?_, ?_, ?_, ?_, ?_, ?_⟩ <;> simp [go_sem, b0, b1, b2, b3, b4, bf0, bf1, bf2, bf3, bf4, zeroL]
      have KV : Below n w V := by
        rw [hV]
        repeat (first | with_reducible exact K0.out | with_reducible refine Below.setCell ?_ (by first | (simp; done) | (simp; omega)) _ | with_reducible refine Below.drew ?_)
      have hsV : n + 3 < V.heap.size := by have := lt_of_cell HBV.c0; omega
      clear hV a0 a1 a2 a3 a4 b0 b1 b2 b3 b4 af0 af1 af2 af3 af4 bf0 bf1 bf2 bf3 bf4
      obtain ⟨a0, a1, a2, a3, a4, -, -, -, -, -⟩ := HAV
      obtain ⟨b0, b1, b2, b3, b4, -, -, -, -, -⟩ := HBV
      refine bodyPost_ret (v := .tuple #[.agg (encL zeroL).toArray, .agg (encL zeroL).toArray, .bool false]) (by simp [results, Try.results50, go_sem, a0, a1, a2, a3, a4, b0, b1, b2, b3, b4, encL]) rfl ⟨by rw [HR.out]; rfl, by first | exact KV | (rw [hn]; exact KV)⟩
    | false =>
      rw [hS] at HR
      have hS1 : ¬ wd * hg ≤ ma := of_decide_eq_false hS
      have hS2 : ma < wd * hg := by omega
      clear hS
      obtain ⟨a0, a1, a2, a3, a4, af0, af1, af2, af3, af4⟩ := id HA
      obtain ⟨b0, b1, b2, b3, b4, bf0, bf1, bf2, bf3, bf4⟩ := id HB
      cases G with
      | false =>
        go_wp2_with (fail)
        refine (HGD.out _).mono ?_
        rintro e w1 ⟨rfl, hb⟩
        have HA1 := HA.below hb
        have HB1 := HB.below hb
        have K1 := hide (K0.out.trans (hb.mono (by omega)))
        have l0 := (hb.cell (p := ⟨n, 0, none⟩) (by show n < _; omega)).trans L0
        have l1 := (hb.cell (p := ⟨n, 1, none⟩) (by show n < _; omega)).trans L1
        have l2 := (hb.cell (p := ⟨n, 2, none⟩) (by show n < _; omega)).trans L2
        have l3 := (hb.cell (p := ⟨n, 3, none⟩) (by show n < _; omega)).trans L3
        have l4 := (hb.cell (p := ⟨n, 4, none⟩) (by show n < _; omega)).trans L4
        have p0 := (hb.cell (p := ⟨n + 1, 0, none⟩) (by show n + 1 < _; omega)).trans P0
        have p1 := (hb.cell (p := ⟨n + 1, 1, none⟩) (by show n + 1 < _; omega)).trans P1
        have p2 := (hb.cell (p := ⟨n + 1, 2, none⟩) (by show n + 1 < _; omega)).trans P2
        have d7 := (hb.cell (p := ⟨g7, 0, none⟩) (lt_of_cell c7)).trans c7
        have d8 := (hb.cell (p := ⟨g8, 0, none⟩) (lt_of_cell c8)).trans c8
        have hsz1 : n + 3 < w1.heap.size := by have := hb.size; omega
        clear hb L0 L1 L2 L3 L4 P0 P1 P2 c7 c8 HA HB hsz a0 a1 a2 a3 a4 b0 b1 b2 b3 b4 af0 af1 af2 af3 af4 bf0 bf1 bf2 bf3 bf4
        obtain ⟨a0, a1, a2, a3, a4, af0, af1, af2, af3, af4⟩ := id HA1
        obtain ⟨b0, b1, b2, b3, b4, bf0, bf1, bf2, bf3, bf4⟩ := id HB1
        clear HA1 HB1
        go_wp2_with (fail)
        refine exit_name fun V hV => ?_
        have HAV : Box5L V (n + 1 + 1) zeroL := by rw [hV]; refine ⟨?_, ?_, ?_, ?_, ?_, ?_, ?_, ?_, ?_, ?_⟩ <;> simp [go_sem, a0, a1, a2, a3, a4, af0, af1, af2, af3, af4, zeroL]
        have HBV : Box5L V (n + 1 + 1 + 1) zeroL := by rw [hV]; refine ⟨?_, ?_, ?_, ?_, ?_, ?_, ?_, ?_, ?_, ?_⟩ <;> simp [go_sem, b0, b1, b2, b3, b4, bf0, bf1, bf2, bf3, bf4, zeroL]
        have KV : Below n w V := by
          rw [hV]
          repeat (first | with_reducible exact K1.out | with_reducible refine Below.setCell ?_ (by first | (simp; done) | (simp; omega)) _ | with_reducible refine Below.drew ?_)
        have hsV : n + 3 < V.heap.size := by have := lt_of_cell HBV.c0; omega
        clear hV a0 a1 a2 a3 a4 b0 b1 b2 b3 b4 af0 af1 af2 af3 af4 bf0 bf1 bf2 bf3 bf4
        obtain ⟨a0, a1, a2, a3, a4, -, -, -, -, -⟩ := HAV
        obtain ⟨b0, b1, b2, b3, b4, -, -, -, -, -⟩ := HBV
        refine bodyPost_ret (v := .tuple #[.agg (encL zeroL).toArray, .agg (encL zeroL).toArray, .bool false]) (by simp [results, Try.results50, go_sem, a0, a1, a2, a3, a4, b0, b1, b2, b3, b4, encL]) rfl ⟨by rw [HR.out]; rfl, by first | exact KV | (rw [hn]; exact KV)⟩
      | true =>
        have HT1 := hide (HT.out (decide (hg ≤ wd)))
        have HT2 := hide (HT.out (decide (wd < hg)))
        clear HT
        generalize wayL (decide (hg ≤ wd)) ⟨⟨x0, y0, x1, y1⟩, f⟩ = X1 at *
        generalize wayL (decide (wd < hg)) ⟨⟨x0, y0, x1, y1⟩, f⟩ = X2 at *
        generalize bothG ⟨mf, ms, ma⟩ X1 = T1 at *
        generalize bothG ⟨mf, ms, ma⟩ X2 = T2 at *
        go_wp2_with (fail)
        refine (HGD.out _).mono ?_
        rintro e w1 ⟨rfl, hb⟩
        have HA1 := HA.below hb
        have HB1 := HB.below hb
        have K1 := hide (K0.out.trans (hb.mono (by omega)))
        have l0 := (hb.cell (p := ⟨n, 0, none⟩) (by show n < _; omega)).trans L0
        have l1 := (hb.cell (p := ⟨n, 1, none⟩) (by show n < _; omega)).trans L1
        have l2 := (hb.cell (p := ⟨n, 2, none⟩) (by show n < _; omega)).trans L2
        have l3 := (hb.cell (p := ⟨n, 3, none⟩) (by show n < _; omega)).trans L3
        have l4 := (hb.cell (p := ⟨n, 4, none⟩) (by show n < _; omega)).trans L4
        have p0 := (hb.cell (p := ⟨n + 1, 0, none⟩) (by show n + 1 < _; omega)).trans P0
        have p1 := (hb.cell (p := ⟨n + 1, 1, none⟩) (by show n + 1 < _; omega)).trans P1
        have p2 := (hb.cell (p := ⟨n + 1, 2, none⟩) (by show n + 1 < _; omega)).trans P2
        have d7 := (hb.cell (p := ⟨g7, 0, none⟩) (lt_of_cell c7)).trans c7
        have d8 := (hb.cell (p := ⟨g8, 0, none⟩) (lt_of_cell c8)).trans c8
        have hsz1 : n + 3 < w1.heap.size := by have := hb.size; omega
        clear hb L0 L1 L2 L3 L4 P0 P1 P2 c7 c8 HA HB hsz a0 a1 a2 a3 a4 b0 b1 b2 b3 b4 af0 af1 af2 af3 af4 bf0 bf1 bf2 bf3 bf4
        obtain ⟨a0, a1, a2, a3, a4, af0, af1, af2, af3, af4⟩ := id HA1
        obtain ⟨b0, b1, b2, b3, b4, bf0, bf1, bf2, bf3, bf4⟩ := id HB1
        clear a0 a1 a2 a3 a4 b0 b1 b2 b3 b4 af0 af1 af2 af3 af4 bf0 bf1 bf2 bf3 bf4
        go_wp2_with (fail)
        refine (HT1.out _ _ _ _ _ _ _ _ _ _ _ _ _ _ _ _ _ l0 l1 l2 l3 l4 p0 p1 p2 d7 d8 HA1 HB1 (by omega) (by omega) (by omega) (by omega) (by omega) (by omega) (by omega) (by omega) (by omega)).mono ?_
        rintro e w2 ⟨rfl, hu, HA2, HB2⟩
        have K2 := hide (K1.out.trans ((hu.below (n := n) (by omega) (by omega) (fun k hk => by injection hk with hk; omega)).mono (Nat.le_refl _)))
        have m0 := (hu.cell (off := 0) (lt_of_cell l0) (by omega) (by intro e; injection e with e; omega)).trans l0
        have m1 := (hu.cell (off := 1) (lt_of_cell l1) (by omega) (by intro e; injection e with e; omega)).trans l1
        have m2 := (hu.cell (off := 2) (lt_of_cell l2) (by omega) (by intro e; injection e with e; omega)).trans l2
        have m3 := (hu.cell (off := 3) (lt_of_cell l3) (by omega) (by intro e; injection e with e; omega)).trans l3
        have m4 := (hu.cell (off := 4) (lt_of_cell l4) (by omega) (by intro e; injection e with e; omega)).trans l4
        have q0 := (hu.cell (off := 0) (lt_of_cell p0) (by omega) (by intro e; injection e with e; omega)).trans p0
        have q1 := (hu.cell (off := 1) (lt_of_cell p1) (by omega) (by intro e; injection e with e; omega)).trans p1
        have q2 := (hu.cell (off := 2) (lt_of_cell p2) (by omega) (by intro e; injection e with e; omega)).trans p2
        have e7 := (hu.cell (off := 0) (lt_of_cell d7) (by omega) (by intro e; injection e with e; omega)).trans d7
        have e8 := (hu.cell (off := 0) (lt_of_cell d8) (by omega) (by intro e; injection e with e; omega)).trans d8
        have hsz2 : n + 3 < w2.heap.size := by have := hu.size; omega
        clear hu HA1 HB1 l0 l1 l2 l3 l4 p0 p1 p2 d7 d8 hsz1
        cases T1 with
        | true =>
          obtain ⟨a0, a1, a2, a3, a4, af0, af1, af2, af3, af4⟩ := HA2
          obtain ⟨b0, b1, b2, b3, b4, bf0, bf1, bf2, bf3, bf4⟩ := HB2
          obtain ⟨X, Y⟩ := X1
          obtain ⟨⟨u0, u1, u2, u3⟩, u4⟩ := X
          obtain ⟨⟨v0, v1, v2, v3⟩, v4⟩ := Y
          simp only at a0 a1 a2 a3 a4 b0 b1 b2 b3 b4
          clear m0 m1 m2 m3 m4 q0 q1 q2 e7 e8
          go_wp2_with (fail)
          go_region
          go_wp2_with (fail)
          refine exit_name fun V hV => ?_
          have HAV : Box5L V (n + 1 + 1) ⟨⟨u0, u1, u2, u3⟩, u4⟩ := by rw [hV]; refine ⟨?_, ?_, ?_, ?_, ?_, ?_, ?_, ?_, ?_, ?_⟩ <;> simp [go_sem, a0, a1, a2, a3, a4, af0, af1, af2, af3, af4]
          have HBV : Box5L V (n + 1 + 1 + 1) ⟨⟨v0, v1, v2, v3⟩, v4⟩ := by rw [hV]; refine ⟨?_, ?_, ?_, ?_, ?_, ?_, ?_, ?_, ?_, ?_⟩ <;> simp [go_sem, b0, b1, b2, b3, b4, bf0, bf1, bf2, bf3, bf4]
          have KV : Below n w V := by
            rw [hV]
            repeat (first | with_reducible exact K2.out | with_reducible refine Below.setCell ?_ (by first | (simp; done) | (simp; omega)) _ | with_reducible refine Below.drew ?_)
          have hsV : n + 3 < V.heap.size := by have := lt_of_cell HBV.c0; omega
          clear hV a0 a1 a2 a3 a4 b0 b1 b2 b3 b4 af0 af1 af2 af3 af4 bf0 bf1 bf2 bf3 bf4
          obtain ⟨a0, a1, a2, a3, a4, -, -, -, -, -⟩ := HAV
          obtain ⟨b0, b1, b2, b3, b4, -, -, -, -, -⟩ := HBV
          refine bodyPost_ret (v := .tuple #[.agg (encL ⟨⟨u0, u1, u2, u3⟩, u4⟩).toArray, .agg (encL ⟨⟨v0, v1, v2, v3⟩, v4⟩).toArray, .bool true]) (by simp [results, Try.results50, go_sem, a0, a1, a2, a3, a4, b0, b1, b2, b3, b4, encL]) rfl ⟨by rw [HR.out]; rfl, by first | exact KV | (rw [hn]; exact KV)⟩
        | false =>
          go_wp2_with (fail)
          refine (HT2.out _ _ _ _ _ _ _ _ _ _ _ _ _ _ _ _ _ m0 m1 m2 m3 m4 q0 q1 q2 e7 e8 HA2 HB2 (by omega) (by omega) (by omega) (by omega) (by omega) (by omega) (by omega) (by omega) (by omega)).mono ?_
          rintro e w3 ⟨rfl, hu, HA3, HB3⟩
          have K3 := hide (K2.out.trans ((hu.below (n := n) (by omega) (by omega) (fun k hk => by injection hk with hk; omega)).mono (Nat.le_refl _)))
          have hsz3 : n + 3 < w3.heap.size := by have := hu.size; omega
          clear hu HA2 HB2 m0 m1 m2 m3 m4 q0 q1 q2 e7 e8 hsz2
          obtain ⟨a0, a1, a2, a3, a4, af0, af1, af2, af3, af4⟩ := HA3
          obtain ⟨b0, b1, b2, b3, b4, bf0, bf1, bf2, bf3, bf4⟩ := HB3
          obtain ⟨X, Y⟩ := X2
          obtain ⟨⟨u0, u1, u2, u3⟩, u4⟩ := X
          obtain ⟨⟨v0, v1, v2, v3⟩, v4⟩ := Y
          simp only at a0 a1 a2 a3 a4 b0 b1 b2 b3 b4
          cases T2 with
          | true =>
            go_wp2_with (fail)
            go_region
            go_wp2_with (fail)
            refine exit_name fun V hV => ?_
            have HAV : Box5L V (n + 1 + 1) ⟨⟨u0, u1, u2, u3⟩, u4⟩ := by rw [hV]; refine ⟨?_, ?_, ?_, ?_, ?_, ?_, ?_, ?_, ?_, ?_⟩ <;> simp [go_sem, a0, a1, a2, a3, a4, af0, af1, af2, af3, af4]
            have HBV : Box5L V (n + 1 + 1 + 1) ⟨⟨v0, v1, v2, v3⟩, v4⟩ := by rw [hV]; refine ⟨?_, ?_, ?_, ?_, ?_, ?_, ?_, ?_, ?_, ?_⟩ <;> simp [go_sem, b0, b1, b2, b3, b4, bf0, bf1, bf2, bf3, bf4]
            have KV : Below n w V := by
              rw [hV]
              repeat (first | with_reducible exact K3.out | with_reducible refine Below.setCell ?_ (by first | (simp; done) | (simp; omega)) _ | with_reducible refine Below.drew ?_)
            have hsV : n + 3 < V.heap.size := by have := lt_of_cell HBV.c0; omega
            clear hV a0 a1 a2 a3 a4 b0 b1 b2 b3 b4 af0 af1 af2 af3 af4 bf0 bf1 bf2 bf3 bf4
            obtain ⟨a0, a1, a2, a3, a4, -, -, -, -, -⟩ := HAV
            obtain ⟨b0, b1, b2, b3, b4, -, -, -, -, -⟩ := HBV
            refine bodyPost_ret (v := .tuple #[.agg (encL ⟨⟨u0, u1, u2, u3⟩, u4⟩).toArray, .agg (encL ⟨⟨v0, v1, v2, v3⟩, v4⟩).toArray, .bool true]) (by simp [results, Try.results50, go_sem, a0, a1, a2, a3, a4, b0, b1, b2, b3, b4, encL]) rfl ⟨by rw [HR.out]; rfl, by first | exact KV | (rw [hn]; exact KV)⟩
          | false =>
            go_wp2_with (fail)
            refine exit_name fun V hV => ?_
            have HAV : Box5L V (n + 1 + 1) zeroL := by rw [hV]; refine ⟨?_, ?_, ?_, ?_, ?_, ?_, ?_, ?_, ?_, ?_⟩ <;> simp [go_sem, a0, a1, a2, a3, a4, af0, af1, af2, af3, af4, zeroL]
            have HBV : Box5L V (n + 1 + 1 + 1) zeroL := by rw [hV]; refine ⟨?_, ?_, ?_, ?_, ?_, ?_, ?_, ?_, ?_, ?_⟩ <;> simp [go_sem, b0, b1, b2, b3, b4, bf0, bf1, bf2, bf3, bf4, zeroL]
            have KV : Below n w V := by
              rw [hV]
              repeat (first | with_reducible exact K3.out | with_reducible refine Below.setCell ?_ (by first | (simp; done) | (simp; omega)) _ | with_reducible refine Below.drew ?_)
            have hsV : n + 3 < V.heap.size := by have := lt_of_cell HBV.c0; omega
            clear hV a0 a1 a2 a3 a4 b0 b1 b2 b3 b4 af0 af1 af2 af3 af4 bf0 bf1 bf2 bf3 bf4
            obtain ⟨a0, a1, a2, a3, a4, -, -, -, -, -⟩ := HAV
            obtain ⟨b0, b1, b2, b3, b4, -, -, -, -, -⟩ := HBV
            refine bodyPost_ret (v := .tuple #[.agg (encL zeroL).toArray, .agg (encL zeroL).toArray, .bool false]) (by simp [results, Try.results50, go_sem, a0, a1, a2, a3, a4, b0, b1, b2, b3, b4, encL]) rfl ⟨by rw [HR.out]; rfl, by first | exact KV | (rw [hn]; exact KV)⟩
end Go.Proofs.Ytabogapiecciiaa

/- The reference of lots: sides, checks, lengths, good lots. -/
namespace Go.Proofs.Ytabogapiecciiaa
open Go.RowKit
set_option linter.unusedVariables false
set_option linter.unusedSimpArgs false

set_option maxHeartbeats 1000000 in
theorem rHasS_any {f s : Int} (hf : 0 ≤ f ∧ f ≤ 255) (hs : isSide s) (w : World) : Calls Try.prog 24 #[.int .u8 f, .int .u8 s] w fun e w' => e = .returned (.bool (hasS f s)) ∧ w' = w := by
  obtain ⟨h0, h1⟩ := hf
  rcases hs with rfl | rfl | rfl | rfl
  all_goals
    go_enter Try.func24, Try.ntmps24
    go_wp2
    go_ret
    refine ⟨ret_eq (bool_eq ?_), rfl⟩
    unfold hasS
    rw [Bool.eq_iff_iff]
    simp
theorem ok_valid (r : R4) : okR r ↔ valid4 r := by simp only [okR, inR, valid4, fineP]
set_option maxHeartbeats 1000000 in
theorem rWidth_any (r : R4) (h : okR r) (w : World) : Calls Try.prog 63 #[.agg (encR r).toArray] w fun e w' => e = .returned (.int .i64 (r.x1 - r.x0)) ∧ Below w.heap.size w w' := by
  obtain ⟨x0, y0, x1, y1⟩ := r
  simp only [okR, inR] at h
  obtain ⟨h1, h2, ⟨h3, h4⟩, ⟨h5, h6⟩, ⟨h7, h8⟩, ⟨h9, h10⟩⟩ := h
  show Calls Try.prog _ #[.agg #[.int .i64 x0, .int .i64 y0, .int .i64 x1, .int .i64 y1]] w fun e w' => e = .returned (.int .i64 (x1 - x0)) ∧ Below w.heap.size w w'
  go_enter Try.func63, Try.ntmps63
  go_wp2
  go_ret
  exact ⟨rfl, (Below.refl _ _).alloc (Nat.le_refl _) _⟩
set_option maxHeartbeats 1000000 in
theorem rHeight_any (r : R4) (h : okR r) (w : World) : Calls Try.prog 64 #[.agg (encR r).toArray] w fun e w' => e = .returned (.int .i64 (r.y1 - r.y0)) ∧ Below w.heap.size w w' := by
  obtain ⟨x0, y0, x1, y1⟩ := r
  simp only [okR, inR] at h
  obtain ⟨h1, h2, ⟨h3, h4⟩, ⟨h5, h6⟩, ⟨h7, h8⟩, ⟨h9, h10⟩⟩ := h
  show Calls Try.prog _ #[.agg #[.int .i64 x0, .int .i64 y0, .int .i64 x1, .int .i64 y1]] w fun e w' => e = .returned (.int .i64 (y1 - y0)) ∧ Below w.heap.size w w'
  go_enter Try.func64, Try.ntmps64
  go_wp2
  go_ret
  exact ⟨rfl, (Below.refl _ _).alloc (Nat.le_refl _) _⟩
theorem ok_pos {r : R4} (h : okR r) : 0 < r.x1 - r.x0 ∧ 0 < r.y1 - r.y0 ∧ r.x1 - r.x0 ≤ 2000000 ∧ r.y1 - r.y0 ≤ 2000000 := by
  obtain ⟨h1, h2, h3, h4, h5, h6⟩ := h
  unfold inR at h3 h4 h5 h6
  omega
set_option maxHeartbeats 2000000 in
theorem rArea_box (r : R4) (h : okR r) (w : World) : Calls Try.prog 41 #[.agg (encR r).toArray] w fun e w' => e = .returned (.int .i64 ((r.x1 - r.x0) * (r.y1 - r.y0))) ∧ Below w.heap.size w w' := by
  have HW := hide (fun W => rWidth_any r h W)
  have HH := hide (fun W => rHeight_any r h W)
  obtain ⟨h1, h2, h3, h4⟩ := ok_pos h
  have hm : IntKind.i64.wrap ((r.x1 - r.x0) * (r.y1 - r.y0)) = (r.x1 - r.x0) * (r.y1 - r.y0) := by
    have a1 : 0 ≤ (r.x1 - r.x0) * (r.y1 - r.y0) := Int.mul_nonneg (by omega) (by omega)
    have a2 : (r.x1 - r.x0) * (r.y1 - r.y0) ≤ 2000000 * 2000000 := Int.mul_le_mul h3 h4 (by omega) (by omega)
    exact IntWalk.i64_in _ (by omega)
  clear h h1 h2 h3 h4
  generalize r.x1 - r.x0 = ww at *
  generalize r.y1 - r.y0 = hh at *
  obtain ⟨x0, y0, x1, y1⟩ := r
  show Calls Try.prog _ #[.agg #[.int .i64 x0, .int .i64 y0, .int .i64 x1, .int .i64 y1]] w _
  simp only [encR] at HW HH
  go_enter Try.func41, Try.ntmps41
  go_wp2
  refine wp_hab fun hab => ?_
  refine wp_region_above (by kernel_rfl) (by kernel_rfl) ?_
  repeat (go_big_quiet_step (((first | (go_at_call 63; exact above_of (HW.out _)) | (go_at_call 64; exact above_of (HH.out _))))))
  refine wpQuiet_nil ?_
  refine above_ends fun w3 hb3 => ?_
  clear hab
  have HB := hide (((Below.refl w.heap.size w).alloc (Nat.le_refl _) (.cells #[.int .i64 x0, .int .i64 y0, .int .i64 x1, .int .i64 y1] 23)).trans (hb3.mono (by simp)))
  have HM := hide hm
  clear hb3 hm
  go_wp2_with (fail)
  go_ret
  exact ⟨by first | rfl | rw [HM.out], HB.out⟩
end Go.Proofs.Ytabogapiecciiaa

/- The reference of lots: the longest side in a front, good lots. -/
namespace Go.Proofs.Ytabogapiecciiaa
open Go.RowKit
set_option linter.unusedVariables false
set_option linter.unusedSimpArgs false

structure Box3 (w : World) (b : Nat) (v0 v1 v2 : Value) : Prop where
  c0 : w.cell? ⟨b, 0, none⟩ = some v0
  c1 : w.cell? ⟨b, 1, none⟩ = some v1
  c2 : w.cell? ⟨b, 2, none⟩ = some v2
theorem Box3.below {w w' : World} {b : Nat} {v0 v1 v2 : Value} (h : Box3 w b v0 v1 v2) (hb : Below w.heap.size w w') : Box3 w' b v0 v1 v2 := by
  have hs := lt_of_cell h.c0
  exact ⟨(hb.cell (p := ⟨b, 0, none⟩) hs).trans h.c0, (hb.cell (p := ⟨b, 1, none⟩) hs).trans h.c1, (hb.cell (p := ⟨b, 2, none⟩) hs).trans h.c2⟩
theorem Box5L.below {w w' : World} {b : Nat} {l : Lot5} (h : Box5L w b l) (hb : Below w.heap.size w w') : Box5L w' b l := Box5.below h hb
end Go.Proofs.Ytabogapiecciiaa

/- The walk of parcel.Cut. -/

namespace Go.Proofs.Ytabogapiecciiaa
open Go.RowKit
set_option linter.unusedVariables false
set_option linter.unusedSimpArgs false

def cutE (l : Lot5) (p : Pl3) : Lot5 × Lot5 × Int := if checkL l p = 0 then (if (cutR l p).2.2 = true then ((cutR l p).1, (cutR l p).2.1, 0) else (zeroL, zeroL, 6)) else (zeroL, zeroL, checkL l p)
theorem cutE_ok {l : Lot5} {p : Pl3} (h : checkL l p = 0) : cutE l p = if (cutR l p).2.2 = true then ((cutR l p).1, (cutR l p).2.1, 0) else (zeroL, zeroL, 6) := if_pos h
theorem cutE_bad {l : Lot5} {p : Pl3} (h : ¬ checkL l p = 0) : cutE l p = (zeroL, zeroL, checkL l p) := if_neg h
theorem checkL_valid {l : Lot5} {p : Pl3} (h : checkL l p = 0) : validL l := by
  unfold checkL at h
  by_cases hv : validL l
  · exact hv
  · rw [if_neg hv] at h; cases h
end Go.Proofs.Ytabogapiecciiaa

/- parcel.Split: what holds between its rounds; no walk yet. -/
namespace Go.Proofs.Ytabogapiecciiaa
open Go.RowKit
set_option linter.unusedVariables false
set_option linter.unusedSimpArgs false

def splitR (l : Lot5) (p : Pl3) : List Lot5 × Int := if checkL l p = 0 then (if (leaves p l).length ≤ 400 then (leaves p l, 0) else ([], 4)) else ([], checkL l p)
/-- Lots of the call's own and a code come back. -/
def LotsRet (w : World) (R : List Lot5 × Int) (e : Ending) (w' : World) : Prop :=
  (∃ A c, e = .returned (.tuple #[.slice A R.1.length c, .int .i64 R.2]) ∧ w'.ownsRow w.heap.size 25 5 (.slice A R.1.length c) R.1.length (R.1.flatMap encL)) ∧ Below w.heap.size w w'
theorem infoLot : (Try.prog.info? 25).map (fun i => (i.zero, i.size, i.bytes)) = some (some (.agg #[.int .i64 0, .int .i64 0, .int .i64 0, .int .i64 0, .int .u8 0]), 5, 40) := by kernel_rfl
theorem infoLand : (Try.prog.info? 92).map (fun i => (i.zero, i.size, i.bytes)) = some (some (.agg #[.int .i64 0, .int .i64 0, .int .i64 0, .int .i64 0, .int .u8 0]), 5, 40) := by kernel_rfl
theorem ty_ne : 25 ≠ 92 := by decide
/-- The lots on the stack, the next one last. -/
def stackL (p : Pl3) (S : List Lot5) : List Lot5 := S.reverse.flatMap (leaves p)
def nodesS (p : Pl3) (S : List Lot5) : Nat := (S.map (nodes p)).sum
structure StackOk (l : Lot5) (p : Pl3) (O S : List Lot5) : Prop where
  eq : O ++ stackL p S = leaves p l
  ok : ∀ (i : Nat) (x : Lot5), S[i]? = some x → validL x ∧ i + sizeL x ≤ sizeL l
  lenO : O.length ≤ 400
theorem StackOk.start {l : Lot5} {p : Pl3} (h : validL l) : StackOk l p [] [l] := ⟨by simp [stackL], fun i x hx => by
  cases i with
  | zero => simp at hx; subst hx; exact ⟨h, by omega⟩
  | succ i => simp at hx, by simp⟩
theorem StackOk.top {l x : Lot5} {p : Pl3} {O S : List Lot5} (h : StackOk l p O (S ++ [x])) : validL x ∧ S.length + sizeL x ≤ sizeL l := h.ok S.length x (by simp)
theorem StackOk.leaf {l x : Lot5} {p : Pl3} {O S : List Lot5} (h : StackOk l p O (S ++ [x])) (hc : cutL p x = none) (hn : O.length + 1 ≤ 400) : StackOk l p (O ++ [x]) S := ⟨by
  have := h.eq
  simp only [stackL, List.reverse_append, List.reverse_cons, List.reverse_nil, List.nil_append, List.cons_append, List.flatMap_cons, leaves_none hc] at this
  rw [← this]
  simp [stackL], fun i y hy => h.ok i y (by rw [List.getElem?_append_left (List.getElem?_eq_some_iff.1 hy).1]; exact hy), by simpa using hn⟩
theorem StackOk.many {l x : Lot5} {p : Pl3} {O S : List Lot5} (h : StackOk l p O (S ++ [x])) (hn : 400 < O.length + 1) : 400 < (leaves p l).length := by
  have h1 := h.eq
  have h2 := leaves_ne p x
  simp only [stackL, List.reverse_append, List.reverse_cons, List.reverse_nil, List.nil_append, List.cons_append, List.flatMap_cons] at h1
  rw [← h1]
  simp only [List.length_append]
  omega
theorem StackOk.cut {l x a b : Lot5} {p : Pl3} {O S : List Lot5} (h : StackOk l p O (S ++ [x])) (hc : cutL p x = some (a, b)) : StackOk l p O (S ++ [b, a]) := ⟨by
  have := h.eq
  simp only [stackL, List.reverse_append, List.reverse_cons, List.reverse_nil, List.nil_append, List.cons_append, List.flatMap_cons, leaves_some hc] at this
  rw [← this]
  simp [stackL], fun i y hy => by
    obtain ⟨_, g1, g2, _⟩ := cutL_some hc
    have hlt := cutL_lt hc
    obtain ⟨t1, t2⟩ := h.top
    by_cases hi : i < S.length
    · rw [List.getElem?_append_left hi] at hy
      exact h.ok i y (by rw [List.getElem?_append_left hi]; exact hy)
    · rw [List.getElem?_append_right (by omega)] at hy
      have : i = S.length ∨ i = S.length + 1 := by
        have := (List.getElem?_eq_some_iff.1 hy).1
        simp at this
        omega
      rcases this with rfl | rfl
      · simp at hy; subst hy; exact ⟨g2.1, by omega⟩
      · simp at hy; subst hy; exact ⟨g1.1, by omega⟩, h.lenO⟩
theorem nodes_leaf {p : Pl3} {x : Lot5} {S : List Lot5} (hc : cutL p x = none) : nodesS p (S ++ [x]) = nodesS p S + 1 := by
  simp [nodesS, nodes_none hc]
theorem nodes_cut {p : Pl3} {x a b : Lot5} {S : List Lot5} (hc : cutL p x = some (a, b)) : nodesS p (S ++ [x]) = nodesS p (S ++ [b, a]) + 1 := by
  simp [nodesS, nodes_some hc]; omega
theorem sizeL_le {l : Lot5} (h : validL l) : sizeL l ≤ 4000000 := by
  have := valid_pos h
  unfold sizeL; omega
theorem cutR_true {l a b : Lot5} {p : Pl3} (h : cutR l p = (a, b, true)) : cutL p l = some (a, b) := by
  unfold cutR at h
  split at h
  · rename_i x hx
    rw [hx]
    obtain ⟨x1, x2⟩ := x
    simp at h
    rw [h.1, h.2]
  · simp at h
theorem cutR_false {l a b : Lot5} {p : Pl3} (h : cutR l p = (a, b, false)) : cutL p l = none := by
  unfold cutR at h
  split at h
  · simp at h
  · rename_i hx; exact hx
/-- The two rows and the wishes, between the rounds. -/
structure Rows2 (n : Nat) (w : World) (p : Pl3) (O S : List Lot5) (ov sv : Value) (no ns : Nat) (wr : World) : Prop where
  rowO : wr.ownsRow (n + 2) 25 5 ov no (O.flatMap encL)
  rowS : wr.ownsRow (n + 2) 92 5 sv ns (S.flatMap encL)
  below : Below n w wr
  size : n + 2 ≤ wr.heap.size
  box : Box3 wr (n + 1) (.int .i64 p.mf) (.int .i64 p.ms) (.int .i64 p.ma)
theorem Rows2.keep {n : Nat} {w wr w' : World} {p : Pl3} {O S : List Lot5} {ov sv : Value} {no ns : Nat} (h : Rows2 n w p O S ov sv no ns wr) (hb : Below wr.heap.size wr w') : Rows2 n w p O S ov sv no ns w' :=
  ⟨own_below h.rowO hb, own_below h.rowS hb, h.below.trans (hb.mono (by have := h.size; omega)), Nat.le_trans h.size hb.size, h.box.below hb⟩
theorem Rows2.pop {n : Nat} {w wr : World} {p : Pl3} {O S : List Lot5} {x : Lot5} {ov : Value} {no g k cp : Nat} (h : Rows2 n w p O (S ++ [x]) ov (.slice (some ⟨g, 0, none⟩) (k + 1) cp) no (k + 1) wr) : Rows2 n w p O S ov (.slice (some ⟨g, 0, none⟩) k cp) no k wr := by
  have h1 := h.rowS
  rw [List.flatMap_append] at h1
  have hl := h1.1
  rw [List.length_append] at hl
  have e1 : ([x].flatMap encL).length = 5 := rfl
  exact ⟨h.rowO, ownsRow_pop (by omega) h1, h.below, h.size, h.box⟩
theorem Rows2.grow {n : Nat} {w wr w' : World} {row : Option Nat} (hb : Below n w wr) (hs : n + 2 ≤ wr.heap.size) (hg : wr.grownBy w' row) (hr : ∀ q, row = some q → n + 2 ≤ q) : Below n w w' ∧ n + 2 ≤ w'.heap.size :=
  ⟨hb.grown hg (by omega) (fun q hq => by have := hr q hq; omega), Nat.le_trans hs hg.size⟩
theorem box_grown {w w' : World} {b : Nat} {v0 v1 v2 : Value} {row : Option Nat} (h : Box3 w b v0 v1 v2) (hg : w.grownBy w' row) (hr : ∀ q, row = some q → q ≠ b) : Box3 w' b v0 v1 v2 := by
  have hs := lt_of_cell h.c0
  have hb : w'.heap[b]? = w.heap[b]? := hg.block b hs (fun e => hr b e.symm rfl)
  exact ⟨(World.cell?_of_block (a := ⟨b, 0, none⟩) hb).trans h.c0, (World.cell?_of_block (a := ⟨b, 1, none⟩) hb).trans h.c1, (World.cell?_of_block (a := ⟨b, 2, none⟩) hb).trans h.c2⟩
theorem Rows2.pushO {n : Nat} {w wr w' : World} {p : Pl3} {O O' S : List Lot5} {ov ov' sv : Value} {no no' ns : Nat} (h : Rows2 n w p O S ov sv no ns wr) (hg : wr.grownBy w' ov.ownBlock) (ho : w'.ownsRow (n + 2) 25 5 ov' no' (O'.flatMap encL)) : Rows2 n w p O' S ov' sv no' ns w' := by
  have hr : ∀ q, ov.ownBlock = some q → n + 2 ≤ q := fun q hq => (h.rowO.lt q hq).1
  obtain ⟨h1, h2⟩ := Rows2.grow h.below h.size hg hr
  exact ⟨ho, h.rowS.kept hg (own_apart h.rowS h.rowO ty_ne.symm), h1, h2, box_grown h.box hg (fun q hq => by have := hr q hq; omega)⟩
theorem Rows2.pushS {n : Nat} {w wr w' : World} {p : Pl3} {O S S' : List Lot5} {ov sv sv' : Value} {no ns ns' : Nat} (h : Rows2 n w p O S ov sv no ns wr) (hg : wr.grownBy w' sv.ownBlock) (ho : w'.ownsRow (n + 2) 92 5 sv' ns' (S'.flatMap encL)) : Rows2 n w p O S' ov sv' no ns' w' := by
  have hr : ∀ q, sv.ownBlock = some q → n + 2 ≤ q := fun q hq => (h.rowS.lt q hq).1
  obtain ⟨h1, h2⟩ := Rows2.grow h.below h.size hg hr
  exact ⟨h.rowO.kept hg (own_apart h.rowO h.rowS ty_ne), ho, h1, h2, box_grown h.box hg (fun q hq => by have := hr q hq; omega)⟩
theorem row_cap {w : World} {base : Nat} {e : TypeId} {size g n cap : Nat} {xs : List Value} (h : w.ownsRow base e size (.slice (some ⟨g, 0, none⟩) n cap) n xs) : n ≤ cap := by
  rcases h.2 with ⟨h0, _⟩ | ⟨g', cap', cur, hv, _, _, hn, _⟩
  · cases h0
  · cases hv; exact hn
/-- The next lot's cells. -/
theorem Rows2.top {n : Nat} {w wr : World} {p : Pl3} {O S : List Lot5} {x : Lot5} {ov : Value} {no g k cp : Nat} (h : Rows2 n w p O (S ++ [x]) ov (.slice (some ⟨g, 0, none⟩) (k + 1) cp) no (k + 1) wr) : S.length = k ∧ ∀ i u, (encL x)[i]? = some u → wr.cell? ⟨g, k * 5 + i, none⟩ = some u := by
  have h1 := h.rowS
  have hl := own_len h1 (fun _ => rfl) (by omega)
  simp at hl
  refine ⟨hl.symm, fun i u hu => ?_⟩
  have := h1.cells (g := g) rfl _ _ (flat_get (k := 5) (fun _ => rfl) (S ++ [x]) k x i u (by rw [hl]; simp) hu)
  rw [addr_add] at this
  exact this
end Go.Proofs.Ytabogapiecciiaa

/- The walks of lots' small functions: beside, the closure of on, on, fine. -/
namespace Go.Proofs.Ytabogapiecciiaa
open Go.RowKit
set_option linter.unusedVariables false
set_option linter.unusedSimpArgs false

set_option maxHeartbeats 4000000 in
theorem lbeside_any (r : R4) (i : Nat) (hi : i < 4) (h : okR r) (w : World) : Calls Try.prog 23 #[.agg (encR r).toArray, .int .i64 i] w fun e w' => e = .returned (.agg (encR (besF r i)).toArray) ∧ Below w.heap.size w w' := by
  obtain ⟨x0, y0, x1, y1⟩ := r
  simp only [okR, inR] at h
  obtain ⟨h1, h2, ⟨h3, h4⟩, ⟨h5, h6⟩, ⟨h7, h8⟩, ⟨h9, h10⟩⟩ := h
  have hb : ∀ (Z : World) (v : Value), Z = Z → True := fun _ _ _ => trivial
  clear hb
  match i, hi with
  | 0, _ =>
    show Calls Try.prog _ #[.agg #[.int .i64 x0, .int .i64 y0, .int .i64 x1, .int .i64 y1], .int .i64 0] w fun e w' => e = .returned (.agg #[.int .i64 (x0 - 1), .int .i64 y0, .int .i64 x0, .int .i64 y1]) ∧ Below w.heap.size w w'
    go_enter Try.func23, Try.ntmps23
    go_wp2
    refine bodyPost_ret (v := .agg #[.int .i64 (x0 - 1), .int .i64 y0, .int .i64 x0, .int .i64 y1]) (by simp [results, Try.results23, go_sem]) rfl ⟨rfl, ?_⟩
    repeat (first | with_reducible exact Below.refl _ _ | with_reducible refine Below.setCell ?_ (by first | (simp; done) | (simp; omega)) _ | with_reducible refine Below.alloc ?_ (by first | omega | (simp; omega) | simp) _)
  | 1, _ =>
    show Calls Try.prog _ #[.agg #[.int .i64 x0, .int .i64 y0, .int .i64 x1, .int .i64 y1], .int .i64 1] w fun e w' => e = .returned (.agg #[.int .i64 x1, .int .i64 y0, .int .i64 (x1 + 1), .int .i64 y1]) ∧ Below w.heap.size w w'
    go_enter Try.func23, Try.ntmps23
    go_wp2
    refine bodyPost_ret (v := .agg #[.int .i64 x1, .int .i64 y0, .int .i64 (x1 + 1), .int .i64 y1]) (by simp [results, Try.results23, go_sem]) rfl ⟨rfl, ?_⟩
    repeat (first | with_reducible exact Below.refl _ _ | with_reducible refine Below.setCell ?_ (by first | (simp; done) | (simp; omega)) _ | with_reducible refine Below.alloc ?_ (by first | omega | (simp; omega) | simp) _)
  | 2, _ =>
    show Calls Try.prog _ #[.agg #[.int .i64 x0, .int .i64 y0, .int .i64 x1, .int .i64 y1], .int .i64 2] w fun e w' => e = .returned (.agg #[.int .i64 x0, .int .i64 (y0 - 1), .int .i64 x1, .int .i64 y0]) ∧ Below w.heap.size w w'
    go_enter Try.func23, Try.ntmps23
    go_wp2
    refine bodyPost_ret (v := .agg #[.int .i64 x0, .int .i64 (y0 - 1), .int .i64 x1, .int .i64 y0]) (by simp [results, Try.results23, go_sem]) rfl ⟨rfl, ?_⟩
    repeat (first | with_reducible exact Below.refl _ _ | with_reducible refine Below.setCell ?_ (by first | (simp; done) | (simp; omega)) _ | with_reducible refine Below.alloc ?_ (by first | omega | (simp; omega) | simp) _)
  | 3, _ =>
    show Calls Try.prog _ #[.agg #[.int .i64 x0, .int .i64 y0, .int .i64 x1, .int .i64 y1], .int .i64 3] w fun e w' => e = .returned (.agg #[.int .i64 x0, .int .i64 y1, .int .i64 x1, .int .i64 (y1 + 1)]) ∧ Below w.heap.size w w'
    go_enter Try.func23, Try.ntmps23
    go_wp2
    refine bodyPost_ret (v := .agg #[.int .i64 x0, .int .i64 y1, .int .i64 x1, .int .i64 (y1 + 1)]) (by simp [results, Try.results23, go_sem]) rfl ⟨rfl, ?_⟩
    repeat (first | with_reducible exact Below.refl _ _ | with_reducible refine Below.setCell ?_ (by first | (simp; done) | (simp; omega)) _ | with_reducible refine Below.alloc ?_ (by first | omega | (simp; omega) | simp) _)
/-- The bounds of a rectangle beside a valid one. -/
def midR (r : R4) : Prop := -1000001 ≤ r.x0 ∧ r.x0 ≤ 1000001 ∧ -1000001 ≤ r.y0 ∧ r.y0 ≤ 1000001 ∧ -1000001 ≤ r.x1 ∧ r.x1 ≤ 1000001 ∧ -1000001 ≤ r.y1 ∧ r.y1 ≤ 1000001 ∧ r.x1 - r.x0 ≤ 2000000 ∧ r.y1 - r.y0 ≤ 2000000
theorem bes_mid {r : R4} (h : okR r) (i : Nat) : midR (besF r i) := by
  unfold okR inR at h
  unfold besF midR
  split <;> (simp only; omega)
set_option maxHeartbeats 4000000 in
theorem onC_any (r q : R4) (hr : midR r) (hq : okR q) (s : Int) (b c : Nat) (w : World) (hs : 0 ≤ s ∧ s ≤ 4000000000000000) (hne : b ≠ c)
    (d0 : w.cell? ⟨b, 0, none⟩ = some (.int .i64 r.x0)) (d1 : w.cell? ⟨b, 1, none⟩ = some (.int .i64 r.y0)) (d2 : w.cell? ⟨b, 2, none⟩ = some (.int .i64 r.x1)) (d3 : w.cell? ⟨b, 3, none⟩ = some (.int .i64 r.y1))
    (e0 : w.cell? ⟨c, 0, none⟩ = some (.int .i64 s)) (f0 : w.frozen? ⟨c, 0, none⟩ = false) :
    Calls Try.prog 42 #[.agg (encR q).toArray, .pointer (some ⟨b, 0, none⟩), .pointer (some ⟨c, 0, none⟩)] w fun e w' => e = .returned (.tuple #[]) ∧
      w'.cell? ⟨c, 0, none⟩ = some (.int .i64 (s + onQ r q)) ∧ w'.frozen? ⟨c, 0, none⟩ = false ∧ Upd c none w w' := by
  have hbd := onQ_bd r q hr.2.2.2.2.2.2.2.2.1 hr.2.2.2.2.2.2.2.2.2
  have HQ := hide (show onQ r q = if 0 < min r.x1 q.x1 - max r.x0 q.x0 ∧ 0 < min r.y1 q.y1 - max r.y0 q.y0 then (min r.x1 q.x1 - max r.x0 q.x0) * (min r.y1 q.y1 - max r.y0 q.y0) else 0 from rfl)
  obtain ⟨x0, y0, x1, y1⟩ := r
  obtain ⟨u0, v0, u1, v1⟩ := q
  simp only [okR, inR] at hq
  simp only [midR] at hr
  obtain ⟨h1, h2, ⟨h3, h4⟩, ⟨h5, h6⟩, ⟨h7, h8⟩, ⟨h9, h10⟩⟩ := hq
  obtain ⟨g1, g2, g3, g4, g5, g6, g7, g8, g9, g10⟩ := hr
  obtain ⟨s1, s2⟩ := hs
  obtain ⟨k1, k2⟩ := hbd
  simp only at d0 d1 d2 d3
  have lb := lt_of_cell d0
  have lc := lt_of_cell e0
  have nb : b ≠ w.heap.size := by omega
  have nc : c ≠ w.heap.size := by omega
  generalize onQ (⟨x0, y0, x1, y1⟩ : R4) ⟨u0, v0, u1, v1⟩ = Q at *
  simp only at HQ
  show Calls Try.prog _ #[.agg #[.int .i64 u0, .int .i64 v0, .int .i64 u1, .int .i64 v1], .pointer (some ⟨b, 0, none⟩), .pointer (some ⟨c, 0, none⟩)] w _
  have fin : ∀ Z : Int, Q = Z → ∀ W : World, W.cell? ⟨c, 0, none⟩ = some (.int .i64 s) → True := fun _ _ _ _ => trivial
  clear fin
  by_cases t1 : 0 < min x1 u1 - max x0 u0
  · by_cases t2 : 0 < min y1 v1 - max y0 v0
    · have e : Q = (min x1 u1 - max x0 u0) * (min y1 v1 - max y0 v0) := by rw [HQ.out, if_pos ⟨t1, t2⟩]
      rw [e] at k1 k2 ⊢
      have z1 : IntKind.i64.wrap ((min x1 u1 - max x0 u0) * (min y1 v1 - max y0 v0)) = (min x1 u1 - max x0 u0) * (min y1 v1 - max y0 v0) := IntWalk.i64_in _ (by omega)
      have z2 : IntKind.i64.wrap (s + (min x1 u1 - max x0 u0) * (min y1 v1 - max y0 v0)) = s + (min x1 u1 - max x0 u0) * (min y1 v1 - max y0 v0) := IntWalk.i64_in _ (by omega)
      clear HQ e
      go_enter Try.func42, Try.ntmps42
      go_wp2
      refine wp_hab fun hab => ?_
      refine wp_region_above (by kernel_rfl) (by kernel_rfl) ?_
      repeat (go_big_quiet_step (fail))
      refine wpQuiet_nil ?_
      refine above_ends fun w3 hb3 => ?_
      clear hab
      have hbW : Below w.heap.size w w3 := ((Below.refl _ _).alloc (Nat.le_refl _) _).trans (hb3.mono (by first | omega | simp))
      have c3 := (hbW.cell (p := ⟨c, 0, none⟩) lc).trans e0
      have f3 := (hbW.frozen (p := ⟨c, 0, none⟩) lc).trans f0
      have K3 : Hid (Upd c none w w3) := hide (Upd.of_below hbW)
      clear hb3 hbW
      go_wp2_with (fail)
      refine bodyPost_end (results_none rfl _ _ _) rfl ?_
      exact ⟨rfl, by simp [go_sem, c3], by simp [go_sem, f3], K3.out.setCell _ _⟩
    · have e : Q = 0 := by rw [HQ.out, if_neg (fun h => t2 h.2)]
      rw [e, Int.add_zero]
      clear HQ e k1 k2
      go_enter Try.func42, Try.ntmps42
      go_wp2
      refine wp_hab fun hab => ?_
      refine wp_region_above (by kernel_rfl) (by kernel_rfl) ?_
      repeat (go_big_quiet_step (fail))
      refine wpQuiet_nil ?_
      refine above_ends fun w3 hb3 => ?_
      clear hab
      have hbW : Below w.heap.size w w3 := ((Below.refl _ _).alloc (Nat.le_refl _) _).trans (hb3.mono (by first | omega | simp))
      have c3 := (hbW.cell (p := ⟨c, 0, none⟩) lc).trans e0
      have f3 := (hbW.frozen (p := ⟨c, 0, none⟩) lc).trans f0
      have K3 : Hid (Upd c none w w3) := hide (Upd.of_below hbW)
      clear hb3 hbW
      go_wp2_with (fail)
      refine bodyPost_end (results_none rfl _ _ _) rfl ?_
      exact ⟨rfl, c3, f3, K3.out⟩
  · have e : Q = 0 := by rw [HQ.out, if_neg (fun h => t1 h.1)]
    rw [e, Int.add_zero]
    clear HQ e k1 k2
    go_enter Try.func42, Try.ntmps42
    go_wp2
    refine wp_hab fun hab => ?_
    refine wp_region_above (by kernel_rfl) (by kernel_rfl) ?_
    repeat (go_big_quiet_step (fail))
    refine wpQuiet_nil ?_
    refine above_ends fun w3 hb3 => ?_
    clear hab
    have hbW : Below w.heap.size w w3 := ((Below.refl _ _).alloc (Nat.le_refl _) _).trans (hb3.mono (by first | omega | simp))
    have c3 := (hbW.cell (p := ⟨c, 0, none⟩) lc).trans e0
    have f3 := (hbW.frozen (p := ⟨c, 0, none⟩) lc).trans f0
    have K3 : Hid (Upd c none w w3) := hide (Upd.of_below hbW)
    clear hb3 hbW
    go_wp2_with (fail)
    refine bodyPost_end (results_none rfl _ _ _) rfl ?_
    exact ⟨rfl, c3, f3, K3.out⟩
end Go.Proofs.Ytabogapiecciiaa

/- The walk of lots' on. -/
namespace Go.Proofs.Ytabogapiecciiaa
open Go.RowKit
set_option linter.unusedVariables false
set_option linter.unusedSimpArgs false

/-- The boxes of on: its rectangle, and its sum. -/
structure OnI (n : Nat) (w : World) (r : R4) (t : Int) (wr : World) : Prop where
  d0 : wr.cell? ⟨n, 0, none⟩ = some (.int .i64 r.x0)
  d1 : wr.cell? ⟨n, 1, none⟩ = some (.int .i64 r.y0)
  d2 : wr.cell? ⟨n, 2, none⟩ = some (.int .i64 r.x1)
  d3 : wr.cell? ⟨n, 3, none⟩ = some (.int .i64 r.y1)
  e0 : wr.cell? ⟨n + 1, 0, none⟩ = some (.int .i64 t)
  f0 : wr.frozen? ⟨n + 1, 0, none⟩ = false
  below : Below n w wr
  size : n + 2 ≤ wr.heap.size
theorem OnI.keep {n : Nat} {w wr w' : World} {r : R4} {t : Int} (h : OnI n w r t wr) (hb : Below wr.heap.size wr w') : OnI n w r t w' := by
  have := h.size
  exact ⟨(hb.cell (p := ⟨n, 0, none⟩) (by simp; omega)).trans h.d0, (hb.cell (p := ⟨n, 1, none⟩) (by simp; omega)).trans h.d1, (hb.cell (p := ⟨n, 2, none⟩) (by simp; omega)).trans h.d2, (hb.cell (p := ⟨n, 3, none⟩) (by simp; omega)).trans h.d3, (hb.cell (p := ⟨n + 1, 0, none⟩) (by simp; omega)).trans h.e0, (hb.frozen (p := ⟨n + 1, 0, none⟩) (by simp; omega)).trans h.f0, h.below.trans (hb.mono (by omega)), Nat.le_trans h.size hb.size⟩
theorem OnI.next {n : Nat} {w wr w' : World} {r : R4} {t u : Int} (h : OnI n w r t wr) (e0 : w'.cell? ⟨n + 1, 0, none⟩ = some (.int .i64 u)) (f0 : w'.frozen? ⟨n + 1, 0, none⟩ = false) (hu : Upd (n + 1) none wr w') : OnI n w r u w' := by
  have := h.size
  exact ⟨(hu.cell (by omega) (by omega) (by simp)).trans h.d0, (hu.cell (by omega) (by omega) (by simp)).trans h.d1, (hu.cell (by omega) (by omega) (by simp)).trans h.d2, (hu.cell (by omega) (by omega) (by simp)).trans h.d3, e0, f0, h.below.trans (hu.below (by omega) (by omega) (by simp)), Nat.le_trans h.size hu.size⟩
set_option maxHeartbeats 4000000 in
theorem on_any (r : R4) (hr : midR r) {w : World} {v : Value} {s : List R4} (hs : RdK encR 4 w w.heap.size v s) (hv : ∀ q ∈ s, okR q) (hl : s.length ≤ 400) :
    Calls Try.prog 22 #[.agg (encR r).toArray, v] w fun e w' => e = .returned (.int .i64 (onF r s)) ∧ Below w.heap.size w w' := by
  obtain ⟨A, c, hvv, hc⟩ := id hs
  subst hvv
  have HRC := hide hc
  have HV := hide hv
  have HM := hide hr
  have HBD : Hid (∀ m : Nat, 0 ≤ onF r (s.take m) ∧ onF r (s.take m) ≤ 4000000000000000) := hide (fun m => by
    have h1 := onF_bd (r := r) hr.2.2.2.2.2.2.2.2.1 hr.2.2.2.2.2.2.2.2.2 (s.take m)
    have h2 : (s.take m).length ≤ 400 := by rw [List.length_take]; omega
    omega)
  have HT : Hid (onF r (s.take s.length) = onF r s) := hide (by rw [List.take_length])
  clear hc hv hr hs
  show Calls Try.prog _ #[.agg #[.int .i64 r.x0, .int .i64 r.y0, .int .i64 r.x1, .int .i64 r.y1], .slice A s.length c] w _
  go_enter Try.func22, Try.ntmps22
  go_upto_region 3 with fail
  refine wp_name5 fun w2 hw2 => ?_
  have HI : Hid (OnI w.heap.size w r 0 w2) := hide (by
    rw [hw2]
    refine ⟨?_, ?_, ?_, ?_, ?_, ?_, ?_, ?_⟩
    all_goals first
      | (simp [go_sem]; done)
      | (repeat (first | with_reducible exact Below.refl _ _ | with_reducible refine Below.setCell ?_ (by first | (simp; done) | (simp; omega)) _ | with_reducible refine Below.alloc ?_ (by first | omega | (simp; omega) | simp) _))
      | (simp; omega))
  generalize hn : w.heap.size = n at *
  have HN := hide hn
  clear hw2 hn
  have lz : (s.length : Int) ≤ 400 := by omega
  go_wp2_with (fail)
  go_loopw [12] (fun i wr => ∃ m : Nat, m ≤ s.length ∧ i = .int .i64 m ∧ Hid (OnI n w r (onF r (s.take m)) wr)) (fun i _ => s.length - (intOf i).toNat)
  case atStart => exact ⟨0, Nat.zero_le _, rfl, HI⟩
  case round =>
    clear HI
    obtain ⟨m, hm, rfl, HI⟩ := hrel
    by_cases hlt : m < s.length
    · obtain ⟨q, hp⟩ : ∃ p, s[m]? = some p := ⟨_, List.getElem?_eq_getElem hlt⟩
      obtain ⟨b, o, rfl, hbl, k⟩ := HRC.out (by intro e; rw [e] at hlt; simp at hlt)
      have hb := HI.out.below
      have hsz := HI.out.size
      have d0 : wr.cell? ⟨b, o + m * 4, none⟩ = some (.int .i64 q.x0) := (hb.cell (p := ⟨b, _, none⟩) hbl).trans (k m _ hp 0 _ rfl)
      have d1 : wr.cell? ⟨b, o + m * 4 + 1, none⟩ = some (.int .i64 q.y0) := (hb.cell (p := ⟨b, _, none⟩) hbl).trans (k m _ hp 1 _ rfl)
      have d2 : wr.cell? ⟨b, o + m * 4 + 2, none⟩ = some (.int .i64 q.x1) := (hb.cell (p := ⟨b, _, none⟩) hbl).trans (k m _ hp 2 _ rfl)
      have d3 : wr.cell? ⟨b, o + m * 4 + 3, none⟩ = some (.int .i64 q.y1) := (hb.cell (p := ⟨b, _, none⟩) hbl).trans (k m _ hp 3 _ rfl)
      have hq := HV.out q (List.mem_of_getElem? hp)
      have HE := hide (onF_take (r := r) hp)
      have mz : (m : Int) < (s.length : Int) := by omega
      have HC : Hid (∀ W : World, OnI n w r (onF r (s.take m)) W → Calls Try.prog 42 #[.agg #[.int .i64 q.x0, .int .i64 q.y0, .int .i64 q.x1, .int .i64 q.y1], .pointer (some ⟨n, 0, none⟩), .pointer (some ⟨n + 1, 0, none⟩)] W fun e w' => e = .returned (.tuple #[]) ∧ OnI n w r (onF r (s.take (m + 1))) w') := hide (fun W hW => (onC_any r q HM.out hq _ n (n + 1) W (HBD.out m) (by omega) hW.d0 hW.d1 hW.d2 hW.d3 hW.e0 hW.f0).mono fun e w' ⟨he, e0, f0, hu⟩ => ⟨he, by rw [HE.out]; exact hW.next e0 f0 hu⟩)
      clear hb k hp hq HE
      go_wp2_with (fail)
      refine (HC.out _ (HI.out.keep ((Below.refl _ _).alloc (Nat.le_refl _) _))).mono ?_
      rintro e w3 ⟨rfl, h3⟩
      have HI3 := hide h3
      clear h3 HC HI d0 d1 d2 d3
      go_wp2_with (fail)
      go_roundw
      case rel => exact ⟨m + 1, by omega, by go_num, HI3⟩
      case measure => simp [intOf]; omega
    · obtain rfl : m = s.length := by omega
      obtain ⟨_, _, _, _, e0, _, hb, _⟩ := HI.out
      have HB := hide hb
      rw [HT.out] at e0
      clear hb
      go_wp2
      go_ret
      exact ⟨rfl, by rw [HN.out]; exact HB.out⟩
end Go.Proofs.Ytabogapiecciiaa

/- Plain: the parcels of blocks, and what the laws say of them. -/
namespace Go.Proofs.Ytabogapiecciiaa
open Go.RowKit
set_option linter.unusedVariables false
set_option linter.unusedSimpArgs false

structure Par6 where
  b : Int
  l : Lot5
deriving DecidableEq
def encQ (x : Par6) : List Value := .int .i64 x.b :: encL x.l
/-- The lots of one rectangle, with the code. -/
def rectR (s : List R4) (p : Pl3) (r : R4) : List Lot5 × Int := if frF r s = 0 then ([⟨r, 0⟩], 0) else splitR ⟨r, frF r s⟩ p
def pcR (s : List R4) (p : Pl3) (k : Nat) (r : R4) : List Par6 := (rectR s p r).1.map (Par6.mk (k : Int))
def pcB (s : List R4) (p : Pl3) (k : Nat) (b : List R4) : List Par6 := b.flatMap (pcR s p k)
def pcA (s : List R4) (p : Pl3) : Nat → List (List R4) → List Par6
  | _, [] => []
  | k, b :: bs => pcB s p k b ++ pcA s p (k + 1) bs
def fewF (s : List R4) (p : Pl3) (bs : List (List R4)) : Bool := bs.all fun b => b.all fun r => decide ((rectR s p r).2 = 0)
/-- The first error among the blocks. -/
def badF : List (List R4) → Int
  | [] => 0
  | b :: bs => if checkF b = 0 then badF bs else checkF b
def okW (p : Pl3) : Int := checkL ⟨⟨0, 0, 1, 1⟩, 1⟩ p
def lotsF (bs : List (List R4)) (s : List R4) (p : Pl3) : List Par6 × Int :=
  if checkF s ≠ 0 then ([], checkF s) else if 400 < bs.length then ([], 4) else if badF bs ≠ 0 then ([], badF bs) else if okW p ≠ 0 then ([], 2)
  else if fewF s p bs = true ∧ (pcA s p 0 bs).length ≤ 600 then (pcA s p 0 bs, 0) else ([], 4)
theorem pcA_append (s : List R4) (p : Pl3) : ∀ (k : Nat) (a b : List (List R4)), pcA s p k (a ++ b) = pcA s p k a ++ pcA s p (k + a.length) b
  | k, [], b => rfl
  | k, x :: a, b => by
    simp only [List.cons_append, pcA, pcA_append s p (k + 1) a b, List.append_assoc, List.length_cons]
    rw [show k + 1 + a.length = k + (a.length + 1) by omega]
theorem pcA_at (s : List R4) (p : Pl3) {bs : List (List R4)} {m : Nat} {b : List R4} (h : bs[m]? = some b) : pcA s p 0 (bs.take (m + 1)) = pcA s p 0 (bs.take m) ++ pcB s p m b := by
  have hm : m < bs.length := (List.getElem?_eq_some_iff.1 h).1
  rw [List.take_add_one, h, pcA_append]
  simp [pcA, List.length_take, Nat.min_eq_left (Nat.le_of_lt hm)]
theorem pcB_at (s : List R4) (p : Pl3) (k : Nat) {b : List R4} {j : Nat} {r : R4} (h : b[j]? = some r) : pcB s p k (b.take (j + 1)) = pcB s p k (b.take j) ++ pcR s p k r := by
  unfold pcB
  rw [List.take_add_one, h, List.flatMap_append]
  simp
/-- What has come so far is a first part of all. -/
theorem pcA_le (s : List R4) (p : Pl3) {bs : List (List R4)} {m : Nat} {b : List R4} (h : bs[m]? = some b) (j : Nat) : (pcA s p 0 (bs.take m)).length + (pcB s p m (b.take j)).length ≤ (pcA s p 0 bs).length := by
  have h1 : pcA s p 0 bs = pcA s p 0 (bs.take (m + 1)) ++ pcA s p (0 + (bs.take (m + 1)).length) (bs.drop (m + 1)) := by rw [← pcA_append, List.take_append_drop]
  have h2 : pcB s p m b = pcB s p m (b.take j) ++ pcB s p m (b.drop j) := by unfold pcB; rw [← List.flatMap_append, List.take_append_drop]
  rw [h1, pcA_at s p h, h2]
  simp only [List.length_append]
  omega
theorem few_at {s : List R4} {p : Pl3} {bs : List (List R4)} {m j : Nat} {b : List R4} {r : R4} (h : bs[m]? = some b) (hr : b[j]? = some r) (hn : (rectR s p r).2 ≠ 0) : fewF s p bs = false := by
  unfold fewF
  rw [List.all_eq_false]
  refine ⟨b, List.mem_of_getElem? h, ?_⟩
  rw [Bool.not_eq_true, List.all_eq_false]
  exact ⟨r, List.mem_of_getElem? hr, by simpa using hn⟩
theorem bad_of {bs : List (List R4)} {m : Nat} {b : List R4} (h0 : ∀ j x, j < m → bs[j]? = some x → checkF x = 0) (h : bs[m]? = some b) (hb : checkF b ≠ 0) : badF bs = checkF b := by
  induction bs generalizing m with
  | nil => cases h
  | cons a bs ih =>
    cases m with
    | zero => simp at h; subst h; simp [badF, hb]
    | succ m =>
      have := h0 0 a (by omega) rfl
      simp only [badF, this, if_true]
      exact ih (m := m) (fun j x hj hx => h0 (j + 1) x (Nat.succ_lt_succ hj) (by simpa using hx)) (by simpa using h)
theorem bad_none {bs : List (List R4)} (h0 : ∀ j x, j < bs.length → bs[j]? = some x → checkF x = 0) : badF bs = 0 := by
  induction bs with
  | nil => rfl
  | cons a bs ih =>
    have := h0 0 a (by simp) rfl
    simp only [badF, this, if_true]
    exact ih fun j x hj hx => h0 (j + 1) x (by simpa using hj) (by simpa using hx)
theorem okW_eq (p : Pl3) : okW p = if okP p then 0 else 2 := by
  unfold okW checkL
  rw [if_pos (by decide)]
theorem check_lot {r : R4} {f : Int} {p : Pl3} (hr : okR r) (hf : 1 ≤ f ∧ f ≤ 15) (hp : okW p = 0) : checkL ⟨r, f⟩ p = 0 := by
  unfold checkL
  rw [if_pos ⟨hr, hf⟩, ← okW_eq, hp]
theorem fr_pos {r : R4} {s : List R4} (h : frF r s ≠ 0) : 1 ≤ frF r s ∧ frF r s ≤ 15 := by
  obtain ⟨_, _, _, _, h1, h2⟩ := fr_has r s
  omega
theorem rect_len (s : List R4) (p : Pl3) (r : R4) : (rectR s p r).1.length ≤ 400 := by
  unfold rectR
  split
  · simp
  · unfold splitR
    split
    · split
      · assumption
      · simp
    · simp
theorem rect_code {s : List R4} {p : Pl3} {r : R4} (hr : okR r) (hp : okW p = 0) (h : frF r s ≠ 0) : rectR s p r = if (leaves p ⟨r, frF r s⟩).length ≤ 400 then (leaves p ⟨r, frF r s⟩, 0) else ([], 4) := by
  unfold rectR splitR
  rw [if_neg h, if_pos (check_lot hr (fr_pos h) hp)]
/-- A parcel's lot: the whole rectangle without a front, or one of its lots. -/
def ofRect (s : List R4) (p : Pl3) (r : R4) (l : Lot5) : Prop := (frF r s = 0 ∧ l = ⟨r, 0⟩) ∨ (frF r s ≠ 0 ∧ l ∈ leaves p ⟨r, frF r s⟩)
theorem rect_of {s : List R4} {p : Pl3} {r : R4} {l : Lot5} (hr : okR r) (hp : okW p = 0) (h : l ∈ (rectR s p r).1) : ofRect s p r l := by
  by_cases h0 : frF r s = 0
  · unfold rectR at h
    rw [if_pos h0, List.mem_singleton] at h
    exact .inl ⟨h0, h⟩
  · rw [rect_code hr hp h0] at h
    split at h
    · exact .inr ⟨h0, h⟩
    · cases h
theorem pcB_mem {s : List R4} {p : Pl3} {k : Nat} {b : List R4} {x : Par6} : x ∈ pcB s p k b ↔ x.b = k ∧ ∃ r ∈ b, x.l ∈ (rectR s p r).1 := by
  unfold pcB pcR
  simp only [List.mem_flatMap, List.mem_map]
  constructor
  · rintro ⟨r, hr, l, hl, rfl⟩
    exact ⟨rfl, r, hr, hl⟩
  · rintro ⟨hb, r, hr, hl⟩
    exact ⟨r, hr, x.l, hl, by rw [← hb]⟩
theorem pcA_mem {s : List R4} {p : Pl3} {x : Par6} : ∀ {k : Nat} {bs : List (List R4)}, x ∈ pcA s p k bs ↔ ∃ j b, bs[j]? = some b ∧ x.b = ((k + j : Nat) : Int) ∧ ∃ r ∈ b, x.l ∈ (rectR s p r).1
  | k, [] => by simp [pcA]
  | k, b :: bs => by
    simp only [pcA, List.mem_append, pcB_mem, pcA_mem (k := k + 1) (bs := bs)]
    constructor
    · rintro (⟨h1, h2⟩ | ⟨j, c, h1, h2, h3⟩)
      · exact ⟨0, b, rfl, h1, h2⟩
      · exact ⟨j + 1, c, by simpa using h1, by rw [h2]; congr 1; omega, h3⟩
    · rintro ⟨j, c, h1, h2, h3⟩
      cases j with
      | zero => simp at h1; subst h1; exact .inl ⟨h2, h3⟩
      | succ j => exact .inr ⟨j, c, by simpa using h1, by rw [h2]; congr 1; omega, h3⟩
/-! What is reached -/
def sidesF (l : Lot5) : Int := (if hasS l.f 1 = true then l.h else 0) + (if hasS l.f 2 = true then l.h else 0) + (if hasS l.f 4 = true then l.w else 0) + (if hasS l.f 8 = true then l.w else 0)
def sideE (x r : R4) (i : Nat) : Prop := match i with | 0 => x.x0 = r.x0 | 1 => x.x1 = r.x1 | 2 => x.y0 = r.y0 | _ => x.y1 = r.y1
theorem one_side {m : Nat} {r x : R4} {s : List R4} (hs : s.Pairwise apart4) (hr : inFr m r) (hw : wf4 r) (hx : inFr m x) (hxw : wf4 x) (hin : r.x0 ≤ x.x0 ∧ r.y0 ≤ x.y0 ∧ x.x1 ≤ r.x1 ∧ x.y1 ≤ r.y1) {i : Nat}
    (hb : bitF r s i = true) (hon : sideE x r i) : onF (besF x i) s = arQ (besF x i) := by
  unfold bitF at hb
  rw [decide_eq_true_eq, full_iff (bes_fr hr i hw) (bes_wf hw i) hs] at hb
  rw [full_iff (bes_fr hx i hxw) (bes_wf hxw i) hs]
  intro X Y h
  refine hb X Y ?_
  obtain ⟨w1, w2⟩ := hw
  obtain ⟨w3, w4⟩ := hxw
  clear hb
  match i, hon, h with
  | 0, hon, h => unfold besF rin sideE at *; simp only at hon h ⊢; omega
  | 1, hon, h => unfold besF rin sideE at *; simp only at hon h ⊢; omega
  | 2, hon, h => unfold besF rin sideE at *; simp only at hon h ⊢; omega
  | n + 3, hon, h => unfold besF rin sideE at *; simp only at hon h ⊢; omega
theorem bes_ar (r : R4) (i : Nat) : arQ (besF r i) = match i with | 0 => r.y1 - r.y0 | 1 => r.y1 - r.y0 | 2 => r.x1 - r.x0 | _ => r.x1 - r.x0 := by
  unfold besF arQ
  split
  · simp only; rw [show r.x0 - (r.x0 - 1) = 1 by omega, Int.one_mul]
  · simp only; rw [show r.x1 + 1 - r.x1 = 1 by omega, Int.one_mul]
  · simp only; rw [show r.y0 - (r.y0 - 1) = 1 by omega, Int.mul_one]
  · simp only; rw [show r.y1 + 1 - r.y1 = 1 by omega, Int.mul_one]
theorem okR_fr {r : R4} (h : okR r) : inFr 1000000 r ∧ wf4 r := by
  unfold okR inR at h
  unfold inFr wf4
  exact ⟨by omega, h.1, h.2.1⟩
theorem of_reach {s : List R4} {p : Pl3} {r : R4} {l : Lot5} (hs : s.Pairwise apart4) (hr : okR r) (h : ofRect s p r l) : okR l.r ∧ 0 ≤ l.f ∧ l.f ≤ 15 ∧ rchF l s = sidesF l ∧
    (hasS l.f 1 = true → hasS (frF l.r s) 1 = true) ∧ (hasS l.f 2 = true → hasS (frF l.r s) 2 = true) ∧ (hasS l.f 4 = true → hasS (frF l.r s) 4 = true) ∧ (hasS l.f 8 = true → hasS (frF l.r s) 8 = true) := by
  rcases h with ⟨h0, rfl⟩ | ⟨h0, hl⟩
  · refine ⟨hr, by simp, by simp, by simp [rchF, sidesF, hasS], ?_, ?_, ?_, ?_⟩ <;> simp [hasS]
  · have hv : validL ⟨r, frF r s⟩ := ⟨hr, fr_pos h0⟩
    have hlv := leaves_valid hv l hl
    have hin := leaves_in p _ hv l hl
    simp only at hin
    obtain ⟨f1, f2, f4, f8, _, _⟩ := fr_has r s
    obtain ⟨g1, g2, g4, g8, _, _⟩ := fr_has l.r s
    obtain ⟨hm, hw⟩ := okR_fr hr
    obtain ⟨hm', hw'⟩ := okR_fr hlv.1
    have k : ∀ sd, isSide sd → hasS l.f sd = true → hasS (frF r s) sd = true ∧ onS l.r r sd = true := fun sd hsd hh => by
      rw [leaves_front p hsd _ hv l hl, Bool.and_eq_true] at hh
      exact hh
    have k1 : hasS l.f 1 = true → onF (besF l.r 0) s = arQ (besF l.r 0) := fun hh => by
      obtain ⟨a, b⟩ := k 1 (.inl rfl) hh
      rw [f1] at a
      exact one_side hs hm hw hm' hw' hin a (by simpa [sideE, onS] using b)
    have k2 : hasS l.f 2 = true → onF (besF l.r 1) s = arQ (besF l.r 1) := fun hh => by
      obtain ⟨a, b⟩ := k 2 (.inr (.inl rfl)) hh
      rw [f2] at a
      exact one_side hs hm hw hm' hw' hin a (by simpa [sideE, onS] using b)
    have k4 : hasS l.f 4 = true → onF (besF l.r 2) s = arQ (besF l.r 2) := fun hh => by
      obtain ⟨a, b⟩ := k 4 (.inr (.inr (.inl rfl))) hh
      rw [f4] at a
      exact one_side hs hm hw hm' hw' hin a (by simpa [sideE, onS] using b)
    have k8 : hasS l.f 8 = true → onF (besF l.r 3) s = arQ (besF l.r 3) := fun hh => by
      obtain ⟨a, b⟩ := k 8 (.inr (.inr (.inr rfl))) hh
      rw [f8] at a
      exact one_side hs hm hw hm' hw' hin a (by simpa [sideE, onS] using b)
    refine ⟨hlv.1, by have := hlv.2; omega, hlv.2.2, ?_, fun hh => ?_, fun hh => ?_, fun hh => ?_, fun hh => ?_⟩
    · unfold rchF sidesF
      have e : ∀ (c : Bool) (x y : Int), (c = true → x = y) → (if c = true then x else 0) = (if c = true then y else 0) := fun c x y h => by
        cases c
        · rfl
        · simp [h rfl]
      rw [e (hasS l.f 1) (onF (besF l.r 0) s) l.h fun hh => by rw [k1 hh, bes_ar]; rfl, e (hasS l.f 2) (onF (besF l.r 1) s) l.h fun hh => by rw [k2 hh, bes_ar]; rfl, e (hasS l.f 4) (onF (besF l.r 2) s) l.w fun hh => by rw [k4 hh, bes_ar]; rfl, e (hasS l.f 8) (onF (besF l.r 3) s) l.w fun hh => by rw [k8 hh, bes_ar]; rfl]
    · rw [g1]; unfold bitF; exact decide_eq_true (k1 hh)
    · rw [g2]; unfold bitF; exact decide_eq_true (k2 hh)
    · rw [g4]; unfold bitF; exact decide_eq_true (k4 hh)
    · rw [g8]; unfold bitF; exact decide_eq_true (k8 hh)
/-! They fill the block -/
theorem of_cover {s : List R4} {p : Pl3} {r : R4} (hr : okR r) (hp : okW p = 0) (hc : (rectR s p r).2 = 0) (x y : Int) : pmem ((rectR s p r).1.map Lot5.r) x y ↔ rin r x y := by
  by_cases h0 : frF r s = 0
  · unfold rectR
    rw [if_pos h0]
    simp [pmem]
  · rw [rect_code hr hp h0] at hc ⊢
    split at hc
    · rename_i h4
      rw [if_pos h4]
      exact leaves_cover p x y _
    · cases hc
theorem of_area {s : List R4} {p : Pl3} {r : R4} (hr : okR r) (hp : okW p = 0) (hc : (rectR s p r).2 = 0) : ((rectR s p r).1.map areaL).sum = arQ r := by
  by_cases h0 : frF r s = 0
  · unfold rectR
    rw [if_pos h0]
    simp [areaL, arQ, Lot5.w, Lot5.h]
  · rw [rect_code hr hp h0] at hc ⊢
    split at hc
    · rename_i h4
      rw [if_pos h4]
      exact leaves_area p _
    · cases hc
end Go.Proofs.Ytabogapiecciiaa

/- The walks of lots' fine, fronts, Fronts, Reached. -/
namespace Go.Proofs.Ytabogapiecciiaa
open Go.RowKit
set_option linter.unusedVariables false
set_option linter.unusedSimpArgs false

set_option maxHeartbeats 2000000 in
theorem fine_any (r : R4) (w : World) : Calls Try.prog 17 #[.agg (encR r).toArray] w fun e w' => e = .returned (.bool (decide (okR r))) ∧ Below w.heap.size w w' := by
  obtain ⟨x0, y0, x1, y1⟩ := r
  have hm := fun (W : World) (v : Value) (r : RdK encR 4 W W.heap.size v [⟨x0, y0, x1, y1⟩]) => make_any r (by simp)
  have h2 := make_one ⟨x0, y0, x1, y1⟩
  generalize makeF [⟨x0, y0, x1, y1⟩] = M at *
  obtain ⟨M1, M2⟩ := M
  simp only at h2
  subst h2
  have HM := hide hm
  clear hm
  show Calls Try.prog _ #[.agg #[.int .i64 x0, .int .i64 y0, .int .i64 x1, .int .i64 y1]] w _
  by_cases hv : okR ⟨x0, y0, x1, y1⟩
  · rw [if_pos hv] at HM
    rw [decide_eq_true hv]
    clear hv
    go_enter Try.func17, Try.ntmps17
    go_wp2_with (fail)
    obtain ⟨W, hW⟩ : ∃ x, x = (w.alloc (.cells #[.int .i64 x0, .int .i64 y0, .int .i64 x1, .int .i64 y1] 23)).alloc (.cells #[.int .i64 x0, .int .i64 y0, .int .i64 x1, .int .i64 y1] 23) := ⟨_, rfl⟩
    rw [← hW]
    have hb0 : Below w.heap.size w W := by rw [hW]; exact ((Below.refl _ _).alloc (Nat.le_refl _) _).alloc (by simp) _
    have hr : RdK encR 4 W W.heap.size (.slice (some ⟨w.heap.size + 1, 0, none⟩) 1 1) [⟨x0, y0, x1, y1⟩] := by
      try rw [hW]
      exact rd_lit_at (by simp) [⟨x0, y0, x1, y1⟩] 23 1
    have HB0 := hide hb0
    have HR := hide hr
    clear hW hb0 hr
    refine (HM.out _ _ HR.out).mono ?_
    rintro e w1 ⟨⟨A1, c1, rfl, _⟩, hb⟩
    have HB1 := hide (HB0.out.trans (hb.mono HB0.out.size))
    clear hb
    go_wp2_with (fail)
    go_ret
    exact ⟨rfl, HB1.out⟩
  · rw [if_neg hv] at HM
    rw [decide_eq_false hv]
    clear hv
    go_enter Try.func17, Try.ntmps17
    go_wp2_with (fail)
    obtain ⟨W, hW⟩ : ∃ x, x = (w.alloc (.cells #[.int .i64 x0, .int .i64 y0, .int .i64 x1, .int .i64 y1] 23)).alloc (.cells #[.int .i64 x0, .int .i64 y0, .int .i64 x1, .int .i64 y1] 23) := ⟨_, rfl⟩
    rw [← hW]
    have hb0 : Below w.heap.size w W := by rw [hW]; exact ((Below.refl _ _).alloc (Nat.le_refl _) _).alloc (by simp) _
    have hr : RdK encR 4 W W.heap.size (.slice (some ⟨w.heap.size + 1, 0, none⟩) 1 1) [⟨x0, y0, x1, y1⟩] := by
      try rw [hW]
      exact rd_lit_at (by simp) [⟨x0, y0, x1, y1⟩] 23 1
    have HB0 := hide hb0
    have HR := hide hr
    clear hW hb0 hr
    refine (HM.out _ _ HR.out).mono ?_
    rintro e w1 ⟨⟨A1, c1, rfl, _⟩, hb⟩
    have HB1 := hide (HB0.out.trans (hb.mono HB0.out.size))
    clear hb
    go_wp2_with (fail)
    go_ret
    exact ⟨rfl, HB1.out⟩
/-- The first sides of a front. -/
def frP (r : R4) (s : List R4) : Nat → Int
  | 0 => 0
  | m + 1 => frP r s m + if bitF r s m = true then 2 ^ m else 0
theorem frP_four (r : R4) (s : List R4) : frP r s 4 = frF r s := by
  unfold frF
  simp [frP]
theorem frP_at (r : R4) (s : List R4) : (0 ≤ frP r s 0 ∧ frP r s 0 < 1) ∧ (0 ≤ frP r s 1 ∧ frP r s 1 < 2) ∧ (0 ≤ frP r s 2 ∧ frP r s 2 < 4) ∧ (0 ≤ frP r s 3 ∧ frP r s 3 < 8) := by
  simp only [frP]
  repeat' split
  all_goals omega
theorem bits_or : ∀ n ∈ List.range 8, (n < 1 → bits .or .u8 (n : Int) 1 = n + 1) ∧ (n < 2 → bits .or .u8 (n : Int) 2 = n + 2) ∧ (n < 4 → bits .or .u8 (n : Int) 4 = n + 4) ∧ (n < 8 → bits .or .u8 (n : Int) 8 = n + 8) := by decide
theorem or_at (r : R4) (s : List R4) : bits .or .u8 (frP r s 0) 1 = frP r s 0 + 1 ∧ bits .or .u8 (frP r s 1) 2 = frP r s 1 + 2 ∧ bits .or .u8 (frP r s 2) 4 = frP r s 2 + 4 ∧ bits .or .u8 (frP r s 3) 8 = frP r s 3 + 8 := by
  obtain ⟨h0, h1, h2, h3⟩ := frP_at r s
  have k : ∀ {z : Int}, 0 ≤ z ∧ z < 8 → ∃ n : Nat, n ∈ List.range 8 ∧ z = (n : Int) := fun {z} hz => ⟨z.toNat, by simp; omega, by omega⟩
  refine ⟨?_, ?_, ?_, ?_⟩
  · obtain ⟨n, hn, e⟩ := k (z := frP r s 0) (by omega)
    rw [e]; exact (bits_or n hn).1 (by omega)
  · obtain ⟨n, hn, e⟩ := k (z := frP r s 1) (by omega)
    rw [e]; exact (bits_or n hn).2.1 (by omega)
  · obtain ⟨n, hn, e⟩ := k (z := frP r s 2) (by omega)
    rw [e]; exact (bits_or n hn).2.2.1 (by omega)
  · obtain ⟨n, hn, e⟩ := k (z := frP r s 3) (by omega)
    rw [e]; exact (bits_or n hn).2.2.2 (by omega)
/-- A rectangle in a box of its own. -/
structure BoxR (n : Nat) (w : World) (r : R4) (wr : World) : Prop where
  d0 : wr.cell? ⟨n, 0, none⟩ = some (.int .i64 r.x0)
  d1 : wr.cell? ⟨n, 1, none⟩ = some (.int .i64 r.y0)
  d2 : wr.cell? ⟨n, 2, none⟩ = some (.int .i64 r.x1)
  d3 : wr.cell? ⟨n, 3, none⟩ = some (.int .i64 r.y1)
  below : Below n w wr
  size : n < wr.heap.size
theorem BoxR.keep {n : Nat} {w wr w' : World} {r : R4} (h : BoxR n w r wr) (hb : Below wr.heap.size wr w') : BoxR n w r w' := by
  have := h.size
  exact ⟨(hb.cell (p := ⟨n, 0, none⟩) (by simp; omega)).trans h.d0, (hb.cell (p := ⟨n, 1, none⟩) (by simp; omega)).trans h.d1, (hb.cell (p := ⟨n, 2, none⟩) (by simp; omega)).trans h.d2, (hb.cell (p := ⟨n, 3, none⟩) (by simp; omega)).trans h.d3, h.below.trans (hb.mono (by omega)), by have := hb.size; omega⟩
theorem box_new (w : World) (r : R4) (t : TypeId) : BoxR w.heap.size w r (w.alloc (.cells #[.int .i64 r.x0, .int .i64 r.y0, .int .i64 r.x1, .int .i64 r.y1] t)) :=
  ⟨by simp [go_sem], by simp [go_sem], by simp [go_sem], by simp [go_sem], (Below.refl _ _).alloc (Nat.le_refl _) _, by simp⟩
theorem bes_area {r : R4} (h : okR r) (i : Nat) : 0 ≤ ((besF r i).x1 - (besF r i).x0) * ((besF r i).y1 - (besF r i).y0) ∧ ((besF r i).x1 - (besF r i).x0) * ((besF r i).y1 - (besF r i).y0) ≤ 2000000 := by
  have := bes_ar r i
  unfold arQ at this
  rw [this]
  unfold okR inR at h
  split <;> omega
set_option maxRecDepth 100000 in
set_option maxHeartbeats 8000000 in
theorem fronts_any (r : R4) (hr : okR r) {w : World} {v : Value} {s : List R4} (hs : RdK encR 4 w w.heap.size v s) (hv : ∀ q ∈ s, okR q) (hl : s.length ≤ 400) :
    Calls Try.prog 18 #[.agg (encR r).toArray, v] w fun e w' => e = .returned (.int .u8 (frF r s)) ∧ Below w.heap.size w w' := by
  have HBES : Hid (∀ (i : Nat), i < 4 → ∀ W : World, Calls Try.prog 23 #[.agg #[.int .i64 r.x0, .int .i64 r.y0, .int .i64 r.x1, .int .i64 r.y1], .int .i64 i] W fun e w' => e = .returned (.agg #[.int .i64 (besF r i).x0, .int .i64 (besF r i).y0, .int .i64 (besF r i).x1, .int .i64 (besF r i).y1]) ∧ Below W.heap.size W w') := hide (fun i hi W => lbeside_any r i hi hr W)
  have HON : Hid (∀ (i : Nat) (W : World), Below w.heap.size w W → Calls Try.prog 22 #[.agg #[.int .i64 (besF r i).x0, .int .i64 (besF r i).y0, .int .i64 (besF r i).x1, .int .i64 (besF r i).y1], v] W fun e w' => e = .returned (.int .i64 (onF (besF r i) s)) ∧ Below W.heap.size W w') := hide (fun i W hb => on_any (besF r i) (bes_mid hr i) ((hs.below hb).mono hb.size) hv hl)
  have HAR : Hid (∀ i, 0 ≤ ((besF r i).x1 - (besF r i).x0) * ((besF r i).y1 - (besF r i).y0) ∧ ((besF r i).x1 - (besF r i).x0) * ((besF r i).y1 - (besF r i).y0) ≤ 2000000) := hide (bes_area hr)
  have HMID : Hid (∀ i, midR (besF r i)) := hide (bes_mid hr)
  have HOR := hide (or_at r s)
  have HP := hide (frP_at r s)
  have HF := hide (frP_four r s)
  have HP0 : Hid (frP r s 0 = 0) := hide rfl
  have HP0 : Hid (frP r s 0 = 0) := hide rfl
  have HP0 : Hid (frP r s 0 = 0) := hide rfl
  have HP0 : Hid (frP r s 0 = 0) := hide rfl
  have HP0 : Hid (frP r s 0 = 0) := hide rfl
  have HBIT : Hid (∀ i, bitF r s i = (onF (besF r i) s == ((besF r i).x1 - (besF r i).x0) * ((besF r i).y1 - (besF r i).y0))) := hide (fun i => by unfold bitF arQ; rfl)
  have HST : Hid (∀ m, frP r s (m + 1) = frP r s m + if bitF r s m = true then 2 ^ m else 0) := hide (fun m => rfl)
  obtain ⟨A, c, rfl, _⟩ := hs
  clear hv hl hr
  generalize hn : w.heap.size = n at *
  have HN := hide hn
  show Calls Try.prog _ #[.agg #[.int .i64 r.x0, .int .i64 r.y0, .int .i64 r.x1, .int .i64 r.y1], .slice A s.length c] w _
  go_enter Try.func18, Try.ntmps18
  go_upto_region 2 with fail
  refine wp_name5 fun w2 hw2 => ?_
  have HB : Hid (BoxR n w r w2) := hide (by rw [hw2, ← hn]; exact box_new w r _)
  clear hw2 hn
  generalize frP r s = P at *
  generalize bitF r s = bt at *
  go_wp2_with (fail)
  go_loopw [5, 8] (fun o i wr => ∃ m : Nat, m ≤ 4 ∧ i = .int .i64 m ∧ o = .int .u8 (P m) ∧ Hid (BoxR n w r wr)) (fun _ i _ => 4 - (intOf i).toNat)
  case atStart => exact ⟨0, Nat.zero_le _, rfl, by rw [HP0.out], HB⟩
  case round =>
    clear HB
    obtain ⟨m, hm, rfl, rfl, HB⟩ := hrel
    by_cases hlt : m < 4
    · have HC := hide (HBES.out m hlt)
      have HO := hide (HON.out m)
      have HAm := HAR.out m
      have HMm := HMID.out m
      have HBm := hide (HBIT.out m)
      have HSm := hide (HST.out m)
      generalize besF r m = B at *
      generalize onF B s = N at *
      have mz : (m : Int) < 4 := by omega
      obtain ⟨d0, d1, d2, d3, -, -⟩ := id HB.out
      go_wp2_with (fail)
      refine (HC.out _).mono ?_
      rintro e w3 ⟨rfl, hb⟩
      have HB3 := hide (HB.out.keep hb)
      clear hb d0 d1 d2 d3 HB HC
      go_upto_region 6 with fail
      refine wp_name5 fun Z hZ => ?_
      have hbz : BoxR w3.heap.size w3 B Z := by rw [hZ]; exact box_new w3 B _
      have HBZ := hide (HB3.out.keep hbz.below)
      have HOZ : Hid (∀ x : Above Z, Calls Try.prog 22 #[.agg #[.int .i64 B.x0, .int .i64 B.y0, .int .i64 B.x1, .int .i64 B.y1], .slice A s.length c] x.get fun e w'' => e = .returned (.int .i64 N) ∧ ∃ y : Above Z, w'' = y.get) := hide (fun x => above_of (HO.out x.get (HBZ.out.below.trans (x.keeps.mono (by have := HBZ.out.size; omega)))))
      obtain ⟨c0, c1, c2, c3, -, hk⟩ := hbz
      generalize w3.heap.size = k at *
      clear hZ HB3 HO
      obtain ⟨g1, g2, g3, g4, g5, g6, g7, g8, g9, g10⟩ := HMm
      obtain ⟨a1, a2⟩ := HAm
      have t1 : IntKind.i64.wrap ((B.x1 - B.x0) * (B.y1 - B.y0)) = (B.x1 - B.x0) * (B.y1 - B.y0) := IntWalk.i64_in _ (by omega)
      refine wp_hab fun hab => ?_
      refine wp_region_above (by kernel_rfl) (by kernel_rfl) ?_
      repeat (go_big_quiet_step ((go_at_call 22; exact HOZ.out _)))
      refine wpQuiet_nil ?_
      refine above_ends fun w4 hb4 => ?_
      have HB4 := hide (HBZ.out.keep hb4)
      clear hab hb4 HBZ HOZ c0 c1 c2 c3 hk g1 g2 g3 g4 g5 g6 g7 g8 g9 g10 a1 a2 t1
      cases hbm : bt m with
      | true =>
        have he : (N == (B.x1 - B.x0) * (B.y1 - B.y0)) = true := by rw [← HBm.out]; exact hbm
        rw [hbm] at HSm
        clear HBm hbm
        have hm4 : m = 0 ∨ m = 1 ∨ m = 2 ∨ m = 3 := by omega
        rcases hm4 with rfl | rfl | rfl | rfl
        · go_wp2_with (fail)
          go_roundw
          case rel => exact ⟨1, by omega, by go_num, by have h1 := HSm.out; have h2 := HOR.out.1; simp only [Nat.zero_add, Nat.reduceAdd] at h1 ⊢; rw [h1]; first | (congr 1; simpa using h2) | (simp; simpa using h2), HB4⟩
          case measure => simp [intOf]
        · go_wp2_with (fail)
          go_roundw
          case rel => exact ⟨2, by omega, by go_num, by have h1 := HSm.out; have h2 := HOR.out.2.1; simp only [Nat.zero_add, Nat.reduceAdd] at h1 ⊢; rw [h1]; first | (congr 1; simpa using h2) | (simp; simpa using h2), HB4⟩
          case measure => simp [intOf]
        · go_wp2_with (fail)
          go_roundw
          case rel => exact ⟨3, by omega, by go_num, by have h1 := HSm.out; have h2 := HOR.out.2.2.1; simp only [Nat.zero_add, Nat.reduceAdd] at h1 ⊢; rw [h1]; first | (congr 1; simpa using h2) | (simp; simpa using h2), HB4⟩
          case measure => simp [intOf]
        · go_wp2_with (fail)
          go_roundw
          case rel => exact ⟨4, by omega, by go_num, by have h1 := HSm.out; have h2 := HOR.out.2.2.2; simp only [Nat.zero_add, Nat.reduceAdd] at h1 ⊢; rw [h1]; first | (congr 1; simpa using h2) | (simp; simpa using h2), HB4⟩
          case measure => simp [intOf]
      | false =>
        have he : (N == (B.x1 - B.x0) * (B.y1 - B.y0)) = false := by rw [← HBm.out]; exact hbm
        rw [hbm] at HSm
        clear HBm hbm
        go_wp2_with (fail)
        go_roundw
        case rel => exact ⟨m + 1, by omega, by go_num, by have h1 := HSm.out; rw [h1]; simp, HB4⟩
        case measure => simp [intOf]; omega
    · obtain rfl : m = 4 := by omega
      have HBE := hide HB.out.below
      go_wp2_with (fail)
      go_ret
      exact ⟨by rw [HF.out]; rfl, by first | exact HBE.out | (rw [HN.out]; exact HBE.out)⟩
def frontsF (r : R4) (s : List R4) : Int × Int := if checkF s ≠ 0 then (0, checkF s) else if okR r then (frF r s, 0) else (0, 8)
def reachedF (l : Lot5) (s : List R4) : Int × Int := if checkF s ≠ 0 then (0, checkF s) else if okR l.r ∧ l.f ≤ 15 then (rchF l s, 0) else (0, 8)
set_option maxRecDepth 100000 in
set_option maxHeartbeats 4000000 in
theorem lFronts_any (r : R4) {w : World} {v : Value} {s : List R4} (hs : RdK encR 4 w w.heap.size v s) (hl : s.length ≤ 100000000) :
    Calls Try.prog 6 #[.agg (encR r).toArray, v] w fun e w' => e = .returned (.tuple #[.int .u8 (frontsF r s).1, .int .i64 (frontsF r s).2]) ∧ Below w.heap.size w w' := by
  have HCK : Hid (∀ W : World, Below w.heap.size w W → Calls Try.prog 16 #[v] W fun e w' => e = .returned (.int .i64 (checkF s)) ∧ Below W.heap.size W w') := hide (fun W hb => check_any ((hs.below hb).mono hb.size) hl)
  have HFI : Hid (∀ W : World, Calls Try.prog 17 #[.agg #[.int .i64 r.x0, .int .i64 r.y0, .int .i64 r.x1, .int .i64 r.y1]] W fun e w' => e = .returned (.bool (decide (okR r))) ∧ Below W.heap.size W w') := hide (fun W => fine_any r W)
  have HFR : Hid (checkF s = 0 → okR r → ∀ W : World, Below w.heap.size w W → Calls Try.prog 18 #[.agg #[.int .i64 r.x0, .int .i64 r.y0, .int .i64 r.x1, .int .i64 r.y1], v] W fun e w' => e = .returned (.int .u8 (frF r s)) ∧ Below W.heap.size W w') := hide (fun hc hr W hb => fronts_any r hr ((hs.below hb).mono hb.size) (fun q hq => (ok_valid q).2 ((checkF_ok hc).2.1 q hq)) (checkF_ok hc).1)
  obtain ⟨A, c, rfl, _⟩ := hs
  have HW := box_new w r 23
  have HB := hide HW
  generalize hW : w.alloc (.cells #[.int .i64 r.x0, .int .i64 r.y0, .int .i64 r.x1, .int .i64 r.y1] 23) = W at *
  show Calls Try.prog _ #[.agg #[.int .i64 r.x0, .int .i64 r.y0, .int .i64 r.x1, .int .i64 r.y1], .slice A s.length c] w _
  by_cases hc : checkF s = 0
  · by_cases hr : okR r
    · have HFR2 := hide (HFR.out hc hr)
      have HF : Hid (frontsF r s = (frF r s, 0)) := hide (by unfold frontsF; rw [if_neg (by simpa using hc), if_pos hr])
      rw [hc] at HCK
      rw [decide_eq_true hr] at HFI
      clear HFR hc hr HW
      go_enter Try.func6, Try.ntmps6
      go_wp2_with (fail)
      try rw [hW]
      refine (HCK.out _ HB.out.below).mono ?_
      rintro e w1 ⟨rfl, hb⟩
      have HB1 := hide (HB.out.keep hb)
      obtain ⟨d0, d1, d2, d3, -, -⟩ := id HB1.out
      clear hb HB hW
      go_wp2_with (fail)
      refine (HFI.out _).mono ?_
      rintro e w2 ⟨rfl, hb⟩
      have HB2 := hide (HB1.out.keep hb)
      clear hb d0 d1 d2 d3 HB1
      obtain ⟨d0, d1, d2, d3, -, -⟩ := id HB2.out
      go_wp2_with (fail)
      refine (HFR2.out _ HB2.out.below).mono ?_
      rintro e w3 ⟨rfl, hb⟩
      have HB3 := hide (HB2.out.keep hb).below
      clear hb d0 d1 d2 d3 HB2
      go_wp2_with (fail)
      go_ret2
      exact ⟨by rw [HF.out]; rfl, by first | exact HB3.out | (rw [HN.out]; exact HB3.out)⟩
    · have HF : Hid (frontsF r s = (0, 8)) := hide (by unfold frontsF; rw [if_neg (by simpa using hc), if_neg hr])
      rw [hc] at HCK
      rw [decide_eq_false hr] at HFI
      clear HFR hc hr HW
      go_enter Try.func6, Try.ntmps6
      go_wp2_with (fail)
      try rw [hW]
      refine (HCK.out _ HB.out.below).mono ?_
      rintro e w1 ⟨rfl, hb⟩
      have HB1 := hide (HB.out.keep hb)
      obtain ⟨d0, d1, d2, d3, -, -⟩ := id HB1.out
      clear hb HB hW
      go_wp2_with (fail)
      refine (HFI.out _).mono ?_
      rintro e w2 ⟨rfl, hb⟩
      have HB2 := hide (HB1.out.keep hb).below
      clear hb d0 d1 d2 d3 HB1
      go_wp2_with (fail)
      go_ret2
      exact ⟨by rw [HF.out]; rfl, by first | exact HB2.out | (rw [HN.out]; exact HB2.out)⟩
  · have HF : Hid (frontsF r s = (0, checkF s)) := hide (if_pos hc)
    have hne : (checkF s != 0) = true := by simpa using hc
    clear HFR HW hc
    generalize checkF s = ck at *
    go_enter Try.func6, Try.ntmps6
    go_wp2_with (fail)
    try rw [hW]
    refine (HCK.out _ HB.out.below).mono ?_
    rintro e w1 ⟨rfl, hb⟩
    have HB1 := hide (HB.out.keep hb).below
    clear hb HB hW
    go_wp2_with (fail)
    go_ret2
    exact ⟨by rw [HF.out]; rfl, by first | exact HB1.out | (rw [HN.out]; exact HB1.out)⟩
end Go.Proofs.Ytabogapiecciiaa
