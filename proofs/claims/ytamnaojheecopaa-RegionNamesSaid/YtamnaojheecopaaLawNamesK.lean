/- RegionNames' walk: limits and errors. -/
import Derived.Test.YtamnaojheecopaaPk8
import Derived.Test.YtamnaojheecopaaPk9
import Derived.Laws.MakeOwn
namespace Go.Proofs.Ytamnaojheecopaa
open Go.RowKit
set_option linter.unusedVariables false
set_option linter.unusedSimpArgs false

theorem nx_bad : makeF [⟨0, 0, 1, 0⟩] = ([], 8) := by kernel_rfl
theorem nx_hull : hullF [] = (⟨0, 0, 0, 0⟩, 6) := by kernel_rfl
theorem nx_mv1 : moveF stepsL 999998 0 = ([], 16) := by kernel_rfl
theorem nx_mv2 : moveF stepsL 0 (-1000001) = ([], 16) := by kernel_rfl
theorem nx_mv3 : moveF stepsL 999997 0 = (stepsL.map (mv 999997 0), 0) := by kernel_rfl
theorem nx_un : joinF hOr stepsL [⟨0, 0, 1, 1⟩, ⟨0, 1, 1, 2⟩] = ([], 8) := by kernel_rfl
theorem nx_ar : areaF [⟨1, 0, 2, 1⟩, ⟨0, 0, 1, 1⟩] = (0, 8) := by kernel_rfl
theorem nx_c1 : checkF [⟨0, 0, 1, 1⟩, ⟨1, 0, 2, 1⟩] = 8 := by kernel_rfl
theorem nx_c2 : checkF [⟨-1000000, -1000000, 1000000, 1000000⟩] = 0 := by kernel_rfl
theorem nx_c3 : checkF [⟨0, 0, 1000001, 1⟩] = 8 := by kernel_rfl
theorem nx_a2 : areaF [⟨-1000000, -1000000, 1000000, 1000000⟩] = (4000000000000, 0) := by kernel_rfl
def manyL : List R4 := List.replicate 401 ⟨0, 0, 0, 0⟩
theorem nx_many : makeF manyL = ([], 4) := by unfold makeF; rw [if_pos (by unfold manyL; rw [List.length_replicate]; omega)]
def zeroCells : Array Value := madeCells (Value.agg #[.int .i64 0, .int .i64 0, .int .i64 0, .int .i64 0]).cells 1604
theorem run_many (w : World) : (Instr.makeSlice 22 (.int .i64 401) (.int .i64 401)).run Try.prog w = .ok (.slice (some ⟨w.heap.size, 0, none⟩) 401 401) (w.alloc (.cells zeroCells 43)) := by
  obtain ⟨i1, gi, gz0, gz1, gz2⟩ := info_parts infoRc
  have h := run_make (P := Try.prog) w 22 43 i1 _ Try.underlying22 gi gz0 .i64 .i64 401 401 (by omega) (by omega) (by rw [gz2]; omega) (by omega)
  rw [gz1] at h
  exact h
theorem zero_at (j : Nat) (hj : j < 1604) : zeroCells[j]? = some (.int .i64 0) := by
  unfold zeroCells madeCells
  rw [Array.getElem?_map, Array.getElem?_range, if_pos hj]
  have h4 : (Value.agg #[.int .i64 0, .int .i64 0, .int .i64 0, .int .i64 0]).cells = #[.int .i64 0, .int .i64 0, .int .i64 0, .int .i64 0] := rfl
  rw [h4]
  have : j % 4 = 0 ∨ j % 4 = 1 ∨ j % 4 = 2 ∨ j % 4 = 3 := by omega
  simp only [Option.map_some, List.size_toArray, List.length_cons, List.length_nil]
  rcases this with e | e | e | e <;> simp [e]
theorem rd_many (w : World) (c : Nat) : RdK encR 4 (w.alloc (.cells zeroCells 43)) (w.alloc (.cells zeroCells 43)).heap.size (.slice (some ⟨w.heap.size, 0, none⟩) 401 c) manyL := by
  have hl : manyL.length = 401 := List.length_replicate
  refine ⟨_, c, by rw [hl], fun _ => ⟨w.heap.size, 0, rfl, by simp, fun j x hx i u hu => ?_⟩⟩
  have hj : j < 401 := by have := (List.getElem?_eq_some_iff.1 hx).1; omega
  have hx0 : x = ⟨0, 0, 0, 0⟩ := by
    obtain ⟨h1, h2⟩ := List.getElem?_eq_some_iff.1 hx
    rw [← h2]
    exact List.getElem_replicate _
  subst hx0
  have hi : i < 4 := (List.getElem?_eq_some_iff.1 hu).1
  have hu0 : u = .int .i64 0 := by
    have e : i = 0 ∨ i = 1 ∨ i = 2 ∨ i = 3 := by omega
    rcases e with rfl | rfl | rfl | rfl <;> (simp [encR] at hu; exact hu.symm)
  subst hu0
  have := World.news_of_block (heap_alloc_new w (.cells zeroCells 43)) (0 + j * 4 + i) (.int .i64 0) (by simpa using zero_at (j * 4 + i) (by omega))
  rw [addr_add] at this
  exact this
theorem combX_snoc (m : Nat) : combX (m + 1) = combX m ++ [⟨2 * (m : Int), 0, 2 * (m : Int) + 1, 60⟩] := by unfold combX; rw [List.range_succ, List.map_append]; rfl
theorem combY_snoc (m : Nat) : combY (m + 1) = combY m ++ [⟨0, 2 * (m : Int), 60, 2 * (m : Int) + 1⟩] := by unfold combY; rw [List.range_succ, List.map_append]; rfl
theorem comb_len (m : Nat) : (combX m).length = m ∧ (combY m).length = m := by simp [combX, combY]
set_option maxRecDepth 100000 in
set_option maxHeartbeats 8000000 in
theorem names_walk (w : World) : Calls Try.prog 7 #[] w fun e w' => e = .returned (.bool true) ∧ Below w.heap.size w w' := by
  obtain ⟨i1, gi, gz0, gz1, gz2⟩ := info_parts infoRc
  have hmany := run_many
  have hMK := fun (l : List R4) (W : World) (v : Value) (h : RdK encR 4 W W.heap.size v l) (hl : l.length ≤ 1000) => make_any h (by omega)
  have HMK := hide hMK
  have hMV := fun (W : World) (v : Value) (h : RdK encR 4 W W.heap.size v stepsL) (x y : Int) => move_any h (by simp [stepsL]) x y
  have HMV := hide hMV
  have hCK := fun (l : List R4) (W : World) (v : Value) (h : RdK encR 4 W W.heap.size v l) (hl : l.length ≤ 1000) => check_any h (by omega)
  have HCK := hide hCK
  have hAR := fun (l : List R4) (W : World) (v : Value) (h : RdK encR 4 W W.heap.size v l) (hl : l.length ≤ 1000) => area_any h (by omega)
  have HAR := hide hAR
  have HN1 := hide names_combs.1
  have HN2 := hide names_combs.2
  have HN3 := hide names_meet
  have HN4 := hide names_flip
  have hyl := makeF_len (combY 30)
  obtain ⟨YY, hYY⟩ : ∃ YY, makeF (combY 30) = YY := ⟨_, rfl⟩
  rw [hYY] at HN2 HN3 HN4 hyl
  have HYY := hide hYY
  clear hMK hMV hCK hAR hYY
  obtain ⟨Y, ye⟩ := YY
  obtain ⟨J, hJ⟩ : ∃ J, joinF hAnd (combX 30) Y = J := ⟨_, rfl⟩
  have HJ := hide hJ
  rw [show joinF hAnd (combX 30) (Y, ye).1 = J from hJ] at HN3
  obtain ⟨J1, je⟩ := J
  have hye : ye = 0 := HN2.out
  have hje : je = 4 := HN3.out
  subst hye; subst hje
  clear hJ HN2 HN3
  go_enter Try.func7, Try.ntmps7
  have K0_0 := hide (Below.refl w.heap.size w)
  go_wp2_with (fail)
  obtain ⟨w1, hwa⟩ : ∃ x, x = w.alloc (.cells zeroCells 43) := ⟨_, rfl⟩
  rw [← hwa]
  have hb : Below w.heap.size w w1 := by rw [hwa]; exact (Below.refl _ _).alloc (Nat.le_refl _) _
  have hmy := hide (show RdK encR 4 w1 w1.heap.size (.slice (some ⟨w.heap.size, 0, none⟩) 401 401) manyL from by rw [hwa]; exact rd_many w _)
  clear hmany
  have K0_1 := hide (K0_0.out.trans (hb.mono K0_0.out.size))
  have K1_1 := hide (Below.refl w1.heap.size w1)
  clear hb hwa
  have hc1 := hide (show Calls Try.prog 10 #[.slice (some ⟨w.heap.size, 0, none⟩) 401 401] w1 _ from by have h := HMK.out _ _ _ hmy.out (by unfold manyL; rw [List.length_replicate]; omega); rw [nx_many] at h; exact h)
  go_wp2_with (fail)
  refine (hc1.out).mono ?_
  rintro e w2 ⟨⟨A1, c1, rfl, ho⟩, hb⟩
  have K0_2 := hide (K0_1.out.trans (hb.mono K0_1.out.size))
  have K1_2 := hide (K1_1.out.trans (hb.mono K1_1.out.size))
  clear hb
  clear ho
  go_wp2_with (fail)
  obtain ⟨w3, hwa⟩ : ∃ x, x = w2.alloc (.cells #[.int .i64 0, .int .i64 0, .int .i64 1, .int .i64 0] 43) := ⟨_, rfl⟩
  rw [← hwa]
  have hb : Below w2.heap.size w2 w3 := by rw [hwa]; exact (Below.refl _ _).alloc (Nat.le_refl _) _
  have l1 := hide (show RdK encR 4 w3 w3.heap.size (.slice (some ⟨w2.heap.size, 0, none⟩) 1 1) ([⟨0, 0, 1, 0⟩] : List R4) from by rw [hwa]; exact rd_lit w2 ([⟨0, 0, 1, 0⟩] : List R4) _ _)
  have K0_3 := hide (K0_2.out.trans (hb.mono K0_2.out.size))
  have K1_3 := hide (K1_2.out.trans (hb.mono K1_2.out.size))
  have K3_3 := hide (Below.refl w3.heap.size w3)
  clear hb hwa
  go_wp2_with (fail)
  have hq2 := HMK.out _ _ _ l1.out (by simp)
  rw [nx_bad] at hq2
  have hc2 := hide hq2
  clear hq2
  refine (hc2.out).mono ?_
  rintro e w4 ⟨⟨A2, c2, rfl, ho⟩, hb⟩
  have K0_4 := hide (K0_3.out.trans (hb.mono K0_3.out.size))
  have K1_4 := hide (K1_3.out.trans (hb.mono K1_3.out.size))
  have K3_4 := hide (K3_3.out.trans (hb.mono K3_3.out.size))
  clear hb
  clear ho
  clear hc2
  go_wp2_with (fail)
  have hq3 := hull_any (w := w4) (RdK.nil (α := R4) (enc := encR) (k := 4) (w := w4) (B := w4.heap.size) none 0) (by simp)
  rw [nx_hull] at hq3
  simp only [encR] at hq3
  have hc3 := hide hq3
  clear hq3
  refine (hc3.out).mono ?_
  rintro e w5 ⟨rfl, hb⟩
  have K0_5 := hide (K0_4.out.trans (hb.mono K0_4.out.size))
  have K1_5 := hide (K1_4.out.trans (hb.mono K1_4.out.size))
  have K3_5 := hide (K3_4.out.trans (hb.mono K3_4.out.size))
  clear hb
  -- the box of Hull
  go_wp2_with (fail)
  obtain ⟨w6, hwa⟩ : ∃ x, x = w5.alloc (.cells #[.int .i64 0, .int .i64 0, .int .i64 0, .int .i64 0] 43) := ⟨_, rfl⟩
  rw [← hwa]
  have hb : Below w5.heap.size w5 w6 := by rw [hwa]; exact (Below.refl _ _).alloc (Nat.le_refl _) _
  have L6 : w5.heap.size < w6.heap.size := by rw [hwa]; simp
  have B6_0 : Hid (w6.cell? ⟨w5.heap.size, 0, none⟩ = some (.int .i64 0)) := hide (by rw [hwa]; simp [go_sem])
  have B6_1 : Hid (w6.cell? ⟨w5.heap.size, 1, none⟩ = some (.int .i64 0)) := hide (by rw [hwa]; simp [go_sem])
  have B6_2 : Hid (w6.cell? ⟨w5.heap.size, 2, none⟩ = some (.int .i64 0)) := hide (by rw [hwa]; simp [go_sem])
  have B6_3 : Hid (w6.cell? ⟨w5.heap.size, 3, none⟩ = some (.int .i64 0)) := hide (by rw [hwa]; simp [go_sem])
  have K0_6 := hide (K0_5.out.trans (hb.mono K0_5.out.size))
  have K1_6 := hide (K1_5.out.trans (hb.mono K1_5.out.size))
  have K3_6 := hide (K3_5.out.trans (hb.mono K3_5.out.size))
  have K6_6 := hide (Below.refl w6.heap.size w6)
  clear hb hwa
  go_wp2_with (fail)
  refine (steps_any _).mono ?_
  rintro e w7 ⟨rfl, ho, hb⟩
  have K0_7 := hide (K0_6.out.trans (hb.mono K0_6.out.size))
  have K1_7 := hide (K1_6.out.trans (hb.mono K1_6.out.size))
  have K3_7 := hide (K3_6.out.trans (hb.mono K3_6.out.size))
  have K6_7 := hide (K6_6.out.trans (hb.mono K6_6.out.size))
  have K7_7 := hide (Below.refl w7.heap.size w7)
  clear hb
  have hs7 := hide ho
  clear ho
  go_wp2_with (fail)
  have hq4 := HMV.out _ _ hs7.out 999998 0
  rw [nx_mv1] at hq4
  have hc4 := hide hq4
  clear hq4
  refine (hc4.out).mono ?_
  rintro e w8 ⟨⟨B0, d0, rfl, ho⟩, hb⟩
  have K0_8 := hide (K0_7.out.trans (hb.mono K0_7.out.size))
  have K1_8 := hide (K1_7.out.trans (hb.mono K1_7.out.size))
  have K3_8 := hide (K3_7.out.trans (hb.mono K3_7.out.size))
  have K6_8 := hide (K6_7.out.trans (hb.mono K6_7.out.size))
  have K7_8 := hide (K7_7.out.trans (hb.mono K7_7.out.size))
  clear hb
  clear ho
  clear hc4
  go_wp2_with (fail)
  refine (steps_any _).mono ?_
  rintro e w9 ⟨rfl, ho, hb⟩
  have K0_9 := hide (K0_8.out.trans (hb.mono K0_8.out.size))
  have K1_9 := hide (K1_8.out.trans (hb.mono K1_8.out.size))
  have K3_9 := hide (K3_8.out.trans (hb.mono K3_8.out.size))
  have K6_9 := hide (K6_8.out.trans (hb.mono K6_8.out.size))
  have K7_9 := hide (K7_8.out.trans (hb.mono K7_8.out.size))
  have K9_9 := hide (Below.refl w9.heap.size w9)
  clear hb
  have hs9 := hide ho
  clear ho
  go_wp2_with (fail)
  have hq5 := HMV.out _ _ hs9.out 0 (-1000001)
  rw [nx_mv2] at hq5
  have hc5 := hide hq5
  clear hq5
  refine (hc5.out).mono ?_
  rintro e w10 ⟨⟨B1, d1, rfl, ho⟩, hb⟩
  have K0_10 := hide (K0_9.out.trans (hb.mono K0_9.out.size))
  have K1_10 := hide (K1_9.out.trans (hb.mono K1_9.out.size))
  have K3_10 := hide (K3_9.out.trans (hb.mono K3_9.out.size))
  have K6_10 := hide (K6_9.out.trans (hb.mono K6_9.out.size))
  have K7_10 := hide (K7_9.out.trans (hb.mono K7_9.out.size))
  have K9_10 := hide (K9_9.out.trans (hb.mono K9_9.out.size))
  clear hb
  clear ho
  clear hc5
  go_wp2_with (fail)
  refine (steps_any _).mono ?_
  rintro e w11 ⟨rfl, ho, hb⟩
  have K0_11 := hide (K0_10.out.trans (hb.mono K0_10.out.size))
  have K1_11 := hide (K1_10.out.trans (hb.mono K1_10.out.size))
  have K3_11 := hide (K3_10.out.trans (hb.mono K3_10.out.size))
  have K6_11 := hide (K6_10.out.trans (hb.mono K6_10.out.size))
  have K7_11 := hide (K7_10.out.trans (hb.mono K7_10.out.size))
  have K9_11 := hide (K9_10.out.trans (hb.mono K9_10.out.size))
  have K11_11 := hide (Below.refl w11.heap.size w11)
  clear hb
  have hs11 := hide ho
  clear ho
  go_wp2_with (fail)
  have hq6 := HMV.out _ _ hs11.out 999997 0
  rw [nx_mv3] at hq6
  have hc6 := hide hq6
  clear hq6
  refine (hc6.out).mono ?_
  rintro e w12 ⟨⟨B2, d2, rfl, ho⟩, hb⟩
  have K0_12 := hide (K0_11.out.trans (hb.mono K0_11.out.size))
  have K1_12 := hide (K1_11.out.trans (hb.mono K1_11.out.size))
  have K3_12 := hide (K3_11.out.trans (hb.mono K3_11.out.size))
  have K6_12 := hide (K6_11.out.trans (hb.mono K6_11.out.size))
  have K7_12 := hide (K7_11.out.trans (hb.mono K7_11.out.size))
  have K9_12 := hide (K9_11.out.trans (hb.mono K9_11.out.size))
  have K11_12 := hide (K11_11.out.trans (hb.mono K11_11.out.size))
  clear hb
  clear ho
  clear hc6
  go_wp2_with (fail)
  refine (steps_any _).mono ?_
  rintro e w13 ⟨rfl, ho, hb⟩
  have K0_13 := hide (K0_12.out.trans (hb.mono K0_12.out.size))
  have K1_13 := hide (K1_12.out.trans (hb.mono K1_12.out.size))
  have K3_13 := hide (K3_12.out.trans (hb.mono K3_12.out.size))
  have K6_13 := hide (K6_12.out.trans (hb.mono K6_12.out.size))
  have K7_13 := hide (K7_12.out.trans (hb.mono K7_12.out.size))
  have K9_13 := hide (K9_12.out.trans (hb.mono K9_12.out.size))
  have K11_13 := hide (K11_12.out.trans (hb.mono K11_12.out.size))
  have K13_13 := hide (Below.refl w13.heap.size w13)
  clear hb
  have hs13 := hide ho
  clear ho
  go_wp2_with (fail)
  obtain ⟨w14, hwa⟩ : ∃ x, x = w13.alloc (.cells #[.int .i64 0, .int .i64 0, .int .i64 1, .int .i64 1, .int .i64 0, .int .i64 1, .int .i64 1, .int .i64 2] 43) := ⟨_, rfl⟩
  rw [← hwa]
  have hb : Below w13.heap.size w13 w14 := by rw [hwa]; exact (Below.refl _ _).alloc (Nat.le_refl _) _
  have l2 := hide (show RdK encR 4 w14 w14.heap.size (.slice (some ⟨w13.heap.size, 0, none⟩) 2 2) ([⟨0, 0, 1, 1⟩, ⟨0, 1, 1, 2⟩] : List R4) from by rw [hwa]; exact rd_lit w13 ([⟨0, 0, 1, 1⟩, ⟨0, 1, 1, 2⟩] : List R4) _ _)
  have K0_14 := hide (K0_13.out.trans (hb.mono K0_13.out.size))
  have K1_14 := hide (K1_13.out.trans (hb.mono K1_13.out.size))
  have K3_14 := hide (K3_13.out.trans (hb.mono K3_13.out.size))
  have K6_14 := hide (K6_13.out.trans (hb.mono K6_13.out.size))
  have K7_14 := hide (K7_13.out.trans (hb.mono K7_13.out.size))
  have K9_14 := hide (K9_13.out.trans (hb.mono K9_13.out.size))
  have K11_14 := hide (K11_13.out.trans (hb.mono K11_13.out.size))
  have K13_14 := hide (K13_13.out.trans (hb.mono K13_13.out.size))
  have K14_14 := hide (Below.refl w14.heap.size w14)
  clear hb hwa
  go_wp2_with (fail)
  have hq7 := union_any ((hs13.out.below K13_14.out).mono K13_14.out.size) l2.out (by simp [stepsL]) (by simp)
  rw [nx_un] at hq7
  have hc7 := hide hq7
  clear hq7
  refine (hc7.out).mono ?_
  rintro e w15 ⟨⟨B5, d5, rfl, ho⟩, hb⟩
  have K0_15 := hide (K0_14.out.trans (hb.mono K0_14.out.size))
  have K1_15 := hide (K1_14.out.trans (hb.mono K1_14.out.size))
  have K3_15 := hide (K3_14.out.trans (hb.mono K3_14.out.size))
  have K6_15 := hide (K6_14.out.trans (hb.mono K6_14.out.size))
  have K7_15 := hide (K7_14.out.trans (hb.mono K7_14.out.size))
  have K9_15 := hide (K9_14.out.trans (hb.mono K9_14.out.size))
  have K11_15 := hide (K11_14.out.trans (hb.mono K11_14.out.size))
  have K13_15 := hide (K13_14.out.trans (hb.mono K13_14.out.size))
  have K14_15 := hide (K14_14.out.trans (hb.mono K14_14.out.size))
  clear hb
  clear ho
  clear hc7
  go_wp2_with (fail)
  obtain ⟨w16, hwa⟩ : ∃ x, x = w15.alloc (.cells #[.int .i64 1, .int .i64 0, .int .i64 2, .int .i64 1, .int .i64 0, .int .i64 0, .int .i64 1, .int .i64 1] 43) := ⟨_, rfl⟩
  rw [← hwa]
  have hb : Below w15.heap.size w15 w16 := by rw [hwa]; exact (Below.refl _ _).alloc (Nat.le_refl _) _
  have l3 := hide (show RdK encR 4 w16 w16.heap.size (.slice (some ⟨w15.heap.size, 0, none⟩) 2 2) ([⟨1, 0, 2, 1⟩, ⟨0, 0, 1, 1⟩] : List R4) from by rw [hwa]; exact rd_lit w15 ([⟨1, 0, 2, 1⟩, ⟨0, 0, 1, 1⟩] : List R4) _ _)
  have K0_16 := hide (K0_15.out.trans (hb.mono K0_15.out.size))
  have K1_16 := hide (K1_15.out.trans (hb.mono K1_15.out.size))
  have K3_16 := hide (K3_15.out.trans (hb.mono K3_15.out.size))
  have K6_16 := hide (K6_15.out.trans (hb.mono K6_15.out.size))
  have K7_16 := hide (K7_15.out.trans (hb.mono K7_15.out.size))
  have K9_16 := hide (K9_15.out.trans (hb.mono K9_15.out.size))
  have K11_16 := hide (K11_15.out.trans (hb.mono K11_15.out.size))
  have K13_16 := hide (K13_15.out.trans (hb.mono K13_15.out.size))
  have K14_16 := hide (K14_15.out.trans (hb.mono K14_15.out.size))
  have K16_16 := hide (Below.refl w16.heap.size w16)
  clear hb hwa
  go_wp2_with (fail)
  have hq8 := HAR.out _ _ _ l3.out (by simp)
  rw [nx_ar] at hq8
  have hc8 := hide hq8
  clear hq8
  refine (hc8.out).mono ?_
  rintro e w17 ⟨rfl, hb⟩
  have K0_17 := hide (K0_16.out.trans (hb.mono K0_16.out.size))
  have K1_17 := hide (K1_16.out.trans (hb.mono K1_16.out.size))
  have K3_17 := hide (K3_16.out.trans (hb.mono K3_16.out.size))
  have K6_17 := hide (K6_16.out.trans (hb.mono K6_16.out.size))
  have K7_17 := hide (K7_16.out.trans (hb.mono K7_16.out.size))
  have K9_17 := hide (K9_16.out.trans (hb.mono K9_16.out.size))
  have K11_17 := hide (K11_16.out.trans (hb.mono K11_16.out.size))
  have K13_17 := hide (K13_16.out.trans (hb.mono K13_16.out.size))
  have K14_17 := hide (K14_16.out.trans (hb.mono K14_16.out.size))
  have K16_17 := hide (K16_16.out.trans (hb.mono K16_16.out.size))
  clear hb
  clear hc8
  go_wp2_with (fail)
  obtain ⟨w18, hwa⟩ : ∃ x, x = w17.alloc (.cells #[.int .i64 0, .int .i64 0, .int .i64 1, .int .i64 1, .int .i64 1, .int .i64 0, .int .i64 2, .int .i64 1] 43) := ⟨_, rfl⟩
  rw [← hwa]
  have hb : Below w17.heap.size w17 w18 := by rw [hwa]; exact (Below.refl _ _).alloc (Nat.le_refl _) _
  have l4 := hide (show RdK encR 4 w18 w18.heap.size (.slice (some ⟨w17.heap.size, 0, none⟩) 2 2) ([⟨0, 0, 1, 1⟩, ⟨1, 0, 2, 1⟩] : List R4) from by rw [hwa]; exact rd_lit w17 ([⟨0, 0, 1, 1⟩, ⟨1, 0, 2, 1⟩] : List R4) _ _)
  have K0_18 := hide (K0_17.out.trans (hb.mono K0_17.out.size))
  have K1_18 := hide (K1_17.out.trans (hb.mono K1_17.out.size))
  have K3_18 := hide (K3_17.out.trans (hb.mono K3_17.out.size))
  have K6_18 := hide (K6_17.out.trans (hb.mono K6_17.out.size))
  have K7_18 := hide (K7_17.out.trans (hb.mono K7_17.out.size))
  have K9_18 := hide (K9_17.out.trans (hb.mono K9_17.out.size))
  have K11_18 := hide (K11_17.out.trans (hb.mono K11_17.out.size))
  have K13_18 := hide (K13_17.out.trans (hb.mono K13_17.out.size))
  have K14_18 := hide (K14_17.out.trans (hb.mono K14_17.out.size))
  have K16_18 := hide (K16_17.out.trans (hb.mono K16_17.out.size))
  have K18_18 := hide (Below.refl w18.heap.size w18)
  clear hb hwa
  go_wp2_with (fail)
  have hq9 := HCK.out _ _ _ l4.out (by simp)
  rw [nx_c1] at hq9
  have hc9 := hide hq9
  clear hq9
  refine (hc9.out).mono ?_
  rintro e w19 ⟨rfl, hb⟩
  have K0_19 := hide (K0_18.out.trans (hb.mono K0_18.out.size))
  have K1_19 := hide (K1_18.out.trans (hb.mono K1_18.out.size))
  have K3_19 := hide (K3_18.out.trans (hb.mono K3_18.out.size))
  have K6_19 := hide (K6_18.out.trans (hb.mono K6_18.out.size))
  have K7_19 := hide (K7_18.out.trans (hb.mono K7_18.out.size))
  have K9_19 := hide (K9_18.out.trans (hb.mono K9_18.out.size))
  have K11_19 := hide (K11_18.out.trans (hb.mono K11_18.out.size))
  have K13_19 := hide (K13_18.out.trans (hb.mono K13_18.out.size))
  have K14_19 := hide (K14_18.out.trans (hb.mono K14_18.out.size))
  have K16_19 := hide (K16_18.out.trans (hb.mono K16_18.out.size))
  have K18_19 := hide (K18_18.out.trans (hb.mono K18_18.out.size))
  clear hb
  clear hc9
  go_wp2_with (fail)
  obtain ⟨w20, hwa⟩ : ∃ x, x = w19.alloc (.cells #[.int .i64 (-1000000), .int .i64 (-1000000), .int .i64 1000000, .int .i64 1000000] 43) := ⟨_, rfl⟩
  rw [← hwa]
  have hb : Below w19.heap.size w19 w20 := by rw [hwa]; exact (Below.refl _ _).alloc (Nat.le_refl _) _
  have l5 := hide (show RdK encR 4 w20 w20.heap.size (.slice (some ⟨w19.heap.size, 0, none⟩) 1 1) ([⟨-1000000, -1000000, 1000000, 1000000⟩] : List R4) from by rw [hwa]; exact rd_lit w19 ([⟨-1000000, -1000000, 1000000, 1000000⟩] : List R4) _ _)
  have K0_20 := hide (K0_19.out.trans (hb.mono K0_19.out.size))
  have K1_20 := hide (K1_19.out.trans (hb.mono K1_19.out.size))
  have K3_20 := hide (K3_19.out.trans (hb.mono K3_19.out.size))
  have K6_20 := hide (K6_19.out.trans (hb.mono K6_19.out.size))
  have K7_20 := hide (K7_19.out.trans (hb.mono K7_19.out.size))
  have K9_20 := hide (K9_19.out.trans (hb.mono K9_19.out.size))
  have K11_20 := hide (K11_19.out.trans (hb.mono K11_19.out.size))
  have K13_20 := hide (K13_19.out.trans (hb.mono K13_19.out.size))
  have K14_20 := hide (K14_19.out.trans (hb.mono K14_19.out.size))
  have K16_20 := hide (K16_19.out.trans (hb.mono K16_19.out.size))
  have K18_20 := hide (K18_19.out.trans (hb.mono K18_19.out.size))
  have K20_20 := hide (Below.refl w20.heap.size w20)
  clear hb hwa
  go_wp2_with (fail)
  have hq10 := HCK.out _ _ _ l5.out (by simp)
  rw [nx_c2] at hq10
  have hc10 := hide hq10
  clear hq10
  refine (hc10.out).mono ?_
  rintro e w21 ⟨rfl, hb⟩
  have K0_21 := hide (K0_20.out.trans (hb.mono K0_20.out.size))
  have K1_21 := hide (K1_20.out.trans (hb.mono K1_20.out.size))
  have K3_21 := hide (K3_20.out.trans (hb.mono K3_20.out.size))
  have K6_21 := hide (K6_20.out.trans (hb.mono K6_20.out.size))
  have K7_21 := hide (K7_20.out.trans (hb.mono K7_20.out.size))
  have K9_21 := hide (K9_20.out.trans (hb.mono K9_20.out.size))
  have K11_21 := hide (K11_20.out.trans (hb.mono K11_20.out.size))
  have K13_21 := hide (K13_20.out.trans (hb.mono K13_20.out.size))
  have K14_21 := hide (K14_20.out.trans (hb.mono K14_20.out.size))
  have K16_21 := hide (K16_20.out.trans (hb.mono K16_20.out.size))
  have K18_21 := hide (K18_20.out.trans (hb.mono K18_20.out.size))
  have K20_21 := hide (K20_20.out.trans (hb.mono K20_20.out.size))
  clear hb
  clear hc10
  go_wp2_with (fail)
  obtain ⟨w22, hwa⟩ : ∃ x, x = w21.alloc (.cells #[.int .i64 0, .int .i64 0, .int .i64 1000001, .int .i64 1] 43) := ⟨_, rfl⟩
  rw [← hwa]
  have hb : Below w21.heap.size w21 w22 := by rw [hwa]; exact (Below.refl _ _).alloc (Nat.le_refl _) _
  have l6 := hide (show RdK encR 4 w22 w22.heap.size (.slice (some ⟨w21.heap.size, 0, none⟩) 1 1) ([⟨0, 0, 1000001, 1⟩] : List R4) from by rw [hwa]; exact rd_lit w21 ([⟨0, 0, 1000001, 1⟩] : List R4) _ _)
  have K0_22 := hide (K0_21.out.trans (hb.mono K0_21.out.size))
  have K1_22 := hide (K1_21.out.trans (hb.mono K1_21.out.size))
  have K3_22 := hide (K3_21.out.trans (hb.mono K3_21.out.size))
  have K6_22 := hide (K6_21.out.trans (hb.mono K6_21.out.size))
  have K7_22 := hide (K7_21.out.trans (hb.mono K7_21.out.size))
  have K9_22 := hide (K9_21.out.trans (hb.mono K9_21.out.size))
  have K11_22 := hide (K11_21.out.trans (hb.mono K11_21.out.size))
  have K13_22 := hide (K13_21.out.trans (hb.mono K13_21.out.size))
  have K14_22 := hide (K14_21.out.trans (hb.mono K14_21.out.size))
  have K16_22 := hide (K16_21.out.trans (hb.mono K16_21.out.size))
  have K18_22 := hide (K18_21.out.trans (hb.mono K18_21.out.size))
  have K20_22 := hide (K20_21.out.trans (hb.mono K20_21.out.size))
  have K22_22 := hide (Below.refl w22.heap.size w22)
  clear hb hwa
  go_wp2_with (fail)
  have hq11 := HCK.out _ _ _ l6.out (by simp)
  rw [nx_c3] at hq11
  have hc11 := hide hq11
  clear hq11
  refine (hc11.out).mono ?_
  rintro e w23 ⟨rfl, hb⟩
  have K0_23 := hide (K0_22.out.trans (hb.mono K0_22.out.size))
  have K1_23 := hide (K1_22.out.trans (hb.mono K1_22.out.size))
  have K3_23 := hide (K3_22.out.trans (hb.mono K3_22.out.size))
  have K6_23 := hide (K6_22.out.trans (hb.mono K6_22.out.size))
  have K7_23 := hide (K7_22.out.trans (hb.mono K7_22.out.size))
  have K9_23 := hide (K9_22.out.trans (hb.mono K9_22.out.size))
  have K11_23 := hide (K11_22.out.trans (hb.mono K11_22.out.size))
  have K13_23 := hide (K13_22.out.trans (hb.mono K13_22.out.size))
  have K14_23 := hide (K14_22.out.trans (hb.mono K14_22.out.size))
  have K16_23 := hide (K16_22.out.trans (hb.mono K16_22.out.size))
  have K18_23 := hide (K18_22.out.trans (hb.mono K18_22.out.size))
  have K20_23 := hide (K20_22.out.trans (hb.mono K20_22.out.size))
  have K22_23 := hide (K22_22.out.trans (hb.mono K22_22.out.size))
  clear hb
  clear hc11
  go_wp2_with (fail)
  obtain ⟨w24, hwa⟩ : ∃ x, x = w23.alloc (.cells #[.int .i64 (-1000000), .int .i64 (-1000000), .int .i64 1000000, .int .i64 1000000] 43) := ⟨_, rfl⟩
  rw [← hwa]
  have hb : Below w23.heap.size w23 w24 := by rw [hwa]; exact (Below.refl _ _).alloc (Nat.le_refl _) _
  have l7 := hide (show RdK encR 4 w24 w24.heap.size (.slice (some ⟨w23.heap.size, 0, none⟩) 1 1) ([⟨-1000000, -1000000, 1000000, 1000000⟩] : List R4) from by rw [hwa]; exact rd_lit w23 ([⟨-1000000, -1000000, 1000000, 1000000⟩] : List R4) _ _)
  have K0_24 := hide (K0_23.out.trans (hb.mono K0_23.out.size))
  have K1_24 := hide (K1_23.out.trans (hb.mono K1_23.out.size))
  have K3_24 := hide (K3_23.out.trans (hb.mono K3_23.out.size))
  have K6_24 := hide (K6_23.out.trans (hb.mono K6_23.out.size))
  have K7_24 := hide (K7_23.out.trans (hb.mono K7_23.out.size))
  have K9_24 := hide (K9_23.out.trans (hb.mono K9_23.out.size))
  have K11_24 := hide (K11_23.out.trans (hb.mono K11_23.out.size))
  have K13_24 := hide (K13_23.out.trans (hb.mono K13_23.out.size))
  have K14_24 := hide (K14_23.out.trans (hb.mono K14_23.out.size))
  have K16_24 := hide (K16_23.out.trans (hb.mono K16_23.out.size))
  have K18_24 := hide (K18_23.out.trans (hb.mono K18_23.out.size))
  have K20_24 := hide (K20_23.out.trans (hb.mono K20_23.out.size))
  have K22_24 := hide (K22_23.out.trans (hb.mono K22_23.out.size))
  have K24_24 := hide (Below.refl w24.heap.size w24)
  clear hb hwa
  go_wp2_with (fail)
  have hq12 := HAR.out _ _ _ l7.out (by simp)
  rw [nx_a2] at hq12
  have hc12 := hide hq12
  clear hq12
  refine (hc12.out).mono ?_
  rintro e w25 ⟨rfl, hb⟩
  have K0_25 := hide (K0_24.out.trans (hb.mono K0_24.out.size))
  have K1_25 := hide (K1_24.out.trans (hb.mono K1_24.out.size))
  have K3_25 := hide (K3_24.out.trans (hb.mono K3_24.out.size))
  have K6_25 := hide (K6_24.out.trans (hb.mono K6_24.out.size))
  have K7_25 := hide (K7_24.out.trans (hb.mono K7_24.out.size))
  have K9_25 := hide (K9_24.out.trans (hb.mono K9_24.out.size))
  have K11_25 := hide (K11_24.out.trans (hb.mono K11_24.out.size))
  have K13_25 := hide (K13_24.out.trans (hb.mono K13_24.out.size))
  have K14_25 := hide (K14_24.out.trans (hb.mono K14_24.out.size))
  have K16_25 := hide (K16_24.out.trans (hb.mono K16_24.out.size))
  have K18_25 := hide (K18_24.out.trans (hb.mono K18_24.out.size))
  have K20_25 := hide (K20_24.out.trans (hb.mono K20_24.out.size))
  have K22_25 := hide (K22_24.out.trans (hb.mono K22_24.out.size))
  have K24_25 := hide (K24_24.out.trans (hb.mono K24_24.out.size))
  clear hb
  clear hc12
  go_wp2_with (fail)
  have HB0 := hide K0_25.out
  go_loopw [22, 23, 24] (fun v1 v2 i wr => ∃ m : Nat, m ≤ 30 ∧ i = .int .i64 m ∧ ∃ Ax cx Ay cy, v1 = .slice Ax m cx ∧ v2 = .slice Ay m cy ∧ Hid (wr.ownsRow w.heap.size 43 4 (.slice Ax m cx) m ((combX m).flatMap encR)) ∧ Hid (wr.ownsRow w.heap.size 43 4 (.slice Ay m cy) m ((combY m).flatMap encR)) ∧ Hid (Value.ownBlock (.slice Ax m cx) = none ∨ Value.ownBlock (.slice Ax m cx) ≠ Value.ownBlock (.slice Ay m cy)) ∧ Hid (Below w.heap.size w wr)) (fun _ _ i _ => 30 - (intOf i).toNat)
  case atStart => exact ⟨0, by omega, rfl, none, 0, none, 0, rfl, rfl, hide (World.ownsRow_nil _ _ _ _), hide (World.ownsRow_nil _ _ _ _), hide (.inl rfl), HB0⟩
  case round =>
    obtain ⟨m, hm, rfl, Ax, cx, Ay, cy, rfl, rfl, HX, HY, HAP, HB⟩ := hrel
    by_cases hlt : m < 30
    · have mz : (m : Int) < 30 := by omega
      have hsz := HB.out.size
      have HSX := hide (combX_snoc m)
      have HSY := hide (combY_snoc m)
      go_wp2_with (at_builtin; go_loud (refine wpList_append_lies _ rfl (.tmp 98) (.tmp 105) 22 rfl w.heap.size 43 i1 (.agg #[.int .i64 0, .int .i64 0, .int .i64 0, .int .i64 0]) 4 32 Try.underlying22 gi gz0 gz1 gz2 rfl (by decide) _ m _ rfl (World.ownsRow.alloc HX.out _) ⟨wr.heap.size, 0, none⟩ 1 1 [.int .i64 (2 * (m : Int)), .int .i64 0, .int .i64 (2 * (m : Int) + 1), .int .i64 60] rfl rfl (news_new wr _ _ _ rfl) (ints_one rfl) (by omega) (by unfold maxLen; omega) (by omega) (by simp; omega) _ rfl ?_))
      intro g9 cap9 w9 hown9 hgrow9 hat9 hlt9
      have hx9 : (combX m).flatMap encR ++ [.int .i64 (2 * (m : Int)), .int .i64 0, .int .i64 (2 * (m : Int) + 1), .int .i64 60] = (combX (m + 1)).flatMap encR := by rw [HSX.out]; simp [encR]
      rw [hx9] at hown9
      have hb9 := (HB.out.alloc hsz _).grown hgrow9 (by simp; omega) (fun q hq => (HX.out.lt q hq).1)
      have hy9 := (World.ownsRow.alloc HY.out (.cells #[.int .i64 (2 * (m : Int)), .int .i64 0, .int .i64 (2 * (m : Int) + 1), .int .i64 60] 43)).kept hgrow9 (by rcases HAP.out with h | h; exact (Classical.em _).imp id (fun _ => by rw [h]; assumption); exact .inr (Ne.symm h))
      have hne9 : some g9 ≠ Value.ownBlock (.slice Ay m cy) := by
        rcases hat9 with h | h
        · rcases HAP.out with h2 | h2
          · rw [h] at h2; cases h2
          · rw [h] at h2; exact h2
        · intro e
          have := (HY.out.lt g9 e.symm).2
          (try simp at h)
          omega
      have HX9 := hide hown9
      have HY9 := hide hy9
      have HB9 := hide hb9
      have HNE := hide hne9
      have hs9 := hb9.size
      have HLT9 := hide hlt9
      clear hown9 hgrow9 hat9 hx9 hb9 hy9 hne9 hlt9
      go_wp2_with (at_builtin; go_loud (refine wpList_append_lies _ rfl (.tmp 107) (.tmp 114) 22 rfl w.heap.size 43 i1 (.agg #[.int .i64 0, .int .i64 0, .int .i64 0, .int .i64 0]) 4 32 Try.underlying22 gi gz0 gz1 gz2 rfl (by decide) _ m _ rfl (World.ownsRow.alloc HY9.out _) ⟨w9.heap.size, 0, none⟩ 1 1 [.int .i64 0, .int .i64 (2 * (m : Int)), .int .i64 60, .int .i64 (2 * (m : Int) + 1)] rfl rfl (news_new w9 _ _ _ rfl) (ints_one rfl) (by omega) (by unfold maxLen; omega) (by omega) (by simp; omega) _ rfl ?_))
      intro g8 cap8 w8 hown8 hgrow8 hat8 _
      have hx8 : (combY m).flatMap encR ++ [.int .i64 0, .int .i64 (2 * (m : Int)), .int .i64 60, .int .i64 (2 * (m : Int) + 1)] = (combY (m + 1)).flatMap encR := by rw [HSY.out]; simp [encR]
      rw [hx8] at hown8
      have hb8 := (HB9.out.alloc hs9 _).grown hgrow8 (by simp; omega) (fun q hq => (HY9.out.lt q hq).1)
      have hx8' := (World.ownsRow.alloc HX9.out (.cells #[.int .i64 0, .int .i64 (2 * (m : Int)), .int .i64 60, .int .i64 (2 * (m : Int) + 1)] 43)).kept hgrow8 (.inr HNE.out)
      have hne8 : Value.ownBlock (.slice (some ⟨g9, 0, none⟩) (m + 1) cap9) ≠ Value.ownBlock (.slice (some ⟨g8, 0, none⟩) (m + 1) cap8) := by
        show some g9 ≠ some g8
        rcases hat8 with h | h
        · rw [← h]; exact HNE.out
        · intro e
          injection e with e
          have := HLT9.out
          (try simp at h)
          omega
      have HX8 := hide hx8'
      have HY8 := hide hown8
      have HB8 := hide hb8
      have HNE8 := hide (show Value.ownBlock (.slice (some ⟨g9, 0, none⟩) (m + 1) cap9) = none ∨ Value.ownBlock (.slice (some ⟨g9, 0, none⟩) (m + 1) cap9) ≠ Value.ownBlock (.slice (some ⟨g8, 0, none⟩) (m + 1) cap8) from .inr hne8)
      clear hown8 hgrow8 hat8 hx8 hb8 hx8' hne8
      go_wp2
      go_roundw
      case rel => exact ⟨m + 1, by omega, by go_num, _, cap9, _, cap8, rfl, rfl, HX8, HY8, HNE8, HB8⟩
      case measure => simp [intOf]; omega
    · have mz : ¬ (m : Int) < 30 := by omega
      obtain rfl : m = 30 := by omega
      have hrx := hide (own_rd (own_n HX.out (comb_len 30).1.symm) (fun _ => rfl))
      have hry := hide (own_rd (own_n HY.out (comb_len 30).2.symm) (fun _ => rfl))
      have K0 := hide HB.out
      have hsz := HB.out.size
      have hq1 := HMK.out _ _ _ hrx.out (by rw [(comb_len 30).1]; omega)
      rw [HN1.out] at hq1
      have HQ1 := hide hq1
      clear hq1
      go_wp2_with (fail)
      refine HQ1.out.mono ?_
      rintro e v1 ⟨⟨Ap, cp, rfl, ho⟩, hb⟩
      have rx := hide (own_rd ho (fun _ => rfl))
      replace hry := hide ((hry.out.below hb).mono hb.size)
      replace K0 := hide (K0.out.trans (hb.mono K0.out.size))
      clear hb ho
      have hq2 := HMK.out _ _ _ hry.out (by rw [(comb_len 30).2]; omega)
      rw [HYY.out] at hq2
      have HQ2 := hide hq2
      clear hq2
      go_wp2_with (fail)
      refine HQ2.out.mono ?_
      rintro e v2 ⟨⟨Aq, cq, rfl, ho⟩, hb⟩
      have ry := hide (own_rd ho (fun _ => rfl))
      replace rx := hide ((rx.out.below hb).mono hb.size)
      replace K0 := hide (K0.out.trans (hb.mono K0.out.size))
      clear hb ho
      have hq3 := meet_any rx.out ry.out (by rw [(comb_len 30).1]; omega) (by show Y.length ≤ 100000000; have h5 := hyl; omega)
      rw [HJ.out] at hq3
      have HQ3 := hide hq3
      clear hq3
      go_wp2_with (fail)
      refine HQ3.out.mono ?_
      rintro e v3 ⟨⟨Ar, cr, rfl, ho⟩, hb⟩
      replace rx := hide ((rx.out.below hb).mono hb.size)
      replace ry := hide ((ry.out.below hb).mono hb.size)
      replace K0 := hide (K0.out.trans (hb.mono K0.out.size))
      clear hb ho
      have hq4 := flip_any rx.out (by rw [(comb_len 30).1]; omega)
      rw [HN4.out] at hq4
      have HQ4 := hide hq4
      clear hq4
      go_wp2_with (fail)
      refine HQ4.out.mono ?_
      rintro e v4 ⟨⟨At, ct, rfl, ho⟩, hb⟩
      have rt := hide (own_rd ho (fun _ => rfl))
      replace ry := hide ((ry.out.below hb).mono hb.size)
      replace K0 := hide (K0.out.trans (hb.mono K0.out.size))
      clear hb ho
      go_wp2_with (fail)
      refine (alive_any _).mono ?_
      rintro e v5 ⟨rfl, hb⟩
      replace rt := hide ((rt.out.below hb).mono hb.size)
      replace ry := hide ((ry.out.below hb).mono hb.size)
      replace K0 := hide (K0.out.trans (hb.mono K0.out.size))
      clear hb
      have HQ6 := hide (rSameSelf rt.out ry.out (by show Y.length ≤ 100000000; have h5 := hyl; omega))
      go_wp2_with (fail)
      refine HQ6.out.mono ?_
      rintro e v6 ⟨rfl, hb⟩
      replace K0 := hide (K0.out.trans (hb.mono K0.out.size))
      clear hb
      go_wp2_with (fail)
      go_ret
      exact ⟨rfl, K0.out⟩
end Go.Proofs.Ytamnaojheecopaa
