/- OutlineNames' walk. -/
import Derived.Test.YtdfpbhlnlkjjlaaGreatXtrK
namespace Go.Proofs.YtdfpbhlnlkjjlaaGreat
open Go.RowKit
set_option linter.unusedVariables false
set_option linter.unusedSimpArgs false

theorem callsO_name {P : Program} {F : Nat} {A : Array Value} {W : World} {Q : Ending → World → Prop} (h : ∀ w, w = W → Calls P F A w Q) : Calls P F A W Q := h W rfl
theorem made_two (z : Value) (n : Nat) : (madeCells #[z, z] n).toList = List.replicate n z := by
  apply List.ext_getElem
  · simp [madeCells]
  · intro i h1 h2
    have h3 : i % 2 = 0 ∨ i % 2 = 1 := by omega
    rcases h3 with h3 | h3 <;> simp [madeCells, h3]
theorem flat_rep : ∀ n : Nat, (List.replicate n ((0, 0) : Pt)).flatMap encS = List.replicate (n * 2) (Value.int .i64 0)
  | 0 => rfl
  | n + 1 => by
    rw [List.replicate_succ, List.flatMap_cons, flat_rep n, Nat.add_mul]
    rfl
theorem make_2001 : ∃ CS : Array Value, (∀ W : World, RdK encS 2 (W.alloc (.cells CS 53)) (W.alloc (.cells CS 53)).heap.size (.slice (some ⟨W.heap.size, 0, none⟩) 2001 2001) (List.replicate 2001 (0, 0))) ∧ ∀ W : World, (Instr.makeSlice 36 (.int .i64 2001) (.int .i64 2001)).run Tryz.prog W = .ok (.slice (some ⟨W.heap.size, 0, none⟩) 2001 2001) (W.alloc (.cells CS 53)) := by
  obtain ⟨i0, hi, hz0, hz1, hz2⟩ := info_parts infoPtO
  refine ⟨((List.replicate 2001 ((0, 0) : Pt)).flatMap encS).toArray, fun W => ?_, fun W => ?_⟩
  · have h := rd_litP W (List.replicate 2001 (0, 0)) 53 2001
    rw [List.length_replicate] at h
    exact h
  · have h := run_make (P := Tryz.prog) W 36 53 i0 _ Tryz.underlying36 hi hz0 .i64 .i64 2001 2001 (by omega) (Int.le_refl _) (by rw [hz2]; omega) (by omega)
    have e : madeCells (Value.agg #[.int .i64 0, .int .i64 0]).cells (2001 * i0.size) = ((List.replicate 2001 ((0, 0) : Pt)).flatMap encS).toArray := by
      apply Array.toList_inj.1
      rw [hz1, flat_rep]
      exact made_two _ _
    rw [← e]
    exact h
theorem rd_pts6 (w : World) (a b c d e f g h i j k l : Int) (t : TypeId) : RdK encS 2 (w.alloc (.cells #[.int .i64 a, .int .i64 b, .int .i64 c, .int .i64 d, .int .i64 e, .int .i64 f, .int .i64 g, .int .i64 h, .int .i64 i, .int .i64 j, .int .i64 k, .int .i64 l] t)) (w.alloc (.cells #[.int .i64 a, .int .i64 b, .int .i64 c, .int .i64 d, .int .i64 e, .int .i64 f, .int .i64 g, .int .i64 h, .int .i64 i, .int .i64 j, .int .i64 k, .int .i64 l] t)).heap.size (.slice (some ⟨w.heap.size, 0, none⟩) 6 6) [(a, b), (c, d), (e, f), (g, h), (i, j), (k, l)] :=
  rd_litP w [(a, b), (c, d), (e, f), (g, h), (i, j), (k, l)] t 6
theorem en_1 : areaO ([(0, 0), (1, 0), (2, 0), (2, 1)] : List Pt) = (0, 8) := by kernel_rfl
theorem en_2 : lenO ([(0, 0), (1000001, 0), (1000001, 1), (0, 1)] : List Pt) = (0, 8) := by kernel_rfl
theorem en_4 : lenO ([(-1000000, -1000000), (1000000, -1000000), (1000000, 1000000), (-1000000, 1000000)] : List Pt) = (8000000, 0) := by kernel_rfl
theorem en_5 : turnO ([(0, 0), (2, 0), (2, 2), (1, 2), (1, -1), (0, -1)] : List Pt) = (0, 0) := by kernel_rfl
theorem en_6 : ([rimP, holeP].filter posL).length = 1 := by kernel_rfl
theorem en_3 : turnO (List.replicate 2001 ((0, 0) : Pt)) = (0, 4) := by
  have h : chkO (List.replicate 2001 ((0, 0) : Pt)) = 4 := by
    unfold chkO
    rw [if_pos (by rw [List.length_replicate]; omega)]
  unfold turnO
  rw [h]
  rfl
set_option maxRecDepth 100000 in
set_option maxHeartbeats 16000000 in
theorem onames_walk (w : World) : Calls Tryz.prog 8 #[] w fun e w' => e = .returned (.bool true) ∧ Below w.heap.size w w' := by
  have G1 := hide (fun (w : World) (v : Value) (h : RdPs w w.heap.size v [[(0, 0), (1, 0), (1, 1), (0, 1)], [(0, 0), (1, 0), (1, 1), (0, 1)]]) => by rw [← sqP_1] at h; have := fill_is ex_fl3 none_outl ex_ck5 (by decide) (fun p hp => (show p = sqP 0 0 1 from by simpa using hp) ▸ ex_co3) (by decide) h; rw [if_neg (by decide), if_neg (by decide)] at this; exact this)
  have G2 := hide (fun (w : World) (v : Value) (h : RdPs w w.heap.size v [([(0, 0), (0, 1), (1, 1), (1, 0)] : List Pt)]) => by have := fill_is ex_fl4 none_outl ex_ck5 (by decide) (fun p hp => by rw [List.mem_singleton.1 hp]; exact ex_co4) (by decide) h; rw [if_neg (by decide), if_neg (by decide)] at this; exact this)
  have G3 := hide (fun (w : World) (v : Value) (h : RdPs w w.heap.size v [([(1, 0), (1, 1), (0, 1), (0, 0)] : List Pt)]) => by have := fill_is ex_fl2 unit_outl ex_ck4 (by decide) (fun p hp => by rw [List.mem_singleton.1 hp]; exact ex_co2) (by decide) h; rw [if_neg (by decide), if_neg (by decide)] at this; exact this)
  have G4 := hide (fun (w : World) (v : Value) (h : RdPs w w.heap.size v [[(0, 0), (1, 0), (1, 1)]]) => by have := fill_bad (j := 0) (p := [(0, 0), (1, 0), (1, 1)]) h rfl (by rw [ex_co5]; decide) (fun i hi => by omega) (by decide) (by decide); rwa [ex_co5] at this)
  have G5 := hide (fun (w : World) (v : Value) (h : RdK encS 2 w w.heap.size v ([(0, 0), (1, 0), (2, 0), (2, 1)] : List Pt)) => by have := area_o_any h (by decide); rwa [en_1] at this)
  have G6 := hide (fun (w : World) (v : Value) (h : RdK encS 2 w w.heap.size v ([(0, 0), (1000001, 0), (1000001, 1), (0, 1)] : List Pt)) => by have := len_o_any h (by decide); rwa [en_2] at this)
  have G7 := hide (fun (w : World) (v : Value) (h : RdK encS 2 w w.heap.size v (List.replicate 2001 (0, 0))) => by have := turn_o_any h (by rw [List.length_replicate]; omega); rwa [en_3] at this)
  have G8 := hide (fun (w : World) (v : Value) (h : RdK encR 4 w w.heap.size v [⟨0, 0, 0, 0⟩]) => by have := of_err h (by decide) (by rw [ex_ck6]; decide); rwa [ex_ck6] at this)
  have G9 := hide (fun (w : World) (v : Value) (h : RdPs w w.heap.size v []) => by have := fill_is ex_fl5 none_outl ex_ck5 (by decide) (fun p hp => by cases hp) (by decide) h; rw [if_pos rfl, if_pos rfl] at this; exact this)
  have G10 := hide (fun (w : World) (v : Value) (h : RdK encS 2 w w.heap.size v ([(-1000000, -1000000), (1000000, -1000000), (1000000, 1000000), (-1000000, 1000000)] : List Pt)) => by have := len_o_any h (by decide); rwa [en_4] at this)
  have G11 := hide (fun (w : World) (v : Value) (h : RdK encS 2 w w.heap.size v ([(0, 0), (2, 0), (2, 2), (1, 2), (1, -1), (0, -1)] : List Pt)) => by have := turn_o_any h (by decide); rwa [en_5] at this)
  have G12 := hide (fun (w : World) (v : Value) (h : RdK encR 4 w w.heap.size v ringR) => (euler_any h (by decide) ex_ck1).mono (R' := fun e w' => e = .returned (.tuple #[.int .i64 1, .int .i64 1, .int .i64 0]) ∧ Below w.heap.size w w') (by
    rintro e w' ⟨⟨M, hM, rfl⟩, hb⟩
    have e := hM.ext ring_outl
    subst e
    rw [en_6]
    exact ⟨rfl, hb⟩))
  have K := hide (Below.refl w.heap.size w)
  go_enter Tryz.func8, Tryz.ntmps8
  go_wp2_with (fail)
  refine (at13_any 0 0 _).mono ?_
  rintro e v1 ⟨rfl, hb⟩
  replace K := hide (K.out.trans (hb.mono K.out.size))
  clear hb
  go_wp2_with (fail)
  refine (at13_any 1 0 _).mono ?_
  rintro e v2 ⟨rfl, hb⟩
  replace K := hide (K.out.trans (hb.mono K.out.size))
  clear hb
  go_wp2_with (fail)
  refine (at13_any 1 1 _).mono ?_
  rintro e v3 ⟨rfl, hb⟩
  replace K := hide (K.out.trans (hb.mono K.out.size))
  clear hb
  go_wp2_with (fail)
  refine (at13_any 0 1 _).mono ?_
  rintro e v4 ⟨rfl, hb⟩
  replace K := hide (K.out.trans (hb.mono K.out.size))
  clear hb
  go_wp2_with (fail)
  refine callsO_name fun v5 hZ => ?_
  have hb : Below v4.heap.size v4 v5 := by
    rw [hZ]
    repeat (first | with_reducible exact Below.refl _ _ | with_reducible refine Below.alloc ?_ (by first | omega | (simp; omega) | simp) _)
  have HS := hide (show RdK encS 2 v5 v5.heap.size (.slice (some ⟨v4.heap.size, 0, none⟩) 4 4) ([(0, 0), (1, 0), (1, 1), (0, 1)] : List Pt) from by rw [hZ]; exact rd_pts4 v4 0 0 1 0 1 1 0 1 53)
  replace K := hide (K.out.trans (hb.mono K.out.size))
  clear hZ hb
  refine (at13_any 0 0 _).mono ?_
  rintro e v6 ⟨rfl, hb⟩
  replace K := hide (K.out.trans (hb.mono K.out.size))
  replace HS := hide ((HS.out.below hb).mono hb.size)
  clear hb
  go_wp2_with (fail)
  refine (at13_any 0 1 _).mono ?_
  rintro e v7 ⟨rfl, hb⟩
  replace K := hide (K.out.trans (hb.mono K.out.size))
  replace HS := hide ((HS.out.below hb).mono hb.size)
  clear hb
  go_wp2_with (fail)
  refine (at13_any 1 1 _).mono ?_
  rintro e v8 ⟨rfl, hb⟩
  replace K := hide (K.out.trans (hb.mono K.out.size))
  replace HS := hide ((HS.out.below hb).mono hb.size)
  clear hb
  go_wp2_with (fail)
  refine (at13_any 1 0 _).mono ?_
  rintro e v9 ⟨rfl, hb⟩
  replace K := hide (K.out.trans (hb.mono K.out.size))
  replace HS := hide ((HS.out.below hb).mono hb.size)
  clear hb
  go_wp2_with (fail)
  refine callsO_name fun v10 hZ => ?_
  have hb : Below v9.heap.size v9 v10 := by
    rw [hZ]
    repeat (first | with_reducible exact Below.refl _ _ | with_reducible refine Below.alloc ?_ (by first | omega | (simp; omega) | simp) _)
  have hbk := rd_pts4 v9 0 0 0 1 1 1 1 0 53
  have hb1 : Below v9.heap.size v9 (v9.alloc (.cells #[.int .i64 0, .int .i64 0, .int .i64 0, .int .i64 1, .int .i64 1, .int .i64 1, .int .i64 1, .int .i64 0] 53)) := (Below.refl _ _).alloc (Nat.le_refl _) _
  have hs1 := (HS.out.below hb1).mono hb1.size
  have hb2 := (Below.refl (v9.alloc (.cells #[.int .i64 0, .int .i64 0, .int .i64 0, .int .i64 1, .int .i64 1, .int .i64 1, .int .i64 1, .int .i64 0] 53)).heap.size (v9.alloc (.cells #[.int .i64 0, .int .i64 0, .int .i64 0, .int .i64 1, .int .i64 1, .int .i64 1, .int .i64 1, .int .i64 0] 53))).alloc (Nat.le_refl _) (.cells #[.slice (some ⟨v4.heap.size, 0, none⟩) 4 4, .slice (some ⟨v4.heap.size, 0, none⟩) 4 4] 36)
  have HBK := hide (show RdK encS 2 v10 v10.heap.size (.slice (some ⟨v9.heap.size, 0, none⟩) 4 4) ([(0, 0), (0, 1), (1, 1), (1, 0)] : List Pt) from by rw [hZ]; exact (hbk.below hb2).mono hb2.size)
  have HP := hide (show RdPs v10 v10.heap.size (.slice (some ⟨v9.heap.size + 1, 0, none⟩) 2 2) [([(0, 0), (1, 0), (1, 1), (0, 1)] : List Pt), ([(0, 0), (1, 0), (1, 1), (0, 1)] : List Pt)] from by rw [hZ]; exact rdps_two_at (by simp) _ _ _ _ hs1 hs1 _ _)
  clear hbk hb1 hs1 hb2
  replace K := hide (K.out.trans (hb.mono K.out.size))
  replace HS := hide ((HS.out.below hb).mono hb.size)
  clear hZ hb
  refine (G1.out _ _ HP.out).mono ?_
  rintro e v11 ⟨⟨A1, n1, c1, rfl, _⟩, hb⟩
  replace K := hide (K.out.trans (hb.mono K.out.size))
  replace HS := hide ((HS.out.below hb).mono hb.size)
  replace HBK := hide ((HBK.out.below hb).mono hb.size)
  replace HP := hide ((HP.out.below hb).mono hb.size)
  clear hb
  clear HP
  clear G1
  go_wp2_with (fail)
  refine callsO_name fun v12 hZ => ?_
  have hb : Below v11.heap.size v11 v12 := by
    rw [hZ]
    repeat (first | with_reducible exact Below.refl _ _ | with_reducible refine Below.alloc ?_ (by first | omega | (simp; omega) | simp) _)
  have HP := hide (show RdPs v12 v12.heap.size (.slice (some ⟨v11.heap.size, 0, none⟩) 1 1) [([(0, 0), (0, 1), (1, 1), (1, 0)] : List Pt)] from by rw [hZ]; exact rdps_one_at rfl _ _ HBK.out _ _)
  replace K := hide (K.out.trans (hb.mono K.out.size))
  replace HS := hide ((HS.out.below hb).mono hb.size)
  replace HBK := hide ((HBK.out.below hb).mono hb.size)
  clear hZ hb
  refine (G2.out _ _ HP.out).mono ?_
  rintro e v13 ⟨⟨A2, n2, c2, rfl, _⟩, hb⟩
  replace K := hide (K.out.trans (hb.mono K.out.size))
  replace HS := hide ((HS.out.below hb).mono hb.size)
  replace HBK := hide ((HBK.out.below hb).mono hb.size)
  replace HP := hide ((HP.out.below hb).mono hb.size)
  clear hb
  clear HP HBK
  clear G2
  go_wp2_with (fail)
  refine (at13_any 1 0 _).mono ?_
  rintro e v14 ⟨rfl, hb⟩
  replace K := hide (K.out.trans (hb.mono K.out.size))
  replace HS := hide ((HS.out.below hb).mono hb.size)
  clear hb
  go_wp2_with (fail)
  refine (at13_any 1 1 _).mono ?_
  rintro e v15 ⟨rfl, hb⟩
  replace K := hide (K.out.trans (hb.mono K.out.size))
  replace HS := hide ((HS.out.below hb).mono hb.size)
  clear hb
  go_wp2_with (fail)
  refine (at13_any 0 1 _).mono ?_
  rintro e v16 ⟨rfl, hb⟩
  replace K := hide (K.out.trans (hb.mono K.out.size))
  replace HS := hide ((HS.out.below hb).mono hb.size)
  clear hb
  go_wp2_with (fail)
  refine (at13_any 0 0 _).mono ?_
  rintro e v17 ⟨rfl, hb⟩
  replace K := hide (K.out.trans (hb.mono K.out.size))
  replace HS := hide ((HS.out.below hb).mono hb.size)
  clear hb
  go_wp2_with (fail)
  refine callsO_name fun v18 hZ => ?_
  have hb : Below v17.heap.size v17 v18 := by
    rw [hZ]
    repeat (first | with_reducible exact Below.refl _ _ | with_reducible refine Below.alloc ?_ (by first | omega | (simp; omega) | simp) _)
  have hbk := rd_pts4 v17 1 0 1 1 0 1 0 0 53
  have HP := hide (show RdPs v18 v18.heap.size (.slice (some ⟨v17.heap.size + 1, 0, none⟩) 1 1) [([(1, 0), (1, 1), (0, 1), (0, 0)] : List Pt)] from by rw [hZ]; exact rdps_one_at (by simp) _ _ hbk _ _)
  clear hbk
  replace K := hide (K.out.trans (hb.mono K.out.size))
  replace HS := hide ((HS.out.below hb).mono hb.size)
  clear hZ hb
  refine (G3.out _ _ HP.out).mono ?_
  rintro e v19 ⟨⟨A3, n3, c3, rfl, _⟩, hb⟩
  replace K := hide (K.out.trans (hb.mono K.out.size))
  replace HS := hide ((HS.out.below hb).mono hb.size)
  replace HP := hide ((HP.out.below hb).mono hb.size)
  clear hb
  clear HP
  clear G3
  go_wp2_with (fail)
  refine callsO_name fun v20 hZ => ?_
  have hb : Below v19.heap.size v19 v20 := by
    rw [hZ]
    repeat (first | with_reducible exact Below.refl _ _ | with_reducible refine Below.alloc ?_ (by first | omega | (simp; omega) | simp) _)
  have hs1 := rd_takeO (m := 3) (c' := 4) HS.out (by decide)
  have HP := hide (show RdPs v20 v20.heap.size (.slice (some ⟨v19.heap.size, 0, none⟩) 1 1) [([(0, 0), (1, 0), (1, 1)] : List Pt)] from by rw [hZ]; exact rdps_one_at rfl _ _ hs1 _ _)
  clear hs1
  replace K := hide (K.out.trans (hb.mono K.out.size))
  replace HS := hide ((HS.out.below hb).mono hb.size)
  clear hZ hb
  refine (G4.out _ _ HP.out).mono ?_
  rintro e v21 ⟨rfl, hb⟩
  replace K := hide (K.out.trans (hb.mono K.out.size))
  replace HS := hide ((HS.out.below hb).mono hb.size)
  replace HP := hide ((HP.out.below hb).mono hb.size)
  clear hb
  clear HP HS
  clear G4
  go_wp2_with (fail)
  refine (at13_any 0 0 _).mono ?_
  rintro e v22 ⟨rfl, hb⟩
  replace K := hide (K.out.trans (hb.mono K.out.size))
  clear hb
  go_wp2_with (fail)
  refine (at13_any 1 0 _).mono ?_
  rintro e v23 ⟨rfl, hb⟩
  replace K := hide (K.out.trans (hb.mono K.out.size))
  clear hb
  go_wp2_with (fail)
  refine (at13_any 2 0 _).mono ?_
  rintro e v24 ⟨rfl, hb⟩
  replace K := hide (K.out.trans (hb.mono K.out.size))
  clear hb
  go_wp2_with (fail)
  refine (at13_any 2 1 _).mono ?_
  rintro e v25 ⟨rfl, hb⟩
  replace K := hide (K.out.trans (hb.mono K.out.size))
  clear hb
  go_wp2_with (fail)
  refine callsO_name fun v26 hZ => ?_
  have hb : Below v25.heap.size v25 v26 := by
    rw [hZ]
    repeat (first | with_reducible exact Below.refl _ _ | with_reducible refine Below.alloc ?_ (by first | omega | (simp; omega) | simp) _)
  have HA := hide (show RdK encS 2 v26 v26.heap.size (.slice (some ⟨v25.heap.size, 0, none⟩) 4 4) ([(0, 0), (1, 0), (2, 0), (2, 1)] : List Pt) from by rw [hZ]; exact rd_pts4 v25 0 0 1 0 2 0 2 1 53)
  replace K := hide (K.out.trans (hb.mono K.out.size))
  clear hZ hb
  refine (G5.out _ _ HA.out).mono ?_
  rintro e v27 ⟨rfl, hb⟩
  replace K := hide (K.out.trans (hb.mono K.out.size))
  replace HA := hide ((HA.out.below hb).mono hb.size)
  clear hb
  clear HA
  clear G5
  go_wp2_with (fail)
  refine (at13_any 0 0 _).mono ?_
  rintro e v28 ⟨rfl, hb⟩
  replace K := hide (K.out.trans (hb.mono K.out.size))
  clear hb
  go_wp2_with (fail)
  refine (at13_any 1000001 0 _).mono ?_
  rintro e v29 ⟨rfl, hb⟩
  replace K := hide (K.out.trans (hb.mono K.out.size))
  clear hb
  go_wp2_with (fail)
  refine (at13_any 1000001 1 _).mono ?_
  rintro e v30 ⟨rfl, hb⟩
  replace K := hide (K.out.trans (hb.mono K.out.size))
  clear hb
  go_wp2_with (fail)
  refine (at13_any 0 1 _).mono ?_
  rintro e v31 ⟨rfl, hb⟩
  replace K := hide (K.out.trans (hb.mono K.out.size))
  clear hb
  go_wp2_with (fail)
  refine callsO_name fun v32 hZ => ?_
  have hb : Below v31.heap.size v31 v32 := by
    rw [hZ]
    repeat (first | with_reducible exact Below.refl _ _ | with_reducible refine Below.alloc ?_ (by first | omega | (simp; omega) | simp) _)
  have HA := hide (show RdK encS 2 v32 v32.heap.size (.slice (some ⟨v31.heap.size, 0, none⟩) 4 4) ([(0, 0), (1000001, 0), (1000001, 1), (0, 1)] : List Pt) from by rw [hZ]; exact rd_pts4 v31 0 0 1000001 0 1000001 1 0 1 53)
  replace K := hide (K.out.trans (hb.mono K.out.size))
  clear hZ hb
  refine (G6.out _ _ HA.out).mono ?_
  rintro e v33 ⟨rfl, hb⟩
  replace K := hide (K.out.trans (hb.mono K.out.size))
  replace HA := hide ((HA.out.below hb).mono hb.size)
  clear hb
  clear HA
  clear G6
  obtain ⟨CS, hCS, hmk⟩ := make_2001
  have HCS := hide hCS
  clear hCS
  go_wp2_with (fail)
  refine callsO_name fun v34 hZ => ?_
  have hb : Below v33.heap.size v33 v34 := by
    rw [hZ]
    repeat (first | with_reducible exact Below.refl _ _ | with_reducible refine Below.alloc ?_ (by first | omega | (simp; omega) | simp) _)
  have HA := hide (show RdK encS 2 v34 v34.heap.size (.slice (some ⟨v33.heap.size, 0, none⟩) 2001 2001) (List.replicate 2001 (0, 0)) from by rw [hZ]; exact HCS.out _)
  clear hmk HCS
  replace K := hide (K.out.trans (hb.mono K.out.size))
  clear hZ hb
  refine (G7.out _ _ HA.out).mono ?_
  rintro e v35 ⟨rfl, hb⟩
  replace K := hide (K.out.trans (hb.mono K.out.size))
  replace HA := hide ((HA.out.below hb).mono hb.size)
  clear hb
  clear HA
  clear G7
  go_wp2_with (fail)
  refine callsO_name fun v36 hZ => ?_
  have hb : Below v35.heap.size v35 v36 := by
    rw [hZ]
    repeat (first | with_reducible exact Below.refl _ _ | with_reducible refine Below.alloc ?_ (by first | omega | (simp; omega) | simp) _)
  have HA := hide (show RdK encR 4 v36 v36.heap.size (.slice (some ⟨v35.heap.size, 0, none⟩) 1 1) [⟨0, 0, 0, 0⟩] from by rw [hZ]; exact rd_rects1 v35 0 0 0 0 49)
  replace K := hide (K.out.trans (hb.mono K.out.size))
  clear hZ hb
  refine (G8.out _ _ HA.out).mono ?_
  rintro e v37 ⟨rfl, hb⟩
  replace K := hide (K.out.trans (hb.mono K.out.size))
  replace HA := hide ((HA.out.below hb).mono hb.size)
  clear hb
  clear HA
  clear G8
  go_wp2_with (fail)
  refine (G9.out _ _ ⟨none, 0, rfl, fun h => absurd rfl h⟩).mono ?_
  rintro e v38 ⟨⟨A9, n9, c9, rfl, hp⟩, hb⟩
  replace K := hide (K.out.trans (hb.mono K.out.size))
  obtain ⟨_, _, hp, _⟩ := hp
  injection hp with _ hp _
  subst hp
  clear hb
  clear G9
  go_wp2_with (fail)
  refine (at13_any (-1000000) (-1000000) _).mono ?_
  rintro e v39 ⟨rfl, hb⟩
  replace K := hide (K.out.trans (hb.mono K.out.size))
  clear hb
  go_wp2_with (fail)
  refine (at13_any 1000000 (-1000000) _).mono ?_
  rintro e v40 ⟨rfl, hb⟩
  replace K := hide (K.out.trans (hb.mono K.out.size))
  clear hb
  go_wp2_with (fail)
  refine (at13_any 1000000 1000000 _).mono ?_
  rintro e v41 ⟨rfl, hb⟩
  replace K := hide (K.out.trans (hb.mono K.out.size))
  clear hb
  go_wp2_with (fail)
  refine (at13_any (-1000000) 1000000 _).mono ?_
  rintro e v42 ⟨rfl, hb⟩
  replace K := hide (K.out.trans (hb.mono K.out.size))
  clear hb
  go_wp2_with (fail)
  refine callsO_name fun v43 hZ => ?_
  have hb : Below v42.heap.size v42 v43 := by
    rw [hZ]
    repeat (first | with_reducible exact Below.refl _ _ | with_reducible refine Below.alloc ?_ (by first | omega | (simp; omega) | simp) _)
  have HA := hide (show RdK encS 2 v43 v43.heap.size (.slice (some ⟨v42.heap.size, 0, none⟩) 4 4) ([(-1000000, -1000000), (1000000, -1000000), (1000000, 1000000), (-1000000, 1000000)] : List Pt) from by rw [hZ]; exact rd_pts4 v42 (-1000000) (-1000000) 1000000 (-1000000) 1000000 1000000 (-1000000) 1000000 53)
  replace K := hide (K.out.trans (hb.mono K.out.size))
  clear hZ hb
  refine (G10.out _ _ HA.out).mono ?_
  rintro e v44 ⟨rfl, hb⟩
  replace K := hide (K.out.trans (hb.mono K.out.size))
  replace HA := hide ((HA.out.below hb).mono hb.size)
  clear hb
  clear HA
  clear G10
  go_wp2_with (fail)
  refine (at13_any 0 0 _).mono ?_
  rintro e v45 ⟨rfl, hb⟩
  replace K := hide (K.out.trans (hb.mono K.out.size))
  clear hb
  go_wp2_with (fail)
  refine (at13_any 2 0 _).mono ?_
  rintro e v46 ⟨rfl, hb⟩
  replace K := hide (K.out.trans (hb.mono K.out.size))
  clear hb
  go_wp2_with (fail)
  refine (at13_any 2 2 _).mono ?_
  rintro e v47 ⟨rfl, hb⟩
  replace K := hide (K.out.trans (hb.mono K.out.size))
  clear hb
  go_wp2_with (fail)
  refine (at13_any 1 2 _).mono ?_
  rintro e v48 ⟨rfl, hb⟩
  replace K := hide (K.out.trans (hb.mono K.out.size))
  clear hb
  go_wp2_with (fail)
  refine (at13_any 1 (-1) _).mono ?_
  rintro e v49 ⟨rfl, hb⟩
  replace K := hide (K.out.trans (hb.mono K.out.size))
  clear hb
  go_wp2_with (fail)
  refine (at13_any 0 (-1) _).mono ?_
  rintro e v50 ⟨rfl, hb⟩
  replace K := hide (K.out.trans (hb.mono K.out.size))
  clear hb
  go_wp2_with (fail)
  refine callsO_name fun v51 hZ => ?_
  have hb : Below v50.heap.size v50 v51 := by
    rw [hZ]
    repeat (first | with_reducible exact Below.refl _ _ | with_reducible refine Below.alloc ?_ (by first | omega | (simp; omega) | simp) _)
  have HA := hide (show RdK encS 2 v51 v51.heap.size (.slice (some ⟨v50.heap.size, 0, none⟩) 6 6) ([(0, 0), (2, 0), (2, 2), (1, 2), (1, -1), (0, -1)] : List Pt) from by rw [hZ]; exact rd_pts6 v50 0 0 2 0 2 2 1 2 1 (-1) 0 (-1) 53)
  replace K := hide (K.out.trans (hb.mono K.out.size))
  clear hZ hb
  refine (G11.out _ _ HA.out).mono ?_
  rintro e v52 ⟨rfl, hb⟩
  replace K := hide (K.out.trans (hb.mono K.out.size))
  replace HA := hide ((HA.out.below hb).mono hb.size)
  clear hb
  clear HA
  clear G11
  go_wp2_with (fail)
  refine (ring13_any _).mono ?_
  rintro e v53 ⟨v, rfl, hr, hb⟩
  replace K := hide (K.out.trans (hb.mono K.out.size))
  have HR := hide hr
  clear hr
  clear hb
  go_wp2_with (fail)
  refine (G12.out _ _ HR.out).mono ?_
  rintro e v54 ⟨rfl, hb⟩
  replace K := hide (K.out.trans (hb.mono K.out.size))
  replace HR := hide ((HR.out.below hb).mono hb.size)
  clear hb
  clear HR
  clear G12
  go_wp2_with (fail)
  refine (alive13_any _).mono ?_
  rintro e v55 ⟨rfl, hb⟩
  replace K := hide (K.out.trans (hb.mono K.out.size))
  clear hb
  go_wp2
  go_ret
  exact ⟨rfl, K.out⟩
end Go.Proofs.YtdfpbhlnlkjjlaaGreat
