/- The walk of TextureNames. -/
import Derived.Test.YtlkaniojnaaocaaGreatPk9
import Derived.Test.YtlkaniojnaaocaaGreatMeshAK
import Derived.Deep.DeepCutAuto
namespace Go.Proofs.YtlkaniojnaaocaaGreat
open Go.RowKit
set_option linter.unusedVariables false
set_option linter.unusedSimpArgs false

theorem nm_t1a : (tileF 1 1 0 [⟨0, 0, 20, 20⟩]).2 = 0 := by kernel_rfl
theorem nm_t1b : (tileF 1 1 0 [⟨0, 0, 20, 20⟩]).1.length = 400 := by kernel_rfl
theorem nm_t2 : (tileF 1 1 0 [⟨0, 0, 401, 1⟩]).2 = 4 := by kernel_rfl
theorem nm_t3 : (tileF 0 0 0 [⟨0, 0, 0, 0⟩]).2 = 8 := by kernel_rfl
theorem nm_t4 : tileF 1 1 0 [] = ([], 0) := by kernel_rfl
theorem pcs_n {B : Nat} {x : List (Ky × List R4) × Int} {e : Ending} {w' : World} {n : Nat} {c : Int} (h : PcsRet B x e w') (hn : x.1.length = n) (hc : x.2 = c) : ∃ A k, e = .returned (.tuple #[.slice A n k, .int .i64 c]) := by
  obtain ⟨A, k, L, he, _⟩ := h
  exact ⟨A, k, by rw [he, hn, hc]⟩
theorem pcs_c {B : Nat} {x : List (Ky × List R4) × Int} {e : Ending} {w' : World} {c : Int} (h : PcsRet B x e w') (hc : x.2 = c) : ∃ A n k, e = .returned (.tuple #[.slice A n k, .int .i64 c]) := by
  obtain ⟨A, k, L, he, _⟩ := h
  exact ⟨A, _, k, by rw [he, hc]⟩
theorem nm_c1 (w : World) : Calls Tryz.prog 12 #[.agg #[.int .i64 4, .int .i64 2, .int .i64 4]] w fun e w' => e = .returned (.int .i64 8) ∧ Below w.heap.size w w' := by
  have h := pat_any 4 2 4 w
  rwa [show chk 4 2 4 = 8 by kernel_rfl] at h
theorem nm_c2 (w : World) : Calls Tryz.prog 12 #[.agg #[.int .i64 1001, .int .i64 1, .int .i64 0]] w fun e w' => e = .returned (.int .i64 8) ∧ Below w.heap.size w w' := by
  have h := pat_any 1001 1 0 w
  rwa [show chk 1001 1 0 = 8 by kernel_rfl] at h
theorem nm_c3 (w : World) : Calls Tryz.prog 12 #[.agg #[.int .i64 1, .int .i64 0, .int .i64 0]] w fun e w' => e = .returned (.int .i64 8) ∧ Below w.heap.size w w' := by
  have h := pat_any 1 0 0 w
  rwa [show chk 1 0 0 = 8 by kernel_rfl] at h
theorem nm_c4 (w : World) : Calls Tryz.prog 12 #[.agg #[.int .i64 2, .int .i64 1, .int .i64 (-1)]] w fun e w' => e = .returned (.int .i64 8) ∧ Below w.heap.size w w' := by
  have h := pat_any 2 1 (-1) w
  rwa [show chk 2 1 (-1) = 8 by kernel_rfl] at h
theorem nm_c5 (w : World) : Calls Tryz.prog 12 #[.agg #[.int .i64 1000, .int .i64 1000, .int .i64 999]] w fun e w' => e = .returned (.int .i64 0) ∧ Below w.heap.size w w' := by
  have h := pat_any 1000 1000 999 w
  rwa [show chk 1000 1000 999 = 0 by kernel_rfl] at h
theorem nm_a1 (w : World) : Calls Tryz.prog 13 #[.agg #[.int .i64 4, .int .i64 2, .int .i64 2], .int .i64 1000001, .int .i64 0] w fun e w' => e = .returned (.tuple #[.int .i64 0, .int .i64 0, .int .i64 2]) ∧ Below w.heap.size w w' := by
  have h := at_any 4 2 2 1000001 0 w
  rwa [show atC 4 2 2 1000001 0 = 0 by kernel_rfl, show atR 4 2 2 1000001 0 = 0 by kernel_rfl, show atE 4 2 2 1000001 0 = 2 by kernel_rfl] at h
theorem nm_a2 (w : World) : Calls Tryz.prog 13 #[.agg #[.int .i64 4, .int .i64 2, .int .i64 2], .int .i64 (-1), .int .i64 (-1)] w fun e w' => e = .returned (.tuple #[.int .i64 (-1), .int .i64 (-1), .int .i64 0]) ∧ Below w.heap.size w w' := by
  have h := at_any 4 2 2 (-1) (-1) w
  rwa [show atC 4 2 2 (-1) (-1) = (-1) by kernel_rfl, show atR 4 2 2 (-1) (-1) = (-1) by kernel_rfl, show atE 4 2 2 (-1) (-1) = 0 by kernel_rfl] at h
theorem nm_b1 (w : World) : Calls Tryz.prog 15 #[.agg #[.int .i64 4, .int .i64 2, .int .i64 2], .int .i64 0, .int .i64 (-1000001)] w fun e w' => e = .returned (.tuple #[.agg #[.int .i64 0, .int .i64 0, .int .i64 0, .int .i64 0], .int .i64 2]) ∧ Below w.heap.size w w' := by
  have h := brk_any 4 2 2 0 (-1000001) w
  rwa [show br0 4 2 2 0 (-1000001) = 0 by kernel_rfl, show br1 4 2 2 0 (-1000001) = 0 by kernel_rfl, show br2 4 2 2 0 (-1000001) = 0 by kernel_rfl, show br3 4 2 2 0 (-1000001) = 0 by kernel_rfl, show brE 4 2 2 0 (-1000001) = 2 by kernel_rfl] at h
theorem nm_b2 (w : World) : Calls Tryz.prog 15 #[.agg #[.int .i64 4, .int .i64 2, .int .i64 2], .int .i64 250000, .int .i64 0] w fun e w' => e = .returned (.tuple #[.agg #[.int .i64 0, .int .i64 0, .int .i64 0, .int .i64 0], .int .i64 16]) ∧ Below w.heap.size w w' := by
  have h := brk_any 4 2 2 250000 0 w
  rwa [show br0 4 2 2 250000 0 = 0 by kernel_rfl, show br1 4 2 2 250000 0 = 0 by kernel_rfl, show br2 4 2 2 250000 0 = 0 by kernel_rfl, show br3 4 2 2 250000 0 = 0 by kernel_rfl, show brE 4 2 2 250000 0 = 16 by kernel_rfl] at h
theorem nm_b3 (w : World) : Calls Tryz.prog 15 #[.agg #[.int .i64 4, .int .i64 2, .int .i64 2], .int .i64 249999, .int .i64 0] w fun e w' => e = .returned (.tuple #[.agg #[.int .i64 999996, .int .i64 0, .int .i64 1000000, .int .i64 2], .int .i64 0]) ∧ Below w.heap.size w w' := by
  have h := brk_any 4 2 2 249999 0 w
  rwa [show br0 4 2 2 249999 0 = 999996 by kernel_rfl, show br1 4 2 2 249999 0 = 0 by kernel_rfl, show br2 4 2 2 249999 0 = 1000000 by kernel_rfl, show br3 4 2 2 249999 0 = 2 by kernel_rfl, show brE 4 2 2 249999 0 = 0 by kernel_rfl] at h
set_option maxRecDepth 100000 in
set_option maxHeartbeats 8000000 in
theorem names41_walk (w : World) : Calls Tryz.prog 4 #[] w fun e w' => e = .returned (.bool true) ∧ Below w.heap.size w w' := by
  have G1 : Hid (∀ (w : World) (v : Value), RdK encR 4 w w.heap.size v ([⟨0, 0, 20, 20⟩] : List R4) → Calls Tryz.prog 16 #[v, .agg #[.int .i64 1, .int .i64 1, .int .i64 0]] w fun e w' => (∃ A k, e = .returned (.tuple #[.slice A 400 k, .int .i64 0])) ∧ Below w.heap.size w w') := hide (fun w v h => (tile_any h (by simp) _ _ _).mono fun e w' h => ⟨pcs_n h.1 nm_t1b nm_t1a, h.2⟩)
  have G2 : Hid (∀ (w : World) (v : Value), RdK encR 4 w w.heap.size v ([⟨0, 0, 401, 1⟩] : List R4) → Calls Tryz.prog 16 #[v, .agg #[.int .i64 1, .int .i64 1, .int .i64 0]] w fun e w' => (∃ A n k, e = .returned (.tuple #[.slice A n k, .int .i64 4])) ∧ Below w.heap.size w w') := hide (fun w v h => (tile_any h (by simp) _ _ _).mono fun e w' h => ⟨pcs_c h.1 nm_t2, h.2⟩)
  have G3 : Hid (∀ (w : World) (v : Value), RdK encR 4 w w.heap.size v ([⟨0, 0, 0, 0⟩] : List R4) → Calls Tryz.prog 16 #[v, .agg #[.int .i64 0, .int .i64 0, .int .i64 0]] w fun e w' => (∃ A n k, e = .returned (.tuple #[.slice A n k, .int .i64 8])) ∧ Below w.heap.size w w') := hide (fun w v h => (tile_any h (by simp) _ _ _).mono fun e w' h => ⟨pcs_c h.1 nm_t3, h.2⟩)
  have G4 : Hid (∀ (w : World) (v : Value), RdK encR 4 w w.heap.size v ([] : List R4) → Calls Tryz.prog 16 #[v, .agg #[.int .i64 1, .int .i64 1, .int .i64 0]] w fun e w' => (∃ A k, e = .returned (.tuple #[.slice A 0 k, .int .i64 0])) ∧ Below w.heap.size w w') := hide (fun w v h => (tile_any h (by simp) _ _ _).mono fun e w' h => ⟨pcs_n h.1 (by rw [nm_t4]; rfl) (by rw [nm_t4]), h.2⟩)
  have G5 := hide (fun w => face6_any 6 0 0 0 0 0 0 1 1 0 (by decide) w)
  have K := hide (Below.refl w.heap.size w)
  go_enter Tryz.func4, Tryz.ntmps4
  go_wp2_with (fail)
  refine calls_name fun v1 hZ => ?_
  have hbz : Below w.heap.size w v1 := by
    rw [hZ]
    repeat (first | with_reducible exact Below.refl _ _ | with_reducible refine Below.setCell ?_ (by first | (simp; done) | (simp; omega)) _ | with_reducible refine Below.alloc ?_ (by first | omega | (simp; omega) | simp) _)
  have BP : Hid (Cels (w.heap.size) [.int .i64 1, .int .i64 1, .int .i64 0] v1) := hide (by
    rw [hZ]
    refine ⟨by simp; try omega, fun i u hu => ?_⟩
    match i, hu with
    | 0, hu => injection hu with hu; subst hu; simp [go_sem]
    | 1, hu => injection hu with hu; subst hu; simp [go_sem]
    | 2, hu => injection hu with hu; subst hu; simp [go_sem])
  replace K := hide (K.out.trans (hbz.mono K.out.size))
  clear hZ hbz
  refine (nm_c1 _).mono ?_
  rintro e v2 ⟨rfl, hb⟩
  replace K := hide (K.out.trans (hb.mono K.out.size))
  replace BP := hide (BP.out.keep hb)
  clear hb
  have bp0 := BP.out.2 0 _ rfl
  have bp1 := BP.out.2 1 _ rfl
  have bp2 := BP.out.2 2 _ rfl
  have hlBP := BP.out.1
  go_wp2_with (fail)
  refine (nm_c2 _).mono ?_
  rintro e v3 ⟨rfl, hb⟩
  clear bp0 bp1 bp2 hlBP
  replace K := hide (K.out.trans (hb.mono K.out.size))
  replace BP := hide (BP.out.keep hb)
  clear hb
  have bp0 := BP.out.2 0 _ rfl
  have bp1 := BP.out.2 1 _ rfl
  have bp2 := BP.out.2 2 _ rfl
  have hlBP := BP.out.1
  go_wp2_with (fail)
  refine (nm_c3 _).mono ?_
  rintro e v4 ⟨rfl, hb⟩
  clear bp0 bp1 bp2 hlBP
  replace K := hide (K.out.trans (hb.mono K.out.size))
  replace BP := hide (BP.out.keep hb)
  clear hb
  have bp0 := BP.out.2 0 _ rfl
  have bp1 := BP.out.2 1 _ rfl
  have bp2 := BP.out.2 2 _ rfl
  have hlBP := BP.out.1
  go_wp2_with (fail)
  refine (nm_c4 _).mono ?_
  rintro e v5 ⟨rfl, hb⟩
  clear bp0 bp1 bp2 hlBP
  replace K := hide (K.out.trans (hb.mono K.out.size))
  replace BP := hide (BP.out.keep hb)
  clear hb
  have bp0 := BP.out.2 0 _ rfl
  have bp1 := BP.out.2 1 _ rfl
  have bp2 := BP.out.2 2 _ rfl
  have hlBP := BP.out.1
  go_wp2_with (fail)
  refine (nm_c5 _).mono ?_
  rintro e v6 ⟨rfl, hb⟩
  clear bp0 bp1 bp2 hlBP
  replace K := hide (K.out.trans (hb.mono K.out.size))
  replace BP := hide (BP.out.keep hb)
  clear hb
  have bp0 := BP.out.2 0 _ rfl
  have bp1 := BP.out.2 1 _ rfl
  have bp2 := BP.out.2 2 _ rfl
  have hlBP := BP.out.1
  go_wp2_with (fail)
  refine (bond_any _).mono ?_
  rintro e v7 ⟨rfl, hb⟩
  clear bp0 bp1 bp2 hlBP
  replace K := hide (K.out.trans (hb.mono K.out.size))
  replace BP := hide (BP.out.keep hb)
  clear hb
  have bp0 := BP.out.2 0 _ rfl
  have bp1 := BP.out.2 1 _ rfl
  have bp2 := BP.out.2 2 _ rfl
  have hlBP := BP.out.1
  go_wp2_with (fail)
  refine (nm_a1 _).mono ?_
  rintro e v8 ⟨rfl, hb⟩
  clear bp0 bp1 bp2 hlBP
  replace K := hide (K.out.trans (hb.mono K.out.size))
  replace BP := hide (BP.out.keep hb)
  clear hb
  have bp0 := BP.out.2 0 _ rfl
  have bp1 := BP.out.2 1 _ rfl
  have bp2 := BP.out.2 2 _ rfl
  have hlBP := BP.out.1
  go_wp2_with (fail)
  refine (bond_any _).mono ?_
  rintro e v9 ⟨rfl, hb⟩
  clear bp0 bp1 bp2 hlBP
  replace K := hide (K.out.trans (hb.mono K.out.size))
  replace BP := hide (BP.out.keep hb)
  clear hb
  have bp0 := BP.out.2 0 _ rfl
  have bp1 := BP.out.2 1 _ rfl
  have bp2 := BP.out.2 2 _ rfl
  have hlBP := BP.out.1
  go_wp2_with (fail)
  refine (nm_b1 _).mono ?_
  rintro e v10 ⟨rfl, hb⟩
  clear bp0 bp1 bp2 hlBP
  replace K := hide (K.out.trans (hb.mono K.out.size))
  replace BP := hide (BP.out.keep hb)
  clear hb
  have bp0 := BP.out.2 0 _ rfl
  have bp1 := BP.out.2 1 _ rfl
  have bp2 := BP.out.2 2 _ rfl
  have hlBP := BP.out.1
  go_wp2_with (fail)
  refine calls_name fun v11 hZ => ?_
  have hbz : Below v10.heap.size v10 v11 := by
    rw [hZ]
    repeat (first | with_reducible exact Below.refl _ _ | with_reducible refine Below.setCell ?_ (by first | (simp; done) | (simp; omega)) _ | with_reducible refine Below.alloc ?_ (by first | omega | (simp; omega) | simp) _)
  clear bp0 bp1 bp2 hlBP
  replace K := hide (K.out.trans (hbz.mono K.out.size))
  replace BP := hide (BP.out.keep hbz)
  clear hZ hbz
  refine (bond_any _).mono ?_
  rintro e v12 ⟨rfl, hb⟩
  replace K := hide (K.out.trans (hb.mono K.out.size))
  replace BP := hide (BP.out.keep hb)
  clear hb
  have bp0 := BP.out.2 0 _ rfl
  have bp1 := BP.out.2 1 _ rfl
  have bp2 := BP.out.2 2 _ rfl
  have hlBP := BP.out.1
  go_wp2_with (fail)
  refine (nm_b2 _).mono ?_
  rintro e v13 ⟨rfl, hb⟩
  clear bp0 bp1 bp2 hlBP
  replace K := hide (K.out.trans (hb.mono K.out.size))
  replace BP := hide (BP.out.keep hb)
  clear hb
  have bp0 := BP.out.2 0 _ rfl
  have bp1 := BP.out.2 1 _ rfl
  have bp2 := BP.out.2 2 _ rfl
  have hlBP := BP.out.1
  go_wp2_with (fail)
  refine calls_name fun v14 hZ => ?_
  have hbz : Below v13.heap.size v13 v14 := by
    rw [hZ]
    repeat (first | with_reducible exact Below.refl _ _ | with_reducible refine Below.setCell ?_ (by first | (simp; done) | (simp; omega)) _ | with_reducible refine Below.alloc ?_ (by first | omega | (simp; omega) | simp) _)
  clear bp0 bp1 bp2 hlBP
  replace K := hide (K.out.trans (hbz.mono K.out.size))
  replace BP := hide (BP.out.keep hbz)
  clear hZ hbz
  refine (bond_any _).mono ?_
  rintro e v15 ⟨rfl, hb⟩
  replace K := hide (K.out.trans (hb.mono K.out.size))
  replace BP := hide (BP.out.keep hb)
  clear hb
  have bp0 := BP.out.2 0 _ rfl
  have bp1 := BP.out.2 1 _ rfl
  have bp2 := BP.out.2 2 _ rfl
  have hlBP := BP.out.1
  go_wp2_with (fail)
  refine (nm_b3 _).mono ?_
  rintro e v16 ⟨rfl, hb⟩
  clear bp0 bp1 bp2 hlBP
  replace K := hide (K.out.trans (hb.mono K.out.size))
  replace BP := hide (BP.out.keep hb)
  clear hb
  have bp0 := BP.out.2 0 _ rfl
  have bp1 := BP.out.2 1 _ rfl
  have bp2 := BP.out.2 2 _ rfl
  have hlBP := BP.out.1
  go_upto_region 7 with fail
  refine wp_name fun v17 hZ => ?_
  have hbz : Below v16.heap.size v16 v17 := by
    rw [hZ]
    repeat (first | with_reducible exact Below.refl _ _ | with_reducible refine Below.setCell ?_ (by first | (simp; done) | (simp; omega)) _ | with_reducible refine Below.alloc ?_ (by first | omega | (simp; omega) | simp) _)
  have BD : Hid (Cels v16.heap.size [.int .i64 999996, .int .i64 0, .int .i64 1000000, .int .i64 2] v17) := hide (by
    rw [hZ]
    refine ⟨by simp; try omega, fun i u hu => ?_⟩
    match i, hu with
    | 0, hu => injection hu with hu; subst hu; simp [go_sem]
    | 1, hu => injection hu with hu; subst hu; simp [go_sem]
    | 2, hu => injection hu with hu; subst hu; simp [go_sem]
    | 3, hu => injection hu with hu; subst hu; simp [go_sem])
  clear bp0 bp1 bp2 hlBP
  replace K := hide (K.out.trans (hbz.mono K.out.size))
  replace BP := hide (BP.out.keep hbz)
  clear hZ hbz
  obtain ⟨hl, hp⟩ := BP.out
  have p0 := hp 0 _ rfl
  have p1 := hp 1 _ rfl
  have p2 := hp 2 _ rfl
  have HPS : Hid (∀ W' : World, Below v17.heap.size v17 W' → W'.cell? ⟨w.heap.size, 0, none⟩ = some (.int .i64 1) ∧ W'.cell? ⟨w.heap.size, 1, none⟩ = some (.int .i64 1) ∧ W'.cell? ⟨w.heap.size, 2, none⟩ = some (.int .i64 0)) := hide (fun W' h => ⟨(h.cell (p := ⟨w.heap.size, 0, none⟩) hl).trans p0, (h.cell (p := ⟨w.heap.size, 1, none⟩) hl).trans p1, (h.cell (p := ⟨w.heap.size, 2, none⟩) hl).trans p2⟩)
  clear hp
  go_cut [12, 13] (fun sa sb wx => ∃ A9 n9 c9, sa = .slice A9 n9 c9 ∧ n9 = 400 ∧ sb = .int .i64 0 ∧ Hid (Below v17.heap.size v17 wx))
  case first =>
    go_region_held3 (fun w' => w'.cell? ⟨w.heap.size, 0, none⟩ = some (.int .i64 1) ∧ w'.cell? ⟨w.heap.size, 1, none⟩ = some (.int .i64 1) ∧ w'.cell? ⟨w.heap.size, 2, none⟩ = some (.int .i64 0)) ((first | exact HPS.out _ (by have hbK := HB7.out; repeat (first | with_reducible exact Below.refl _ _ | with_reducible assumption | with_reducible refine Below.setCell ?_ (by first | omega | (simp; done) | (simp; omega)) _ | with_reducible refine Below.alloc ?_ (by first | omega | (simp; omega) | simp) _ | with_reducible refine Below.drew ?_)) | exact HPS.out _ (by have hbK := HB6.out; repeat (first | with_reducible exact Below.refl _ _ | with_reducible assumption | with_reducible refine Below.setCell ?_ (by first | omega | (simp; done) | (simp; omega)) _ | with_reducible refine Below.alloc ?_ (by first | omega | (simp; omega) | simp) _ | with_reducible refine Below.drew ?_)) | exact HPS.out _ (by repeat (first | with_reducible exact Below.refl _ _ | with_reducible assumption | with_reducible refine Below.setCell ?_ (by first | omega | (simp; done) | (simp; omega)) _ | with_reducible refine Below.alloc ?_ (by first | omega | (simp; omega) | simp) _ | with_reducible refine Below.drew ?_))))
      (first
        | (go_at_call 17; refine (rect41_any 0 0 20 20 _).mono ?_; rintro e wq ⟨rfl, ho, hbq⟩; have HRQ := hide (own_rd (l := ([⟨0, 0, 20, 20⟩] : List R4)) ho (fun _ => rfl)); have HB6 : Hid (Below v17.heap.size v17 wq) := hide (Below.trans (by repeat (first | with_reducible exact Below.refl _ _ | with_reducible assumption | with_reducible refine Below.setCell ?_ (by first | omega | (simp; done) | (simp; omega)) _ | with_reducible refine Below.alloc ?_ (by first | omega | (simp; omega) | simp) _ | with_reducible refine Below.drew ?_)) (hbq.mono (by simp <;> omega))); clear ho; obtain ⟨hcq, hfq⟩ := bcell hbq; clear hbq)
        | (go_at_call 16; refine (G1.out _ _ (rd_at HRQ.out (by repeat (first | with_reducible exact Below.refl _ _ | with_reducible assumption | with_reducible refine Below.setCell ?_ (by first | omega | (simp; done) | (simp; omega)) _ | with_reducible refine Below.alloc ?_ (by first | omega | (simp; omega) | simp) _ | with_reducible refine Below.drew ?_)))).mono ?_; rintro e w7 ⟨⟨A7, k7, rfl⟩, hb7⟩; have HB7 : Hid (Below v17.heap.size v17 w7) := hide (Below.trans (by have hbK := HB6.out; repeat (first | with_reducible exact Below.refl _ _ | with_reducible assumption | with_reducible refine Below.setCell ?_ (by first | omega | (simp; done) | (simp; omega)) _ | with_reducible refine Below.alloc ?_ (by first | omega | (simp; omega) | simp) _ | with_reducible refine Below.drew ?_)) (hb7.mono (by have := HB6.out.size; simp <;> omega))); clear hb7))
    all_goals (go_wp2_with (fail); go_meet)
    all_goals exact ⟨_, _, _, rfl, rfl, rfl, hide (by have hbK := HB7.out; repeat (first | with_reducible exact Below.refl _ _ | with_reducible assumption | with_reducible refine Below.setCell ?_ (by first | omega | (simp; done) | (simp; omega)) _ | with_reducible refine Below.alloc ?_ (by first | omega | (simp; omega) | simp) _ | with_reducible refine Below.drew ?_))⟩
  case rest =>
    obtain ⟨A9, n9, c9, rfl, h9, rfl, hbh⟩ := hcut
    have hb := hbh.out
    clear hbh hl p0 p1 p2 HPS
    subst h9
    generalize hgen : wc = v18 at *
    clear hgen
    replace K := hide (K.out.trans (hb.mono K.out.size))
    replace BP := hide (BP.out.keep hb)
    replace BD := hide (BD.out.keep hb)
    clear hb
    go_upto_region 8 with fail
    obtain ⟨hl, hp⟩ := BP.out
    have p0 := hp 0 _ rfl
    have p1 := hp 1 _ rfl
    have p2 := hp 2 _ rfl
    have HPS : Hid (∀ W' : World, Below v18.heap.size v18 W' → W'.cell? ⟨w.heap.size, 0, none⟩ = some (.int .i64 1) ∧ W'.cell? ⟨w.heap.size, 1, none⟩ = some (.int .i64 1) ∧ W'.cell? ⟨w.heap.size, 2, none⟩ = some (.int .i64 0)) := hide (fun W' h => ⟨(h.cell (p := ⟨w.heap.size, 0, none⟩) hl).trans p0, (h.cell (p := ⟨w.heap.size, 1, none⟩) hl).trans p1, (h.cell (p := ⟨w.heap.size, 2, none⟩) hl).trans p2⟩)
    clear hp
    go_cut [14, 15] (fun sa sb wx => ∃ A9 n9 c9, sa = .slice A9 n9 c9 ∧ True ∧ sb = .int .i64 4 ∧ Hid (Below v18.heap.size v18 wx))
    case first =>
      go_region_held3 (fun w' => w'.cell? ⟨w.heap.size, 0, none⟩ = some (.int .i64 1) ∧ w'.cell? ⟨w.heap.size, 1, none⟩ = some (.int .i64 1) ∧ w'.cell? ⟨w.heap.size, 2, none⟩ = some (.int .i64 0)) ((first | exact HPS.out _ (by have hbK := HB7.out; repeat (first | with_reducible exact Below.refl _ _ | with_reducible assumption | with_reducible refine Below.setCell ?_ (by first | omega | (simp; done) | (simp; omega)) _ | with_reducible refine Below.alloc ?_ (by first | omega | (simp; omega) | simp) _ | with_reducible refine Below.drew ?_)) | exact HPS.out _ (by have hbK := HB6.out; repeat (first | with_reducible exact Below.refl _ _ | with_reducible assumption | with_reducible refine Below.setCell ?_ (by first | omega | (simp; done) | (simp; omega)) _ | with_reducible refine Below.alloc ?_ (by first | omega | (simp; omega) | simp) _ | with_reducible refine Below.drew ?_)) | exact HPS.out _ (by repeat (first | with_reducible exact Below.refl _ _ | with_reducible assumption | with_reducible refine Below.setCell ?_ (by first | omega | (simp; done) | (simp; omega)) _ | with_reducible refine Below.alloc ?_ (by first | omega | (simp; omega) | simp) _ | with_reducible refine Below.drew ?_))))
        (first
          | (go_at_call 17; refine (rect41_any 0 0 401 1 _).mono ?_; rintro e wq ⟨rfl, ho, hbq⟩; have HRQ := hide (own_rd (l := ([⟨0, 0, 401, 1⟩] : List R4)) ho (fun _ => rfl)); have HB6 : Hid (Below v18.heap.size v18 wq) := hide (Below.trans (by repeat (first | with_reducible exact Below.refl _ _ | with_reducible assumption | with_reducible refine Below.setCell ?_ (by first | omega | (simp; done) | (simp; omega)) _ | with_reducible refine Below.alloc ?_ (by first | omega | (simp; omega) | simp) _ | with_reducible refine Below.drew ?_)) (hbq.mono (by simp <;> omega))); clear ho; obtain ⟨hcq, hfq⟩ := bcell hbq; clear hbq)
          | (go_at_call 16; refine (G2.out _ _ (rd_at HRQ.out (by repeat (first | with_reducible exact Below.refl _ _ | with_reducible assumption | with_reducible refine Below.setCell ?_ (by first | omega | (simp; done) | (simp; omega)) _ | with_reducible refine Below.alloc ?_ (by first | omega | (simp; omega) | simp) _ | with_reducible refine Below.drew ?_)))).mono ?_; rintro e w7 ⟨⟨A7, n7, k7, rfl⟩, hb7⟩; have HB7 : Hid (Below v18.heap.size v18 w7) := hide (Below.trans (by have hbK := HB6.out; repeat (first | with_reducible exact Below.refl _ _ | with_reducible assumption | with_reducible refine Below.setCell ?_ (by first | omega | (simp; done) | (simp; omega)) _ | with_reducible refine Below.alloc ?_ (by first | omega | (simp; omega) | simp) _ | with_reducible refine Below.drew ?_)) (hb7.mono (by have := HB6.out.size; simp <;> omega))); clear hb7))
      all_goals (go_wp2_with (fail); go_meet)
      all_goals exact ⟨_, _, _, rfl, trivial, rfl, hide (by have hbK := HB7.out; repeat (first | with_reducible exact Below.refl _ _ | with_reducible assumption | with_reducible refine Below.setCell ?_ (by first | omega | (simp; done) | (simp; omega)) _ | with_reducible refine Below.alloc ?_ (by first | omega | (simp; omega) | simp) _ | with_reducible refine Below.drew ?_))⟩
    case rest =>
      obtain ⟨A9, n9, c9, rfl, h9, rfl, hbh⟩ := hcut
      have hb := hbh.out
      clear hbh hl p0 p1 p2 HPS
      clear h9
      generalize hgen : wc = v19 at *
      clear hgen
      replace K := hide (K.out.trans (hb.mono K.out.size))
      replace BP := hide (BP.out.keep hb)
      replace BD := hide (BD.out.keep hb)
      clear hb
      have bp0 := BP.out.2 0 _ rfl
      have bp1 := BP.out.2 1 _ rfl
      have bp2 := BP.out.2 2 _ rfl
      have bd0 := BD.out.2 0 _ rfl
      have bd1 := BD.out.2 1 _ rfl
      have bd2 := BD.out.2 2 _ rfl
      have bd3 := BD.out.2 3 _ rfl
      have hlBP := BP.out.1
      have hlBD := BD.out.1
      go_wp2_with (fail)
      refine calls_name fun v90 hZ => ?_
      have hbz : Below v19.heap.size v19 v90 := by rw [hZ]; exact (Below.refl _ _).alloc (Nat.le_refl _) _
      have HZ0 : Hid (RdK encR 4 v90 v90.heap.size (.slice (some ⟨v19.heap.size, 0, none⟩) 1 1) ([⟨0, 0, 0, 0⟩] : List R4)) := hide (by rw [hZ]; exact rd_lit _ ([⟨0, 0, 0, 0⟩] : List R4) _ 1)
      clear bp0 bp1 bp2 bd0 bd1 bd2 bd3 hlBP hlBD
      replace K := hide (K.out.trans (hbz.mono K.out.size))
      replace BP := hide (BP.out.keep hbz)
      replace BD := hide (BD.out.keep hbz)
      clear hZ hbz
      refine (G3.out _ _ HZ0.out).mono ?_
      rintro e v91 ⟨⟨A7, n7, k7, rfl⟩, hb⟩
      replace K := hide (K.out.trans (hb.mono K.out.size))
      replace BP := hide (BP.out.keep hb)
      replace BD := hide (BD.out.keep hb)
      clear hb HZ0
      have bp0 := BP.out.2 0 _ rfl
      have bp1 := BP.out.2 1 _ rfl
      have bp2 := BP.out.2 2 _ rfl
      have bd0 := BD.out.2 0 _ rfl
      have bd1 := BD.out.2 1 _ rfl
      have bd2 := BD.out.2 2 _ rfl
      have bd3 := BD.out.2 3 _ rfl
      have hlBP := BP.out.1
      have hlBD := BD.out.1
      go_wp2_with (fail)
      refine (G5.out _).mono ?_
      rintro e v92 ⟨rfl, hb⟩
      clear bp0 bp1 bp2 bd0 bd1 bd2 bd3 hlBP hlBD
      replace K := hide (K.out.trans (hb.mono K.out.size))
      replace BP := hide (BP.out.keep hb)
      replace BD := hide (BD.out.keep hb)
      clear hb
      have bp0 := BP.out.2 0 _ rfl
      have bp1 := BP.out.2 1 _ rfl
      have bp2 := BP.out.2 2 _ rfl
      have bd0 := BD.out.2 0 _ rfl
      have bd1 := BD.out.2 1 _ rfl
      have bd2 := BD.out.2 2 _ rfl
      have bd3 := BD.out.2 3 _ rfl
      have hlBP := BP.out.1
      have hlBD := BD.out.1
      go_wp2_with (fail)
      refine (G4.out _ _ ⟨none, 0, rfl, fun h => absurd rfl h⟩).mono ?_
      rintro e v93 ⟨⟨A8, k8, rfl⟩, hb⟩
      clear bp0 bp1 bp2 bd0 bd1 bd2 bd3 hlBP hlBD
      replace K := hide (K.out.trans (hb.mono K.out.size))
      replace BP := hide (BP.out.keep hb)
      replace BD := hide (BD.out.keep hb)
      clear hb
      have bp0 := BP.out.2 0 _ rfl
      have bp1 := BP.out.2 1 _ rfl
      have bp2 := BP.out.2 2 _ rfl
      have bd0 := BD.out.2 0 _ rfl
      have bd1 := BD.out.2 1 _ rfl
      have bd2 := BD.out.2 2 _ rfl
      have bd3 := BD.out.2 3 _ rfl
      have hlBP := BP.out.1
      have hlBD := BD.out.1
      go_wp2_with (fail)
      refine (bond_any _).mono ?_
      rintro e v94 ⟨rfl, hb⟩
      clear bp0 bp1 bp2 bd0 bd1 bd2 bd3 hlBP hlBD
      replace K := hide (K.out.trans (hb.mono K.out.size))
      replace BP := hide (BP.out.keep hb)
      replace BD := hide (BD.out.keep hb)
      clear hb
      have bp0 := BP.out.2 0 _ rfl
      have bp1 := BP.out.2 1 _ rfl
      have bp2 := BP.out.2 2 _ rfl
      have bd0 := BD.out.2 0 _ rfl
      have bd1 := BD.out.2 1 _ rfl
      have bd2 := BD.out.2 2 _ rfl
      have bd3 := BD.out.2 3 _ rfl
      have hlBP := BP.out.1
      have hlBD := BD.out.1
      go_wp2_with (fail)
      refine (nm_a2 _).mono ?_
      rintro e v95 ⟨rfl, hb⟩
      clear bp0 bp1 bp2 bd0 bd1 bd2 bd3 hlBP hlBD
      replace K := hide (K.out.trans (hb.mono K.out.size))
      replace BP := hide (BP.out.keep hb)
      replace BD := hide (BD.out.keep hb)
      clear hb
      have bp0 := BP.out.2 0 _ rfl
      have bp1 := BP.out.2 1 _ rfl
      have bp2 := BP.out.2 2 _ rfl
      have bd0 := BD.out.2 0 _ rfl
      have bd1 := BD.out.2 1 _ rfl
      have bd2 := BD.out.2 2 _ rfl
      have bd3 := BD.out.2 3 _ rfl
      have hlBP := BP.out.1
      have hlBD := BD.out.1
      go_wp2_with (fail)
      refine (alive41_any _).mono ?_
      rintro e v96 ⟨rfl, hb⟩
      clear bp0 bp1 bp2 bd0 bd1 bd2 bd3 hlBP hlBD
      replace K := hide (K.out.trans (hb.mono K.out.size))
      replace BP := hide (BP.out.keep hb)
      replace BD := hide (BD.out.keep hb)
      clear hb
      have bp0 := BP.out.2 0 _ rfl
      have bp1 := BP.out.2 1 _ rfl
      have bp2 := BP.out.2 2 _ rfl
      have bd0 := BD.out.2 0 _ rfl
      have bd1 := BD.out.2 1 _ rfl
      have bd2 := BD.out.2 2 _ rfl
      have bd3 := BD.out.2 3 _ rfl
      have hlBP := BP.out.1
      have hlBD := BD.out.1
      go_wp2_with (fail)
      go_ret
      exact ⟨rfl, K.out⟩
end Go.Proofs.YtlkaniojnaaocaaGreat
