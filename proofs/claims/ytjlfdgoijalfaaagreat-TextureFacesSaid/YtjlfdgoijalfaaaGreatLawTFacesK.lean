/- The walk of TextureFaces. -/
import Derived.Test.YtjlfdgoijalfaaaGreatPk11
namespace Go.Proofs.YtjlfdgoijalfaaaGreat
open Go.RowKit
set_option linter.unusedVariables false
set_option linter.unusedSimpArgs false

theorem faceF_ok {W H S : Int} {q : Qd7} : (faceF W H S q).1.length ≤ 400 ∧ ∀ p ∈ (faceF W H S q).1, p.2.length ≤ 400 := by
  unfold faceF
  split
  · exact ⟨tileF_len, fun p hp => (tileF_bd hp).2.2⟩
  · exact ⟨by simp, fun p hp => by simp at hp⟩
set_option maxRecDepth 100000 in
set_option maxHeartbeats 8000000 in
theorem faces_walk {w : World} (dd lx ly lz hx hy hz : Int) (hd : 0 ≤ dd) (W H S : Int) :
    Calls Tryz.prog 3 #[.agg #[.int .u8 dd, .int .i64 lx, .int .i64 ly, .int .i64 lz, .int .i64 hx, .int .i64 hy, .int .i64 hz], .agg #[.int .i64 W, .int .i64 H, .int .i64 S]] w fun e w' => e = .returned (.bool true) ∧ Below w.heap.size w w' := by
  have G1 := hide (fun W' => tface_any dd lx ly lz hx hy hz W H S hd W')
  have G2 := hide (fun (h : ∀ r ∈ [flatR ⟨dd, lx, ly, lz, hx, hy, hz⟩], near4 30 r) W' => rface_any dd lx ly lz hx hy hz W H S hd h W')
  have HN := hide (near_flat dd lx ly lz hx hy hz)
  obtain ⟨hl, hj⟩ := faceF_ok (W := W) (H := H) (S := S) (q := ⟨dd, lx, ly, lz, hx, hy, hz⟩)
  obtain ⟨⟨R, E⟩, hT⟩ : ∃ x, faceF W H S ⟨dd, lx, ly, lz, hx, hy, hz⟩ = x := ⟨_, rfl⟩
  rw [hT] at G1 G2 hl hj
  simp only at hl hj
  have HJ := hide hj
  clear hT hj hd
  go_enter Tryz.func3, Tryz.ntmps3
  go_upto_region 1 with fail
  refine wp_name fun w0 hw0 => ?_
  have hb0 : Below w.heap.size w w0 := by
    rw [hw0]
    repeat (first | with_reducible exact Below.refl _ _ | with_reducible refine Below.setCell ?_ (by first | (simp; done) | (simp; omega)) _ | with_reducible refine Below.alloc ?_ (by first | omega | (simp; omega) | simp) _)
  have d0 : w0.cell? ⟨w.heap.size, 0, none⟩ = some (.int .u8 dd) := by rw [hw0]; simp [go_sem]
  have d1 : w0.cell? ⟨w.heap.size, 1, none⟩ = some (.int .i64 lx) := by rw [hw0]; simp [go_sem]
  have d2 : w0.cell? ⟨w.heap.size, 2, none⟩ = some (.int .i64 ly) := by rw [hw0]; simp [go_sem]
  have d3 : w0.cell? ⟨w.heap.size, 3, none⟩ = some (.int .i64 lz) := by rw [hw0]; simp [go_sem]
  have d4 : w0.cell? ⟨w.heap.size, 4, none⟩ = some (.int .i64 hx) := by rw [hw0]; simp [go_sem]
  have d5 : w0.cell? ⟨w.heap.size, 5, none⟩ = some (.int .i64 hy) := by rw [hw0]; simp [go_sem]
  have d6 : w0.cell? ⟨w.heap.size, 6, none⟩ = some (.int .i64 hz) := by rw [hw0]; simp [go_sem]
  have p0 : w0.cell? ⟨w.heap.size + 1, 0, none⟩ = some (.int .i64 W) := by rw [hw0]; simp [go_sem]
  have p1 : w0.cell? ⟨w.heap.size + 1, 1, none⟩ = some (.int .i64 H) := by rw [hw0]; simp [go_sem]
  have p2 : w0.cell? ⟨w.heap.size + 1, 2, none⟩ = some (.int .i64 S) := by rw [hw0]; simp [go_sem]
  have h0 : w.heap.size < w0.heap.size := by rw [hw0]; simp; omega
  have h1 : w.heap.size + 1 < w0.heap.size := by rw [hw0]; simp
  have HB0 := hide hb0
  clear hw0 hb0
  go_wp2_with (fail)
  refine (nearq_any dd lx ly lz hx hy hz _).mono ?_
  rintro e w1 ⟨rfl | ⟨rfl, hq⟩, hb⟩
  · have HB1 := hide (HB0.out.trans (hb.mono HB0.out.size))
    clear hb
    go_wp2_with (fail)
    go_ret
    exact ⟨rfl, HB1.out⟩
  have HNQ := hide (HN.out hq)
  have HB1 := hide (HB0.out.trans (hb.mono HB0.out.size))
  replace d0 := (hb.cell (p := ⟨w.heap.size, 0, none⟩) h0).trans d0
  replace d1 := (hb.cell (p := ⟨w.heap.size, 1, none⟩) h0).trans d1
  replace d2 := (hb.cell (p := ⟨w.heap.size, 2, none⟩) h0).trans d2
  replace d3 := (hb.cell (p := ⟨w.heap.size, 3, none⟩) h0).trans d3
  replace d4 := (hb.cell (p := ⟨w.heap.size, 4, none⟩) h0).trans d4
  replace d5 := (hb.cell (p := ⟨w.heap.size, 5, none⟩) h0).trans d5
  replace d6 := (hb.cell (p := ⟨w.heap.size, 6, none⟩) h0).trans d6
  replace p0 := (hb.cell (p := ⟨w.heap.size + 1, 0, none⟩) h1).trans p0
  replace p1 := (hb.cell (p := ⟨w.heap.size + 1, 1, none⟩) h1).trans p1
  replace p2 := (hb.cell (p := ⟨w.heap.size + 1, 2, none⟩) h1).trans p2
  replace h0 := Nat.lt_of_lt_of_le h0 hb.size
  replace h1 := Nat.lt_of_lt_of_le h1 hb.size
  clear hb hq HN HB0
  go_wp2_with (fail)
  refine (G1.out _).mono ?_
  rintro e w2 ⟨hpc, hb⟩
  obtain ⟨xA, rfl, hA⟩ := pcs_rd hpc
  have HA := hide hA
  have HB2 := hide (HB1.out.trans (hb.mono HB1.out.size))
  replace d0 := (hb.cell (p := ⟨w.heap.size, 0, none⟩) h0).trans d0
  replace d1 := (hb.cell (p := ⟨w.heap.size, 1, none⟩) h0).trans d1
  replace d2 := (hb.cell (p := ⟨w.heap.size, 2, none⟩) h0).trans d2
  replace d3 := (hb.cell (p := ⟨w.heap.size, 3, none⟩) h0).trans d3
  replace d4 := (hb.cell (p := ⟨w.heap.size, 4, none⟩) h0).trans d4
  replace d5 := (hb.cell (p := ⟨w.heap.size, 5, none⟩) h0).trans d5
  replace d6 := (hb.cell (p := ⟨w.heap.size, 6, none⟩) h0).trans d6
  replace p0 := (hb.cell (p := ⟨w.heap.size + 1, 0, none⟩) h1).trans p0
  replace p1 := (hb.cell (p := ⟨w.heap.size + 1, 1, none⟩) h1).trans p1
  replace p2 := (hb.cell (p := ⟨w.heap.size + 1, 2, none⟩) h1).trans p2
  replace h0 := Nat.lt_of_lt_of_le h0 hb.size
  replace h1 := Nat.lt_of_lt_of_le h1 hb.size
  clear hb hpc hA HB1 G1
  go_wp2_with (fail)
  refine (G2.out HNQ.out _).mono ?_
  rintro e w3 ⟨hpc, hb⟩
  obtain ⟨xB, rfl, hB⟩ := pcs_rd hpc
  have HBB := hide hB
  replace HA := hide ((HA.out.below hb).mono hb.size)
  have HB3 := hide (HB2.out.trans (hb.mono HB2.out.size))
  clear hb hpc hB HB2 G2 d0 d1 d2 d3 d4 d5 d6 p0 p1 p2 h0 h1
  go_wp2_with (fail)
  refine (rSameT HA.out HBB.out hl HJ.out).mono ?_
  rintro e w4 ⟨rfl, hb⟩
  have HB4 := hide (HB3.out.trans (hb.mono HB3.out.size))
  clear hb
  go_wp2_with (fail)
  go_ret
  exact ⟨rfl, HB4.out⟩
end Go.Proofs.YtjlfdgoijalfaaaGreat
