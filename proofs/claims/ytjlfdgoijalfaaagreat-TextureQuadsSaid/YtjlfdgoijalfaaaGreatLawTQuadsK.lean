/- The walk of TextureQuads. -/
import Derived.Test.YtjlfdgoijalfaaaGreatPk11
import Derived.Test.YtjlfdgoijalfaaaGreatPk12
import Derived.Test.YtjlfdgoijalfaaaGreatPk9
import Derived.Test.YtjlfdgoijalfaaaGreatPk1
namespace Go.Proofs.YtjlfdgoijalfaaaGreat
open Go.RowKit
set_option linter.unusedVariables false
set_option linter.unusedSimpArgs false

theorem wrapQ_add (A B : Int) : IntKind.i64.wrap (IntKind.i64.wrap A + B) = IntKind.i64.wrap (A + B) := by
  simp [IntKind.wrap, IntKind.bits, IntKind.signed]
  repeat' split
  all_goals omega
def sumQ (R : List (Ky × List R4)) (m : Nat) : Int := ((R.take m).map fun q => areaS q.2).sum
theorem sumQ_snoc {R : List (Ky × List R4)} {m : Nat} {q : Ky × List R4} (h : R[m]? = some q) : sumQ R (m + 1) = sumQ R m + areaS q.2 := by
  unfold sumQ
  rw [List.take_add_one, h]
  simp
/-- A quad that is valid lies in a rectangle that is a region of its own. -/
theorem flat_chk {q : Qd7} (h : okQ q = true) : checkF [flatR q] = 0 := by
  unfold okQ at h
  simp only [Bool.and_eq_true, decide_eq_true_eq] at h
  obtain ⟨⟨⟨⟨⟨h1, h2⟩, h3⟩, h4⟩, h5⟩, h6⟩ := h
  refine can_check (can_one ⟨h5, h6⟩) (fun r hr => ?_) (by simp)
  rw [List.mem_singleton] at hr
  subst hr
  unfold fine3 at h2 h3
  simp only [Bool.and_eq_true, decide_eq_true_eq] at h2 h3
  refine ⟨h5, h6, ?_⟩
  unfold flatR fineP
  split
  · simp only; omega
  · split <;> (simp only; omega)
theorem flat_area (q : Qd7) : areaS [flatR q] = ((flatR q).x1 - (flatR q).x0) * ((flatR q).y1 - (flatR q).y0) := by simp [areaS, area4]
set_option maxRecDepth 100000 in
set_option maxHeartbeats 8000000 in
theorem quads_main {w : World} (dd dk lx ly lz hx hy hz : Int) (hd : 0 ≤ dd) (hd2 : 0 ≤ dk) (hxor : bits BinOp.xor .u8 dd 1 = dk) (e1 : chkQ ⟨dd, lx, ly, lz, hx, hy, hz⟩ = 0) (e2 : okQ ⟨dd, lx, ly, lz, hx, hy, hz⟩ = true) (hx1 : chkQ ⟨dk, lx, ly, lz, hx, hy, hz⟩ = 0) (hx2 : flatR ⟨dk, lx, ly, lz, hx, hy, hz⟩ = flatR ⟨dd, lx, ly, lz, hx, hy, hz⟩) (W H S : Int) (hp : okPat W H S) :
    Calls Tryz.prog 4 #[.agg #[.int .u8 dd, .int .i64 lx, .int .i64 ly, .int .i64 lz, .int .i64 hx, .int .i64 hy, .int .i64 hz], .agg #[.int .i64 W, .int .i64 H, .int .i64 S]] w fun e w' => e = .returned (.bool true) ∧ Below w.heap.size w w' := by
  have HVA := hide (fun W' => (by have := rvalid_any dd lx ly lz hx hy hz hd W'; rwa [e2] at this : Calls Tryz.prog 10 #[.agg #[.int .u8 dd, .int .i64 lx, .int .i64 ly, .int .i64 lz, .int .i64 hx, .int .i64 hy, .int .i64 hz]] W' fun e w' => e = .returned (.bool true) ∧ Below W'.heap.size W' w'))
  have HCP := hide (fun W' => (by have := rcheck_any W H S W'; rwa [chk_ok hp] at this : Calls Tryz.prog 11 #[.agg #[.int .i64 W, .int .i64 H, .int .i64 S]] W' fun e w' => e = .returned (.int .i64 0) ∧ Below W'.heap.size W' w'))
  have HFL := hide (fun W' => rflat_any dd lx ly lz hx hy hz W')
  have G1 := hide (fun W' => tface_any dd lx ly lz hx hy hz W H S hd W')
  have hck := flat_chk e2
  have hfa : faceF W H S ⟨dd, lx, ly, lz, hx, hy, hz⟩ = tileF W H S [flatR ⟨dd, lx, ly, lz, hx, hy, hz⟩] := by unfold faceF; rw [if_pos e1]
  have hfb : faceF W H S ⟨dk, lx, ly, lz, hx, hy, hz⟩ = tileF W H S [flatR ⟨dd, lx, ly, lz, hx, hy, hz⟩] := by
    unfold faceF
    rw [if_pos hx1, hx2]
  have G2 := hide (fun W' => tface_any dk lx ly lz hx hy hz W H S hd2 W')
  have herr := tileF_err hp hck
  have hlen := tileF_len (W := W) (H := H) (S := S) (l := [flatR ⟨dd, lx, ly, lz, hx, hy, hz⟩])
  have HJ := hide (fun q (hq : q ∈ (tileF W H S [flatR ⟨dd, lx, ly, lz, hx, hy, hz⟩]).1) => (tileF_bd hq).2.2)
  have HCQ := hide (fun q => tileF_chk (W := W) (H := H) (S := S) (l := [flatR ⟨dd, lx, ly, lz, hx, hy, hz⟩]) (q := q))
  have HSUM := hide (tileF_sum hp hck)
  have har := area_le hck
  have hfar := flat_area ⟨dd, lx, ly, lz, hx, hy, hz⟩
  rw [hfa] at G1
  rw [hfb] at G2
  obtain ⟨⟨f0, f1, f2, f3⟩, hfl⟩ : ∃ f, flatR ⟨dd, lx, ly, lz, hx, hy, hz⟩ = f := ⟨_, rfl⟩
  rw [hfl] at HFL G1 G2 herr hlen HJ HCQ HSUM har hfar
  have GT := hide (fun (W' : World) (v : Value) (h : RdK encR 4 W' W'.heap.size v [⟨f0, f1, f2, f3⟩]) => tile_any h (by simp) W H S)
  obtain ⟨⟨R, E⟩, hT⟩ : ∃ x, tileF W H S [⟨f0, f1, f2, f3⟩] = x := ⟨_, rfl⟩
  rw [hT] at G1 G2 GT herr hlen HJ HCQ HSUM
  simp only at G1 G2 herr hlen HJ HCQ HSUM HFL hfar
  rw [hfar] at har
  have hfb4 : (-1000000 ≤ f0 ∧ f0 ≤ 1000000) ∧ (-1000000 ≤ f1 ∧ f1 ≤ 1000000) ∧ (-1000000 ≤ f2 ∧ f2 ≤ 1000000) ∧ (-1000000 ≤ f3 ∧ f3 ≤ 1000000) := by
    have := (checkF_ok hck).2.1 _ (List.mem_singleton.2 rfl)
    rw [hfl] at this
    obtain ⟨_, _, ⟨_, _⟩, ⟨_, _⟩, ⟨_, _⟩, _, _⟩ := this
    simp only at *
    omega
  have HSM := hide (fun h => (HSUM.out h).trans hfar)
  clear hT hfl hfa hfb hck hfar HSUM e1 e2 hx1 hx2 hp hd hd2
  go_enter Tryz.func4, Tryz.ntmps4
  go_upto_region 1 with fail
  refine wp_name fun w0 hw0 => ?_
  have hb0 : Below w.heap.size w w0 := by
    rw [hw0]
    repeat (first | with_reducible exact Below.refl _ _ | with_reducible refine Below.setCell ?_ (by first | (simp; done) | (simp; omega)) _ | with_reducible refine Below.alloc ?_ (by first | omega | (simp; omega) | simp) _)
  have d0 : w0.cell? ⟨w.heap.size, 0, none⟩ = some (.int .u8 dd) := by rw [hw0]; simp [go_sem]
  have d1 : w0.cell? ⟨w.heap.size, 1, none⟩ = some (.int .i64 lx) := by rw [hw0]; simp [go_sem]
  have d2 : w0.cell? ⟨w.heap.size, 2, none⟩ = some (.int .i64 ly) := by rw [hw0]; simp [go_sem]
  have d3 : w0.cell? ⟨w.heap.size, 3, none⟩ = some (.int .i64 lz) := by rw [hw0]; simp [go_sem]
  have d4 : w0.cell? ⟨w.heap.size, 4, none⟩ = some (.int .i64 hx) := by rw [hw0]; simp [go_sem]
  have d5 : w0.cell? ⟨w.heap.size, 5, none⟩ = some (.int .i64 hy) := by rw [hw0]; simp [go_sem]
  have d6 : w0.cell? ⟨w.heap.size, 6, none⟩ = some (.int .i64 hz) := by rw [hw0]; simp [go_sem]
  have p0 : w0.cell? ⟨w.heap.size + 1, 0, none⟩ = some (.int .i64 W) := by rw [hw0]; simp [go_sem]
  have p1 : w0.cell? ⟨w.heap.size + 1, 1, none⟩ = some (.int .i64 H) := by rw [hw0]; simp [go_sem]
  have p2 : w0.cell? ⟨w.heap.size + 1, 2, none⟩ = some (.int .i64 S) := by rw [hw0]; simp [go_sem]
  have h0 : w.heap.size < w0.heap.size := by rw [hw0]; simp; omega
  have h1 : w.heap.size + 1 < w0.heap.size := by rw [hw0]; simp
  have HB0 := hide hb0
  clear hw0 hb0
  go_wp2_with (fail)
  refine (alive41_any _).mono ?_
  rintro e w1 ⟨rfl, hb⟩
  have HB1 := hide (HB0.out.trans (hb.mono HB0.out.size))
  replace d0 := (hb.cell (p := ⟨w.heap.size, 0, none⟩) h0).trans d0
  replace d1 := (hb.cell (p := ⟨w.heap.size, 1, none⟩) h0).trans d1
  replace d2 := (hb.cell (p := ⟨w.heap.size, 2, none⟩) h0).trans d2
  replace d3 := (hb.cell (p := ⟨w.heap.size, 3, none⟩) h0).trans d3
  replace d4 := (hb.cell (p := ⟨w.heap.size, 4, none⟩) h0).trans d4
  replace d5 := (hb.cell (p := ⟨w.heap.size, 5, none⟩) h0).trans d5
  replace d6 := (hb.cell (p := ⟨w.heap.size, 6, none⟩) h0).trans d6
  replace p0 := (hb.cell (p := ⟨w.heap.size + 1, 0, none⟩) h1).trans p0
  replace p1 := (hb.cell (p := ⟨w.heap.size + 1, 1, none⟩) h1).trans p1
  replace p2 := (hb.cell (p := ⟨w.heap.size + 1, 2, none⟩) h1).trans p2
  replace h0 := Nat.lt_of_lt_of_le h0 hb.size
  replace h1 := Nat.lt_of_lt_of_le h1 hb.size
  clear hb HB0
  go_wp2_with (fail)
  refine (HVA.out _).mono ?_
  rintro e w2 ⟨rfl, hb⟩
  have HB2 := hide (HB1.out.trans (hb.mono HB1.out.size))
  replace d0 := (hb.cell (p := ⟨w.heap.size, 0, none⟩) h0).trans d0
  replace d1 := (hb.cell (p := ⟨w.heap.size, 1, none⟩) h0).trans d1
  replace d2 := (hb.cell (p := ⟨w.heap.size, 2, none⟩) h0).trans d2
  replace d3 := (hb.cell (p := ⟨w.heap.size, 3, none⟩) h0).trans d3
  replace d4 := (hb.cell (p := ⟨w.heap.size, 4, none⟩) h0).trans d4
  replace d5 := (hb.cell (p := ⟨w.heap.size, 5, none⟩) h0).trans d5
  replace d6 := (hb.cell (p := ⟨w.heap.size, 6, none⟩) h0).trans d6
  replace p0 := (hb.cell (p := ⟨w.heap.size + 1, 0, none⟩) h1).trans p0
  replace p1 := (hb.cell (p := ⟨w.heap.size + 1, 1, none⟩) h1).trans p1
  replace p2 := (hb.cell (p := ⟨w.heap.size + 1, 2, none⟩) h1).trans p2
  replace h0 := Nat.lt_of_lt_of_le h0 hb.size
  replace h1 := Nat.lt_of_lt_of_le h1 hb.size
  clear hb HB1
  go_wp2_with (fail)
  refine (HCP.out _).mono ?_
  rintro e w3 ⟨rfl, hb⟩
  have HB3 := hide (HB2.out.trans (hb.mono HB2.out.size))
  replace d0 := (hb.cell (p := ⟨w.heap.size, 0, none⟩) h0).trans d0
  replace d1 := (hb.cell (p := ⟨w.heap.size, 1, none⟩) h0).trans d1
  replace d2 := (hb.cell (p := ⟨w.heap.size, 2, none⟩) h0).trans d2
  replace d3 := (hb.cell (p := ⟨w.heap.size, 3, none⟩) h0).trans d3
  replace d4 := (hb.cell (p := ⟨w.heap.size, 4, none⟩) h0).trans d4
  replace d5 := (hb.cell (p := ⟨w.heap.size, 5, none⟩) h0).trans d5
  replace d6 := (hb.cell (p := ⟨w.heap.size, 6, none⟩) h0).trans d6
  replace p0 := (hb.cell (p := ⟨w.heap.size + 1, 0, none⟩) h1).trans p0
  replace p1 := (hb.cell (p := ⟨w.heap.size + 1, 1, none⟩) h1).trans p1
  replace p2 := (hb.cell (p := ⟨w.heap.size + 1, 2, none⟩) h1).trans p2
  replace h0 := Nat.lt_of_lt_of_le h0 hb.size
  replace h1 := Nat.lt_of_lt_of_le h1 hb.size
  clear hb HB2
  go_wp2_with (fail)
  refine (G1.out _).mono ?_
  rintro e w4 ⟨hpc, hb⟩
  obtain ⟨xA, rfl, hA⟩ := pcs_rd hpc
  have HA := hide hA
  clear hpc hA
  have HB4 := hide (HB3.out.trans (hb.mono HB3.out.size))
  replace d0 := (hb.cell (p := ⟨w.heap.size, 0, none⟩) h0).trans d0
  replace d1 := (hb.cell (p := ⟨w.heap.size, 1, none⟩) h0).trans d1
  replace d2 := (hb.cell (p := ⟨w.heap.size, 2, none⟩) h0).trans d2
  replace d3 := (hb.cell (p := ⟨w.heap.size, 3, none⟩) h0).trans d3
  replace d4 := (hb.cell (p := ⟨w.heap.size, 4, none⟩) h0).trans d4
  replace d5 := (hb.cell (p := ⟨w.heap.size, 5, none⟩) h0).trans d5
  replace d6 := (hb.cell (p := ⟨w.heap.size, 6, none⟩) h0).trans d6
  replace p0 := (hb.cell (p := ⟨w.heap.size + 1, 0, none⟩) h1).trans p0
  replace p1 := (hb.cell (p := ⟨w.heap.size + 1, 1, none⟩) h1).trans p1
  replace p2 := (hb.cell (p := ⟨w.heap.size + 1, 2, none⟩) h1).trans p2
  replace h0 := Nat.lt_of_lt_of_le h0 hb.size
  replace h1 := Nat.lt_of_lt_of_le h1 hb.size
  clear hb HB3
  go_upto_region 7 with fail
  refine wp_name fun w5 hw5 => ?_
  obtain ⟨g5, hg5⟩ : ∃ g, g = w4.heap.size := ⟨_, rfl⟩
  have hb5 : Below w4.heap.size w4 w5 := by
    rw [hw5]
    repeat (first | with_reducible exact Below.refl _ _ | with_reducible refine Below.setCell ?_ (by first | (simp; done) | (simp; omega)) _ | with_reducible refine Below.alloc ?_ (by first | omega | (simp; omega) | simp) _)
  have e0 : w5.cell? ⟨g5, 0, none⟩ = some (.int .u8 dk) := by rw [hw5, hg5]; simp [go_sem, hxor]
  have e1 : w5.cell? ⟨g5, 1, none⟩ = some (.int .i64 lx) := by rw [hw5, hg5]; simp [go_sem, hxor]
  have e2 : w5.cell? ⟨g5, 2, none⟩ = some (.int .i64 ly) := by rw [hw5, hg5]; simp [go_sem, hxor]
  have e3 : w5.cell? ⟨g5, 3, none⟩ = some (.int .i64 lz) := by rw [hw5, hg5]; simp [go_sem, hxor]
  have e4 : w5.cell? ⟨g5, 4, none⟩ = some (.int .i64 hx) := by rw [hw5, hg5]; simp [go_sem, hxor]
  have e5 : w5.cell? ⟨g5, 5, none⟩ = some (.int .i64 hy) := by rw [hw5, hg5]; simp [go_sem, hxor]
  have e6 : w5.cell? ⟨g5, 6, none⟩ = some (.int .i64 hz) := by rw [hw5, hg5]; simp [go_sem, hxor]
  have hg5l : g5 < w5.heap.size := by rw [hw5, hg5]; simp
  replace HA := hide ((HA.out.below hb5).mono hb5.size)
  have HB5 := hide (HB4.out.trans (hb5.mono HB4.out.size))
  replace d0 := (hb5.cell (p := ⟨w.heap.size, 0, none⟩) h0).trans d0
  replace d1 := (hb5.cell (p := ⟨w.heap.size, 1, none⟩) h0).trans d1
  replace d2 := (hb5.cell (p := ⟨w.heap.size, 2, none⟩) h0).trans d2
  replace d3 := (hb5.cell (p := ⟨w.heap.size, 3, none⟩) h0).trans d3
  replace d4 := (hb5.cell (p := ⟨w.heap.size, 4, none⟩) h0).trans d4
  replace d5 := (hb5.cell (p := ⟨w.heap.size, 5, none⟩) h0).trans d5
  replace d6 := (hb5.cell (p := ⟨w.heap.size, 6, none⟩) h0).trans d6
  replace p0 := (hb5.cell (p := ⟨w.heap.size + 1, 0, none⟩) h1).trans p0
  replace p1 := (hb5.cell (p := ⟨w.heap.size + 1, 1, none⟩) h1).trans p1
  replace p2 := (hb5.cell (p := ⟨w.heap.size + 1, 2, none⟩) h1).trans p2
  replace h0 := Nat.lt_of_lt_of_le h0 hb5.size
  replace h1 := Nat.lt_of_lt_of_le h1 hb5.size
  clear hb5 HB4
  rw [← hg5]
  clear hw5 hg5
  go_wp2_with (fail)
  refine (G2.out _).mono ?_
  rintro e w6 ⟨hpc, hb⟩
  obtain ⟨xB, rfl, hB⟩ := pcs_rd hpc
  replace HA := hide ((HA.out.below hb).mono hb.size)
  have HB := hide hB
  clear hpc hB e0 e1 e2 e3 e4 e5 e6 hg5l
  have HB6 := hide (HB5.out.trans (hb.mono HB5.out.size))
  replace d0 := (hb.cell (p := ⟨w.heap.size, 0, none⟩) h0).trans d0
  replace d1 := (hb.cell (p := ⟨w.heap.size, 1, none⟩) h0).trans d1
  replace d2 := (hb.cell (p := ⟨w.heap.size, 2, none⟩) h0).trans d2
  replace d3 := (hb.cell (p := ⟨w.heap.size, 3, none⟩) h0).trans d3
  replace d4 := (hb.cell (p := ⟨w.heap.size, 4, none⟩) h0).trans d4
  replace d5 := (hb.cell (p := ⟨w.heap.size, 5, none⟩) h0).trans d5
  replace d6 := (hb.cell (p := ⟨w.heap.size, 6, none⟩) h0).trans d6
  replace p0 := (hb.cell (p := ⟨w.heap.size + 1, 0, none⟩) h1).trans p0
  replace p1 := (hb.cell (p := ⟨w.heap.size + 1, 1, none⟩) h1).trans p1
  replace p2 := (hb.cell (p := ⟨w.heap.size + 1, 2, none⟩) h1).trans p2
  replace h0 := Nat.lt_of_lt_of_le h0 hb.size
  replace h1 := Nat.lt_of_lt_of_le h1 hb.size
  clear hb HB5
  have HS : Hid (∀ w' : World, Below w6.heap.size w6 w' → (w'.cell? ⟨w.heap.size, 0, none⟩ = some (.int .u8 dd) ∧ w'.cell? ⟨w.heap.size, 1, none⟩ = some (.int .i64 lx) ∧ w'.cell? ⟨w.heap.size, 2, none⟩ = some (.int .i64 ly) ∧ w'.cell? ⟨w.heap.size, 3, none⟩ = some (.int .i64 lz) ∧ w'.cell? ⟨w.heap.size, 4, none⟩ = some (.int .i64 hx) ∧ w'.cell? ⟨w.heap.size, 5, none⟩ = some (.int .i64 hy) ∧ w'.cell? ⟨w.heap.size, 6, none⟩ = some (.int .i64 hz)) ∧ w'.cell? ⟨w.heap.size + 1, 0, none⟩ = some (.int .i64 W) ∧ w'.cell? ⟨w.heap.size + 1, 1, none⟩ = some (.int .i64 H) ∧ w'.cell? ⟨w.heap.size + 1, 2, none⟩ = some (.int .i64 S)) := hide (fun w' h => ⟨⟨(h.cell (p := ⟨w.heap.size, 0, none⟩) h0).trans d0, (h.cell (p := ⟨w.heap.size, 1, none⟩) h0).trans d1, (h.cell (p := ⟨w.heap.size, 2, none⟩) h0).trans d2, (h.cell (p := ⟨w.heap.size, 3, none⟩) h0).trans d3, (h.cell (p := ⟨w.heap.size, 4, none⟩) h0).trans d4, (h.cell (p := ⟨w.heap.size, 5, none⟩) h0).trans d5, (h.cell (p := ⟨w.heap.size, 6, none⟩) h0).trans d6⟩, (h.cell (p := ⟨w.heap.size + 1, 0, none⟩) h1).trans p0, (h.cell (p := ⟨w.heap.size + 1, 1, none⟩) h1).trans p1, (h.cell (p := ⟨w.heap.size + 1, 2, none⟩) h1).trans p2⟩)
  have hs0 : Below w6.heap.size w6 w6.drew := (Below.refl _ _).drew
  go_upto_region 8 with fail
  refine wp_region_two [0, 3] [1, 2, 4] [5, 6, 7] [8, 9] (fun w' => (w'.cell? ⟨w.heap.size, 0, none⟩ = some (.int .u8 dd) ∧ w'.cell? ⟨w.heap.size, 1, none⟩ = some (.int .i64 lx) ∧ w'.cell? ⟨w.heap.size, 2, none⟩ = some (.int .i64 ly) ∧ w'.cell? ⟨w.heap.size, 3, none⟩ = some (.int .i64 lz) ∧ w'.cell? ⟨w.heap.size, 4, none⟩ = some (.int .i64 hx) ∧ w'.cell? ⟨w.heap.size, 5, none⟩ = some (.int .i64 hy) ∧ w'.cell? ⟨w.heap.size, 6, none⟩ = some (.int .i64 hz)) ∧ w'.cell? ⟨w.heap.size + 1, 0, none⟩ = some (.int .i64 W) ∧ w'.cell? ⟨w.heap.size + 1, 1, none⟩ = some (.int .i64 H) ∧ w'.cell? ⟨w.heap.size + 1, 2, none⟩ = some (.int .i64 S)) (by kernel_rfl) (by kernel_rfl) (HS.out _ hs0) ?_
  simp only [List.map_cons, List.map_nil, opAt, List.getElem?_cons_succ, List.getElem?_cons_zero, Option.getD_some]
  iterate 2
    refine ⟨?_, Or.inl ⟨by rfl, ?_⟩, ?_⟩
    rotate_left 1
    · intro w' hSw
      obtain ⟨⟨z0, z1, z2, z3, z4, z5, z6⟩, z7, z8, z9⟩ := hSw
      go_simp
      first | done | with_reducible rfl
    simp only [Act.put, List.setIfInBounds_toArray, List.set_cons_zero, List.set_cons_succ]
  simp only [wpReads, wpChain]
  intro K hK
  simp only [Act.put, List.setIfInBounds_toArray, List.set_cons_zero, List.set_cons_succ] at hK ⊢
  go_simp
  refine (HFL.out _).mono ?_
  rintro e wa ⟨rfl, hba⟩
  have HBA : Hid (Below w6.heap.size w6 wa) := hide (hs0.trans (hba.mono hs0.size))
  clear hba
  refine hK _ _ (HS.out _ HBA.out) ?_
  clear hK K
  intro K hK
  simp only [Act.put, List.setIfInBounds_toArray, List.set_cons_zero, List.set_cons_succ] at hK ⊢
  go_simp
  refine hK _ _ (HS.out _ (HBA.out.alloc HBA.out.size _)) ?_
  clear hK K
  intro K hK
  simp only [Act.put, List.setIfInBounds_toArray, List.set_cons_zero, List.set_cons_succ] at hK ⊢
  go_simp
  refine (GT.out _ _ (rdf_one _ _ _ _ _ _)).mono ?_
  rintro e w7 ⟨hpc, hb7⟩
  obtain ⟨xC, rfl, hC⟩ := pcs_rd hpc
  have HC := hide hC
  have HB7 : Hid (Below w6.heap.size w6 w7) := hide (Below.trans (HBA.out.alloc HBA.out.size _) (hb7.mono (by have := HBA.out.size; simp <;> omega)))
  clear hb7 hpc hC HBA
  refine hK _ _ (HS.out _ HB7.out) ?_
  clear hK K
  iterate 3
    refine ⟨?_, Or.inl ⟨by rfl, ?_⟩, ?_⟩
    rotate_left 1
    · intro w' hSw
      obtain ⟨⟨z0, z1, z2, z3, z4, z5, z6⟩, z7, z8, z9⟩ := hSw
      go_simp
      first | done | with_reducible rfl
    try simp only [Act.put, List.setIfInBounds_toArray, List.set_cons_zero, List.set_cons_succ]
  intro K hK
  simp only [Act.put, List.setIfInBounds_toArray, List.set_cons_zero, List.set_cons_succ] at hK ⊢
  go_simp
  refine hK _ _ (fun _ => HS.out _ HB7.out) ?_
  clear hK K
  intro K hK
  simp only [Act.put, List.setIfInBounds_toArray, List.set_cons_zero, List.set_cons_succ] at hK ⊢
  go_simp
  refine hK _ _ (fun h => absurd rfl h) ?_
  clear hK K hs0
  refine NoPanic.normal ?_
  replace HA := hide ((HA.out.below HB7.out).mono HB7.out.size)
  replace HB := hide ((HB.out.below HB7.out).mono HB7.out.size)
  have HK7 := hide (HB6.out.trans (HB7.out.mono HB6.out.size))
  have hb7 := HB7.out
  replace d0 := (hb7.cell (p := ⟨w.heap.size, 0, none⟩) h0).trans d0
  replace d1 := (hb7.cell (p := ⟨w.heap.size, 1, none⟩) h0).trans d1
  replace d2 := (hb7.cell (p := ⟨w.heap.size, 2, none⟩) h0).trans d2
  replace d3 := (hb7.cell (p := ⟨w.heap.size, 3, none⟩) h0).trans d3
  replace d4 := (hb7.cell (p := ⟨w.heap.size, 4, none⟩) h0).trans d4
  replace d5 := (hb7.cell (p := ⟨w.heap.size, 5, none⟩) h0).trans d5
  replace d6 := (hb7.cell (p := ⟨w.heap.size, 6, none⟩) h0).trans d6
  replace p0 := (hb7.cell (p := ⟨w.heap.size + 1, 0, none⟩) h1).trans p0
  replace p1 := (hb7.cell (p := ⟨w.heap.size + 1, 1, none⟩) h1).trans p1
  replace p2 := (hb7.cell (p := ⟨w.heap.size + 1, 2, none⟩) h1).trans p2
  replace h0 := Nat.lt_of_lt_of_le h0 hb7.size
  replace h1 := Nat.lt_of_lt_of_le h1 hb7.size
  clear hb7 HB7 HB6 HS
  have hEE : (E != E) = false := bne_self_eq_false E
  go_wp2_with (fail)
  refine (rSameT HA.out HB.out hlen HJ.out).mono ?_
  rintro e w8 ⟨rfl, hb⟩
  replace HA := hide ((HA.out.below hb).mono hb.size)
  replace HC := hide ((HC.out.below hb).mono hb.size)
  have HK8 := hide (HK7.out.trans (hb.mono HK7.out.size))
  replace d0 := (hb.cell (p := ⟨w.heap.size, 0, none⟩) h0).trans d0
  replace d1 := (hb.cell (p := ⟨w.heap.size, 1, none⟩) h0).trans d1
  replace d2 := (hb.cell (p := ⟨w.heap.size, 2, none⟩) h0).trans d2
  replace d3 := (hb.cell (p := ⟨w.heap.size, 3, none⟩) h0).trans d3
  replace d4 := (hb.cell (p := ⟨w.heap.size, 4, none⟩) h0).trans d4
  replace d5 := (hb.cell (p := ⟨w.heap.size, 5, none⟩) h0).trans d5
  replace d6 := (hb.cell (p := ⟨w.heap.size, 6, none⟩) h0).trans d6
  replace p0 := (hb.cell (p := ⟨w.heap.size + 1, 0, none⟩) h1).trans p0
  replace p1 := (hb.cell (p := ⟨w.heap.size + 1, 1, none⟩) h1).trans p1
  replace p2 := (hb.cell (p := ⟨w.heap.size + 1, 2, none⟩) h1).trans p2
  replace h0 := Nat.lt_of_lt_of_le h0 hb.size
  replace h1 := Nat.lt_of_lt_of_le h1 hb.size
  clear hb HK7
  clear HB
  go_wp2_with (fail)
  refine (rSameT HA.out HC.out hlen HJ.out).mono ?_
  rintro e w9 ⟨rfl, hb⟩
  replace HA := hide ((HA.out.below hb).mono hb.size)
  have HK9 := hide (HK8.out.trans (hb.mono HK8.out.size))
  replace d0 := (hb.cell (p := ⟨w.heap.size, 0, none⟩) h0).trans d0
  replace d1 := (hb.cell (p := ⟨w.heap.size, 1, none⟩) h0).trans d1
  replace d2 := (hb.cell (p := ⟨w.heap.size, 2, none⟩) h0).trans d2
  replace d3 := (hb.cell (p := ⟨w.heap.size, 3, none⟩) h0).trans d3
  replace d4 := (hb.cell (p := ⟨w.heap.size, 4, none⟩) h0).trans d4
  replace d5 := (hb.cell (p := ⟨w.heap.size, 5, none⟩) h0).trans d5
  replace d6 := (hb.cell (p := ⟨w.heap.size, 6, none⟩) h0).trans d6
  replace p0 := (hb.cell (p := ⟨w.heap.size + 1, 0, none⟩) h1).trans p0
  replace p1 := (hb.cell (p := ⟨w.heap.size + 1, 1, none⟩) h1).trans p1
  replace p2 := (hb.cell (p := ⟨w.heap.size + 1, 2, none⟩) h1).trans p2
  replace h0 := Nat.lt_of_lt_of_le h0 hb.size
  replace h1 := Nat.lt_of_lt_of_le h1 hb.size
  clear hb HK8
  clear HC hEE
  rcases herr with rfl | rfl
  rotate_left 1
  · go_wp2_with (fail)
    go_ret
    exact ⟨rfl, HK9.out⟩
  have HTOT := hide (HSM.out rfl)
  clear HSM
  generalize hTOT : (f2 - f0) * (f3 - f1) = TOT at *
  obtain ⟨PS, hPS⟩ : ∃ PS, PS = sumQ R := ⟨_, rfl⟩
  have HPN : Hid (∀ (m : Nat) (q : Ky × List R4), R[m]? = some q → PS (m + 1) = PS m + areaS q.2) := hide (fun m q h => by rw [hPS]; exact sumQ_snoc h)
  have HP0 : Hid (PS 0 = 0) := hide (by rw [hPS]; rfl)
  have HPE : Hid (PS R.length = TOT) := hide (by rw [hPS, ← HTOT.out]; unfold sumQ; rw [List.take_length])
  have HTT := hide hTOT
  clear hPS HTOT hTOT
  obtain ⟨Aa, ca, rfl, -⟩ := id HA.out
  go_wp2_with (fail)
  go_loopw [13, 14] (fun s i wr => ∃ (m : Nat) (u : Int), m ≤ R.length ∧ i = .int .i64 (m : Int) ∧ s = .int .i64 u ∧ Hid (u = IntKind.i64.wrap (PS m)) ∧ Hid (Below w9.heap.size w9 wr)) (fun _ i _ => R.length - (intOf i).toNat)
  case atStart => exact ⟨0, 0, Nat.zero_le _, rfl, rfl, hide (by rw [HP0.out]; rfl), hide (Below.refl _ _)⟩
  case round =>
    obtain ⟨m, u, hm, rfl, rfl, HU, HBW⟩ := hrel
    have hbw := HBW.out
    replace d0 := (hbw.cell (p := ⟨w.heap.size, 0, none⟩) h0).trans d0
    replace d1 := (hbw.cell (p := ⟨w.heap.size, 1, none⟩) h0).trans d1
    replace d2 := (hbw.cell (p := ⟨w.heap.size, 2, none⟩) h0).trans d2
    replace d3 := (hbw.cell (p := ⟨w.heap.size, 3, none⟩) h0).trans d3
    replace d4 := (hbw.cell (p := ⟨w.heap.size, 4, none⟩) h0).trans d4
    replace d5 := (hbw.cell (p := ⟨w.heap.size, 5, none⟩) h0).trans d5
    replace d6 := (hbw.cell (p := ⟨w.heap.size, 6, none⟩) h0).trans d6
    replace p0 := (hbw.cell (p := ⟨w.heap.size + 1, 0, none⟩) h1).trans p0
    replace p1 := (hbw.cell (p := ⟨w.heap.size + 1, 1, none⟩) h1).trans p1
    replace p2 := (hbw.cell (p := ⟨w.heap.size + 1, 2, none⟩) h1).trans p2
    replace h0 := Nat.lt_of_lt_of_le h0 hbw.size
    replace h1 := Nat.lt_of_lt_of_le h1 hbw.size
    have HKW := hide (HK9.out.trans (hbw.mono HK9.out.size))
    clear hbw
    by_cases hlt : m < R.length
    · obtain ⟨⟨⟨row, col⟩, J⟩, hk⟩ : ∃ q, R[m]? = some q := ⟨_, List.getElem?_eq_getElem hlt⟩
      have hqm := List.mem_of_getElem? hk
      have hJl := HJ.out _ hqm
      have hcq := HCQ.out _ hqm
      have hpn := HPN.out _ _ hk
      simp only at hJl hcq hpn
      have rdA : RdP wr wr.heap.size _ R := (HA.out.below HBW.out).mono HBW.out.size
      obtain ⟨_, _, eA, kA⟩ := rdA
      injection eA with q1 q2 q3
      subst q1
      subst q3
      (try clear q2)
      obtain ⟨g1, rfl, hg1, k1A⟩ := kA (by intro e; rw [e] at hlt; simp at hlt)
      obtain ⟨a0, a1, u1, a2, r1⟩ := k1A m _ _ hk
      obtain ⟨A1, d1', rfl, -⟩ := id r1
      have HRJ := hide r1
      have HAR := hide (by have := area_any HRJ.out (show J.length ≤ 100000000 by omega); rwa [show areaF J = (areaS J, 0) by unfold areaF; rw [if_pos hcq]] at this : Calls Tryz.prog 14 #[.slice A1 J.length d1'] wr fun e w'' => e = .returned (.tuple #[.int .i64 (areaS J), .int .i64 0]) ∧ Below wr.heap.size wr w'')
      have mz : (m : Int) < (R.length : Int) := by omega
      obtain ⟨u2, hu2⟩ : ∃ u2, IntKind.i64.wrap (u + areaS J) = u2 := ⟨_, rfl⟩
      have HU2 : Hid (u2 = IntKind.i64.wrap (PS (m + 1))) := hide (by rw [← hu2, HU.out, wrapQ_add, hpn])
      generalize areaS J = aj at *
      clear hk hqm hcq hpn kA k1A r1 hJl d0 d1 d2 d3 d4 d5 d6 p0 p1 p2 h0 h1 HRJ
      go_wp2_with (fail)
      refine HAR.out.mono ?_
      rintro e w10 ⟨rfl, hb⟩
      have HBV := hide (HBW.out.trans (hb.mono HBW.out.size))
      clear hb HAR a0 a1 a2
      go_wp2_with (fail)
      go_roundw
      case rel => exact ⟨m + 1, u2, by omega, by go_num, rfl, HU2, HBV⟩
      case measure => simp [intOf]; omega
    · obtain rfl : m = R.length := by omega
      have hu : u = TOT := by rw [HU.out, HPE.out]; exact IntWalk.i64_in _ (by omega)
      subst hu
      clear HU
      go_wp2_with (fail)
      refine (HFL.out _).mono ?_
      rintro e w10 ⟨rfl, hb⟩
      have HKV := hide (HKW.out.trans (hb.mono HKW.out.size))
      clear hb d0 d1 d2 d3 d4 d5 d6 p0 p1 p2 h0 h1
      have y1 : IntKind.i64.wrap (f2 - f0) = f2 - f0 := IntWalk.i64_in _ (by omega)
      have y2 : IntKind.i64.wrap (f3 - f1) = f3 - f1 := IntWalk.i64_in _ (by omega)
      have y3 : IntKind.i64.wrap ((f2 - f0) * (f3 - f1)) = u := by rw [HTT.out]; exact IntWalk.i64_in _ (by omega)
      have y4 : (u == u) = true := by simp
      go_wp2_with (fail)
      go_ret
      exact ⟨rfl, (HKV.out.alloc HKV.out.size _)⟩
set_option maxRecDepth 100000 in
set_option maxHeartbeats 8000000 in
theorem quads_badq {w : World} (dd lx ly lz hx hy hz : Int) (hd : 0 ≤ dd) (e2 : okQ ⟨dd, lx, ly, lz, hx, hy, hz⟩ = false) (W H S : Int) :
    Calls Tryz.prog 4 #[.agg #[.int .u8 dd, .int .i64 lx, .int .i64 ly, .int .i64 lz, .int .i64 hx, .int .i64 hy, .int .i64 hz], .agg #[.int .i64 W, .int .i64 H, .int .i64 S]] w fun e w' => e = .returned (.bool true) ∧ Below w.heap.size w w' := by
  have HVA := hide (fun W' => (by have := rvalid_any dd lx ly lz hx hy hz hd W'; rwa [e2] at this : Calls Tryz.prog 10 #[.agg #[.int .u8 dd, .int .i64 lx, .int .i64 ly, .int .i64 lz, .int .i64 hx, .int .i64 hy, .int .i64 hz]] W' fun e w' => e = .returned (.bool false) ∧ Below W'.heap.size W' w'))
  clear e2 hd
  go_enter Tryz.func4, Tryz.ntmps4
  go_upto_region 1 with fail
  refine wp_name fun w0 hw0 => ?_
  have hb0 : Below w.heap.size w w0 := by
    rw [hw0]
    repeat (first | with_reducible exact Below.refl _ _ | with_reducible refine Below.setCell ?_ (by first | (simp; done) | (simp; omega)) _ | with_reducible refine Below.alloc ?_ (by first | omega | (simp; omega) | simp) _)
  have d0 : w0.cell? ⟨w.heap.size, 0, none⟩ = some (.int .u8 dd) := by rw [hw0]; simp [go_sem]
  have d1 : w0.cell? ⟨w.heap.size, 1, none⟩ = some (.int .i64 lx) := by rw [hw0]; simp [go_sem]
  have d2 : w0.cell? ⟨w.heap.size, 2, none⟩ = some (.int .i64 ly) := by rw [hw0]; simp [go_sem]
  have d3 : w0.cell? ⟨w.heap.size, 3, none⟩ = some (.int .i64 lz) := by rw [hw0]; simp [go_sem]
  have d4 : w0.cell? ⟨w.heap.size, 4, none⟩ = some (.int .i64 hx) := by rw [hw0]; simp [go_sem]
  have d5 : w0.cell? ⟨w.heap.size, 5, none⟩ = some (.int .i64 hy) := by rw [hw0]; simp [go_sem]
  have d6 : w0.cell? ⟨w.heap.size, 6, none⟩ = some (.int .i64 hz) := by rw [hw0]; simp [go_sem]
  have p0 : w0.cell? ⟨w.heap.size + 1, 0, none⟩ = some (.int .i64 W) := by rw [hw0]; simp [go_sem]
  have p1 : w0.cell? ⟨w.heap.size + 1, 1, none⟩ = some (.int .i64 H) := by rw [hw0]; simp [go_sem]
  have p2 : w0.cell? ⟨w.heap.size + 1, 2, none⟩ = some (.int .i64 S) := by rw [hw0]; simp [go_sem]
  have h0 : w.heap.size < w0.heap.size := by rw [hw0]; simp; omega
  have h1 : w.heap.size + 1 < w0.heap.size := by rw [hw0]; simp
  have HB0 := hide hb0
  clear hw0 hb0
  go_wp2_with (fail)
  refine (alive41_any _).mono ?_
  rintro e w1 ⟨rfl, hb⟩
  have HB1 := hide (HB0.out.trans (hb.mono HB0.out.size))
  replace d0 := (hb.cell (p := ⟨w.heap.size, 0, none⟩) h0).trans d0
  replace d1 := (hb.cell (p := ⟨w.heap.size, 1, none⟩) h0).trans d1
  replace d2 := (hb.cell (p := ⟨w.heap.size, 2, none⟩) h0).trans d2
  replace d3 := (hb.cell (p := ⟨w.heap.size, 3, none⟩) h0).trans d3
  replace d4 := (hb.cell (p := ⟨w.heap.size, 4, none⟩) h0).trans d4
  replace d5 := (hb.cell (p := ⟨w.heap.size, 5, none⟩) h0).trans d5
  replace d6 := (hb.cell (p := ⟨w.heap.size, 6, none⟩) h0).trans d6
  replace p0 := (hb.cell (p := ⟨w.heap.size + 1, 0, none⟩) h1).trans p0
  replace p1 := (hb.cell (p := ⟨w.heap.size + 1, 1, none⟩) h1).trans p1
  replace p2 := (hb.cell (p := ⟨w.heap.size + 1, 2, none⟩) h1).trans p2
  replace h0 := Nat.lt_of_lt_of_le h0 hb.size
  replace h1 := Nat.lt_of_lt_of_le h1 hb.size
  clear hb HB0
  go_wp2_with (fail)
  refine (HVA.out _).mono ?_
  rintro e w2 ⟨rfl, hb⟩
  have HB2 := hide (HB1.out.trans (hb.mono HB1.out.size))
  replace d0 := (hb.cell (p := ⟨w.heap.size, 0, none⟩) h0).trans d0
  replace d1 := (hb.cell (p := ⟨w.heap.size, 1, none⟩) h0).trans d1
  replace d2 := (hb.cell (p := ⟨w.heap.size, 2, none⟩) h0).trans d2
  replace d3 := (hb.cell (p := ⟨w.heap.size, 3, none⟩) h0).trans d3
  replace d4 := (hb.cell (p := ⟨w.heap.size, 4, none⟩) h0).trans d4
  replace d5 := (hb.cell (p := ⟨w.heap.size, 5, none⟩) h0).trans d5
  replace d6 := (hb.cell (p := ⟨w.heap.size, 6, none⟩) h0).trans d6
  replace p0 := (hb.cell (p := ⟨w.heap.size + 1, 0, none⟩) h1).trans p0
  replace p1 := (hb.cell (p := ⟨w.heap.size + 1, 1, none⟩) h1).trans p1
  replace p2 := (hb.cell (p := ⟨w.heap.size + 1, 2, none⟩) h1).trans p2
  replace h0 := Nat.lt_of_lt_of_le h0 hb.size
  replace h1 := Nat.lt_of_lt_of_le h1 hb.size
  clear hb HB1
  go_wp2_with (fail)
  go_ret
  exact ⟨rfl, HB2.out⟩
set_option maxRecDepth 100000 in
set_option maxHeartbeats 8000000 in
theorem quads_badp {w : World} (dd lx ly lz hx hy hz : Int) (hd : 0 ≤ dd) (e2 : okQ ⟨dd, lx, ly, lz, hx, hy, hz⟩ = true) (W H S : Int) (hp : ¬ okPat W H S) :
    Calls Tryz.prog 4 #[.agg #[.int .u8 dd, .int .i64 lx, .int .i64 ly, .int .i64 lz, .int .i64 hx, .int .i64 hy, .int .i64 hz], .agg #[.int .i64 W, .int .i64 H, .int .i64 S]] w fun e w' => e = .returned (.bool true) ∧ Below w.heap.size w w' := by
  have HVA := hide (fun W' => (by have := rvalid_any dd lx ly lz hx hy hz hd W'; rwa [e2] at this : Calls Tryz.prog 10 #[.agg #[.int .u8 dd, .int .i64 lx, .int .i64 ly, .int .i64 lz, .int .i64 hx, .int .i64 hy, .int .i64 hz]] W' fun e w' => e = .returned (.bool true) ∧ Below W'.heap.size W' w'))
  have HCP := hide (fun W' => (by have := rcheck_any W H S W'; rwa [chk_bad hp] at this : Calls Tryz.prog 11 #[.agg #[.int .i64 W, .int .i64 H, .int .i64 S]] W' fun e w' => e = .returned (.int .i64 8) ∧ Below W'.heap.size W' w'))
  clear e2 hd hp
  go_enter Tryz.func4, Tryz.ntmps4
  go_upto_region 1 with fail
  refine wp_name fun w0 hw0 => ?_
  have hb0 : Below w.heap.size w w0 := by
    rw [hw0]
    repeat (first | with_reducible exact Below.refl _ _ | with_reducible refine Below.setCell ?_ (by first | (simp; done) | (simp; omega)) _ | with_reducible refine Below.alloc ?_ (by first | omega | (simp; omega) | simp) _)
  have d0 : w0.cell? ⟨w.heap.size, 0, none⟩ = some (.int .u8 dd) := by rw [hw0]; simp [go_sem]
  have d1 : w0.cell? ⟨w.heap.size, 1, none⟩ = some (.int .i64 lx) := by rw [hw0]; simp [go_sem]
  have d2 : w0.cell? ⟨w.heap.size, 2, none⟩ = some (.int .i64 ly) := by rw [hw0]; simp [go_sem]
  have d3 : w0.cell? ⟨w.heap.size, 3, none⟩ = some (.int .i64 lz) := by rw [hw0]; simp [go_sem]
  have d4 : w0.cell? ⟨w.heap.size, 4, none⟩ = some (.int .i64 hx) := by rw [hw0]; simp [go_sem]
  have d5 : w0.cell? ⟨w.heap.size, 5, none⟩ = some (.int .i64 hy) := by rw [hw0]; simp [go_sem]
  have d6 : w0.cell? ⟨w.heap.size, 6, none⟩ = some (.int .i64 hz) := by rw [hw0]; simp [go_sem]
  have p0 : w0.cell? ⟨w.heap.size + 1, 0, none⟩ = some (.int .i64 W) := by rw [hw0]; simp [go_sem]
  have p1 : w0.cell? ⟨w.heap.size + 1, 1, none⟩ = some (.int .i64 H) := by rw [hw0]; simp [go_sem]
  have p2 : w0.cell? ⟨w.heap.size + 1, 2, none⟩ = some (.int .i64 S) := by rw [hw0]; simp [go_sem]
  have h0 : w.heap.size < w0.heap.size := by rw [hw0]; simp; omega
  have h1 : w.heap.size + 1 < w0.heap.size := by rw [hw0]; simp
  have HB0 := hide hb0
  clear hw0 hb0
  go_wp2_with (fail)
  refine (alive41_any _).mono ?_
  rintro e w1 ⟨rfl, hb⟩
  have HB1 := hide (HB0.out.trans (hb.mono HB0.out.size))
  replace d0 := (hb.cell (p := ⟨w.heap.size, 0, none⟩) h0).trans d0
  replace d1 := (hb.cell (p := ⟨w.heap.size, 1, none⟩) h0).trans d1
  replace d2 := (hb.cell (p := ⟨w.heap.size, 2, none⟩) h0).trans d2
  replace d3 := (hb.cell (p := ⟨w.heap.size, 3, none⟩) h0).trans d3
  replace d4 := (hb.cell (p := ⟨w.heap.size, 4, none⟩) h0).trans d4
  replace d5 := (hb.cell (p := ⟨w.heap.size, 5, none⟩) h0).trans d5
  replace d6 := (hb.cell (p := ⟨w.heap.size, 6, none⟩) h0).trans d6
  replace p0 := (hb.cell (p := ⟨w.heap.size + 1, 0, none⟩) h1).trans p0
  replace p1 := (hb.cell (p := ⟨w.heap.size + 1, 1, none⟩) h1).trans p1
  replace p2 := (hb.cell (p := ⟨w.heap.size + 1, 2, none⟩) h1).trans p2
  replace h0 := Nat.lt_of_lt_of_le h0 hb.size
  replace h1 := Nat.lt_of_lt_of_le h1 hb.size
  clear hb HB0
  go_wp2_with (fail)
  refine (HVA.out _).mono ?_
  rintro e w2 ⟨rfl, hb⟩
  have HB2 := hide (HB1.out.trans (hb.mono HB1.out.size))
  replace d0 := (hb.cell (p := ⟨w.heap.size, 0, none⟩) h0).trans d0
  replace d1 := (hb.cell (p := ⟨w.heap.size, 1, none⟩) h0).trans d1
  replace d2 := (hb.cell (p := ⟨w.heap.size, 2, none⟩) h0).trans d2
  replace d3 := (hb.cell (p := ⟨w.heap.size, 3, none⟩) h0).trans d3
  replace d4 := (hb.cell (p := ⟨w.heap.size, 4, none⟩) h0).trans d4
  replace d5 := (hb.cell (p := ⟨w.heap.size, 5, none⟩) h0).trans d5
  replace d6 := (hb.cell (p := ⟨w.heap.size, 6, none⟩) h0).trans d6
  replace p0 := (hb.cell (p := ⟨w.heap.size + 1, 0, none⟩) h1).trans p0
  replace p1 := (hb.cell (p := ⟨w.heap.size + 1, 1, none⟩) h1).trans p1
  replace p2 := (hb.cell (p := ⟨w.heap.size + 1, 2, none⟩) h1).trans p2
  replace h0 := Nat.lt_of_lt_of_le h0 hb.size
  replace h1 := Nat.lt_of_lt_of_le h1 hb.size
  clear hb HB1
  go_wp2_with (fail)
  refine (HCP.out _).mono ?_
  rintro e w3 ⟨rfl, hb⟩
  have HB3 := hide (HB2.out.trans (hb.mono HB2.out.size))
  replace d0 := (hb.cell (p := ⟨w.heap.size, 0, none⟩) h0).trans d0
  replace d1 := (hb.cell (p := ⟨w.heap.size, 1, none⟩) h0).trans d1
  replace d2 := (hb.cell (p := ⟨w.heap.size, 2, none⟩) h0).trans d2
  replace d3 := (hb.cell (p := ⟨w.heap.size, 3, none⟩) h0).trans d3
  replace d4 := (hb.cell (p := ⟨w.heap.size, 4, none⟩) h0).trans d4
  replace d5 := (hb.cell (p := ⟨w.heap.size, 5, none⟩) h0).trans d5
  replace d6 := (hb.cell (p := ⟨w.heap.size, 6, none⟩) h0).trans d6
  replace p0 := (hb.cell (p := ⟨w.heap.size + 1, 0, none⟩) h1).trans p0
  replace p1 := (hb.cell (p := ⟨w.heap.size + 1, 1, none⟩) h1).trans p1
  replace p2 := (hb.cell (p := ⟨w.heap.size + 1, 2, none⟩) h1).trans p2
  replace h0 := Nat.lt_of_lt_of_le h0 hb.size
  replace h1 := Nat.lt_of_lt_of_le h1 hb.size
  clear hb HB2
  go_wp2_with (fail)
  go_ret
  exact ⟨rfl, HB3.out⟩
theorem quads_walk {w : World} (dd lx ly lz hx hy hz : Int) (hd : 0 ≤ dd) (W H S : Int) :
    Calls Tryz.prog 4 #[.agg #[.int .u8 dd, .int .i64 lx, .int .i64 ly, .int .i64 lz, .int .i64 hx, .int .i64 hy, .int .i64 hz], .agg #[.int .i64 W, .int .i64 H, .int .i64 S]] w fun e w' => e = .returned (.bool true) ∧ Below w.heap.size w w' := by
  rcases chk_ok8 ⟨dd, lx, ly, lz, hx, hy, hz⟩ with ⟨e1, e2⟩ | ⟨e1, e2⟩
  · by_cases hp : okPat W H S
    · have h5 : dd ≤ 5 := by
        unfold okQ at e2
        simp only [Bool.and_eq_true, decide_eq_true_eq] at e2
        omega
      have hcs : dd = 0 ∨ dd = 1 ∨ dd = 2 ∨ dd = 3 ∨ dd = 4 ∨ dd = 5 := by omega
      have key : ∀ a b : Int, (a < 2 ↔ b < 2) → (a < 4 ↔ b < 4) → (a ≤ 5 ↔ b ≤ 5) → chkQ ⟨b, lx, ly, lz, hx, hy, hz⟩ = chkQ ⟨a, lx, ly, lz, hx, hy, hz⟩ ∧ flatR ⟨b, lx, ly, lz, hx, hy, hz⟩ = flatR ⟨a, lx, ly, lz, hx, hy, hz⟩ := fun a b c1 c2 c3 => by
        unfold chkQ okQ levQ flatR
        simp only [c1, c2, c3]
        constructor <;> first | rfl | trivial
      rcases hcs with rfl | hcs
      · obtain ⟨k1, k2⟩ := key 0 1 (by decide) (by decide) (by decide)
        exact quads_main 0 1 lx ly lz hx hy hz (by decide) (by decide) (by decide) e1 e2 (k1.trans e1) k2 W H S hp
      rcases hcs with rfl | hcs
      · obtain ⟨k1, k2⟩ := key 1 0 (by decide) (by decide) (by decide)
        exact quads_main 1 0 lx ly lz hx hy hz (by decide) (by decide) (by decide) e1 e2 (k1.trans e1) k2 W H S hp
      rcases hcs with rfl | hcs
      · obtain ⟨k1, k2⟩ := key 2 3 (by decide) (by decide) (by decide)
        exact quads_main 2 3 lx ly lz hx hy hz (by decide) (by decide) (by decide) e1 e2 (k1.trans e1) k2 W H S hp
      rcases hcs with rfl | hcs
      · obtain ⟨k1, k2⟩ := key 3 2 (by decide) (by decide) (by decide)
        exact quads_main 3 2 lx ly lz hx hy hz (by decide) (by decide) (by decide) e1 e2 (k1.trans e1) k2 W H S hp
      rcases hcs with rfl | hcs
      · obtain ⟨k1, k2⟩ := key 4 5 (by decide) (by decide) (by decide)
        exact quads_main 4 5 lx ly lz hx hy hz (by decide) (by decide) (by decide) e1 e2 (k1.trans e1) k2 W H S hp
      subst hcs
      obtain ⟨k1, k2⟩ := key 5 4 (by decide) (by decide) (by decide)
      exact quads_main 5 4 lx ly lz hx hy hz (by decide) (by decide) (by decide) e1 e2 (k1.trans e1) k2 W H S hp
    · exact quads_badp dd lx ly lz hx hy hz hd e2 W H S hp
  · exact quads_badq dd lx ly lz hx hy hz hd e2 W H S
end Go.Proofs.YtjlfdgoijalfaaaGreat
