/- The walk of TexturePoints. -/
import Derived.Test.YtlkaniojnaaocaaPk9
import Derived.Test.YtlkaniojnaaocaaPk10
import Derived.Test.YtlkaniojnaaocaaPk7
namespace Go.Proofs.Ytlkaniojnaaocaa
open Go.RowKit
set_option linter.unusedVariables false
set_option linter.unusedSimpArgs false

theorem chk_cases (W H S : Int) : (okPat W H S ∧ chk W H S = 0) ∨ ((chk W H S != 0) = true) := by
  by_cases hp : okPat W H S
  · exact .inl ⟨hp, chk_ok hp⟩
  · exact .inr (by rw [chk_bad hp]; rfl)
set_option maxRecDepth 100000 in
set_option maxHeartbeats 8000000 in
theorem points_walk {w : World} (W H S x y : Int) :
    Calls Try.prog 5 #[.agg #[.int .i64 W, .int .i64 H, .int .i64 S], .int .i64 x, .int .i64 y] w fun e w' => e = .returned (.bool true) ∧ Below w.heap.size w w' := by
  have hmx := @run_max2 Try.prog
  have HT := hide (T1.start w W H S)
  have K := hide HT.out.low
  have hpc := fun wi => rcheck_any W H S wi
  have hcs := chk_cases W H S
  have HPC := hide hpc
  clear hpc
  generalize chk W H S = cc at *
  go_enter Try.func5, Try.ntmps5
  obtain ⟨-, -, p0, p1, p2⟩ := HT.out
  go_wp2_with (fail)
  refine (alive41_any _).mono ?_
  rintro e v1 ⟨rfl, hb⟩
  clear p0 p1 p2
  replace K := hide (K.out.trans (hb.mono K.out.size))
  replace HT := hide (HT.out.keep hb)
  clear hb
  obtain ⟨-, -, p0, p1, p2⟩ := HT.out
  go_wp2_with (fail)
  refine (HPC.out _).mono ?_
  rintro e v2 ⟨rfl, hb⟩
  clear p0 p1 p2
  replace K := hide (K.out.trans (hb.mono K.out.size))
  replace HT := hide (HT.out.keep hb)
  clear hb HPC
  rcases hcs with ⟨hp, rfl⟩ | hcs
  · by_cases z1 : 900000 < max x (wrap64 (-x))
    · have z1t : decide (900000 < max x (wrap64 (-x))) = true := decide_eq_true z1
      clear z1
      obtain ⟨-, -, p0, p1, p2⟩ := HT.out
      go_wp2_with (fail)
      go_ret
      exact ⟨rfl, K.out⟩
    · have z1f : decide (900000 < max x (wrap64 (-x))) = false := decide_eq_false z1
      by_cases z2 : 900000 < max y (wrap64 (-y))
      · have z2t : decide (900000 < max y (wrap64 (-y))) = true := decide_eq_true z2
        clear z2
        obtain ⟨-, -, p0, p1, p2⟩ := HT.out
        go_wp2_with (fail)
        go_ret
        exact ⟨rfl, K.out⟩
      · have z2f : decide (900000 < max y (wrap64 (-y))) = false := decide_eq_false z2
        by_cases z3 : x < -900000
        · have z3t : decide (x < -900000) = true := decide_eq_true z3
          clear z3
          obtain ⟨-, -, p0, p1, p2⟩ := HT.out
          go_wp2_with (fail)
          go_ret
          exact ⟨rfl, K.out⟩
        · have z3f : decide (x < -900000) = false := decide_eq_false z3
          by_cases z4 : y < -900000
          · have z4t : decide (y < -900000) = true := decide_eq_true z4
            clear z4
            obtain ⟨-, -, p0, p1, p2⟩ := HT.out
            go_wp2_with (fail)
            go_ret
            exact ⟨rfl, K.out⟩
          · have z4f : decide (y < -900000) = false := decide_eq_false z4
            have hx : -900000 ≤ x ∧ x ≤ 900000 := by omega
            have hy : -900000 ≤ y ∧ y ≤ 900000 := by omega
            obtain ⟨c, r, X, Y, n0, n1, m0, m1, hq⟩ := pt_ok hp hx hy
            obtain ⟨qw1, qw2, qh1, qh2, -, -⟩ := hp
            obtain ⟨u1, u2, u3, u4⟩ := hq.u
            obtain ⟨t1, t2, t3, t4⟩ := hq.v
            obtain ⟨x1, x2⟩ := hq.hx
            obtain ⟨y1, y2⟩ := hq.hy
            obtain ⟨cb1, cb2⟩ := hq.cb
            have G1 := hide (fun w => (by have h := at_any W H S x y w; rwa [hq.aC, hq.aR, hq.aE] at h : Calls Try.prog 7 #[.agg #[.int .i64 W, .int .i64 H, .int .i64 S], .int .i64 x, .int .i64 y] w fun e w' => e = .returned (.tuple #[.int .i64 c, .int .i64 r, .int .i64 0]) ∧ Below w.heap.size w w'))
            have G2 := hide (fun w => (by have h := brk_any W H S c r w; rwa [hq.b0, hq.b1, hq.b2, hq.b3, hq.bE] at h : Calls Try.prog 9 #[.agg #[.int .i64 W, .int .i64 H, .int .i64 S], .int .i64 c, .int .i64 r] w fun e w' => e = .returned (.tuple #[.agg #[.int .i64 X, .int .i64 Y, .int .i64 (X + W), .int .i64 (Y + H)], .int .i64 0]) ∧ Below w.heap.size w w'))
            have G3 := hide (fun w => (by have h := coords_any W H S x y w; rwa [hq.c0, hq.c1, hq.c2, hq.c3, hq.aE] at h : Calls Try.prog 11 #[.agg #[.int .i64 W, .int .i64 H, .int .i64 S], .int .i64 x, .int .i64 y] w fun e w' => e = .returned (.tuple #[.agg #[.int .i64 n0, .int .i64 n1], .agg #[.int .i64 m0, .int .i64 m1], .int .i64 0]) ∧ Below w.heap.size w w'))
            have G4 := hide (fun w => (by have h := at_any W H S (X + W) y w; rwa [hq.nC, hq.nR, hq.nE] at h : Calls Try.prog 7 #[.agg #[.int .i64 W, .int .i64 H, .int .i64 S], .int .i64 (X + W), .int .i64 y] w fun e w' => e = .returned (.tuple #[.int .i64 (c + 1), .int .i64 r, .int .i64 0]) ∧ Below w.heap.size w w'))
            clear hq
            have i1 : decide (x < X) = false := decide_eq_false (by omega)
            have i2 : decide (X + W ≤ x) = false := decide_eq_false (by omega)
            have i3 : decide (y < Y) = false := decide_eq_false (by omega)
            have i4 : decide (Y + H ≤ y) = false := decide_eq_false (by omega)
            have i5 : IntKind.i64.wrap (X + W - X) = W := by rw [show X + W - X = W by omega]; exact IntWalk.i64_in _ (by omega)
            have i6 : IntKind.i64.wrap (Y + H - Y) = H := by rw [show Y + H - Y = H by omega]; exact IntWalk.i64_in _ (by omega)
            have j1 : decide (n0 < 0) = false := decide_eq_false (by omega)
            have j2 : decide (n1 ≤ n0) = false := decide_eq_false (by omega)
            have j3 : decide (m0 < 0) = false := decide_eq_false (by omega)
            have j4 : decide (m1 ≤ m0) = false := decide_eq_false (by omega)
            have l1 := mul_bd n0 W 1000 1000 (by omega) (by omega) (by omega) (by omega) (by omega)
            have l2 := mul_bd m0 H 1000 1000 (by omega) (by omega) (by omega) (by omega) (by omega)
            obtain ⟨P, hP⟩ : ∃ P, n0 * W = P := ⟨_, rfl⟩
            obtain ⟨Q, hQ⟩ : ∃ Q, m0 * H = Q := ⟨_, rfl⟩
            have k1 : IntKind.i64.wrap (n0 * W) = P := by rw [hP]; exact IntWalk.i64_in _ (by omega)
            have k2 : IntKind.i64.wrap (m0 * H) = Q := by rw [hQ]; exact IntWalk.i64_in _ (by omega)
            have k3 : IntKind.i64.wrap (x - X) = x - X := IntWalk.i64_in _ (by omega)
            have k4 : IntKind.i64.wrap (y - Y) = y - Y := IntWalk.i64_in _ (by omega)
            have k5 : IntKind.i64.wrap ((x - X) * n1) = P := by rw [← u4, hP]; exact IntWalk.i64_in _ (by omega)
            have k6 : IntKind.i64.wrap ((y - Y) * m1) = Q := by rw [← t4, hQ]; exact IntWalk.i64_in _ (by omega)
            have k7 : IntKind.i64.wrap (c + 1) = c + 1 := IntWalk.i64_in _ (by omega)
            clear hP hQ l1 l2 u4 t4 z1 z2 z3 z4
            clear u1 u2 u3 t1 t2 t3 x1 x2 y1 y2 hx hy qw1 qw2 qh1 qh2 cb1 cb2
            obtain ⟨-, -, p0, p1, p2⟩ := HT.out
            go_wp2_with (fail)
            refine (G1.out _).mono ?_
            rintro e v3 ⟨rfl, hb⟩
            clear p0 p1 p2
            replace K := hide (K.out.trans (hb.mono K.out.size))
            replace HT := hide (HT.out.keep hb)
            clear hb
            obtain ⟨-, -, p0, p1, p2⟩ := HT.out
            go_wp2_with (fail)
            refine (G2.out _).mono ?_
            rintro e v4 ⟨rfl, hb⟩
            clear p0 p1 p2
            replace K := hide (K.out.trans (hb.mono K.out.size))
            replace HT := hide (HT.out.keep hb)
            clear hb
            obtain ⟨-, -, p0, p1, p2⟩ := HT.out
            have hlt : w.heap.size < v4.heap.size := HT.out.hb
            go_wp2_with (fail)
            refine calls_name fun v5 hZ => ?_
            have hbz : Below v4.heap.size v4 v5 := by
              rw [hZ]
              repeat (first | with_reducible exact Below.refl _ _ | with_reducible refine Below.setCell ?_ (by first | (simp; done) | (simp; omega)) _ | with_reducible refine Below.alloc ?_ (by first | omega | (simp; omega) | simp) _)
            have BX : Hid (Cels (v4.heap.size) [.int .i64 X, .int .i64 Y, .int .i64 (X + W), .int .i64 (Y + H)] v5) := hide (by
              rw [hZ]
              refine ⟨by simp; try omega, fun i u hu => ?_⟩
              match i, hu with
              | 0, hu => injection hu with hu; subst hu; simp [go_sem]
              | 1, hu => injection hu with hu; subst hu; simp [go_sem]
              | 2, hu => injection hu with hu; subst hu; simp [go_sem]
              | 3, hu => injection hu with hu; subst hu; simp [go_sem])
            clear p0 p1 p2 hlt
            replace K := hide (K.out.trans (hbz.mono K.out.size))
            replace HT := hide (HT.out.keep hbz)
            clear hZ hbz
            refine (G3.out _).mono ?_
            rintro e v6 ⟨rfl, hb⟩
            replace K := hide (K.out.trans (hb.mono K.out.size))
            replace HT := hide (HT.out.keep hb)
            replace BX := hide (BX.out.keep hb)
            clear hb
            obtain ⟨-, -, p0, p1, p2⟩ := HT.out
            have bx0 := BX.out.2 0 _ rfl
            have bx1 := BX.out.2 1 _ rfl
            have bx2 := BX.out.2 2 _ rfl
            have bx3 := BX.out.2 3 _ rfl
            have hlt : w.heap.size < v6.heap.size := HT.out.hb
            have hlBX := BX.out.1
            go_upto_region 7 with fail
            refine wp_name fun v7 hZ => ?_
            have hbz : Below v6.heap.size v6 v7 := by
              rw [hZ]
              repeat (first | with_reducible exact Below.refl _ _ | with_reducible refine Below.setCell ?_ (by first | (simp; done) | (simp; omega)) _ | with_reducible refine Below.alloc ?_ (by first | omega | (simp; omega) | simp) _)
            have BU : Hid (Cels (v6.heap.size) [.int .i64 n0, .int .i64 n1] v7) := hide (by
              rw [hZ]
              refine ⟨by simp; try omega, fun i u hu => ?_⟩
              match i, hu with
              | 0, hu => injection hu with hu; subst hu; simp [go_sem]
              | 1, hu => injection hu with hu; subst hu; simp [go_sem])
            have BV : Hid (Cels (v6.heap.size + 1) [.int .i64 m0, .int .i64 m1] v7) := hide (by
              rw [hZ]
              refine ⟨by simp; try omega, fun i u hu => ?_⟩
              match i, hu with
              | 0, hu => injection hu with hu; subst hu; simp [go_sem]
              | 1, hu => injection hu with hu; subst hu; simp [go_sem])
            clear p0 p1 p2 bx0 bx1 bx2 bx3 hlt hlBX
            replace K := hide (K.out.trans (hbz.mono K.out.size))
            replace HT := hide (HT.out.keep hbz)
            replace BX := hide (BX.out.keep hbz)
            clear hZ hbz
            obtain ⟨-, -, p0, p1, p2⟩ := HT.out
            have bx0 := BX.out.2 0 _ rfl
            have bx1 := BX.out.2 1 _ rfl
            have bx2 := BX.out.2 2 _ rfl
            have bx3 := BX.out.2 3 _ rfl
            have bu0 := BU.out.2 0 _ rfl
            have bu1 := BU.out.2 1 _ rfl
            have bv0 := BV.out.2 0 _ rfl
            have bv1 := BV.out.2 1 _ rfl
            go_wp2_with (fail)
            refine (G4.out _).mono ?_
            rintro e v8 ⟨rfl, hb⟩
            clear p0 p1 p2 bx0 bx1 bx2 bx3 bu0 bu1 bv0 bv1
            replace K := hide (K.out.trans (hb.mono K.out.size))
            replace HT := hide (HT.out.keep hb)
            replace BX := hide (BX.out.keep hb)
            replace BU := hide (BU.out.keep hb)
            replace BV := hide (BV.out.keep hb)
            clear hb
            obtain ⟨-, -, p0, p1, p2⟩ := HT.out
            have bx0 := BX.out.2 0 _ rfl
            have bx1 := BX.out.2 1 _ rfl
            have bx2 := BX.out.2 2 _ rfl
            have bx3 := BX.out.2 3 _ rfl
            have bu0 := BU.out.2 0 _ rfl
            have bu1 := BU.out.2 1 _ rfl
            have bv0 := BV.out.2 0 _ rfl
            have bv1 := BV.out.2 1 _ rfl
            go_wp2_with (fail)
            go_ret
            exact ⟨rfl, K.out⟩
  · obtain ⟨-, -, p0, p1, p2⟩ := HT.out
    go_wp2_with (fail)
    go_ret
    exact ⟨rfl, K.out⟩
end Go.Proofs.Ytlkaniojnaaocaa
