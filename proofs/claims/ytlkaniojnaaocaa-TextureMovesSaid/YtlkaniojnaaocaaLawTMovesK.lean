/- The walk of TextureMoves. -/
import Derived.Test.YtlkaniojnaaocaaPk9
import Derived.Test.YtlkaniojnaaocaaPk11
import Derived.Test.YtlkaniojnaaocaaPk5
namespace Go.Proofs.Ytlkaniojnaaocaa
open Go.RowKit
set_option linter.unusedVariables false
set_option linter.unusedSimpArgs false

set_option maxRecDepth 100000 in
set_option maxHeartbeats 8000000 in
theorem moves_walk {w : World} {v : Value} {l : List R4} (hr : RdK encR 4 w w.heap.size v l) (hl : l.length ≤ maxLen) (W H S cols rows : Int) :
    Calls Try.prog 6 #[v, .agg #[.int .i64 W, .int .i64 H, .int .i64 S], .int .i64 cols, .int .i64 rows] w fun e w' => e = .returned (.bool true) ∧ Below w.heap.size w w' := by
  obtain ⟨A0, c0, rfl, _⟩ := id hr
  have HT := hide (T1.start w W H S)
  have HR := hide ((hr.below HT.out.low).mono HT.out.low.size)
  have K := hide HT.out.low
  clear hr
  go_enter Try.func6, Try.ntmps6
  obtain ⟨-, -, p0, p1, p2⟩ := HT.out
  go_wp2_with (fail)
  refine (alive41_any _).mono ?_
  rintro e v1 ⟨rfl, hb⟩
  clear p0 p1 p2
  replace K := hide (K.out.trans (hb.mono K.out.size))
  replace HR := hide ((HR.out.below hb).mono hb.size)
  replace HT := hide (HT.out.keep hb)
  clear hb
  obtain ⟨-, -, p0, p1, p2⟩ := HT.out
  go_wp2_with (fail)
  refine (fit41_any HR.out hl W H S).mono ?_
  rintro e v2 (⟨rfl, hb⟩ | ⟨rfl, hF, hb⟩)
  · clear p0 p1 p2
    replace K := hide (K.out.trans (hb.mono K.out.size))
    replace HR := hide ((HR.out.below hb).mono hb.size)
    replace HT := hide (HT.out.keep hb)
    clear hb
    obtain ⟨-, -, p0, p1, p2⟩ := HT.out
    go_wp2_with (fail)
    go_ret
    exact ⟨rfl, K.out⟩
  · clear p0 p1 p2
    replace K := hide (K.out.trans (hb.mono K.out.size))
    replace HR := hide ((HR.out.below hb).mono hb.size)
    replace HT := hide (HT.out.keep hb)
    clear hb
    obtain ⟨h20, hck, hp⟩ := hF
    clear hl
    have HP := hide hp
    have HCK := hide hck
    clear hp hck
    by_cases z1 : cols < -20
    · have z1t : decide (cols < -20) = true := decide_eq_true z1
      clear z1
      obtain ⟨-, -, p0, p1, p2⟩ := HT.out
      go_wp2_with (fail)
      go_ret
      exact ⟨rfl, K.out⟩
    · have z1f : decide (cols < -20) = false := decide_eq_false z1
      by_cases z2 : 20 < cols
      · have z2t : decide (20 < cols) = true := decide_eq_true z2
        clear z2
        obtain ⟨-, -, p0, p1, p2⟩ := HT.out
        go_wp2_with (fail)
        go_ret
        exact ⟨rfl, K.out⟩
      · have z2f : decide (20 < cols) = false := decide_eq_false z2
        by_cases z3 : rows < -20
        · have z3t : decide (rows < -20) = true := decide_eq_true z3
          clear z3
          obtain ⟨-, -, p0, p1, p2⟩ := HT.out
          go_wp2_with (fail)
          go_ret
          exact ⟨rfl, K.out⟩
        · have z3f : decide (rows < -20) = false := decide_eq_false z3
          by_cases z4 : 20 < rows
          · have z4t : decide (20 < rows) = true := decide_eq_true z4
            clear z4
            obtain ⟨-, -, p0, p1, p2⟩ := HT.out
            go_wp2_with (fail)
            go_ret
            exact ⟨rfl, K.out⟩
          · have z4f : decide (20 < rows) = false := decide_eq_false z4
            obtain ⟨w1, w2, h1, h2, -, -⟩ := HP.out
            have l1 := mul_bd cols W 20 1000 (by omega) (by omega) (by omega) (by omega) (by omega)
            have l2 := mul_bd rows W 20 1000 (by omega) (by omega) (by omega) (by omega) (by omega)
            have l3 := mul_bd (rows * W) H 20000 1000 (by omega) (by omega) (by omega) (by omega) (by omega)
            have hm2 := move_two HCK.out (cols * W) (rows * W * H)
            have htm := hide (fun h => tile_mv (S := S) HP.out cols rows HCK.out h)
            have hmp := hide (fun h1 h2 h3 q => move_piece (S := S) (a := cols) (b := rows) (q := q) HP.out HCK.out h1 h2 h3)
            have hbd := hide (fun q => tileF_bd (W := W) (H := H) (S := S) (l := l) (q := q))
            have hlen := tileF_len (W := W) (H := H) (S := S) (l := l)
            obtain ⟨X, hX⟩ : ∃ X, cols * W = X := ⟨_, rfl⟩
            obtain ⟨Z, hZ0⟩ : ∃ Z, rows * W = Z := ⟨_, rfl⟩
            obtain ⟨Y, hY⟩ : ∃ Y, Z * H = Y := ⟨_, rfl⟩
            rw [hZ0, hY] at hm2 htm hmp
            rw [hX] at hm2 htm hmp
            rw [hX] at l1
            rw [hZ0] at l2 l3
            rw [hY] at l3
            have k1 : IntKind.i64.wrap (cols * W) = X := by rw [hX]; exact IntWalk.i64_in _ (by omega)
            have k2 : IntKind.i64.wrap (rows * W) = Z := by rw [hZ0]; exact IntWalk.i64_in _ (by omega)
            have k3 : IntKind.i64.wrap (Z * H) = Y := by rw [hY]; exact IntWalk.i64_in _ (by omega)
            clear hX hZ0 hY
            have G1 := hide (fun (w : World) (v : Value) (h : RdK encR 4 w w.heap.size v l) => move_any h (by omega) X Y)
            have G2 := hide (fun (w : World) (v : Value) (h : RdK encR 4 w w.heap.size v l) => tile_any h (by omega) W H S)
            obtain ⟨-, -, p0, p1, p2⟩ := HT.out
            go_upto_region 4 with fail
            go_quiet (fail)
            refine name_exit fun v3 hZ => ?_
            have hb : Below v2.heap.size v2 v3 := by rw [hZ]; exact below_drewN (Below.refl _ _) _
            clear p0 p1 p2
            replace K := hide (K.out.trans (hb.mono K.out.size))
            replace HR := hide ((HR.out.below hb).mono hb.size)
            replace HT := hide (HT.out.keep hb)
            clear hZ hb
            rcases hm2 with hm2 | ⟨hm2, hc2, hi2, -⟩
            · rw [hm2] at G1
              clear htm hmp hm2
              have G3 := hide (fun (w : World) (v : Value) (h : RdK encR 4 w w.heap.size v ([] : List R4)) => tile_any h (by simp) W H S)
              generalize tileF W H S l = TF at *
              generalize tileF W H S [] = TN at *
              obtain ⟨-, -, p0, p1, p2⟩ := HT.out
              go_wp2_with (fail)
              refine (G1.out _ _ HR.out).mono ?_
              rintro e v4 ⟨⟨Am, cm, rfl, ho⟩, hb⟩
              clear p0 p1 p2
              replace K := hide (K.out.trans (hb.mono K.out.size))
              replace HR := hide ((HR.out.below hb).mono hb.size)
              replace HT := hide (HT.out.keep hb)
              have HM := hide (own_rd (l := ([] : List R4)) ho (fun _ => rfl))
              clear ho
              clear hb
              obtain ⟨-, -, p0, p1, p2⟩ := HT.out
              go_wp2_with (fail)
              refine (G2.out _ _ HR.out).mono ?_
              rintro e v5 ⟨hpc, hb⟩
              clear p0 p1 p2
              replace K := hide (K.out.trans (hb.mono K.out.size))
              replace HR := hide ((HR.out.below hb).mono hb.size)
              replace HM := hide ((HM.out.below hb).mono hb.size)
              replace HT := hide (HT.out.keep hb)
              obtain ⟨xA, rfl, hA⟩ := pcs_rd hpc
              have HA := hide hA
              clear hpc hA
              clear hb
              obtain ⟨-, -, p0, p1, p2⟩ := HT.out
              go_wp2_with (fail)
              refine (G3.out _ _ HM.out).mono ?_
              rintro e v6 ⟨hpc, hb⟩
              clear p0 p1 p2
              replace K := hide (K.out.trans (hb.mono K.out.size))
              replace HR := hide ((HR.out.below hb).mono hb.size)
              replace HM := hide ((HM.out.below hb).mono hb.size)
              replace HA := hide ((HA.out.below hb).mono hb.size)
              replace HT := hide (HT.out.keep hb)
              obtain ⟨xB, rfl, hB⟩ := pcs_rd hpc
              have HB := hide hB
              clear hpc hB
              clear hb
              obtain ⟨-, -, p0, p1, p2⟩ := HT.out
              go_wp2_with (fail)
              go_ret
              exact ⟨rfl, K.out⟩
            · have hmp2 := hide (hmp.out hm2 hc2 hi2)
              have htm2 := htm.out hc2
              rw [hm2] at G1
              clear hmp htm hm2
              have G3 := hide (fun (w : World) (v : Value) (h : RdK encR 4 w w.heap.size v (l.map (mv X Y))) => tile_any h (by simp; omega) W H S)
              rw [htm2] at G3
              clear htm2 hc2 hi2
              generalize l.map (mv X Y) = LM at *
              obtain ⟨⟨R, E⟩, hT⟩ : ∃ x, tileF W H S l = x := ⟨_, rfl⟩
              rw [hT] at G2 G3 hmp2 hbd hlen
              simp only at G3 hmp2 hbd hlen
              clear hT
              have HR2 : Hid (∀ (j : Nat) (row col : Int) (J : List R4), R[j]? = some ((row, col), J) → (R.map (fun q => (shK cols Z q.1, q.2.map (mv X Y))))[j]? = some ((row + Z, col + cols), J.map (mv X Y))) := hide (fun j row col J h => by rw [List.getElem?_map, h]; rfl)
              have hR2l : (R.map (fun q => (shK cols Z q.1, q.2.map (mv X Y)))).length = R.length := List.length_map _
              generalize R.map (fun q => (shK cols Z q.1, q.2.map (mv X Y))) = R2 at *
              obtain ⟨-, -, p0, p1, p2⟩ := HT.out
              go_wp2_with (fail)
              refine (G1.out _ _ HR.out).mono ?_
              rintro e v4 ⟨⟨Am, cm, rfl, ho⟩, hb⟩
              clear p0 p1 p2
              replace K := hide (K.out.trans (hb.mono K.out.size))
              replace HR := hide ((HR.out.below hb).mono hb.size)
              replace HT := hide (HT.out.keep hb)
              have HM := hide (own_rd (l := LM) ho (fun _ => rfl))
              clear ho
              clear hb
              obtain ⟨-, -, p0, p1, p2⟩ := HT.out
              go_wp2_with (fail)
              refine (G2.out _ _ HR.out).mono ?_
              rintro e v5 ⟨hpc, hb⟩
              clear p0 p1 p2
              replace K := hide (K.out.trans (hb.mono K.out.size))
              replace HR := hide ((HR.out.below hb).mono hb.size)
              replace HM := hide ((HM.out.below hb).mono hb.size)
              replace HT := hide (HT.out.keep hb)
              obtain ⟨xA, rfl, hA⟩ := pcs_rd hpc
              have HA := hide hA
              clear hpc hA
              clear hb
              obtain ⟨Aa, ca, rfl, -⟩ := id HA.out
              obtain ⟨-, -, p0, p1, p2⟩ := HT.out
              go_wp2_with (fail)
              refine (G3.out _ _ HM.out).mono ?_
              rintro e v6 ⟨hpc, hb⟩
              clear p0 p1 p2
              replace K := hide (K.out.trans (hb.mono K.out.size))
              replace HR := hide ((HR.out.below hb).mono hb.size)
              replace HM := hide ((HM.out.below hb).mono hb.size)
              replace HA := hide ((HA.out.below hb).mono hb.size)
              replace HT := hide (HT.out.keep hb)
              obtain ⟨xB, rfl, hB⟩ := pcs_rd hpc
              have HB := hide hB
              clear hpc hB
              clear hb
              obtain ⟨Ab, cb, eb, -⟩ := id HB.out
              simp only [hR2l] at eb
              subst eb
              clear G1 G2 G3 hR2l
              clear HR HM
              obtain ⟨-, -, p0, p1, p2⟩ := HT.out
              go_wp2_with (fail)
              clear p0 p1 p2
              go_loopw [18] (fun i wr => ∃ m : Nat, m ≤ R.length ∧ i = .int .i64 (m : Int) ∧ Hid (Below v6.heap.size v6 wr)) (fun i _ => R.length - (intOf i).toNat)
              case atStart => exact ⟨0, Nat.zero_le _, rfl, hide (Below.refl _ _)⟩
              case round =>
                obtain ⟨m, hm, rfl, HBW⟩ := hrel
                by_cases hlt : m < R.length
                · obtain ⟨⟨⟨row, col⟩, J⟩, hk⟩ : ∃ q, R[m]? = some q := ⟨_, List.getElem?_eq_getElem hlt⟩
                  have hk2 := HR2.out _ _ _ _ hk
                  obtain ⟨-, ⟨⟨ra, rb⟩, ca1, cb1⟩, hJl⟩ := hbd.out _ (List.mem_of_getElem? hk)
                  have hmv := hmp2.out _ (List.mem_of_getElem? hk)
                  simp only at ra rb ca1 cb1 hJl hmv
                  have rdA : RdP wr wr.heap.size _ R := (HA.out.below HBW.out).mono HBW.out.size
                  have rdB : RdP wr wr.heap.size _ R2 := (HB.out.below HBW.out).mono HBW.out.size
                  obtain ⟨_, _, eA, kA⟩ := rdA
                  obtain ⟨_, _, eB, kB⟩ := rdB
                  injection eA with q1 q2 q3
                  subst q1
                  subst q3
                  (try clear q2)
                  injection eB with q1 q2 q3
                  subst q1
                  subst q3
                  (try clear q2)
                  obtain ⟨g1, rfl, hg1, k1A⟩ := kA (by intro e; rw [e] at hlt; simp at hlt)
                  obtain ⟨g2, rfl, hg2, k1B⟩ := kB (by intro e; rw [e] at hk2; simp at hk2)
                  obtain ⟨a0, a1, u1, a2, r1⟩ := k1A m _ _ hk
                  obtain ⟨b0, b1, u2, b2, r2⟩ := k1B m _ _ hk2
                  obtain ⟨A1, d1, rfl, -⟩ := id r1
                  simp only at a0 a1 b0 b1
                  have hmA := move_any r1 (by omega) X Y
                  rw [hmv] at hmA
                  have HMA := hide hmA
                  have R2H := hide r2
                  have hJm : (J.map (mv X Y)).length ≤ 400 := by rw [List.length_map]; exact hJl
                  clear hk hk2 kA kB k1A k1B r1 r2 hmA hmv
                  have mz : (m : Int) < (R.length : Int) := by omega
                  have hp0 := HT.out.below HBW.out
                  obtain ⟨-, -, p0, p1, p2⟩ := hp0
                  have hq0 : w.heap.size < wr.heap.size := by have := HBW.out.size; have := HT.out.hb; omega
                  have m1 : IntKind.i64.wrap (col + cols) = col + cols := IntWalk.i64_in _ (by omega)
                  have m2 : IntKind.i64.wrap (row + Z) = row + Z := IntWalk.i64_in _ (by omega)
                  generalize J.map (mv X Y) = JM at *
                  go_wp2_with (fail)
                  refine HMA.out.mono ?_
                  rintro e w2 ⟨⟨Aw, cw, rfl, ho⟩, hb⟩
                  have HOW := hide (own_rd (l := JM) ho (fun _ => rfl))
                  replace R2H := hide ((R2H.out.below hb).mono hb.size)
                  replace a0 := (hb.cell (p := ⟨g1, _, none⟩) hg1).trans a0
                  replace a1 := (hb.cell (p := ⟨g1, _, none⟩) hg1).trans a1
                  replace b0 := (hb.cell (p := ⟨g2, _, none⟩) hg2).trans b0
                  replace b1 := (hb.cell (p := ⟨g2, _, none⟩) hg2).trans b1
                  replace b2 := (hb.cell (p := ⟨g2, _, none⟩) hg2).trans b2
                  replace p0 := (hb.cell (p := ⟨w.heap.size, 0, none⟩) hq0).trans p0
                  have hg1' : g1 < w2.heap.size := Nat.lt_of_lt_of_le hg1 hb.size
                  have hg2' : g2 < w2.heap.size := Nat.lt_of_lt_of_le hg2 hb.size
                  have hq0' : w.heap.size < w2.heap.size := Nat.lt_of_lt_of_le hq0 hb.size
                  have HB2 := hide (HBW.out.trans (hb.mono HBW.out.size))
                  clear hb ho HMA a2 p1 p2 hg1 hg2 hq0
                  have HSS : Hid (∀ y : Above w2, Calls Try.prog 22 #[.slice Aw JM.length cw, u2] y.get fun e w'' => e = .returned (.bool true) ∧ ∃ z : Above w2, w'' = z.get) := hide (fun y => above_of (rSameSelf (rd_at HOW.out y.keeps) (rd_at R2H.out y.keeps) (by omega)))
                  clear HOW R2H
                  go_upto_region 16 with fail
                  refine wp_hab fun hab => ?_
                  refine wp_region_above (by kernel_rfl) (by kernel_rfl) ?_
                  repeat (go_big_quiet_step ((go_at_call 22; exact HSS.out _)))
                  refine wpQuiet_nil ?_
                  refine above_ends fun w3 hb3 => ?_
                  clear hab
                  have HB3 := hide (HB2.out.trans (hb3.mono HB2.out.size))
                  clear hb3 a0 a1 b0 b1 b2 p0
                  go_wp2
                  go_roundw
                  case rel => exact ⟨m + 1, by omega, by go_num, HB3⟩
                  case measure => first | (simp [intOf]; done) | (simp [intOf]; omega)
                · obtain rfl : m = R.length := by omega
                  have mz : ¬ (R.length : Int) < (R.length : Int) := by omega
                  go_wp2
                  go_ret
                  exact ⟨rfl, K.out.trans (HBW.out.mono K.out.size)⟩
end Go.Proofs.Ytlkaniojnaaocaa
