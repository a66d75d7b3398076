/- The walk of TextureJoints. -/
import Derived.Test.YtlkaniojnaaocaaGreatPk9
import Derived.Test.YtlkaniojnaaocaaGreatMTexQK
import Derived.Test.YtlkaniojnaaocaaGreatPk10
namespace Go.Proofs.YtlkaniojnaaocaaGreat
open Go.RowKit
set_option linter.unusedVariables false
set_option linter.unusedSimpArgs false

set_option maxRecDepth 100000 in
set_option maxHeartbeats 8000000 in
theorem joints_walk {w : World} {v v2 : Value} {l cu : List R4} (hr : RdK encR 4 w w.heap.size v l) (hr2 : RdK encR 4 w w.heap.size v2 cu) (hl : l.length ≤ maxLen) (hl2 : cu.length ≤ maxLen) (W H S : Int) :
    Calls Tryz.prog 5 #[v, v2, .agg #[.int .i64 W, .int .i64 H, .int .i64 S]] w fun e w' => e = .returned (.bool true) ∧ Below w.heap.size w w' := by
  obtain ⟨A0, c0, rfl, _⟩ := id hr
  obtain ⟨A1, c1, rfl, _⟩ := id hr2
  have HT := hide (T1.start w W H S)
  have HR := hide ((hr.below HT.out.low).mono HT.out.low.size)
  have HR2 := hide ((hr2.below HT.out.low).mono HT.out.low.size)
  have K := hide HT.out.low
  clear hr hr2
  go_enter Tryz.func5, Tryz.ntmps5
  obtain ⟨-, -, p0, p1, p2⟩ := HT.out
  go_wp2_with (fail)
  refine (alive41_any _).mono ?_
  rintro e v1 ⟨rfl, hb⟩
  clear p0 p1 p2
  replace K := hide (K.out.trans (hb.mono K.out.size))
  replace HR := hide ((HR.out.below hb).mono hb.size)
  replace HR2 := hide ((HR2.out.below hb).mono hb.size)
  replace HT := hide (HT.out.keep hb)
  clear hb
  obtain ⟨-, -, p0, p1, p2⟩ := HT.out
  go_wp2_with (fail)
  refine (fit41_any HR.out hl W H S).mono ?_
  rintro e v2 (⟨rfl, hb⟩ | ⟨rfl, hF, hb⟩)
  · clear p0 p1 p2
    replace K := hide (K.out.trans (hb.mono K.out.size))
    replace HR := hide ((HR.out.below hb).mono hb.size)
    replace HR2 := hide ((HR2.out.below hb).mono hb.size)
    replace HT := hide (HT.out.keep hb)
    clear hb
    obtain ⟨-, -, p0, p1, p2⟩ := HT.out
    go_wp2_with (fail)
    go_ret
    exact ⟨rfl, K.out⟩
  · clear p0 p1 p2
    replace K := hide (K.out.trans (hb.mono K.out.size))
    replace HR := hide ((HR.out.below hb).mono hb.size)
    replace HR2 := hide ((HR2.out.below hb).mono hb.size)
    replace HT := hide (HT.out.keep hb)
    clear hb
    obtain ⟨h20, hck, hp⟩ := hF
    clear hl
    have HP := hide hp
    have HCK := hide hck
    clear hp hck
    obtain ⟨-, -, p0, p1, p2⟩ := HT.out
    go_wp2_with (fail)
    refine (fit41_any HR2.out hl2 W H S).mono ?_
    rintro e v3 (⟨rfl, hb⟩ | ⟨rfl, hF, hb⟩)
    · clear p0 p1 p2
      replace K := hide (K.out.trans (hb.mono K.out.size))
      replace HR := hide ((HR.out.below hb).mono hb.size)
      replace HR2 := hide ((HR2.out.below hb).mono hb.size)
      replace HT := hide (HT.out.keep hb)
      clear hb
      obtain ⟨-, -, p0, p1, p2⟩ := HT.out
      go_wp2_with (fail)
      go_ret
      exact ⟨rfl, K.out⟩
    · clear p0 p1 p2
      replace K := hide (K.out.trans (hb.mono K.out.size))
      replace HR := hide ((HR.out.below hb).mono hb.size)
      replace HR2 := hide ((HR2.out.below hb).mono hb.size)
      replace HT := hide (HT.out.keep hb)
      clear hb
      obtain ⟨h20c, hckc, -⟩ := hF
      clear hl2
      have hm2 := meet_two HCK.out hckc
      have G1 := hide (fun (w : World) (v v2 : Value) (h : RdK encR 4 w w.heap.size v l) (h2 : RdK encR 4 w w.heap.size v2 cu) => meet_any h h2 (by omega) (by omega))
      have G2 := hide (fun (w : World) (v : Value) (h : RdK encR 4 w w.heap.size v l) => tile_any h (by omega) W H S)
      have herr := tileF_err HP.out HCK.out
      have HJP := hide (fun (p : List R4) (h1 : checkF p = 0) (h2 : ∀ x y, pmem p x y → pmem l x y) => joint_piece HP.out HCK.out h1 h2)
      have HJK := hide (fun (p : List R4) (h1 : checkF p = 0) (h2 : ∀ x y, pmem p x y → pmem l x y) => joint_keys (S := S) HP.out HCK.out h1 h2)
      have hbd := hide (fun q => tileF_bd (W := W) (H := H) (S := S) (l := l) (q := q))
      have hlen := tileF_len (W := W) (H := H) (S := S) (l := l)
      obtain ⟨⟨R, E⟩, hT⟩ : ∃ x, tileF W H S l = x := ⟨_, rfl⟩
      rw [hT] at G2 herr HJP HJK hlen hbd
      simp only at herr HJP HJK hlen hbd
      clear hckc hT
      rcases hm2 with hm2 | ⟨hm2, hc2, hs2, hl4⟩
      · rw [hm2] at G1
        have G3 := hide (fun (w : World) (v : Value) (h : RdK encR 4 w w.heap.size v ([] : List R4)) => by have := tile_any h (by simp) W H S; rwa [tile_nil HP.out] at this)
        clear HJP HJK hm2
        obtain ⟨-, -, p0, p1, p2⟩ := HT.out
        go_wp2_with (fail)
        refine (G1.out _ _ _ HR.out HR2.out).mono ?_
        rintro e v4 ⟨⟨Am, cm, rfl, ho⟩, hb⟩
        clear p0 p1 p2
        replace K := hide (K.out.trans (hb.mono K.out.size))
        replace HR := hide ((HR.out.below hb).mono hb.size)
        replace HR2 := hide ((HR2.out.below hb).mono hb.size)
        replace HT := hide (HT.out.keep hb)
        have HM := hide (own_rd (l := ([] : List R4)) ho (fun _ => rfl))
        clear ho
        clear hb
        obtain ⟨-, -, p0, p1, p2⟩ := HT.out
        go_wp2_with (fail)
        refine (G2.out _ _ HR.out).mono ?_
        rintro e v5 ⟨hpc, hb⟩
        clear p0 p1 p2
        replace K := hide (K.out.trans (hb.mono K.out.size))
        replace HR := hide ((HR.out.below hb).mono hb.size)
        replace HR2 := hide ((HR2.out.below hb).mono hb.size)
        replace HM := hide ((HM.out.below hb).mono hb.size)
        replace HT := hide (HT.out.keep hb)
        obtain ⟨xA, rfl, hA⟩ := pcs_rd hpc
        have HA := hide hA
        clear hpc hA
        clear hb
        obtain ⟨Aa, ca, rfl, -⟩ := id HA.out
        obtain ⟨-, -, p0, p1, p2⟩ := HT.out
        go_wp2_with (fail)
        refine (G3.out _ _ HM.out).mono ?_
        rintro e v6 ⟨hpc, hb⟩
        clear p0 p1 p2
        replace K := hide (K.out.trans (hb.mono K.out.size))
        replace HR := hide ((HR.out.below hb).mono hb.size)
        replace HR2 := hide ((HR2.out.below hb).mono hb.size)
        replace HM := hide ((HM.out.below hb).mono hb.size)
        replace HA := hide ((HA.out.below hb).mono hb.size)
        replace HT := hide (HT.out.keep hb)
        obtain ⟨xB, rfl, hB⟩ := pcs_rd hpc
        have HB := hide hB
        clear hpc hB
        clear hb
        obtain ⟨Ab, cb, rfl, -⟩ := id HB.out
        clear G1 G2 G3
        rcases herr with rfl | rfl
        · obtain ⟨-, -, p0, p1, p2⟩ := HT.out
          go_wp2_with (fail)
          go_ret
          exact ⟨rfl, K.out⟩
        · obtain ⟨-, -, p0, p1, p2⟩ := HT.out
          go_wp2_with (fail)
          go_ret
          exact ⟨rfl, K.out⟩
      · rw [hm2] at G1
        have G3 := hide (fun (w : World) (v : Value) (h : RdK encR 4 w w.heap.size v (rjoin hAnd l cu)) => tile_any h (by omega) W H S)
        have herr2 := tileF_err HP.out hc2
        have hjp := HJP.out _ hc2 hs2
        have hjk := HJK.out _ hc2 hs2
        have hlen2 := tileF_len (W := W) (H := H) (S := S) (l := rjoin hAnd l cu)
        have hbd2 := hide (fun q => tileF_bd (W := W) (H := H) (S := S) (l := rjoin hAnd l cu) (q := q))
        clear HJP HJK hm2 hc2 hs2
        generalize rjoin hAnd l cu = PT at *
        obtain ⟨⟨R2, E2⟩, hT⟩ : ∃ x, tileF W H S PT = x := ⟨_, rfl⟩
        rw [hT] at G3 herr2 hjp hjk hlen2 hbd2
        simp only at herr2 hjp hjk hlen2 hbd2
        have HJP := hide hjp
        have HJK := hide hjk
        clear hT hjp hjk
        obtain ⟨-, -, p0, p1, p2⟩ := HT.out
        go_wp2_with (fail)
        refine (G1.out _ _ _ HR.out HR2.out).mono ?_
        rintro e v4 ⟨⟨Am, cm, rfl, ho⟩, hb⟩
        clear p0 p1 p2
        replace K := hide (K.out.trans (hb.mono K.out.size))
        replace HR := hide ((HR.out.below hb).mono hb.size)
        replace HR2 := hide ((HR2.out.below hb).mono hb.size)
        replace HT := hide (HT.out.keep hb)
        have HM := hide (own_rd (l := PT) ho (fun _ => rfl))
        clear ho
        clear hb
        obtain ⟨-, -, p0, p1, p2⟩ := HT.out
        go_wp2_with (fail)
        refine (G2.out _ _ HR.out).mono ?_
        rintro e v5 ⟨hpc, hb⟩
        clear p0 p1 p2
        replace K := hide (K.out.trans (hb.mono K.out.size))
        replace HR := hide ((HR.out.below hb).mono hb.size)
        replace HR2 := hide ((HR2.out.below hb).mono hb.size)
        replace HM := hide ((HM.out.below hb).mono hb.size)
        replace HT := hide (HT.out.keep hb)
        obtain ⟨xA, rfl, hA⟩ := pcs_rd hpc
        have HA := hide hA
        clear hpc hA
        clear hb
        obtain ⟨Aa, ca, rfl, -⟩ := id HA.out
        obtain ⟨-, -, p0, p1, p2⟩ := HT.out
        go_wp2_with (fail)
        refine (G3.out _ _ HM.out).mono ?_
        rintro e v6 ⟨hpc, hb⟩
        clear p0 p1 p2
        replace K := hide (K.out.trans (hb.mono K.out.size))
        replace HR := hide ((HR.out.below hb).mono hb.size)
        replace HR2 := hide ((HR2.out.below hb).mono hb.size)
        replace HM := hide ((HM.out.below hb).mono hb.size)
        replace HA := hide ((HA.out.below hb).mono hb.size)
        replace HT := hide (HT.out.keep hb)
        obtain ⟨xB, rfl, hB⟩ := pcs_rd hpc
        have HB := hide hB
        clear hpc hB
        clear hb
        obtain ⟨Ab, cb, rfl, -⟩ := id HB.out
        clear G1 G2 G3
        rcases herr with rfl | rfl
        · rcases herr2 with rfl | rfl
          · have HJK2 := hide (HJK.out rfl)
            clear HJK
            obtain ⟨-, -, p0, p1, p2⟩ := HT.out
            go_wp2_with (fail)
            clear p0 p1 p2
            go_loopw [14] (fun i wr => ∃ m : Nat, m ≤ R2.length ∧ i = .int .i64 (m : Int) ∧ Hid (Below v6.heap.size v6 wr)) (fun i _ => R2.length - (intOf i).toNat)
            case atStart => exact ⟨0, Nat.zero_le _, rfl, hide (Below.refl _ _)⟩
            case round =>
              obtain ⟨m, hm, rfl, HBW⟩ := hrel
              by_cases hlt : m < R2.length
              · obtain ⟨⟨⟨row, col⟩, P⟩, hk⟩ : ∃ q, R2[m]? = some q := ⟨_, List.getElem?_eq_getElem hlt⟩
                have hqm := List.mem_of_getElem? hk
                obtain ⟨-, -, hPl⟩ := hbd2.out _ hqm
                obtain ⟨JX, hjx⟩ := HJK2.out _ hqm
                have HJX := hide hjx
                have HJP2 := hide (HJP.out _ hqm)
                simp only at hPl
                obtain ⟨_, _, eB, kB⟩ := id HB.out
                injection eB with q1 q2 q3
                subst q1
                subst q3
                (try clear q2)
                obtain ⟨g2, rfl, hg2, k2B⟩ := kB (by intro e; rw [e] at hlt; simp at hlt)
                obtain ⟨b0, b1, u2, b2, r2⟩ := k2B m _ _ hk
                obtain ⟨A2, d2, rfl, -⟩ := id r2
                simp only at b0 b1
                have HB0 := hide b0
                have HB1 := hide b1
                have HB2 := hide b2
                have HR2P := hide r2
                have mz : (m : Int) < (R2.length : Int) := by omega
                have m0 : (0 : Int) ≤ (m : Int) := by omega
                clear hk hqm hjx kB k2B b0 b1 b2 r2
                go_wp2
                go_loopw [15, 16] (fun b k wx => ∃ (n : Nat) (fnd : Bool), n ≤ R.length ∧ k = .int .i64 (n : Int) ∧ b = .bool fnd ∧ Hid (∀ J : List R4, ((row, col), J) ∈ R.take n → fnd = true) ∧ Hid (Below v6.heap.size v6 wx)) (fun _ k _ => R.length - (intOf k).toNat)
                case atStart => exact ⟨0, false, Nat.zero_le _, rfl, rfl, hide (fun J h => by simp at h), HBW⟩
                case round =>
                  clear HBW
                  obtain ⟨n, fnd, hn, rfl, rfl, HFN, HBX⟩ := hrel
                  by_cases hltn : n < R.length
                  · obtain ⟨⟨⟨row1, col1⟩, J⟩, hk⟩ : ∃ q, R[n]? = some q := ⟨_, List.getElem?_eq_getElem hltn⟩
                    have hqm := List.mem_of_getElem? hk
                    obtain ⟨-, -, hJl⟩ := hbd.out _ hqm
                    have hjp := HJP2.out _ hqm
                    simp only at hJl hjp
                    obtain ⟨_, _, eA, kA⟩ := id HA.out
                    injection eA with q1 q2 q3
                    subst q1
                    subst q3
                    (try clear q2)
                    obtain ⟨g1, rfl, hg1, k1A⟩ := kA (by intro e; rw [e] at hltn; simp at hltn)
                    obtain ⟨a0, a1, u1, a2, r1⟩ := k1A n _ _ hk
                    obtain ⟨A3, d1, rfl, -⟩ := id r1
                    simp only at a0 a1
                    have nz : (n : Int) < (R.length : Int) := by omega
                    have n0 : (0 : Int) ≤ (n : Int) := by omega
                    have HTK : Hid (R.take (n + 1) = R.take n ++ [((row1, col1), J)]) := hide (by rw [List.take_add_one, hk]; rfl)
                    replace a0 := (HBX.out.cell (p := ⟨g1, _, none⟩) (Nat.lt_of_lt_of_le hg1 (Nat.le_refl _))).trans a0
                    replace a1 := (HBX.out.cell (p := ⟨g1, _, none⟩) hg1).trans a1
                    replace a2 := (HBX.out.cell (p := ⟨g1, _, none⟩) hg1).trans a2
                    have b0 := (HBX.out.cell (p := ⟨g2, _, none⟩) hg2).trans HB0.out
                    have b1 := (HBX.out.cell (p := ⟨g2, _, none⟩) hg2).trans HB1.out
                    have HG1 := hide hg1
                    have HRJ := hide ((r1.below HBX.out).mono HBX.out.size)
                    have hws := HBX.out.size
                    clear hk hqm kA k1A r1
                    by_cases heq : (row1, col1) = (row, col)
                    · have hjp2 := hjp heq
                      have HFN2 : Hid (∀ J : List R4, ((row, col), J) ∈ R.take (n + 1) → true = true) := hide (fun _ _ => rfl)
                      injection heq with e1 e2
                      subst e1
                      subst e2
                      have HMM := hide (fun (w' : World) (h : Below v6.heap.size v6 w') (hj : RdK encR 4 w' w'.heap.size (.slice A3 J.length d1) J) => (by have := meet_any hj ((HM.out.below h).mono h.size) (show J.length ≤ 100000000 by omega) (by omega); rwa [hjp2] at this : Calls Tryz.prog 20 #[.slice A3 J.length d1, .slice Am PT.length cm] w' fun e w'' => RegRet w'.heap.size (P, 0) e w'' ∧ Below w'.heap.size w' w''))
                      have a2H := hide a2
                      have hg1r : g1 < wr.heap.size := Nat.lt_of_lt_of_le hg1 hws
                      clear hjp hjp2 a2
                      go_wp2
                      go_quiet (fail)
                      refine name_exit fun w3 hw3 => ?_
                      have hb3 : Below wr.heap.size wr w3 := by rw [hw3]; exact below_drewN (Below.refl _ _) _
                      have HB3 := hide (HBX.out.trans (hb3.mono hws))
                      have a2 := (hb3.cell (p := ⟨g1, _, none⟩) hg1r).trans a2H.out
                      have HRJ3 := hide ((HRJ.out.below hb3).mono hb3.size)
                      clear hw3 hb3 a0 a1 b0 b1
                      go_wp2_with (fail)
                      refine (HMM.out _ HB3.out HRJ3.out).mono ?_
                      rintro e w4 ⟨⟨A4, c4, rfl, ho⟩, hb⟩
                      have HRW := hide (own_rd (l := P) ho (fun _ => rfl))
                      have HB4 := hide (HB3.out.trans (hb.mono HB3.out.size))
                      have HRP4 := hide ((HR2P.out.below HB4.out).mono HB4.out.size)
                      have b2 := (HB4.out.cell (p := ⟨g2, _, none⟩) hg2).trans HB2.out
                      clear ho hb a2 HB3 HRJ3
                      go_wp2_with (fail)
                      refine (rSameSelf HRW.out HRP4.out (by omega)).mono ?_
                      rintro e w5 ⟨rfl, hb⟩
                      have HB5 := hide (HB4.out.trans (hb.mono HB4.out.size))
                      clear hb b2 HB4
                      go_wp2_with (fail)
                      go_roundw
                      case rel => exact ⟨n + 1, true, by omega, by go_num, rfl, hide (fun _ _ => rfl), HB5⟩
                      case measure => first | (simp [intOf]; done) | (simp [intOf]; omega)
                    · have HFN2 : Hid (∀ J : List R4, ((row, col), J) ∈ R.take (n + 1) → fnd = true) := hide (fun J2 h => by
                        rw [HTK.out] at h
                        rcases List.mem_append.1 h with h | h
                        · exact HFN.out J2 h
                        · rw [List.mem_singleton, Prod.mk.injEq] at h
                          exact absurd h.1.symm heq)
                      have hcs : ((col1 != col) = true) ∨ ((col1 != col) = false ∧ (row1 != row) = true) := by
                        by_cases h : col1 = col
                        · exact .inr ⟨by simp [h], by simp; intro e; exact heq (by rw [e, h])⟩
                        · exact .inl (by simpa using h)
                      clear heq hjp a2
                      rcases hcs with o1 | ⟨o1, o2⟩
                      all_goals
                        go_wp2
                        go_quiet (fail)
                        refine name_exit fun w3 hw3 => ?_
                        have HB3 : Hid (Below v6.heap.size v6 w3) := hide (by rw [hw3]; exact below_drewN HBX.out _)
                        clear hw3 a0 a1 b0 b1
                        go_wp2
                        go_roundw
                        case rel => exact ⟨n + 1, fnd, by omega, by go_num, rfl, HFN2, HB3⟩
                        case measure => first | (simp [intOf]; done) | (simp [intOf]; omega)
                  · obtain rfl : n = R.length := by omega
                    have nz : ¬ (R.length : Int) < (R.length : Int) := by omega
                    have hfn : fnd = true := HFN.out JX (by rw [List.take_length]; exact HJX.out)
                    subst hfn
                    clear HFN
                    go_wp2
                    go_roundw
                    case rel => exact ⟨m + 1, by omega, by go_num, HBX⟩
                    case measure => first | (simp [intOf]; done) | (simp [intOf]; omega)
              · obtain rfl : m = R2.length := by omega
                have mz : ¬ (R2.length : Int) < (R2.length : Int) := by omega
                have HBE := hide (K.out.trans (HBW.out.mono K.out.size))
                go_wp2_with (fail)
                go_ret
                exact ⟨rfl, HBE.out⟩
          · obtain ⟨-, -, p0, p1, p2⟩ := HT.out
            go_wp2_with (fail)
            go_ret
            exact ⟨rfl, K.out⟩
        · rcases herr2 with rfl | rfl
          · obtain ⟨-, -, p0, p1, p2⟩ := HT.out
            go_wp2_with (fail)
            go_ret
            exact ⟨rfl, K.out⟩
          · obtain ⟨-, -, p0, p1, p2⟩ := HT.out
            go_wp2_with (fail)
            go_ret
            exact ⟨rfl, K.out⟩
end Go.Proofs.YtlkaniojnaaocaaGreat
