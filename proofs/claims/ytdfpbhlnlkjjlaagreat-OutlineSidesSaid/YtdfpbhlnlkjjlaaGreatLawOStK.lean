/- OutlineSides' walk, at a lower side. -/
import Derived.Test.YtdfpbhlnlkjjlaaGreatXtsK
import Derived.Test.YtdfpbhlnlkjjlaaGreatLawOSfK
import Derived.Deep.QuietTactic
import Derived.BigQuiet
import Derived.StillTactics
import Derived.Deep.CutBlock
namespace Go.Proofs.YtdfpbhlnlkjjlaaGreat
open Go.RowKit
set_option linter.unusedVariables false
set_option linter.unusedSimpArgs false

set_option maxRecDepth 100000 in
set_option maxHeartbeats 16000000 in
theorem osides_t {w : World} {v : Value} {l : List R4} (hr : RdK encR 4 w w.heap.size v l) (la : l.length ≤ maxLen) (x y : Int) (hx : -9223372036854775808 ≤ x ∧ x ≤ 9223372036854775807) (hy : -9223372036854775808 ≤ y ∧ y ≤ 9223372036854775807) :
    Calls Tryz.prog 6 #[v, .int .i64 x, .int .i64 y, .bool true] w fun e w' => e = .returned (.bool true) ∧ Below w.heap.size w w' := by
  have HR := hide hr
  obtain ⟨A0, c0, rfl, _⟩ := hr
  rename_i hrr
  clear hrr
  have K := hide (Below.refl w.heap.size w)
  have HLA := hide la
  have HX := hide hx
  have HY := hide hy
  clear la hx hy
  by_cases hf : l.length ≤ 60 ∧ checkF l = 0
  · have HFT : Hid ((decide (l.length ≤ 60) && decide (checkF l = 0)) = true) := hide (by simp [hf])
    obtain ⟨hl6, hk⟩ := hf
    have HK := hide hk
    have HL6 := hide hl6
    clear hl6 hk
    go_enter Tryz.func6, Tryz.ntmps6
    go_wp2_with (fail)
    refine (alive13_any _).mono ?_
    rintro e v1 ⟨rfl, hb⟩
    replace K := hide (K.out.trans (hb.mono K.out.size))
    replace HR := hide ((HR.out.below hb).mono hb.size)
    clear hb
    go_wp2_with (fail)
    refine (fit13_any HR.out HLA.out).mono ?_
    rintro e v2 ⟨rfl, hb⟩
    rw [HFT.out]
    replace K := hide (K.out.trans (hb.mono K.out.size))
    replace HR := hide ((HR.out.below hb).mono hb.size)
    clear hb
    go_wp2
    go_loopw [10] (fun i wr => ∃ k : Nat, k ≤ l.length ∧ i = .int .i64 (k : Int) ∧ Hid (∀ r ∈ l.take k, -40 ≤ r.x0 ∧ -40 ≤ r.y0 ∧ r.x1 ≤ 40 ∧ r.y1 ≤ 40) ∧ Hid (Below w.heap.size w wr) ∧ Hid (RdK encR 4 wr wr.heap.size (.slice A0 l.length c0) l)) (fun i _ => l.length - (intOf i).toNat)
    case atStart => exact ⟨0, Nat.zero_le _, rfl, hide (by simp), K, HR⟩
    case round =>
      clear K HR
      obtain ⟨k, hk, rfl, HS, K, HR⟩ := hrel
      have hl6 := HL6.out
      by_cases hlt : k < l.length
      · have kz : (k : Int) < (l.length : Int) := by omega
        have k0 : (0 : Int) ≤ (k : Int) := by omega
        obtain ⟨r, hr⟩ : ∃ p, l[k]? = some p := ⟨_, List.getElem?_eq_getElem hlt⟩
        obtain ⟨_, _, hv, hcl⟩ := HR.out
        injection hv with ev1 ev2 ev3
        obtain ⟨b, o, ev4, hb, hcx⟩ := hcl (fun e => by rw [e] at hr; simp at hr)
        subst ev1; subst ev3
        subst ev4
        have x0 : wr.cell? ⟨b, o + k * 4, none⟩ = some (.int .i64 r.x0) := hcx k r hr 0 _ rfl
        have x1 : wr.cell? ⟨b, o + k * 4 + 1, none⟩ = some (.int .i64 r.y0) := hcx k r hr 1 _ rfl
        have x2 : wr.cell? ⟨b, o + k * 4 + 2, none⟩ = some (.int .i64 r.x1) := hcx k r hr 2 _ rfl
        have x3 : wr.cell? ⟨b, o + k * 4 + 3, none⟩ = some (.int .i64 r.y1) := hcx k r hr 3 _ rfl
        have HSN : Hid ((-40 ≤ r.x0 ∧ -40 ≤ r.y0 ∧ r.x1 ≤ 40 ∧ r.y1 ≤ 40) → ∀ r ∈ l.take (k + 1), -40 ≤ r.x0 ∧ -40 ≤ r.y0 ∧ r.x1 ≤ 40 ∧ r.y1 ≤ 40) := hide (fun h q hq => by
          rw [List.take_add_one, hr, Option.toList_some] at hq
          rcases List.mem_append.1 hq with hq | hq
          · exact HS.out q hq
          · rw [List.mem_singleton.1 hq]; exact h)
        clear hr hcl hcx HS ev2
        obtain ⟨ax, ay, bx, by'⟩ := r
        simp only at x0 x1 x2 x3 HSN
        have rmin := fun (w : World) => run_minO (P := Tryz.prog) w #[3, 3] 3 ax ay
        have rmax := fun (w : World) => run_maxO (P := Tryz.prog) w #[3, 3] 3 bx by'
        have HBK := hide (fun q => below_drewN (Below.refl wr.heap.size wr) q)
        go_upto_region 7 with fail
        by_cases h1 : min ax ay < -40
        · have b1 : decide (min ax ay < -40) = true := decide_eq_true h1
          clear h1
          go_quiet (fail)
          go_wp2
          go_ret
          exact ⟨rfl, K.out.trans ((HBK.out _).mono K.out.size)⟩
        · have b1 : decide (min ax ay < -40) = false := decide_eq_false h1
          by_cases h2 : 40 < max bx by'
          · have b2 : decide (max bx by' > 40) = true := decide_eq_true h2
            clear h1 h2
            go_quiet (fail)
            go_wp2
            go_ret
            exact ⟨rfl, K.out.trans ((HBK.out _).mono K.out.size)⟩
          · have b2 : decide (max bx by' > 40) = false := decide_eq_false h2
            have HSM := hide (HSN.out (by omega))
            clear h1 h2 HSN
            go_quiet (fail)
            go_wp2
            go_roundw
            case rel => exact ⟨k + 1, hlt, by go_num, HSM, hide (K.out.trans ((HBK.out _).mono K.out.size)), hide ((HR.out.below (HBK.out _)).mono (HBK.out _).size)⟩
            case measure => simp [intOf]; omega
      · have kz : ¬ (k : Int) < (l.length : Int) := by omega
        have HAL : Hid (∀ r ∈ l, -40 ≤ r.x0 ∧ -40 ≤ r.y0 ∧ r.x1 ≤ 40 ∧ r.y1 ≤ 40) := hide (by have h := HS.out; rwa [List.take_of_length_le (by omega)] at h)
        clear HS hlt hk
        go_wp2_with (fail)
        refine (of_any HR.out HL6.out HK.out).mono ?_
        rintro e v3 ⟨A1, c1, L, vs, rfl, ho, hw, hv, hb⟩
        have HP := hide (RdPs.of_own hw hv)
        have HO := hide ho
        replace K := hide (K.out.trans (hb.mono K.out.size))
        replace HR := hide ((HR.out.below hb).mono hb.size)
        clear hb ho hw hv
        have hL6 : L.length ≤ 60 := by have := (out_cnt HK.out HO.out).1; have := HL6.out; omega
        have hz2 : ¬ (200 : Int) < (L.length : Int) := by omega
        clear kz
        go_wp2
        go_loopw [13, 14, 15] (fun s n i wr => ∃ (k : Nat) (s9 n9 : Int), k ≤ L.length ∧ s = .int .i64 s9 ∧ n = .int .i64 n9 ∧ i = .int .i64 (k : Int) ∧ Hid (((L.take k).map (cvL true x y)).sum = s9 ∧ 0 ≤ s9 ∧ s9 ≤ 2000 * (k : Int)) ∧ Hid (((L.take k).map lnL).sum = n9 ∧ 0 ≤ n9 ∧ n9 ≤ 8000000000 * (k : Int)) ∧ Hid (Below w.heap.size w wr) ∧ Hid (RdPs wr wr.heap.size (.slice A1 L.length c1) L) ∧ Hid (RdK encR 4 wr wr.heap.size (.slice A0 l.length c0) l)) (fun _ _ i _ => L.length - (intOf i).toNat)
        case atStart => exact ⟨0, 0, 0, Nat.zero_le _, rfl, rfl, rfl, hide ⟨rfl, by omega, by omega⟩, hide ⟨rfl, by omega, by omega⟩, K, HP, HR⟩
        case round =>
          clear K HP HR
          obtain ⟨k, s9, n9, hk, rfl, rfl, rfl, HS, HN, K, HP, HR⟩ := hrel
          by_cases hlt : k < L.length
          · have kz : (k : Int) < (L.length : Int) := by omega
            have k0 : (0 : Int) ≤ (k : Int) := by omega
            obtain ⟨p, hp⟩ : ∃ p, L[k]? = some p := ⟨_, List.getElem?_eq_getElem hlt⟩
            have hpm := List.mem_of_getElem? hp
            obtain ⟨hl1, hl2⟩ := out_lnl HK.out HO.out hpm
            have hpl := (chkO_ok (out_chk HK.out HO.out p hpm)).1
            have GL := hide (fun (w : World) (v : Value) (h : RdK encS 2 w w.heap.size v p) => by have := len_o_any h (by omega); rwa [hl1] at this)
            obtain ⟨n8, hn8⟩ : ∃ n, lnL p = n := ⟨_, rfl⟩
            rw [hn8] at GL hl2
            have HN2 : Hid (((L.take (k + 1)).map lnL).sum = n9 + n8 ∧ 0 ≤ n9 + n8 ∧ n9 + n8 ≤ 8000000000 * ((k + 1 : Nat) : Int)) := hide (by have := HN.out; refine ⟨by rw [sumL_step hp, hn8, this.1], ?_, ?_⟩ <;> omega)
            have HCB := hide (cvN_bd true x y p)
            have HS2 : Hid (((L.take (k + 1)).map (cvL true x y)).sum = s9 + smN (fun i => covP true x y (pAt p i) (qAt p i)) p.length ∧ 0 ≤ s9 + smN (fun i => covP true x y (pAt p i) (qAt p i)) p.length ∧ s9 + smN (fun i => covP true x y (pAt p i) (qAt p i)) p.length ≤ 2000 * ((k + 1 : Nat) : Int)) := hide (by have := HS.out; have := HCB.out p.length; refine ⟨by rw [sumL_step hp, HS.out.1]; rfl, ?_, ?_⟩ <;> omega)
            have HSB := hide HS.out.2
            have ws : IntKind.i64.wrap (n9 + n8) = n9 + n8 := IntWalk.i64_in _ (by have := HN2.out; omega)
            have HPP := hide hp
            have HPL := hide hpl
            clear hp hpm hl1 hl2 hn8 HN HS hpl
            obtain ⟨b, o, u, hA, hb, e0, hu⟩ := HP.out.get HPP.out
            subst hA
            have HU := hide hu
            clear hu
            go_wp2_with (fail)
            refine (GL.out _ _ HU.out).mono ?_
            rintro e w1 ⟨rfl, hb1⟩
            have K1 := hide (K.out.trans (hb1.mono K.out.size))
            have HP1 := hide ((HP.out.below hb1).mono hb1.size)
            have HR1 := hide ((HR.out.below hb1).mono hb1.size)
            clear hb1 e0 hb K HP HU GL HR
            go_wp2
            clear ws
            go_loopw [13, 18] (fun s i wr => ∃ (m : Nat) (s8 : Int), m ≤ p.length ∧ s = .int .i64 (s9 + s8) ∧ i = .int .i64 (m : Int) ∧ Hid (smN (fun i => covP true x y (pAt p i) (qAt p i)) m = s8) ∧ Hid (Below w.heap.size w wr) ∧ Hid (RdPs wr wr.heap.size (.slice (some ⟨b, o, none⟩) L.length c1) L) ∧ Hid (RdK encR 4 wr wr.heap.size (.slice A0 l.length c0) l)) (fun _ i _ => p.length - (intOf i).toNat)
            case atStart => exact ⟨0, 0, Nat.zero_le _, by simp, rfl, hide rfl, K1, HP1, HR1⟩
            case round =>
              clear K1 HP1 HR1
              obtain ⟨m, s8, hm, rfl, rfl, HM, K, HP, HR⟩ := hrel
              obtain ⟨b', o', u', hA, hb', e0, hu⟩ := HP.out.get HPP.out
              injection hA with hA
              injection hA with e1 e2
              subst e1; subst e2
              have hpl := HPL.out
              obtain ⟨Au, cu, ev, _⟩ := id hu
              subst ev
              obtain ⟨bu, ou, hAu, hbu, hcell⟩ := rd_two hu (show 0 < p.length by omega)
              subst hAu
              clear hu
              by_cases hltm : m < p.length
              · have mz : (m : Int) < (p.length : Int) := by omega
                have m0 : (0 : Int) ≤ (m : Int) := by omega
                obtain ⟨j, hj⟩ : ∃ j, (m + 1) % p.length = j := ⟨_, rfl⟩
                have hjl : j < p.length := by rw [← hj]; exact Nat.mod_lt _ (by omega)
                have hmod : ((m : Int) + 1) % (p.length : Int) = (j : Int) := by rw [← hj]; simp
                have HMS : Hid (smN (fun i => covP true x y (pAt p i) (qAt p i)) (m + 1) = s8 + covP true x y (pAt p m) (pAt p j)) := hide (by rw [smN_succ, HM.out]; unfold qAt; rw [hj])
                have d0 := (hcell m hltm).1
                have d1 := (hcell m hltm).2
                have f0 := (hcell j hjl).1
                have f1 := (hcell j hjl).2
                have w1' : IntKind.i64.wrap ((m : Int) + 1) = (m : Int) + 1 := IntWalk.i64_in _ (by omega)
                have jz : (j : Int) < (p.length : Int) := by omega
                have j0 : (0 : Int) ≤ (j : Int) := by omega
                have l0 : ¬ (p.length : Int) = 0 := by omega
                have lnil : ¬ p = [] := fun e => by rw [e] at hltm; simp at hltm
                have tm1 : ((m : Int) + 1).tmod (p.length : Int) = (j : Int) := by have h9 := tmod_nat (m + 1) p.length; rw [hj] at h9; exact h9
                have HCE := hide (And.intro e0 (And.intro (And.intro d0 d1) (And.intro (And.intro f0 f1) (And.intro hb' hbu))))
                have HBS : Hid (s9 + s8 ≤ 1000000 ∧ 0 ≤ s9 + s8) := hide (by have h1 := HSB.out; have h2 := HCB.out m; rw [HM.out] at h2; omega)
                clear hj d0 d1 f0 f1 hcell
                obtain ⟨⟨px, py⟩, hp9⟩ : ∃ q, pAt p m = q := ⟨_, rfl⟩
                obtain ⟨⟨qx, qy⟩, hq9⟩ : ∃ q, pAt p j = q := ⟨_, rfl⟩
                rw [hp9, hq9] at HCE HMS
                simp only at HCE
                clear hp9 hq9 HM
                go_upto_region 24 with fail
                clear e0 hbu hb'
                go_cut [19, 20] from 107 to 127 (fun pv qv wx => ∃ gp gq, pv = .pointer (some ⟨gp, 0, none⟩) ∧ qv = .pointer (some ⟨gq, 0, none⟩) ∧ Bx2 wx gp px py ∧ Bx2 wx gq qx qy ∧ Below wr.heap.size wr wx)
                case first =>
                  have HBK : Hid (Below wr.heap.size wr wr.drew) := hide (Below.refl _ _).drew
                  refine wp_region_ords [0, 1, 2, 3, 4, 5, 6, 7, 8, 9, 10, 11, 12, 13, 14, 15, 16, 17, 18, 19, 20] 4 (.two 21 (.one 22 (.one 23 (.one 24 .done))) 22 (.one 21 (.one 23 (.one 24 .done)))) (fun w' => Below wr.heap.size wr w') (by kernel_rfl) (by kernel_rfl) HBK.out ?_
                  simp only [List.map_cons, List.map_nil, opAt, List.getElem?_cons_succ, List.getElem?_cons_zero, Option.getD_some]
                  generalize wr.drew = wk at *
                  iterate 21
                    refine ⟨?_, Or.inl ⟨by rfl, ?_⟩, ?_⟩
                    rotate_left 1
                    · intro w' hSw
                      obtain ⟨e0, ⟨d0, d1⟩, ⟨f0, f1⟩, hb', hbu⟩ := HCE.out
                      replace e0 := (hSw.cell (p := ⟨b, _, none⟩) hb').trans e0
                      replace d0 := (hSw.cell (p := ⟨bu, _, none⟩) hbu).trans d0
                      replace d1 := (hSw.cell (p := ⟨bu, _, none⟩) hbu).trans d1
                      replace f0 := (hSw.cell (p := ⟨bu, _, none⟩) hbu).trans f0
                      replace f1 := (hSw.cell (p := ⟨bu, _, none⟩) hbu).trans f1
                      replace hb' := Nat.lt_of_lt_of_le hb' hSw.size
                      replace hbu := Nat.lt_of_lt_of_le hbu hSw.size
                      clear hSw
                      go_simp
                      first | done | with_reducible rfl
                    simp only [Act.put, List.setIfInBounds_toArray, List.set_cons_zero, List.set_cons_succ]
                  simp only [wpReads, wpOrds, wpOne, opAt, List.getElem?_cons_succ, List.getElem?_cons_zero, Option.getD_some]
                  clear w1' tm1 hmod
                  have low1 := HBK.out.size
                  refine ⟨?_, ?_⟩
                  all_goals (
                    iterate 4
                      intro K0 hK
                      simp only [Act.put, List.setIfInBounds_toArray, List.set_cons_zero, List.set_cons_succ] at hK ⊢
                      go_simp
                      first
                        | refine hK _ _ ⟨(fun _ => by repeat (first | with_reducible exact HBK.out | with_reducible refine Below.setCell ?_ (by first | (simp; done) | (simp; omega)) _ | with_reducible refine Below.alloc ?_ (by first | omega | (simp; omega) | simp) _)), ?_⟩
                        | refine hK _ _ ⟨(by repeat (first | with_reducible exact HBK.out | with_reducible refine Below.setCell ?_ (by first | (simp; done) | (simp; omega)) _ | with_reducible refine Below.alloc ?_ (by first | omega | (simp; omega) | simp) _)), ?_⟩
                      clear hK K0)
                  all_goals (
                    refine NoPanic.normal ?_
                    go_wp2
                    go_meet)
                  case rel => exact ⟨_, _, rfl, rfl, ⟨by first | (simp; done) | (simp; omega), by simp [go_sem], by simp [go_sem]⟩, ⟨by first | (simp; done) | (simp; omega), by simp [go_sem], by simp [go_sem]⟩, by repeat (first | with_reducible exact HBK.out | with_reducible refine Below.setCell ?_ (by first | (simp; done) | (simp; omega)) _ | with_reducible refine Below.alloc ?_ (by first | omega | (simp; omega) | simp) _)⟩
                  case rel => exact ⟨_, _, rfl, rfl, ⟨by first | (simp; done) | (simp; omega), by simp [go_sem], by simp [go_sem]⟩, ⟨by first | (simp; done) | (simp; omega), by simp [go_sem], by simp [go_sem]⟩, by repeat (first | with_reducible exact HBK.out | with_reducible refine Below.setCell ?_ (by first | (simp; done) | (simp; omega)) _ | with_reducible refine Below.alloc ?_ (by first | omega | (simp; omega) | simp) _)⟩
                case rest =>
                  clear HCE w1' tm1 hmod jz j0 l0 lnil
                  obtain ⟨gp, gq, e1, e2, hp2, hq2, hbx⟩ := hcut
                  subst e1; subst e2
                  have HP2 := hide hp2
                  have HQ2 := hide hq2
                  have K3 := hide (K.out.trans (hbx.mono K.out.size))
                  have HP3 := hide ((HP.out.below hbx).mono hbx.size)
                  have HR3 := hide ((HR.out.below hbx).mono hbx.size)
                  clear hp2 hq2 hbx K HP HR
                  obtain ⟨cv, hcv⟩ : ∃ c, covP true x y (px, py) (qx, qy) = c := ⟨_, rfl⟩
                  rw [hcv] at HMS
                  have hc01 := covP_01 true x y (px, py) (qx, qy)
                  rw [hcv] at hc01
                  have HCV := hide hcv
                  clear hcv
                  go_upto_region 25 with fail
                  go_cut [194] from 128 to 194 (fun bv wx => bv = .bool (decide (cv = 1)) ∧ Below w.heap.size w wx ∧ RdPs wx wx.heap.size (.slice (some ⟨b, o, none⟩) L.length c1) L ∧ RdK encR 4 wx wx.heap.size (.slice A0 l.length c0) l)
                  case first =>
                    have HBK := hide (fun q => below_drewN (Below.refl wc.heap.size wc) q)
                    obtain ⟨g1, r0, r1⟩ := HP2.out
                    obtain ⟨g2, d0, d1⟩ := HQ2.out
                    · obtain ⟨mn, hmn⟩ : ∃ z, min px qx = z := ⟨_, rfl⟩
                      obtain ⟨mx, hmx⟩ : ∃ z, max px qx = z := ⟨_, rfl⟩
                      have rmin := fun (w : World) => run_minO (P := Tryz.prog) w #[3, 3] 3 px qx
                      have rmax := fun (w : World) => run_maxO (P := Tryz.prog) w #[3, 3] 3 px qx
                      rw [hmn] at rmin
                      rw [hmx] at rmax
                      have HIF : Hid (cv = 1 ↔ py = qy ∧ py = y ∧ mn ≤ x ∧ x < mx) := hide (by rw [← HCV.out, ← hmn, ← hmx]; exact covP_t)
                      clear hmn hmx HMS HCV
                      by_cases h1 : py = qy
                      rotate_left 1
                      · have b1 : (py == qy) = false := by simpa using h1
                        have HE : Hid (decide (cv = 1) = false) := hide (decide_eq_false fun e => h1 (HIF.out.1 e).1)
                        clear h1
                        refine wp_region_plainQ ?_
                        simp only [List.append_eq, List.cons_append, List.nil_append]
                        repeat (go_big_quiet_step (fail))
                        refine wpQuiet_nil ?_
                        intro _ hw'
                        obtain ⟨nq, hw''⟩ := hw'
                        subst hw''
                        go_wp2
                        go_meet
                        case rel => exact ⟨by rw [HE.out], K3.out.trans ((HBK.out _).mono K3.out.size), (HP3.out.below (HBK.out _)).mono (HBK.out _).size, (HR3.out.below (HBK.out _)).mono (HBK.out _).size⟩
                      have b1 : (py == qy) = true := by simpa using h1
                      by_cases h2 : py = y
                      rotate_left 1
                      · have b2 : (py == y) = false := by simpa using h2
                        have HE : Hid (decide (cv = 1) = false) := hide (decide_eq_false fun e => h2 (HIF.out.1 e).2.1)
                        clear h1 h2
                        refine wp_region_plainQ ?_
                        simp only [List.append_eq, List.cons_append, List.nil_append]
                        repeat (go_big_quiet_step (fail))
                        refine wpQuiet_nil ?_
                        intro _ hw'
                        obtain ⟨nq, hw''⟩ := hw'
                        subst hw''
                        go_wp2
                        go_meet
                        case rel => exact ⟨by rw [HE.out], K3.out.trans ((HBK.out _).mono K3.out.size), (HP3.out.below (HBK.out _)).mono (HBK.out _).size, (HR3.out.below (HBK.out _)).mono (HBK.out _).size⟩
                      have b2 : (py == y) = true := by simpa using h2
                      by_cases h3 : mn ≤ x
                      rotate_left 1
                      · have b3 : decide (mn ≤ x) = false := by simpa using h3
                        have HE : Hid (decide (cv = 1) = false) := hide (decide_eq_false fun e => h3 (HIF.out.1 e).2.2.1)
                        clear h1 h2 h3
                        refine wp_region_plainQ ?_
                        simp only [List.append_eq, List.cons_append, List.nil_append]
                        repeat (go_big_quiet_step (fail))
                        refine wpQuiet_nil ?_
                        intro _ hw'
                        obtain ⟨nq, hw''⟩ := hw'
                        subst hw''
                        go_wp2
                        go_meet
                        case rel => exact ⟨by rw [HE.out], K3.out.trans ((HBK.out _).mono K3.out.size), (HP3.out.below (HBK.out _)).mono (HBK.out _).size, (HR3.out.below (HBK.out _)).mono (HBK.out _).size⟩
                      have b3 : decide (mn ≤ x) = true := by simpa using h3
                      by_cases h4 : x < mx
                      rotate_left 1
                      · have b4 : decide (x < mx) = false := by simpa using h4
                        have HE : Hid (decide (cv = 1) = false) := hide (decide_eq_false fun e => h4 (HIF.out.1 e).2.2.2)
                        clear h1 h2 h3 h4
                        refine wp_region_plainQ ?_
                        simp only [List.append_eq, List.cons_append, List.nil_append]
                        repeat (go_big_quiet_step (fail))
                        refine wpQuiet_nil ?_
                        intro _ hw'
                        obtain ⟨nq, hw''⟩ := hw'
                        subst hw''
                        go_wp2
                        go_meet
                        case rel => exact ⟨by rw [HE.out], K3.out.trans ((HBK.out _).mono K3.out.size), (HP3.out.below (HBK.out _)).mono (HBK.out _).size, (HR3.out.below (HBK.out _)).mono (HBK.out _).size⟩
                      have b4 : decide (x < mx) = true := by simpa using h4
                      have HE : Hid (decide (cv = 1) = true) := hide (decide_eq_true (HIF.out.2 ⟨h1, h2, h3, h4⟩))
                      clear h1 h2 h3 h4
                      refine wp_region_plainQ ?_
                      simp only [List.append_eq, List.cons_append, List.nil_append]
                      repeat (go_big_quiet_step (fail))
                      refine wpQuiet_nil ?_
                      intro _ hw'
                      obtain ⟨nq, hw''⟩ := hw'
                      subst hw''
                      go_wp2
                      go_meet
                      case rel => exact ⟨by rw [HE.out], K3.out.trans ((HBK.out _).mono K3.out.size), (HP3.out.below (HBK.out _)).mono (HBK.out _).size, (HR3.out.below (HBK.out _)).mono (HBK.out _).size⟩
                  case rest =>
                    clear K3 HP3 HR3 HP2 HQ2 HCV
                    obtain ⟨e1, k4, hp4, hr4⟩ := hcut
                    subst e1
                    have K4 := hide k4
                    have HP4 := hide hp4
                    have HR4 := hide hr4
                    clear k4 hp4 hr4
                    by_cases h1 : cv = 1
                    · rw [decide_eq_true h1]
                      have ws : IntKind.i64.wrap (s9 + s8 + 1) = s9 + (s8 + 1) := by rw [IntWalk.i64_in _ (by have := HBS.out; omega)]; omega
                      have HM2 : Hid (smN (fun i => covP true x y (pAt p i) (qAt p i)) (m + 1) = s8 + 1) := hide (by rw [HMS.out, h1])
                      clear h1
                      go_wp2
                      go_roundw
                      case rel => exact ⟨m + 1, s8 + 1, hltm, rfl, by go_num, HM2, K4, HP4, HR4⟩
                      case measure => simp [intOf]; omega
                    · rw [decide_eq_false h1]
                      have HM2 : Hid (smN (fun i => covP true x y (pAt p i) (qAt p i)) (m + 1) = s8) := hide (by rw [HMS.out]; omega)
                      clear h1
                      go_wp2
                      go_roundw
                      case rel => exact ⟨m + 1, s8, hltm, rfl, by go_num, HM2, K4, HP4, HR4⟩
                      case measure => simp [intOf]; omega
              · have mz : ¬ (m : Int) < (p.length : Int) := by omega
                have HS3 : Hid (((L.take (k + 1)).map (cvL true x y)).sum = s9 + s8 ∧ 0 ≤ s9 + s8 ∧ s9 + s8 ≤ 2000 * ((k + 1 : Nat) : Int)) := hide (by rw [← HM.out, show m = p.length by omega]; exact HS2.out)
                clear hcell
                go_wp2
                go_roundw
                case rel => exact ⟨k + 1, s9 + s8, n9 + n8, hlt, rfl, rfl, by go_num, HS3, HN2, K, HP, HR⟩
                case measure => simp [intOf]; omega
          · have kz : ¬ (k : Int) < (L.length : Int) := by omega
            have hs9 : (L.map (cvL true x y)).sum = s9 := by have h := HS.out.1; rwa [List.take_of_length_le (by omega)] at h
            have hn9 : (L.map lnL).sum = n9 := by have h := HN.out.1; rwa [List.take_of_length_le (by omega)] at h
            rw [out_cov HO.out] at hs9
            rw [← out_len HAL.out HO.out] at hn9
            have HT := hide hs9
            have HE9 := hide hn9
            clear HS HN hs9 hn9 hlt hk HP
            go_wp2
            go_loopw [21, 22] (fun ev uv wr => ∃ (j : Nat) (e9 u : Int), j ≤ 83 ∧ ev = .int .i64 e9 ∧ uv = .int .i64 u ∧ Hid (u = -41 + (j : Int)) ∧ Hid (sumZ (fun x => sumZ (fun y => edN l x y) (-41) 83) (-41) j = e9) ∧ Hid (Below w.heap.size w wr) ∧ Hid (RdK encR 4 wr wr.heap.size (.slice A0 l.length c0) l)) (fun _ uv _ => 100 - (intOf uv + 42).toNat)
            case atStart => exact ⟨0, 0, -41, by omega, rfl, rfl, hide rfl, hide rfl, K, HR⟩
            case round =>
              clear K HR
              obtain ⟨j, e9, u, hj, rfl, rfl, HU, HE, K, HR⟩ := hrel
              have hb9 := sumZ_bd (f := fun x => sumZ (fun y => edN l x y) (-41) 83) (c := 166) (fun i => edN_row l i) (-41) j
              rw [HE.out] at hb9
              have huj := HU.out
              by_cases hlt : j < 83
              · have HES : Hid (sumZ (fun x => sumZ (fun y => edN l x y) (-41) 83) (-41) (j + 1) = e9 + sumZ (fun y => edN l u y) (-41) 83) := hide (by rw [HU.out, ← HE.out]; rfl)
                have hul : u ≤ 41 := by omega
                have hwu1 : IntKind.i64.wrap (u + 1) = u + 1 := IntWalk.i64_in _ (by omega)
                have hwu : IntKind.i64.wrap (u - 1) = u - 1 := IntWalk.i64_in _ (by omega)
                clear huj
                go_wp2
                go_loopw [21, 23] (fun ev vv wr => ∃ (i : Nat) (e8 v : Int), i ≤ 83 ∧ ev = .int .i64 (e9 + e8) ∧ vv = .int .i64 v ∧ Hid (v = -41 + (i : Int)) ∧ Hid (sumZ (fun y => edN l u y) (-41) i = e8) ∧ Hid (Below w.heap.size w wr) ∧ Hid (RdK encR 4 wr wr.heap.size (.slice A0 l.length c0) l)) (fun _ vv _ => 100 - (intOf vv + 42).toNat)
                case atStart => exact ⟨0, 0, -41, by omega, by simp, rfl, hide rfl, hide rfl, K, HR⟩
                case round =>
                  clear K HR
                  obtain ⟨i, e8, v, hi, rfl, rfl, HV, HM, K, HR⟩ := hrel
                  have hb8 := sumZ_bd (edN_bd l u) (-41) i
                  rw [HM.out] at hb8
                  have hvi := HV.out
                  by_cases hlti : i < 83
                  · have hvl : v ≤ 41 := by omega
                    have hwv : IntKind.i64.wrap (v - 1) = v - 1 := IntWalk.i64_in _ (by omega)
                    have hwv1 : IntKind.i64.wrap (v + 1) = v + 1 := IntWalk.i64_in _ (by omega)
                    have H1 := hide (fun (W : World) (hr : RdK encR 4 W W.heap.size (.slice A0 l.length c0) l) => rHas_any hr (by omega) u v)
                    have H2 := hide (fun (W : World) (hr : RdK encR 4 W W.heap.size (.slice A0 l.length c0) l) => rHas_any hr (by omega) (u - 1) v)
                    have H3 := hide (fun (W : World) (hr : RdK encR 4 W W.heap.size (.slice A0 l.length c0) l) => rHas_any hr (by omega) u (v - 1))
                    have HM2 : Hid (sumZ (fun y => edN l u y) (-41) (i + 1) = e8 + ((if decide (pmem l u v) = decide (pmem l (u - 1) v) then 0 else 1) + (if decide (pmem l u v) = decide (pmem l u (v - 1)) then 0 else 1))) := hide (by rw [HV.out, ← HM.out]; rfl)
                    obtain ⟨pa, hpa⟩ : ∃ z, decide (pmem l u v) = z := ⟨_, rfl⟩
                    obtain ⟨pb, hpb⟩ : ∃ z, decide (pmem l (u - 1) v) = z := ⟨_, rfl⟩
                    obtain ⟨pc, hpc⟩ : ∃ z, decide (pmem l u (v - 1)) = z := ⟨_, rfl⟩
                    rw [hpa] at H1
                    rw [hpb] at H2
                    rw [hpc] at H3
                    rw [hpa, hpb, hpc] at HM2
                    clear hpa hpb hpc hvi HM hi
                    go_wp2_with (fail)
                    refine (H1.out _ HR.out).mono ?_
                    rintro e w30 ⟨rfl, rfl⟩
                    go_wp2_with (fail)
                    refine (H2.out _ HR.out).mono ?_
                    rintro e w31 ⟨rfl, rfl⟩
                    go_upto_if 214 with fail
                    go_cut [21] from 215 to 216 (fun ev wx => ev = .int .i64 (e9 + e8 + (if pa = pb then 0 else 1)) ∧ Below w.heap.size w wx ∧ RdK encR 4 wx wx.heap.size (.slice A0 l.length c0) l)
                    case first =>
                      have wz1 : IntKind.i64.wrap (e9 + e8 + 1) = e9 + e8 + 1 := IntWalk.i64_in _ (by omega)
                      cases pa <;> cases pb
                      all_goals (
                        go_wp2
                        go_meet)
                      case rel => exact ⟨by simp, K.out, HR.out⟩
                      case rel => exact ⟨by simp, K.out, HR.out⟩
                      case rel => exact ⟨by simp, K.out, HR.out⟩
                      case rel => exact ⟨by simp, K.out, HR.out⟩
                    case rest =>
                      clear K HR
                      obtain ⟨ee, k5, hr5⟩ := hcut
                      subst ee
                      have K := hide k5
                      have HR := hide hr5
                      clear k5 hr5
                      obtain ⟨e7, he7⟩ : ∃ z : Int, (if pa = pb then 0 else 1) = z := ⟨_, rfl⟩
                      have he7b : 0 ≤ e7 ∧ e7 ≤ 1 := by rw [← he7]; split <;> omega
                      rw [he7] at HM2
                      rw [he7]
                      clear he7
                      go_wp2_with (fail)
                      refine (H1.out _ HR.out).mono ?_
                      rintro e w30 ⟨rfl, rfl⟩
                      go_wp2_with (fail)
                      refine (H3.out _ HR.out).mono ?_
                      rintro e w31 ⟨rfl, rfl⟩
                      have wz2 : IntKind.i64.wrap (e9 + e8 + e7 + 1) = e9 + (e8 + e7 + 1) := by rw [IntWalk.i64_in _ (by omega)]; omega
                      cases pa <;> cases pc
                      · have HM3 : Hid (sumZ (fun y => edN l u y) (-41) (i + 1) = e8 + e7) := hide (by rw [HM2.out]; simp)
                        clear HM2
                        go_wp2
                        go_roundw
                        case rel => exact ⟨i + 1, e8 + e7, v + 1, hlti, by congr 1; omega, rfl, hide (by have := HV.out; omega), HM3, K, HR⟩
                        case measure => have := HV.out; simp [intOf]; omega
                      · have HM3 : Hid (sumZ (fun y => edN l u y) (-41) (i + 1) = e8 + e7 + 1) := hide (by rw [HM2.out]; simp; omega)
                        clear HM2
                        go_wp2
                        go_roundw
                        case rel => exact ⟨i + 1, e8 + e7 + 1, v + 1, hlti, rfl, rfl, hide (by have := HV.out; omega), HM3, K, HR⟩
                        case measure => have := HV.out; simp [intOf]; omega
                      · have HM3 : Hid (sumZ (fun y => edN l u y) (-41) (i + 1) = e8 + e7 + 1) := hide (by rw [HM2.out]; simp; omega)
                        clear HM2
                        go_wp2
                        go_roundw
                        case rel => exact ⟨i + 1, e8 + e7 + 1, v + 1, hlti, rfl, rfl, hide (by have := HV.out; omega), HM3, K, HR⟩
                        case measure => have := HV.out; simp [intOf]; omega
                      · have HM3 : Hid (sumZ (fun y => edN l u y) (-41) (i + 1) = e8 + e7) := hide (by rw [HM2.out]; simp)
                        clear HM2
                        go_wp2
                        go_roundw
                        case rel => exact ⟨i + 1, e8 + e7, v + 1, hlti, by congr 1; omega, rfl, hide (by have := HV.out; omega), HM3, K, HR⟩
                        case measure => have := HV.out; simp [intOf]; omega
                  · have hvl : ¬ v ≤ 41 := by omega
                    have HE3 : Hid (sumZ (fun x => sumZ (fun y => edN l x y) (-41) 83) (-41) (j + 1) = e9 + e8) := hide (by rw [HES.out, ← HM.out, show i = 83 by omega])
                    clear hvi
                    go_wp2
                    go_roundw
                    case rel => exact ⟨j + 1, e9 + e8, u + 1, hlt, rfl, rfl, hide (by have := HU.out; omega), HE3, K, HR⟩
                    case measure => have := HU.out; simp [intOf]; omega
              · have hul : ¬ u ≤ 41 := by omega
                have hen : e9 = n9 := by rw [← HE.out, ← HE9.out, show j = 83 by omega]
                have H1 := hide (fun (W : World) (hr : RdK encR 4 W W.heap.size (.slice A0 l.length c0) l) => rHas_any hr (by omega) x y)
                have ew1 := wrap_less (y := y) HAL.out HX.out
                have ew2 := wrap_less2 (x := x) HAL.out HY.out
                obtain ⟨xw, hxw⟩ : ∃ z, IntKind.i64.wrap (x - 1) = z := ⟨_, rfl⟩
                obtain ⟨yw, hyw⟩ : ∃ z, IntKind.i64.wrap (y - 1) = z := ⟨_, rfl⟩
                rw [hxw] at ew1
                rw [hyw] at ew2
                have H2 := hide (fun (W : World) (hr : RdK encR 4 W W.heap.size (.slice A0 l.length c0) l) => rHas_any hr (by omega) xw y)
                have H3 := hide (fun (W : World) (hr : RdK encR 4 W W.heap.size (.slice A0 l.length c0) l) => rHas_any hr (by omega) x yw)
                rw [ew1] at H2
                rw [ew2] at H3
                obtain ⟨pa, hpa⟩ : ∃ z, decide (pmem l x y) = z := ⟨_, rfl⟩
                obtain ⟨pb, hpb⟩ : ∃ z, decide (pmem l (x - 1) y) = z := ⟨_, rfl⟩
                obtain ⟨pc, hpc⟩ : ∃ z, decide (pmem l x (y - 1)) = z := ⟨_, rfl⟩
                rw [hpa] at H1
                rw [hpb] at H2
                rw [hpc] at H3
                rw [hpa, hpb, hpc] at HT
                subst hen
                clear HE HE9 hb9 hlt hj HX HY HAL hpa hpb hpc huj ew1 ew2
                go_wp2_with (fail)
                refine (H1.out _ HR.out).mono ?_
                rintro e w30 ⟨rfl, rfl⟩
                go_wp2_with (fail)
                refine (H2.out _ HR.out).mono ?_
                rintro e w31 ⟨rfl, rfl⟩
                · clear H2
                  go_wp2_with (fail)
                  refine (H1.out _ HR.out).mono ?_
                  rintro e w30 ⟨rfl, rfl⟩
                  go_wp2_with (fail)
                  refine (H3.out _ HR.out).mono ?_
                  rintro e w31 ⟨rfl, rfl⟩
                  clear H1 H3
                  cases pa <;> cases pc
                  · have hs : s9 = 0 := by rw [← HT.out]; simp
                    subst hs
                    clear HT
                    go_wp2
                    go_ret
                    exact ⟨rfl, K.out⟩
                  · have hs : s9 = 1 := by rw [← HT.out]; simp
                    subst hs
                    clear HT
                    go_wp2
                    go_ret
                    exact ⟨rfl, K.out⟩
                  · have hs : s9 = 1 := by rw [← HT.out]; simp
                    subst hs
                    clear HT
                    go_wp2
                    go_ret
                    exact ⟨rfl, K.out⟩
                  · have hs : s9 = 0 := by rw [← HT.out]; simp
                    subst hs
                    clear HT
                    go_wp2
                    go_ret
                    exact ⟨rfl, K.out⟩
  · have HFT : Hid ((decide (l.length ≤ 60) && decide (checkF l = 0)) = false) := hide (by
      cases h1 : decide (l.length ≤ 60) with
      | false => rfl
      | true =>
        cases h2 : decide (checkF l = 0) with
        | false => rfl
        | true => exact absurd ⟨of_decide_eq_true h1, of_decide_eq_true h2⟩ hf)
    clear hf
    go_enter Tryz.func6, Tryz.ntmps6
    go_wp2_with (fail)
    refine (alive13_any _).mono ?_
    rintro e v1 ⟨rfl, hb⟩
    replace K := hide (K.out.trans (hb.mono K.out.size))
    replace HR := hide ((HR.out.below hb).mono hb.size)
    clear hb
    go_wp2_with (fail)
    refine (fit13_any HR.out HLA.out).mono ?_
    rintro e v2 ⟨rfl, hb⟩
    rw [HFT.out]
    replace K := hide (K.out.trans (hb.mono K.out.size))
    clear hb HR
    go_wp2_with (fail)
    go_ret
    exact ⟨rfl, K.out⟩
end Go.Proofs.YtdfpbhlnlkjjlaaGreat
