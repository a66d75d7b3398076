/- RegionWhole's walk: components are disjoint, do not touch, cannot be divided, and are the region together. -/
import Derived.Test.YtamnaojheecopaaGreatMWholeK
namespace Go.Proofs.YtamnaojheecopaaGreat
open Go.RowKit
set_option linter.unusedVariables false
set_option linter.unusedSimpArgs false

/-- The first i parts are those below n. -/
def Cut (l : List R4) (i n : Nat) : Prop := (∀ a ∈ (ids l).take i, a < n) ∧ ∀ a ∈ (ids l).drop i, n ≤ a
theorem Cut.start (l : List R4) : Cut l 0 0 := ⟨by simp, fun a _ => Nat.zero_le a⟩
theorem Cut.next {l : List R4} {i n m : Nat} (h : Cut l i n) (hm : (ids l)[i]? = some m) : n ≤ m ∧ (∀ j, n ≤ j → j < m → mn l j ≠ j) ∧ Cut l (i + 1) (m + 1) := by
  obtain ⟨hi, e⟩ := List.getElem?_eq_some_iff.1 hm
  have hd : m ∈ (ids l).drop i := by
    rw [List.drop_eq_getElem_cons hi, e]
    exact List.mem_cons_self
  have hs := List.pairwise_iff_getElem.1 (ids_sorted l)
  have hmi : m ∈ ids l := by rw [← e]; exact List.getElem_mem hi
  have hnm := h.2 m hd
  refine ⟨hnm, fun j h1 h2 hj => ?_, fun a ha => ?_, fun a ha => ?_⟩
  · have hjm : j ∈ ids l := mem_ids.2 ⟨by have := (mem_ids.1 hmi).1; omega, hj⟩
    obtain ⟨k, hk, ek⟩ := List.getElem_of_mem hjm
    by_cases hki : k < i
    · have : j ∈ (ids l).take i := by
        rw [List.mem_take_iff_getElem]
        exact ⟨k, by omega, ek⟩
      have := h.1 j this
      omega
    · by_cases hki2 : k = i
      · subst hki2; omega
      · have := hs i k hi hk (by omega)
        omega
  · rw [List.take_succ_eq_append_getElem hi, List.mem_append] at ha
    rcases ha with ha | ha
    · have := h.1 a ha; omega
    · rw [List.mem_singleton, e] at ha; omega
  · obtain ⟨k, hk, ek⟩ := List.getElem_of_mem ha
    rw [List.getElem_drop] at ek
    have := hs i (i + 1 + k) hi (by rw [List.length_drop] at hk; omega) (by omega)
    omega
theorem Cut.done {l : List R4} {n : Nat} (h : Cut l (ids l).length n) : ∀ j, n ≤ j → j < l.length → mn l j ≠ j := fun j h1 h2 hj => by
  have := h.1 j (by rw [List.take_length]; exact mem_ids.2 ⟨h2, hj⟩)
  omega
set_option maxRecDepth 100000 in
set_option maxHeartbeats 8000000 in
theorem whole_walk {w : World} {va : Value} {a : List R4} (hra : RdK encR 4 w w.heap.size va a) (la : a.length ≤ maxLen) :
    Calls Tryz.prog 5 #[va] w fun e w' => e = .returned (.bool true) ∧ Below w.heap.size w w' := by
  have hA := hide hra
  obtain ⟨A1, c1, hva, _⟩ := hra
  subst hva
  have HFT := hide (fun (W : World) (ra : RdK encR 4 W W.heap.size (.slice A1 a.length c1) a) => fit_any ra (RdK.nil (α := R4) (enc := encR) (k := 4) (w := W) (B := W.heap.size) none 0) la (by unfold maxLen; simp))
  cases hf : fitB a [] with
  | false =>
    rw [hf] at HFT
    clear hf la
    go_enter Tryz.func5, Tryz.ntmps5
    go_wp2_with (fail)
    refine (alive_any _).mono ?_
    rintro e w1 ⟨rfl, hb⟩
    have K0 := hide hb
    clear hb
    go_wp2_with (fail)
    refine (HFT.out _ ((hA.out.below K0.out).mono K0.out.size)).mono ?_
    rintro e wn ⟨rfl, hb⟩
    replace K0 := hide (K0.out.trans (hb.mono K0.out.size))
    clear hb
    go_wp2_with (fail)
    go_ret
    exact ⟨rfl, K0.out⟩
  | true =>
    rw [hf] at HFT
    obtain ⟨n1, _, ka, _⟩ := fitB_ok hf
    have hpa : partsE a = (partsF a, 0) := if_pos ka
    have HPA := hide (fun (W : World) (ra : RdK encR 4 W W.heap.size (.slice A1 a.length c1) a) => by have := parts_any ra (by omega); rwa [hpa] at this)
    have HKA := hide ka
    have hlen : (partsF a).length ≤ a.length := by rw [← partsP_all]; exact partsP_len a a.length
    have hid : (partsF a).length = (ids a).length := by rw [ids_parts, List.length_map]
    have hat : ∀ i m, (ids a)[i]? = some m → (partsF a)[i]? = some (partJ a m) := fun i m h => by rw [ids_parts, List.getElem?_map, h]; rfl
    have HID := hide hid
    have HAT := hide hat
    have HSS := hide (fun (W : World) (v v' : Value) (h : RdK encR 4 W W.heap.size v a) (h' : RdK encR 4 W W.heap.size v' a) => rSameSelf h h' (by omega))
    clear hf ka la hpa hid hat
    generalize partsF a = R at *
    have hz1 : ¬ (a.length : Int) < (R.length : Int) := by omega
    have hz2 : decide ((a.length : Int) < (R.length : Int)) = false := decide_eq_false hz1
    have hz3 : decide (a.length < R.length) = false := decide_eq_false (by omega)
    go_enter Tryz.func5, Tryz.ntmps5
    go_wp2_with (fail)
    refine (alive_any _).mono ?_
    rintro e w1 ⟨rfl, hb⟩
    have K0 := hide hb
    clear hb
    go_wp2_with (fail)
    refine (HFT.out _ ((hA.out.below K0.out).mono K0.out.size)).mono ?_
    rintro e wn ⟨rfl, hb⟩
    replace K0 := hide (K0.out.trans (hb.mono K0.out.size))
    clear hb
    go_wp2_with (fail)
    refine (HPA.out _ ((hA.out.below K0.out).mono K0.out.size)).mono ?_
    rintro e w2 ⟨⟨Ap, cp, vs, rfl, ho, hr⟩, hb⟩
    replace K0 := hide (K0.out.trans (hb.mono K0.out.size))
    have HR0 := hide (show RgsAt R (.slice Ap R.length cp) w2 from ⟨_, vs, ho, hr⟩)
    clear hb ho hr
    go_wp2_with (fail)
    go_loopw [6, 7] (fun v i wr => ∃ m : Nat, m ≤ R.length ∧ i = .int .i64 m ∧ ∃ n Au nu cu, v = .slice Au nu cu ∧ Hid (nu = (partU a n).length) ∧ Hid (Cut a m n) ∧ Hid (RdK encR 4 wr wr.heap.size (.slice Au nu cu) (partU a n)) ∧ Hid (RgsAt R (.slice Ap R.length cp) wr) ∧ Hid (Below w.heap.size w wr)) (fun _ i _ => R.length - (intOf i).toNat)
    case atStart => exact ⟨0, Nat.zero_le _, rfl, 0, none, 0, 0, rfl, hide (by rw [partU_zero HKA.out]; rfl), hide (Cut.start a), hide (by rw [partU_zero HKA.out]; exact RdK.nil none 0), HR0, K0⟩
    case round =>
      clear HR0 K0
      obtain ⟨m, hm, rfl, n, Au, nu, cu, rfl, HNU, HCT, HU, HR, HB⟩ := hrel
      by_cases hlt : m < R.length
      · have mz : (m : Int) < (R.length : Int) := by omega
        obtain ⟨q, hq⟩ : ∃ q, (ids a)[m]? = some q := ⟨_, List.getElem?_eq_getElem (by rw [← HID.out]; exact hlt)⟩
        have hRm := HAT.out m q hq
        obtain ⟨hnq, hbt, hct⟩ := HCT.out.next hq
        have hqi := mem_ids.1 (List.mem_of_getElem? hq)
        obtain ⟨g, rfl, hg, A3, c3, d1, rd1⟩ := HR.out.get hRm
        obtain ⟨p1, p2⟩ := partJ_one HKA.out hqi.2 hqi.1
        have hck := partJ_check HKA.out q
        have hJl := (checkF_ok hck).1
        have hne := partJ_ne HKA.out hqi.2 hqi.1
        have hstep := partU_step HKA.out hnq hbt
        have hul := (checkF_ok (partU_check HKA.out n)).1
        have hjz : (((partJ a q).length : Int) == 0) = false := by
          have := List.length_pos_iff.2 hne
          simp; omega
        have HPJ := hide (fun (W : World) (v : Value) (r : RdK encR 4 W W.heap.size v (partJ a q)) => by
          have h := parts_any r (by omega)
          obtain ⟨X, hX⟩ : ∃ X, partsE (partJ a q) = X := ⟨_, rfl⟩
          rw [hX] at h p1 p2
          obtain ⟨X1, X2⟩ := X
          have hX2 : X2 = 0 := p1
          subst hX2
          exact (show Calls Tryz.prog 16 #[v] W fun e w' => (∃ A c, e = .returned (.tuple #[.slice A 1 c, .int .i64 0])) ∧ Below W.heap.size W w' from h.mono fun e w' ⟨⟨A, c, vs, he, _, _⟩, hb⟩ => ⟨⟨A, c, by have hl1 : X1.length = 1 := p2; rw [he]; show Ending.returned (.tuple #[.slice A X1.length c, .int .i64 0]) = _; rw [hl1]⟩, hb⟩))
        have HUN := hide (fun (W : World) (v v' : Value) (r : RdK encR 4 W W.heap.size v (partU a n)) (r' : RdK encR 4 W W.heap.size v' (partJ a q)) => by have := union_any r r' (by omega) (by omega); rwa [hstep] at this)
        have HCT2 := hide hct
        have HQ := hide hq
        have HJL := hide hJl
        have Q1 := hide d1
        have R1 := hide rd1
        have hsz := HB.out.size
        have r1 : (0 : Int) ≤ (m : Int) := by omega
        have HUU := HU
        have HBB := HB
        have HRR := HR
        obtain ⟨wo, hwo⟩ : ∃ wo : World, wo = wr := ⟨_, rfl⟩
        subst hwo
        clear hq hRm hnq hbt hct hqi p1 p2 hck hJl hne hstep rd1 HU HB HR
        go_wp2_with (fail)
        refine (HPJ.out _ _ R1.out).mono ?_
        rintro e w3 ⟨⟨A4, c4, rfl⟩, hb⟩
        have KC := hide hb
        have d3 := (hb.cell (p := ⟨g, m, none⟩) hg).trans Q1.out
        clear hb d1
        go_wp2_with (fail)
        have hg3 : g < w3.heap.size := Nat.lt_of_lt_of_le hg KC.out.size
        go_loopw [10] (fun i wr => ∃ k : Nat, k ≤ m ∧ i = .int .i64 k ∧ Hid (Below wo.heap.size wo wr)) (fun i _ => m - (intOf i).toNat)
        case atStart => exact ⟨0, Nat.zero_le _, rfl, KC⟩
        case round =>
          clear KC d3
          obtain ⟨k, hk, rfl, KC⟩ := hrel
          by_cases hlk : k < m
          · have kz : (k : Int) < (m : Int) := by omega
            have kz2 : (k : Int) < (R.length : Int) := by omega
            obtain ⟨q', hq'⟩ : ∃ q, (ids a)[k]? = some q := ⟨_, List.getElem?_eq_getElem (by rw [← HID.out]; omega)⟩
            have hneq : q' ≠ q := fun e => by
              obtain ⟨i1, e1⟩ := List.getElem?_eq_some_iff.1 hq'
              obtain ⟨i2, e2⟩ := List.getElem?_eq_some_iff.1 HQ.out
              have := List.pairwise_iff_getElem.1 (ids_sorted a) k m i1 i2 hlk
              omega
            obtain ⟨g', hAg, hg', A5, c5, d5, rd5⟩ := HRR.out.get (HAT.out k q' hq')
            injection hAg with hAg
            injection hAg with hAg
            subst hAg
            have hl5 := (checkF_ok (partJ_check HKA.out q')).1
            have hto := parts_touch HKA.out hneq
            have hme := parts_meet HKA.out hneq
            have hjl := HJL.out
            have HTO := hide (fun (W : World) (v v' : Value) (r : RdK encR 4 W W.heap.size v (partJ a q')) (r' : RdK encR 4 W W.heap.size v' (partJ a q)) => by have := touch_any r r' (by omega) (by omega); rwa [hto] at this)
            have HME := hide (fun (W : World) (v v' : Value) (r : RdK encR 4 W W.heap.size v (partJ a q')) (r' : RdK encR 4 W W.heap.size v' (partJ a q)) => by have := meet_any r r' (by omega) (by omega); rwa [hme] at this)
            have R5 := hide rd5
            have Q5 := hide d5
            have z1 := (KC.out.cell (p := ⟨g, m, none⟩) hg).trans Q1.out
            have z5 := (KC.out.cell (p := ⟨g, k, none⟩) hg).trans Q5.out
            have hgr : g < wr.heap.size := Nat.lt_of_lt_of_le hg KC.out.size
            have r2 : (0 : Int) ≤ (k : Int) := by omega
            clear hq' hneq hto hme rd5 d5 hl5 hjl
            go_wp2
            have HTT := hide (fun (x : Above wr) => HTO.out x.get _ _ ((((R5.out.below KC.out).mono KC.out.size).below x.keeps).mono x.keeps.size) ((((R1.out.below KC.out).mono KC.out.size).below x.keeps).mono x.keeps.size))
            refine wp_hab fun hab => ?_
            refine wp_region_above (by kernel_rfl) (by kernel_rfl) ?_
            repeat (go_big_quiet_step ((go_at_call 17; exact above_of (HTT.out _))))
            refine wpQuiet_nil ?_
            refine above_ends fun w5 hb => ?_
            clear hab z1 z5
            have KD := hide (KC.out.trans (hb.mono KC.out.size))
            clear hb
            have y1 := (KD.out.cell (p := ⟨g, m, none⟩) hg).trans Q1.out
            have y5 := (KD.out.cell (p := ⟨g, k, none⟩) hg).trans Q5.out
            go_wp2
            refine wp_region_two [0, 1, 2, 3, 4, 5, 6, 7] [8, 9] [10, 11] [12, 13] (fun w' => w'.cell? ⟨g, m, none⟩ = some (.slice A3 (partJ a q).length c3) ∧ w'.cell? ⟨g, k, none⟩ = some (.slice A5 (partJ a q').length c5)) (by kernel_rfl) (by kernel_rfl) ⟨y1, y5⟩ ?_
            simp only [List.map_cons, List.map_nil, opAt, List.getElem?_cons_succ, List.getElem?_cons_zero, Option.getD_some]
            iterate 8
              refine ⟨?_, Or.inl ⟨by rfl, ?_⟩, ?_⟩
              rotate_left 1
              · intro w' hSw
                obtain ⟨z1, z2⟩ := hSw
                go_simp
                first | done | with_reducible rfl
              simp only [Act.put, List.setIfInBounds_toArray, List.set_cons_zero, List.set_cons_succ]
            simp only [wpReads, wpChain]
            intro K hK
            simp only [Act.put, List.setIfInBounds_toArray, List.set_cons_zero, List.set_cons_succ] at hK ⊢
            go_simp
            have KD2 := hide (KD.out.drew)
            refine (HME.out _ _ _ ((R5.out.below KD2.out).mono KD2.out.size) ((R1.out.below KD2.out).mono KD2.out.size)).mono ?_
            rintro e w6 ⟨⟨A6, c6, rfl, ho⟩, hb⟩
            have KE := hide (KD2.out.trans (hb.mono KD2.out.size))
            have x1 := (KE.out.cell (p := ⟨g, m, none⟩) hg).trans Q1.out
            have x5 := (KE.out.cell (p := ⟨g, k, none⟩) hg).trans Q5.out
            clear ho hb
            refine hK _ _ ⟨x1, x5⟩ ?_
            clear hK K
            intro K hK
            simp only [Act.put, List.setIfInBounds_toArray, List.set_cons_zero, List.set_cons_succ] at hK ⊢
            go_simp
            refine hK _ _ ⟨x1, x5⟩ ?_
            clear hK K y1 y5
            iterate 2
              refine ⟨?_, Or.inl ⟨by rfl, ?_⟩, ?_⟩
              rotate_left 1
              · intro w' hSw
                clear hSw
                go_simp
                first | done | with_reducible rfl
              try simp only [Act.put, List.setIfInBounds_toArray, List.set_cons_zero, List.set_cons_succ]
            intro K hK
            simp only [Act.put, List.setIfInBounds_toArray, List.set_cons_zero, List.set_cons_succ] at hK ⊢
            go_simp
            refine hK _ _ (fun _ => ⟨x1, x5⟩) ?_
            clear hK K x1 x5
            intro K hK
            simp only [Act.put, List.setIfInBounds_toArray, List.set_cons_zero, List.set_cons_succ] at hK ⊢
            go_simp
            refine hK _ _ (fun h => absurd rfl h) ?_
            clear hK K
            refine NoPanic.normal ?_
            go_wp2
            go_roundw
            case rel => exact ⟨k + 1, by omega, by go_num, KE⟩
            case measure => simp [intOf]; omega
          · have kz : ¬ (k : Int) < (m : Int) := by omega
            obtain rfl : k = m := by omega
            have z1 := (KC.out.cell (p := ⟨g, k, none⟩) hg).trans Q1.out
            have hgr : g < wr.heap.size := Nat.lt_of_lt_of_le hg KC.out.size
            go_wp2_with (fail)
            refine (HUN.out _ _ _ ((HUU.out.below KC.out).mono KC.out.size) ((R1.out.below KC.out).mono KC.out.size)).mono ?_
            rintro e w7 ⟨⟨A7, c7, rfl, ho⟩, hb⟩
            have KE := hide (KC.out.trans (hb.mono KC.out.size))
            have HU7 := hide (own_rd ho (fun _ => rfl))
            have HR7 := hide (HRR.out.below KE.out)
            have HB7 := hide (HBB.out.trans (KE.out.mono hsz))
            clear ho hb z1
            go_wp2
            go_roundw
            case rel => exact ⟨k + 1, by omega, by go_num, q + 1, A7, _, c7, rfl, hide rfl, HCT2, HU7, HR7, HB7⟩
            case measure => simp [intOf]; omega
      · have mz : ¬ (m : Int) < (R.length : Int) := by omega
        have hU := HU.out
        have hct : Cut a (ids a).length n := by have := HCT.out; rwa [show m = (ids a).length by rw [← HID.out]; omega] at this
        rw [partU_all HKA.out hct.done] at hU HNU
        have HU2 := hide hU
        clear hU hct HCT HU
        go_wp2_with (fail)
        refine (HSS.out _ _ _ HU2.out ((hA.out.below HB.out).mono HB.out.size)).mono ?_
        rintro e w7 ⟨rfl, hb⟩
        have KE := hide (HB.out.trans (hb.mono HB.out.size))
        clear hb
        go_wp2_with (fail)
        go_ret
        exact ⟨rfl, KE.out⟩
end Go.Proofs.YtamnaojheecopaaGreat
