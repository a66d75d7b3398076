/- Texts laid together: ParLf, ParLg, ParLh. Lemmas for the statements of this seat; no condition. -/
import Derived.Test.YtgdlbaabdebclaaPk8

/- ParcelFronts: the fronts of the lots of a lot: the walk. -/
namespace Go.Proofs.Ytgdlbaabdebclaa
open Go.RowKit
set_option linter.unusedVariables false
set_option linter.unusedSimpArgs false

def sideV : Nat → Int
  | 0 => 1
  | 1 => 2
  | 2 => 4
  | 3 => 8
  | _ => 16
set_option maxRecDepth 100000 in
set_option maxHeartbeats 4000000 in
theorem on24_any (a b : R4) (s : Int) (hs : isSide s) (w : World) : Calls Try.prog 28 #[.agg #[.int .i64 a.x0, .int .i64 a.y0, .int .i64 a.x1, .int .i64 a.y1], .agg #[.int .i64 b.x0, .int .i64 b.y0, .int .i64 b.x1, .int .i64 b.y1], .int .u8 s] w fun e w' => e = .returned (.bool (onS a b s)) ∧ Below w.heap.size w w' := by
  rcases hs with rfl | rfl | rfl | rfl
  all_goals
    go_enter Try.func28, Try.ntmps28
    go_wp2
    go_ret
    refine ⟨ret_eq (bool_eq ?_), ((Below.refl _ _).alloc (Nat.le_refl _) _).alloc (by simp) _⟩
    unfold onS
    first
      | rfl
      | (rw [Bool.eq_iff_iff]; simp)
theorem leaves_was {p : Pl3} {l x : Lot5} (hx : x ∈ leaves p l) : decide (goodL p l) = true → decide (goodL p x) = true := fun h => by
  rcases leaves_good p l x hx with rfl | h2
  · exact h
  · exact decide_eq_true h2
theorem good_ok {x : Lot5} {p : Pl3} (h : checkL x p = 0) : goodR x p = (decide (goodL p x), 0) := if_pos h
set_option maxRecDepth 100000 in
set_option maxHeartbeats 16000000 in
theorem fronts_walk (l : Lot5) (p : Pl3) (hf : 0 ≤ l.f ∧ l.f ≤ 255) (w : World) : Calls Try.prog 7 #[.agg (encL l).toArray, .agg (encP p).toArray] w fun e w' => e = .returned (.bool true) ∧ Below w.heap.size w w' := by
  have HV := hide (fun W => valid24_any l p hf W)
  have HAL := hide (fun W => alive24_any W)
  by_cases h0 : checkL l p = 0
  · have hv := checkL_valid h0
    have hS := fun W => psplit_any l p hf W
    rw [h0] at HV
    have HV1 : Hid (∀ W : World, Calls Try.prog 14 #[.agg #[.int .i64 l.r.x0, .int .i64 l.r.y0, .int .i64 l.r.x1, .int .i64 l.r.y1, .int .u8 l.f], .agg #[.int .i64 p.mf, .int .i64 p.ms, .int .i64 p.ma]] W fun e w' => e = .returned (.bool true) ∧ Below W.heap.size W w') := hide HV.out
    clear HV
    by_cases h4 : (leaves p l).length ≤ 400
    · have hR : splitR l p = (leaves p l, 0) := by unfold splitR; rw [if_pos h0, if_pos h4]
      rw [hR] at hS
      have HGL : Hid (∀ W : World, Calls Try.prog 19 #[.agg #[.int .i64 l.r.x0, .int .i64 l.r.y0, .int .i64 l.r.x1, .int .i64 l.r.y1, .int .u8 l.f], .agg #[.int .i64 p.mf, .int .i64 p.ms, .int .i64 p.ma]] W fun e w' => e = .returned (.tuple #[.bool (decide (goodL p l)), .int .i64 0]) ∧ Below W.heap.size W w') := hide (fun W => by
        have := pgood_any l p hf W
        rw [good_ok h0] at this
        exact this)
      have HGX : Hid (∀ x ∈ leaves p l, (decide (goodL p l) = true → decide (goodL p x) = true) ∧ ∀ W : World, Calls Try.prog 19 #[.agg #[.int .i64 x.r.x0, .int .i64 x.r.y0, .int .i64 x.r.x1, .int .i64 x.r.y1, .int .u8 x.f], .agg #[.int .i64 p.mf, .int .i64 p.ms, .int .i64 p.ma]] W fun e w' => e = .returned (.tuple #[.bool (decide (goodL p x)), .int .i64 0]) ∧ Below W.heap.size W w') := hide (fun x hx => ⟨leaves_was hx, fun W => by
        have hxv := leaves_valid hv x hx
        have := pgood_any x p (by have := hxv.2; omega) W
        rw [good_ok (check_of h0 hxv)] at this
        exact this⟩)
      have HFR : Hid (∀ x ∈ leaves p l, ∀ s, isSide s → hasS x.f s = (hasS l.f s && onS x.r l.r s)) := hide (fun x hx s hs => leaves_front p hs l hv x hx)
      have HVL := hide (fun x hx => leaves_valid (p := p) hv x hx)
      have hlf := hv.2
      have hlf0 : 0 ≤ l.f := by omega
      have hlf1 : l.f ≤ 255 := by omega
      have HH : Hid (∀ s, isSide s → ∀ f, 0 ≤ f → f ≤ 255 → ∀ W : World, Calls Try.prog 27 #[.int .u8 f, .int .u8 s] W fun e w' => e = .returned (.bool (hasS f s)) ∧ W = w') := hide (fun s hs f h1 h2 W => (rHasS_any ⟨h1, h2⟩ hs W).mono fun _ _ ⟨a, b⟩ => ⟨a, b.symm⟩)
      have HON : Hid (∀ s, isSide s → ∀ (a b : R4) (W : World), Calls Try.prog 28 #[.agg #[.int .i64 a.x0, .int .i64 a.y0, .int .i64 a.x1, .int .i64 a.y1], .agg #[.int .i64 b.x0, .int .i64 b.y0, .int .i64 b.x1, .int .i64 b.y1], .int .u8 s] W fun e w' => e = .returned (.bool (onS a b s)) ∧ Below W.heap.size W w') := hide (fun s hs a b W => on24_any a b s hs W)
      generalize decide (goodL p l) = G at *
      generalize leaves p l = Q at *
      clear hlf
      have HS : Hid (∀ W : World, Calls Try.prog 11 #[.agg #[.int .i64 l.r.x0, .int .i64 l.r.y0, .int .i64 l.r.x1, .int .i64 l.r.y1, .int .u8 l.f], .agg #[.int .i64 p.mf, .int .i64 p.ms, .int .i64 p.ma]] W (LotsRet W (Q, 0))) := hide hS
      clear hS hR h0 hv hf
      show Calls Try.prog _ #[.agg #[.int .i64 l.r.x0, .int .i64 l.r.y0, .int .i64 l.r.x1, .int .i64 l.r.y1, .int .u8 l.f], .agg #[.int .i64 p.mf, .int .i64 p.ms, .int .i64 p.ma]] w _
      go_enter Try.func7, Try.ntmps7
      go_wp2_with (fail)
      obtain ⟨W, hW⟩ : ∃ x, x = (w.alloc (.cells #[.int .i64 l.r.x0, .int .i64 l.r.y0, .int .i64 l.r.x1, .int .i64 l.r.y1, .int .u8 l.f] 25)).alloc (.cells #[.int .i64 p.mf, .int .i64 p.ms, .int .i64 p.ma] 27) := ⟨_, rfl⟩
      rw [← hW]
      have hb0 : Below w.heap.size w W := by rw [hW]; exact ((Below.refl _ _).alloc (Nat.le_refl _) _).alloc (by simp) _
      have hs0 : w.heap.size + 2 ≤ W.heap.size := by rw [hW]; simp
      have HL : Box5L W w.heap.size l := by rw [hW]; refine ⟨?_, ?_, ?_, ?_, ?_, ?_, ?_, ?_, ?_, ?_⟩ <;> simp [go_sem]
      have HP : Box3 W (w.heap.size + 1) (.int .i64 p.mf) (.int .i64 p.ms) (.int .i64 p.ma) := by rw [hW]; refine ⟨?_, ?_, ?_⟩ <;> simp [go_sem]
      obtain ⟨n, hn⟩ : ∃ n, w.heap.size = n := ⟨_, rfl⟩
      have HN := hide hn
      rw [hn] at hb0 hs0 HL HP ⊢
      have K0 := hide hb0
      clear hW hb0 hn
      refine (HV1.out _).mono ?_
      rintro e w1 ⟨rfl, hb⟩
      have HL1 := HL.below hb
      have HP1 := HP.below hb
      have hs1 : n + 2 ≤ w1.heap.size := Nat.le_trans hs0 hb.size
      have K1 := hide (K0.out.trans (hb.mono (by omega)))
      clear hb HL HP K0 hs0
      try clear l0 l1 l2 l3 l4 p0 p1 p2
      obtain ⟨l0, l1, l2, l3, l4, -, -, -, -, -⟩ := id HL1
      obtain ⟨p0, p1, p2⟩ := id HP1
      go_wp2_with (fail)
      refine (HS.out _).mono ?_
      rintro e w2 ⟨⟨A1, c1, rfl, ho⟩, hb⟩
      have HL2 := HL1.below hb
      have HP2 := HP1.below hb
      have hs2 : n + 2 ≤ w2.heap.size := Nat.le_trans hs1 hb.size
      have K2 := hide (K1.out.trans (hb.mono (by omega)))
      have HO2 : Hid (RdK encL 5 w2 w2.heap.size (.slice A1 Q.length c1) Q) := hide (own_rd ho (fun _ => rfl))
      clear ho HV1 HS
      clear hb HL1 HP1 K1 hs1
      try clear l0 l1 l2 l3 l4 p0 p1 p2
      obtain ⟨l0, l1, l2, l3, l4, -, -, -, -, -⟩ := id HL2
      obtain ⟨p0, p1, p2⟩ := id HP2
      go_wp2_with (fail)
      refine (HGL.out _).mono ?_
      rintro e w3 ⟨rfl, hb⟩
      have HO3 := hide ((HO2.out.below hb).mono hb.size)
      have HL3 := HL2.below hb
      have HP3 := HP2.below hb
      have hs3 : n + 2 ≤ w3.heap.size := Nat.le_trans hs2 hb.size
      have K3 := hide (K2.out.trans (hb.mono (by omega)))
      clear HO2 HGL
      clear hb HL2 HP2 K2 hs2
      try clear l0 l1 l2 l3 l4 p0 p1 p2
      go_wp2_with (fail)
      go_loopw [9] (fun i wr => ∃ m : Nat, m ≤ Q.length ∧ i = .int .i64 m ∧ Hid (Below w3.heap.size w3 wr)) (fun i _ => Q.length - (intOf i).toNat)
      case atStart => exact ⟨0, Nat.zero_le _, rfl, hide (Below.refl _ _)⟩
      case round =>
        obtain ⟨m, hm, rfl, HB⟩ := hrel
        have hsw := HB.out.size
        by_cases hlt : m < Q.length
        · obtain ⟨x, hx⟩ : ∃ x, Q[m]? = some x := ⟨_, List.getElem?_eq_getElem hlt⟩
          obtain ⟨b, o, rfl, hbl, k⟩ := HO3.out.cells5 (by intro e; rw [e] at hlt; simp at hlt)
          have d0 : wr.cell? ⟨b, o + m * 5, none⟩ = some (.int .i64 x.r.x0) := (HB.out.cell (p := ⟨b, _, none⟩) hbl).trans (k m _ hx 0 _ rfl)
          have d1 : wr.cell? ⟨b, o + m * 5 + 1, none⟩ = some (.int .i64 x.r.y0) := (HB.out.cell (p := ⟨b, _, none⟩) hbl).trans (k m _ hx 1 _ rfl)
          have d2 : wr.cell? ⟨b, o + m * 5 + 2, none⟩ = some (.int .i64 x.r.x1) := (HB.out.cell (p := ⟨b, _, none⟩) hbl).trans (k m _ hx 2 _ rfl)
          have d3 : wr.cell? ⟨b, o + m * 5 + 3, none⟩ = some (.int .i64 x.r.y1) := (HB.out.cell (p := ⟨b, _, none⟩) hbl).trans (k m _ hx 3 _ rfl)
          have d4 : wr.cell? ⟨b, o + m * 5 + 4, none⟩ = some (.int .u8 x.f) := (HB.out.cell (p := ⟨b, _, none⟩) hbl).trans (k m _ hx 4 _ rfl)
          have mz : (m : Int) < (Q.length : Int) := by omega
          have HX := hide hx
          have HC5 : Hid (∀ i u, (encL x)[i]? = some u → w3.cell? ⟨b, o + m * 5 + i, none⟩ = some u) := hide (k m _ hx)
          clear k hx
          obtain ⟨p0, p1, p2⟩ := HP3.below HB.out
          obtain ⟨hwas, hgx⟩ := HGX.out x (List.mem_of_getElem? HX.out)
          have HE := hide (HFR.out x (List.mem_of_getElem? HX.out))
          have hxf := (HVL.out x (List.mem_of_getElem? HX.out)).2
          have hxf0 : 0 ≤ x.f := by omega
          have hxf1 : x.f ≤ 255 := by omega
          have HGC := hide hgx
          have q0 : b < wr.heap.size := by omega
          have q1 : n + 1 < wr.heap.size := by omega
          clear hxf hgx
          generalize decide (goodL p x) = GX at *
          go_wp2_with (fail)
          refine wp_hab fun hab => ?_
          refine wp_region_above (by kernel_rfl) (by kernel_rfl) ?_
          repeat (go_big_quiet_step ((go_at_call 19; exact above_of (HGC.out _))))
          refine wpQuiet_nil ?_
          refine above_ends fun w4 hb => ?_
          have HB4 : Hid (Below w3.heap.size w3 w4) := hide (HB.out.trans (hb.mono hsw))
          have hs4 := HB4.out.size
          clear hab hb d0 d1 d2 d3 d4 p0 p1 p2 HB hsw q0 q1
          cases G with
          | false =>
            go_wp2_with (fail)
            go_loopw [12] (fun s wi => ∃ j : Nat, j ≤ 4 ∧ s = .int .u8 (sideV j) ∧ Hid (Below w4.heap.size w4 wi)) (fun s _ => (16 - intOf s).toNat)
            case atStart => exact ⟨0, by omega, rfl, hide (Below.refl _ _)⟩
            case round =>
              obtain ⟨j, hj, rfl, HBi⟩ := hrel
              have hswi := HBi.out.size
              have hj5 : j = 0 ∨ j = 1 ∨ j = 2 ∨ j = 3 ∨ j = 4 := by omega
              have HBw := hide (HB4.out.trans (HBi.out.mono hs4))
              have HLi := HL3.below HBw.out
              obtain ⟨l0, l1, l2, l3, l4, -, -, -, -, -⟩ := id HLi
              have q0 : b < wr.heap.size := by omega
              have q1 : n < wr.heap.size := by omega
              have d0 : wr.cell? ⟨b, o + m * 5, none⟩ = some (.int .i64 x.r.x0) := (HBw.out.cell (p := ⟨b, _, none⟩) hbl).trans (HC5.out 0 _ rfl)
              have d1 : wr.cell? ⟨b, o + m * 5 + 1, none⟩ = some (.int .i64 x.r.y0) := (HBw.out.cell (p := ⟨b, _, none⟩) hbl).trans (HC5.out 1 _ rfl)
              have d2 : wr.cell? ⟨b, o + m * 5 + 2, none⟩ = some (.int .i64 x.r.x1) := (HBw.out.cell (p := ⟨b, _, none⟩) hbl).trans (HC5.out 2 _ rfl)
              have d3 : wr.cell? ⟨b, o + m * 5 + 3, none⟩ = some (.int .i64 x.r.y1) := (HBw.out.cell (p := ⟨b, _, none⟩) hbl).trans (HC5.out 3 _ rfl)
              have d4 : wr.cell? ⟨b, o + m * 5 + 4, none⟩ = some (.int .u8 x.f) := (HBw.out.cell (p := ⟨b, _, none⟩) hbl).trans (HC5.out 4 _ rfl)
              rcases hj5 with rfl | rfl | rfl | rfl | rfl
              · simp only [sideV]
                have hs : isSide 1 := by unfold isSide; omega
                have HHx : Hid (∀ W : World, Calls Try.prog 27 #[.int .u8 x.f, .int .u8 1] W fun e w' => e = .returned (.bool (hasS x.f 1)) ∧ W = w') := hide (HH.out 1 hs x.f hxf0 hxf1)
                have HHl : Hid (∀ W : World, Calls Try.prog 27 #[.int .u8 l.f, .int .u8 1] W fun e w' => e = .returned (.bool (hasS l.f 1)) ∧ W = w') := hide (HH.out 1 hs l.f hlf0 hlf1)
                have HONs := hide (HON.out 1 hs x.r l.r)
                have hE := HE.out 1 hs
                rw [hE] at HHx
                generalize onS x.r l.r 1 = t at *
                generalize hasS l.f 1 = hl at *
                clear hE
                cases hl with
                | false =>
                  simp only [Bool.false_and] at HHx
                  go_upto_region 18 with fail
                  refine wp_hab fun hab => ?_
                  refine wp_region_above (by kernel_rfl) (by kernel_rfl) ?_
                  repeat (go_big_quiet_step (((first | (go_at_call 27; first | (with_reducible exact above_same (HHx.out _)) | (with_reducible exact above_same (HHl.out _))) | (go_at_call 28; exact above_of (HONs.out _))))))
                  refine wpQuiet_nil ?_
                  refine above_ends fun w9 hb => ?_
                  have HB9 : Hid (Below w4.heap.size w4 w9) := hide (HBi.out.trans (hb.mono hswi))
                  clear hab hb d0 d1 d2 d3 d4 l0 l1 l2 l3 l4 HBi
                  go_wp2_with (fail)
                  go_roundw
                  case rel => exact ⟨1, by omega, by simp [sideV], HB9⟩
                  case measure => simp [intOf, sideV]
                | true =>
                  simp only [Bool.true_and] at HHx
                  go_upto_region 18 with fail
                  refine wp_hab fun hab => ?_
                  refine wp_region_above (by kernel_rfl) (by kernel_rfl) ?_
                  repeat (go_big_quiet_step (((first | (go_at_call 27; first | (with_reducible exact above_same (HHx.out _)) | (with_reducible exact above_same (HHl.out _))) | (go_at_call 28; exact above_of (HONs.out _))))))
                  refine wpQuiet_nil ?_
                  refine above_ends fun w9 hb => ?_
                  have HB9 : Hid (Below w4.heap.size w4 w9) := hide (HBi.out.trans (hb.mono hswi))
                  clear hab hb d0 d1 d2 d3 d4 l0 l1 l2 l3 l4 HBi
                  go_wp2_with (fail)
                  go_roundw
                  case rel => exact ⟨1, by omega, by simp [sideV], HB9⟩
                  case measure => simp [intOf, sideV]
              · simp only [sideV]
                have hs : isSide 2 := by unfold isSide; omega
                have HHx : Hid (∀ W : World, Calls Try.prog 27 #[.int .u8 x.f, .int .u8 2] W fun e w' => e = .returned (.bool (hasS x.f 2)) ∧ W = w') := hide (HH.out 2 hs x.f hxf0 hxf1)
                have HHl : Hid (∀ W : World, Calls Try.prog 27 #[.int .u8 l.f, .int .u8 2] W fun e w' => e = .returned (.bool (hasS l.f 2)) ∧ W = w') := hide (HH.out 2 hs l.f hlf0 hlf1)
                have HONs := hide (HON.out 2 hs x.r l.r)
                have hE := HE.out 2 hs
                rw [hE] at HHx
                generalize onS x.r l.r 2 = t at *
                generalize hasS l.f 2 = hl at *
                clear hE
                cases hl with
                | false =>
                  simp only [Bool.false_and] at HHx
                  go_upto_region 18 with fail
                  refine wp_hab fun hab => ?_
                  refine wp_region_above (by kernel_rfl) (by kernel_rfl) ?_
                  repeat (go_big_quiet_step (((first | (go_at_call 27; first | (with_reducible exact above_same (HHx.out _)) | (with_reducible exact above_same (HHl.out _))) | (go_at_call 28; exact above_of (HONs.out _))))))
                  refine wpQuiet_nil ?_
                  refine above_ends fun w9 hb => ?_
                  have HB9 : Hid (Below w4.heap.size w4 w9) := hide (HBi.out.trans (hb.mono hswi))
                  clear hab hb d0 d1 d2 d3 d4 l0 l1 l2 l3 l4 HBi
                  go_wp2_with (fail)
                  go_roundw
                  case rel => exact ⟨2, by omega, by simp [sideV], HB9⟩
                  case measure => simp [intOf, sideV]
                | true =>
                  simp only [Bool.true_and] at HHx
                  go_upto_region 18 with fail
                  refine wp_hab fun hab => ?_
                  refine wp_region_above (by kernel_rfl) (by kernel_rfl) ?_
                  repeat (go_big_quiet_step (((first | (go_at_call 27; first | (with_reducible exact above_same (HHx.out _)) | (with_reducible exact above_same (HHl.out _))) | (go_at_call 28; exact above_of (HONs.out _))))))
                  refine wpQuiet_nil ?_
                  refine above_ends fun w9 hb => ?_
                  have HB9 : Hid (Below w4.heap.size w4 w9) := hide (HBi.out.trans (hb.mono hswi))
                  clear hab hb d0 d1 d2 d3 d4 l0 l1 l2 l3 l4 HBi
                  go_wp2_with (fail)
                  go_roundw
                  case rel => exact ⟨2, by omega, by simp [sideV], HB9⟩
                  case measure => simp [intOf, sideV]
              · simp only [sideV]
                have hs : isSide 4 := by unfold isSide; omega
                have HHx : Hid (∀ W : World, Calls Try.prog 27 #[.int .u8 x.f, .int .u8 4] W fun e w' => e = .returned (.bool (hasS x.f 4)) ∧ W = w') := hide (HH.out 4 hs x.f hxf0 hxf1)
                have HHl : Hid (∀ W : World, Calls Try.prog 27 #[.int .u8 l.f, .int .u8 4] W fun e w' => e = .returned (.bool (hasS l.f 4)) ∧ W = w') := hide (HH.out 4 hs l.f hlf0 hlf1)
                have HONs := hide (HON.out 4 hs x.r l.r)
                have hE := HE.out 4 hs
                rw [hE] at HHx
                generalize onS x.r l.r 4 = t at *
                generalize hasS l.f 4 = hl at *
                clear hE
                cases hl with
                | false =>
                  simp only [Bool.false_and] at HHx
                  go_upto_region 18 with fail
                  refine wp_hab fun hab => ?_
                  refine wp_region_above (by kernel_rfl) (by kernel_rfl) ?_
                  repeat (go_big_quiet_step (((first | (go_at_call 27; first | (with_reducible exact above_same (HHx.out _)) | (with_reducible exact above_same (HHl.out _))) | (go_at_call 28; exact above_of (HONs.out _))))))
                  refine wpQuiet_nil ?_
                  refine above_ends fun w9 hb => ?_
                  have HB9 : Hid (Below w4.heap.size w4 w9) := hide (HBi.out.trans (hb.mono hswi))
                  clear hab hb d0 d1 d2 d3 d4 l0 l1 l2 l3 l4 HBi
                  go_wp2_with (fail)
                  go_roundw
                  case rel => exact ⟨3, by omega, by simp [sideV], HB9⟩
                  case measure => simp [intOf, sideV]
                | true =>
                  simp only [Bool.true_and] at HHx
                  go_upto_region 18 with fail
                  refine wp_hab fun hab => ?_
                  refine wp_region_above (by kernel_rfl) (by kernel_rfl) ?_
                  repeat (go_big_quiet_step (((first | (go_at_call 27; first | (with_reducible exact above_same (HHx.out _)) | (with_reducible exact above_same (HHl.out _))) | (go_at_call 28; exact above_of (HONs.out _))))))
                  refine wpQuiet_nil ?_
                  refine above_ends fun w9 hb => ?_
                  have HB9 : Hid (Below w4.heap.size w4 w9) := hide (HBi.out.trans (hb.mono hswi))
                  clear hab hb d0 d1 d2 d3 d4 l0 l1 l2 l3 l4 HBi
                  go_wp2_with (fail)
                  go_roundw
                  case rel => exact ⟨3, by omega, by simp [sideV], HB9⟩
                  case measure => simp [intOf, sideV]
              · simp only [sideV]
                have hs : isSide 8 := by unfold isSide; omega
                have HHx : Hid (∀ W : World, Calls Try.prog 27 #[.int .u8 x.f, .int .u8 8] W fun e w' => e = .returned (.bool (hasS x.f 8)) ∧ W = w') := hide (HH.out 8 hs x.f hxf0 hxf1)
                have HHl : Hid (∀ W : World, Calls Try.prog 27 #[.int .u8 l.f, .int .u8 8] W fun e w' => e = .returned (.bool (hasS l.f 8)) ∧ W = w') := hide (HH.out 8 hs l.f hlf0 hlf1)
                have HONs := hide (HON.out 8 hs x.r l.r)
                have hE := HE.out 8 hs
                rw [hE] at HHx
                generalize onS x.r l.r 8 = t at *
                generalize hasS l.f 8 = hl at *
                clear hE
                cases hl with
                | false =>
                  simp only [Bool.false_and] at HHx
                  go_upto_region 18 with fail
                  refine wp_hab fun hab => ?_
                  refine wp_region_above (by kernel_rfl) (by kernel_rfl) ?_
                  repeat (go_big_quiet_step (((first | (go_at_call 27; first | (with_reducible exact above_same (HHx.out _)) | (with_reducible exact above_same (HHl.out _))) | (go_at_call 28; exact above_of (HONs.out _))))))
                  refine wpQuiet_nil ?_
                  refine above_ends fun w9 hb => ?_
                  have HB9 : Hid (Below w4.heap.size w4 w9) := hide (HBi.out.trans (hb.mono hswi))
                  clear hab hb d0 d1 d2 d3 d4 l0 l1 l2 l3 l4 HBi
                  go_wp2_with (fail)
                  go_roundw
                  case rel => exact ⟨4, by omega, by simp [sideV], HB9⟩
                  case measure => simp [intOf, sideV]
                | true =>
                  simp only [Bool.true_and] at HHx
                  go_upto_region 18 with fail
                  refine wp_hab fun hab => ?_
                  refine wp_region_above (by kernel_rfl) (by kernel_rfl) ?_
                  repeat (go_big_quiet_step (((first | (go_at_call 27; first | (with_reducible exact above_same (HHx.out _)) | (with_reducible exact above_same (HHl.out _))) | (go_at_call 28; exact above_of (HONs.out _))))))
                  refine wpQuiet_nil ?_
                  refine above_ends fun w9 hb => ?_
                  have HB9 : Hid (Below w4.heap.size w4 w9) := hide (HBi.out.trans (hb.mono hswi))
                  clear hab hb d0 d1 d2 d3 d4 l0 l1 l2 l3 l4 HBi
                  go_wp2_with (fail)
                  go_roundw
                  case rel => exact ⟨4, by omega, by simp [sideV], HB9⟩
                  case measure => simp [intOf, sideV]
              · simp only [sideV]
                go_wp2_with (fail)
                go_roundw
                case rel => exact ⟨m + 1, by omega, by go_num, HBw⟩
                case measure => simp [intOf]; omega
          | true =>
            obtain rfl := hwas rfl
            go_wp2_with (fail)
            go_loopw [12] (fun s wi => ∃ j : Nat, j ≤ 4 ∧ s = .int .u8 (sideV j) ∧ Hid (Below w4.heap.size w4 wi)) (fun s _ => (16 - intOf s).toNat)
            case atStart => exact ⟨0, by omega, rfl, hide (Below.refl _ _)⟩
            case round =>
              obtain ⟨j, hj, rfl, HBi⟩ := hrel
              have hswi := HBi.out.size
              have hj5 : j = 0 ∨ j = 1 ∨ j = 2 ∨ j = 3 ∨ j = 4 := by omega
              have HBw := hide (HB4.out.trans (HBi.out.mono hs4))
              have HLi := HL3.below HBw.out
              obtain ⟨l0, l1, l2, l3, l4, -, -, -, -, -⟩ := id HLi
              have q0 : b < wr.heap.size := by omega
              have q1 : n < wr.heap.size := by omega
              have d0 : wr.cell? ⟨b, o + m * 5, none⟩ = some (.int .i64 x.r.x0) := (HBw.out.cell (p := ⟨b, _, none⟩) hbl).trans (HC5.out 0 _ rfl)
              have d1 : wr.cell? ⟨b, o + m * 5 + 1, none⟩ = some (.int .i64 x.r.y0) := (HBw.out.cell (p := ⟨b, _, none⟩) hbl).trans (HC5.out 1 _ rfl)
              have d2 : wr.cell? ⟨b, o + m * 5 + 2, none⟩ = some (.int .i64 x.r.x1) := (HBw.out.cell (p := ⟨b, _, none⟩) hbl).trans (HC5.out 2 _ rfl)
              have d3 : wr.cell? ⟨b, o + m * 5 + 3, none⟩ = some (.int .i64 x.r.y1) := (HBw.out.cell (p := ⟨b, _, none⟩) hbl).trans (HC5.out 3 _ rfl)
              have d4 : wr.cell? ⟨b, o + m * 5 + 4, none⟩ = some (.int .u8 x.f) := (HBw.out.cell (p := ⟨b, _, none⟩) hbl).trans (HC5.out 4 _ rfl)
              rcases hj5 with rfl | rfl | rfl | rfl | rfl
              · simp only [sideV]
                have hs : isSide 1 := by unfold isSide; omega
                have HHx : Hid (∀ W : World, Calls Try.prog 27 #[.int .u8 x.f, .int .u8 1] W fun e w' => e = .returned (.bool (hasS x.f 1)) ∧ W = w') := hide (HH.out 1 hs x.f hxf0 hxf1)
                have HHl : Hid (∀ W : World, Calls Try.prog 27 #[.int .u8 l.f, .int .u8 1] W fun e w' => e = .returned (.bool (hasS l.f 1)) ∧ W = w') := hide (HH.out 1 hs l.f hlf0 hlf1)
                have HONs := hide (HON.out 1 hs x.r l.r)
                have hE := HE.out 1 hs
                rw [hE] at HHx
                generalize onS x.r l.r 1 = t at *
                generalize hasS l.f 1 = hl at *
                clear hE
                cases hl with
                | false =>
                  simp only [Bool.false_and] at HHx
                  go_upto_region 18 with fail
                  refine wp_hab fun hab => ?_
                  refine wp_region_above (by kernel_rfl) (by kernel_rfl) ?_
                  repeat (go_big_quiet_step (((first | (go_at_call 27; first | (with_reducible exact above_same (HHx.out _)) | (with_reducible exact above_same (HHl.out _))) | (go_at_call 28; exact above_of (HONs.out _))))))
                  refine wpQuiet_nil ?_
                  refine above_ends fun w9 hb => ?_
                  have HB9 : Hid (Below w4.heap.size w4 w9) := hide (HBi.out.trans (hb.mono hswi))
                  clear hab hb d0 d1 d2 d3 d4 l0 l1 l2 l3 l4 HBi
                  go_wp2_with (fail)
                  go_roundw
                  case rel => exact ⟨1, by omega, by simp [sideV], HB9⟩
                  case measure => simp [intOf, sideV]
                | true =>
                  simp only [Bool.true_and] at HHx
                  go_upto_region 18 with fail
                  refine wp_hab fun hab => ?_
                  refine wp_region_above (by kernel_rfl) (by kernel_rfl) ?_
                  repeat (go_big_quiet_step (((first | (go_at_call 27; first | (with_reducible exact above_same (HHx.out _)) | (with_reducible exact above_same (HHl.out _))) | (go_at_call 28; exact above_of (HONs.out _))))))
                  refine wpQuiet_nil ?_
                  refine above_ends fun w9 hb => ?_
                  have HB9 : Hid (Below w4.heap.size w4 w9) := hide (HBi.out.trans (hb.mono hswi))
                  clear hab hb d0 d1 d2 d3 d4 l0 l1 l2 l3 l4 HBi
                  go_wp2_with (fail)
                  go_roundw
                  case rel => exact ⟨1, by omega, by simp [sideV], HB9⟩
                  case measure => simp [intOf, sideV]
              · simp only [sideV]
                have hs : isSide 2 := by unfold isSide; omega
                have HHx : Hid (∀ W : World, Calls Try.prog 27 #[.int .u8 x.f, .int .u8 2] W fun e w' => e = .returned (.bool (hasS x.f 2)) ∧ W = w') := hide (HH.out 2 hs x.f hxf0 hxf1)
                have HHl : Hid (∀ W : World, Calls Try.prog 27 #[.int .u8 l.f, .int .u8 2] W fun e w' => e = .returned (.bool (hasS l.f 2)) ∧ W = w') := hide (HH.out 2 hs l.f hlf0 hlf1)
                have HONs := hide (HON.out 2 hs x.r l.r)
                have hE := HE.out 2 hs
                rw [hE] at HHx
                generalize onS x.r l.r 2 = t at *
                generalize hasS l.f 2 = hl at *
                clear hE
                cases hl with
                | false =>
                  simp only [Bool.false_and] at HHx
                  go_upto_region 18 with fail
                  refine wp_hab fun hab => ?_
                  refine wp_region_above (by kernel_rfl) (by kernel_rfl) ?_
                  repeat (go_big_quiet_step (((first | (go_at_call 27; first | (with_reducible exact above_same (HHx.out _)) | (with_reducible exact above_same (HHl.out _))) | (go_at_call 28; exact above_of (HONs.out _))))))
                  refine wpQuiet_nil ?_
                  refine above_ends fun w9 hb => ?_
                  have HB9 : Hid (Below w4.heap.size w4 w9) := hide (HBi.out.trans (hb.mono hswi))
                  clear hab hb d0 d1 d2 d3 d4 l0 l1 l2 l3 l4 HBi
                  go_wp2_with (fail)
                  go_roundw
                  case rel => exact ⟨2, by omega, by simp [sideV], HB9⟩
                  case measure => simp [intOf, sideV]
                | true =>
                  simp only [Bool.true_and] at HHx
                  go_upto_region 18 with fail
                  refine wp_hab fun hab => ?_
                  refine wp_region_above (by kernel_rfl) (by kernel_rfl) ?_
                  repeat (go_big_quiet_step (((first | (go_at_call 27; first | (with_reducible exact above_same (HHx.out _)) | (with_reducible exact above_same (HHl.out _))) | (go_at_call 28; exact above_of (HONs.out _))))))
                  refine wpQuiet_nil ?_
                  refine above_ends fun w9 hb => ?_
                  have HB9 : Hid (Below w4.heap.size w4 w9) := hide (HBi.out.trans (hb.mono hswi))
                  clear hab hb d0 d1 d2 d3 d4 l0 l1 l2 l3 l4 HBi
                  go_wp2_with (fail)
                  go_roundw
                  case rel => exact ⟨2, by omega, by simp [sideV], HB9⟩
                  case measure => simp [intOf, sideV]
              · simp only [sideV]
                have hs : isSide 4 := by unfold isSide; omega
                have HHx : Hid (∀ W : World, Calls Try.prog 27 #[.int .u8 x.f, .int .u8 4] W fun e w' => e = .returned (.bool (hasS x.f 4)) ∧ W = w') := hide (HH.out 4 hs x.f hxf0 hxf1)
                have HHl : Hid (∀ W : World, Calls Try.prog 27 #[.int .u8 l.f, .int .u8 4] W fun e w' => e = .returned (.bool (hasS l.f 4)) ∧ W = w') := hide (HH.out 4 hs l.f hlf0 hlf1)
                have HONs := hide (HON.out 4 hs x.r l.r)
                have hE := HE.out 4 hs
                rw [hE] at HHx
                generalize onS x.r l.r 4 = t at *
                generalize hasS l.f 4 = hl at *
                clear hE
                cases hl with
                | false =>
                  simp only [Bool.false_and] at HHx
                  go_upto_region 18 with fail
                  refine wp_hab fun hab => ?_
                  refine wp_region_above (by kernel_rfl) (by kernel_rfl) ?_
                  repeat (go_big_quiet_step (((first | (go_at_call 27; first | (with_reducible exact above_same (HHx.out _)) | (with_reducible exact above_same (HHl.out _))) | (go_at_call 28; exact above_of (HONs.out _))))))
                  refine wpQuiet_nil ?_
                  refine above_ends fun w9 hb => ?_
                  have HB9 : Hid (Below w4.heap.size w4 w9) := hide (HBi.out.trans (hb.mono hswi))
                  clear hab hb d0 d1 d2 d3 d4 l0 l1 l2 l3 l4 HBi
                  go_wp2_with (fail)
                  go_roundw
                  case rel => exact ⟨3, by omega, by simp [sideV], HB9⟩
                  case measure => simp [intOf, sideV]
                | true =>
                  simp only [Bool.true_and] at HHx
                  go_upto_region 18 with fail
                  refine wp_hab fun hab => ?_
                  refine wp_region_above (by kernel_rfl) (by kernel_rfl) ?_
                  repeat (go_big_quiet_step (((first | (go_at_call 27; first | (with_reducible exact above_same (HHx.out _)) | (with_reducible exact above_same (HHl.out _))) | (go_at_call 28; exact above_of (HONs.out _))))))
                  refine wpQuiet_nil ?_
                  refine above_ends fun w9 hb => ?_
                  have HB9 : Hid (Below w4.heap.size w4 w9) := hide (HBi.out.trans (hb.mono hswi))
                  clear hab hb d0 d1 d2 d3 d4 l0 l1 l2 l3 l4 HBi
                  go_wp2_with (fail)
                  go_roundw
                  case rel => exact ⟨3, by omega, by simp [sideV], HB9⟩
                  case measure => simp [intOf, sideV]
              · simp only [sideV]
                have hs : isSide 8 := by unfold isSide; omega
                have HHx : Hid (∀ W : World, Calls Try.prog 27 #[.int .u8 x.f, .int .u8 8] W fun e w' => e = .returned (.bool (hasS x.f 8)) ∧ W = w') := hide (HH.out 8 hs x.f hxf0 hxf1)
                have HHl : Hid (∀ W : World, Calls Try.prog 27 #[.int .u8 l.f, .int .u8 8] W fun e w' => e = .returned (.bool (hasS l.f 8)) ∧ W = w') := hide (HH.out 8 hs l.f hlf0 hlf1)
                have HONs := hide (HON.out 8 hs x.r l.r)
                have hE := HE.out 8 hs
                rw [hE] at HHx
                generalize onS x.r l.r 8 = t at *
                generalize hasS l.f 8 = hl at *
                clear hE
                cases hl with
                | false =>
                  simp only [Bool.false_and] at HHx
                  go_upto_region 18 with fail
                  refine wp_hab fun hab => ?_
                  refine wp_region_above (by kernel_rfl) (by kernel_rfl) ?_
                  repeat (go_big_quiet_step (((first | (go_at_call 27; first | (with_reducible exact above_same (HHx.out _)) | (with_reducible exact above_same (HHl.out _))) | (go_at_call 28; exact above_of (HONs.out _))))))
                  refine wpQuiet_nil ?_
                  refine above_ends fun w9 hb => ?_
                  have HB9 : Hid (Below w4.heap.size w4 w9) := hide (HBi.out.trans (hb.mono hswi))
                  clear hab hb d0 d1 d2 d3 d4 l0 l1 l2 l3 l4 HBi
                  go_wp2_with (fail)
                  go_roundw
                  case rel => exact ⟨4, by omega, by simp [sideV], HB9⟩
                  case measure => simp [intOf, sideV]
                | true =>
                  simp only [Bool.true_and] at HHx
                  go_upto_region 18 with fail
                  refine wp_hab fun hab => ?_
                  refine wp_region_above (by kernel_rfl) (by kernel_rfl) ?_
                  repeat (go_big_quiet_step (((first | (go_at_call 27; first | (with_reducible exact above_same (HHx.out _)) | (with_reducible exact above_same (HHl.out _))) | (go_at_call 28; exact above_of (HONs.out _))))))
                  refine wpQuiet_nil ?_
                  refine above_ends fun w9 hb => ?_
                  have HB9 : Hid (Below w4.heap.size w4 w9) := hide (HBi.out.trans (hb.mono hswi))
                  clear hab hb d0 d1 d2 d3 d4 l0 l1 l2 l3 l4 HBi
                  go_wp2_with (fail)
                  go_roundw
                  case rel => exact ⟨4, by omega, by simp [sideV], HB9⟩
                  case measure => simp [intOf, sideV]
              · simp only [sideV]
                go_wp2_with (fail)
                go_roundw
                case rel => exact ⟨m + 1, by omega, by go_num, HBw⟩
                case measure => simp [intOf]; omega
        · have mz : ¬ (m : Int) < (Q.length : Int) := by omega
          have K4 := hide (K3.out.trans (HB.out.mono (by omega)))
          have hs4 : n + 2 ≤ wr.heap.size := by omega
          clear HB hsw
          go_wp2_with (fail)
          refine (HAL.out _).mono ?_
          rintro e w9 ⟨rfl, hb⟩
          have K9 := hide (K4.out.trans (hb.mono (by omega)))
          clear hb
          go_wp2_with (fail)
          go_ret
          exact ⟨rfl, by rw [HN.out]; exact K9.out⟩
    · have hR : splitR l p = ([], 4) := by unfold splitR; rw [if_pos h0, if_neg h4]
      rw [hR] at hS
      have HS : Hid (∀ W : World, Calls Try.prog 11 #[.agg #[.int .i64 l.r.x0, .int .i64 l.r.y0, .int .i64 l.r.x1, .int .i64 l.r.y1, .int .u8 l.f], .agg #[.int .i64 p.mf, .int .i64 p.ms, .int .i64 p.ma]] W (LotsRet W ([], 4))) := hide hS
      clear hS hR h0 hv h4 hf
      show Calls Try.prog _ #[.agg #[.int .i64 l.r.x0, .int .i64 l.r.y0, .int .i64 l.r.x1, .int .i64 l.r.y1, .int .u8 l.f], .agg #[.int .i64 p.mf, .int .i64 p.ms, .int .i64 p.ma]] w _
      go_enter Try.func7, Try.ntmps7
      go_wp2_with (fail)
      obtain ⟨W, hW⟩ : ∃ x, x = (w.alloc (.cells #[.int .i64 l.r.x0, .int .i64 l.r.y0, .int .i64 l.r.x1, .int .i64 l.r.y1, .int .u8 l.f] 25)).alloc (.cells #[.int .i64 p.mf, .int .i64 p.ms, .int .i64 p.ma] 27) := ⟨_, rfl⟩
      rw [← hW]
      have hb0 : Below w.heap.size w W := by rw [hW]; exact ((Below.refl _ _).alloc (Nat.le_refl _) _).alloc (by simp) _
      have hs0 : w.heap.size + 2 ≤ W.heap.size := by rw [hW]; simp
      have HL : Box5L W w.heap.size l := by rw [hW]; refine ⟨?_, ?_, ?_, ?_, ?_, ?_, ?_, ?_, ?_, ?_⟩ <;> simp [go_sem]
      have HP : Box3 W (w.heap.size + 1) (.int .i64 p.mf) (.int .i64 p.ms) (.int .i64 p.ma) := by rw [hW]; refine ⟨?_, ?_, ?_⟩ <;> simp [go_sem]
      obtain ⟨n, hn⟩ : ∃ n, w.heap.size = n := ⟨_, rfl⟩
      have HN := hide hn
      rw [hn] at hb0 hs0 HL HP ⊢
      have K0 := hide hb0
      clear hW hb0 hn
      refine (HV1.out _).mono ?_
      rintro e w1 ⟨rfl, hb⟩
      have HL1 := HL.below hb
      have HP1 := HP.below hb
      have hs1 : n + 2 ≤ w1.heap.size := Nat.le_trans hs0 hb.size
      have K1 := hide (K0.out.trans (hb.mono (by omega)))
      clear hb HL HP K0 hs0
      try clear l0 l1 l2 l3 l4 p0 p1 p2
      obtain ⟨l0, l1, l2, l3, l4, -, -, -, -, -⟩ := id HL1
      obtain ⟨p0, p1, p2⟩ := id HP1
      go_wp2_with (fail)
      refine (HS.out _).mono ?_
      rintro e w2 ⟨⟨A1, c1, rfl, ho⟩, hb⟩
      clear ho
      have HL2 := HL1.below hb
      have HP2 := HP1.below hb
      have hs2 : n + 2 ≤ w2.heap.size := Nat.le_trans hs1 hb.size
      have K2 := hide (K1.out.trans (hb.mono (by omega)))
      clear hb HL1 HP1 K1 hs1
      try clear l0 l1 l2 l3 l4 p0 p1 p2
      go_wp2_with (fail)
      refine (HAL.out _).mono ?_
      rintro e w3 ⟨rfl, hb⟩
      have K3 := hide (K2.out.trans (hb.mono (by omega)))
      clear hb HL2 HP2
      go_wp2_with (fail)
      go_ret
      exact ⟨rfl, by rw [HN.out]; exact K3.out⟩
  · have hck : (checkL l p == 0) = false := by simpa using h0
    rw [hck] at HV
    have HV1 : Hid (∀ W : World, Calls Try.prog 14 #[.agg #[.int .i64 l.r.x0, .int .i64 l.r.y0, .int .i64 l.r.x1, .int .i64 l.r.y1, .int .u8 l.f], .agg #[.int .i64 p.mf, .int .i64 p.ms, .int .i64 p.ma]] W fun e w' => e = .returned (.bool false) ∧ Below W.heap.size W w') := hide HV.out
    clear HV hck h0 hf
    show Calls Try.prog _ #[.agg #[.int .i64 l.r.x0, .int .i64 l.r.y0, .int .i64 l.r.x1, .int .i64 l.r.y1, .int .u8 l.f], .agg #[.int .i64 p.mf, .int .i64 p.ms, .int .i64 p.ma]] w _
    go_enter Try.func7, Try.ntmps7
    go_wp2_with (fail)
    obtain ⟨W, hW⟩ : ∃ x, x = (w.alloc (.cells #[.int .i64 l.r.x0, .int .i64 l.r.y0, .int .i64 l.r.x1, .int .i64 l.r.y1, .int .u8 l.f] 25)).alloc (.cells #[.int .i64 p.mf, .int .i64 p.ms, .int .i64 p.ma] 27) := ⟨_, rfl⟩
    rw [← hW]
    have hb0 : Below w.heap.size w W := by rw [hW]; exact ((Below.refl _ _).alloc (Nat.le_refl _) _).alloc (by simp) _
    have hs0 : w.heap.size + 2 ≤ W.heap.size := by rw [hW]; simp
    have HL : Box5L W w.heap.size l := by rw [hW]; refine ⟨?_, ?_, ?_, ?_, ?_, ?_, ?_, ?_, ?_, ?_⟩ <;> simp [go_sem]
    have HP : Box3 W (w.heap.size + 1) (.int .i64 p.mf) (.int .i64 p.ms) (.int .i64 p.ma) := by rw [hW]; refine ⟨?_, ?_, ?_⟩ <;> simp [go_sem]
    obtain ⟨n, hn⟩ : ∃ n, w.heap.size = n := ⟨_, rfl⟩
    have HN := hide hn
    rw [hn] at hb0 hs0 HL HP ⊢
    have K0 := hide hb0
    clear hW hb0 hn
    refine (HV1.out _).mono ?_
    rintro e w1 ⟨rfl, hb⟩
    have HL1 := HL.below hb
    have HP1 := HP.below hb
    have hs1 : n + 2 ≤ w1.heap.size := Nat.le_trans hs0 hb.size
    have K1 := hide (K0.out.trans (hb.mono (by omega)))
    clear hb HL HP K0 hs0
    try clear l0 l1 l2 l3 l4 p0 p1 p2
    go_wp2_with (fail)
    refine (HAL.out _).mono ?_
    rintro e w2 ⟨rfl, hb⟩
    have K2 := hide (K1.out.trans (hb.mono (by omega)))
    clear hb HL1 HP1
    go_wp2_with (fail)
    go_ret
    exact ⟨rfl, by rw [HN.out]; exact K2.out⟩
end Go.Proofs.Ytgdlbaabdebclaa

/- ParcelTurns: the cut of a lot in which x and y change places: turned, and the ways without a cut. -/
namespace Go.Proofs.Ytgdlbaabdebclaa
open Go.RowKit
set_option linter.unusedVariables false
set_option linter.unusedSimpArgs false

def turnA (f : Int) : Nat → Int
  | 0 => 0
  | 1 => (if hasS f 1 = true then 4 else 0)
  | 2 => (if hasS f 1 = true then 4 else 0) + (if hasS f 2 = true then 8 else 0)
  | 3 => (if hasS f 1 = true then 4 else 0) + (if hasS f 2 = true then 8 else 0) + (if hasS f 4 = true then 1 else 0)
  | _ => turnF f
theorem turnA_bd (f : Int) (m : Nat) : 0 ≤ turnA f m ∧ turnA f m ≤ 15 := by
  match m with
  | 0 => simp [turnA]
  | 1 => simp only [turnA]; repeat' split
         all_goals omega
  | 2 => simp only [turnA]; repeat' split
         all_goals omega
  | 3 => simp only [turnA]; repeat' split
         all_goals omega
  | _ + 4 => simp only [turnA, turnF]; repeat' split
             all_goals omega
set_option maxRecDepth 100000 in
set_option maxHeartbeats 8000000 in
theorem turned24_any (l : Lot5) (hf : 0 ≤ l.f ∧ l.f ≤ 15) (w : World) : Calls Try.prog 31 #[.agg (encL l).toArray] w fun e w' => e = .returned (.agg #[.int .i64 l.r.y0, .int .i64 l.r.x0, .int .i64 l.r.y1, .int .i64 l.r.x1, .int .u8 (turnF l.f)]) ∧ Below w.heap.size w w' := by
  have HH : Hid (∀ s, isSide s → ∀ W : World, Calls Try.prog 27 #[.int .u8 l.f, .int .u8 s] W fun e w' => e = .returned (.bool (hasS l.f s)) ∧ W = w') := hide (fun s hs W => (rHasS_any (by omega) hs W).mono fun _ _ ⟨a, b⟩ => ⟨a, b.symm⟩)
  have HTF : Hid (turnA l.f 4 = turnF l.f) := hide rfl
  clear hf
  show Calls Try.prog _ #[.agg #[.int .i64 l.r.x0, .int .i64 l.r.y0, .int .i64 l.r.x1, .int .i64 l.r.y1, .int .u8 l.f]] w _
  go_enter Try.func31, Try.ntmps31
  go_wp2_with (fail)
  refine wp_name5 fun W hW => ?_
  have hb0 : Below w.heap.size w W := by
    rw [hW]
    repeat (first | with_reducible exact Below.refl _ _ | with_reducible refine Below.setCell ?_ (by first | (simp; done) | (simp; omega)) _ | with_reducible refine Below.alloc ?_ (by first | omega | (simp; omega) | simp) _)
  have HL : Box5L W w.heap.size l := by rw [hW]; refine ⟨?_, ?_, ?_, ?_, ?_, ?_, ?_, ?_, ?_, ?_⟩ <;> simp [go_sem]
  have HA : Box5 W (w.heap.size + 1) (.int .i64 0) (.int .i64 0) (.int .i64 0) (.int .i64 0) (.int .u8 0) := by rw [hW]; refine ⟨?_, ?_, ?_, ?_, ?_, ?_, ?_, ?_, ?_, ?_⟩ <;> simp [go_sem]
  have hsW : w.heap.size + 2 < W.heap.size := by rw [hW]; simp
  have HC0 : W.cell? ⟨w.heap.size + 1 + 1, 0, none⟩ = some (.int .u8 1) ∧ w.heap.size + 1 + 1 < W.heap.size := ⟨by rw [hW]; simp [go_sem], by omega⟩
  have HC1 : W.cell? ⟨w.heap.size + 1 + 1, 1, none⟩ = some (.int .u8 4) ∧ w.heap.size + 1 + 1 < W.heap.size := ⟨by rw [hW]; simp [go_sem], by omega⟩
  have HC2 : W.cell? ⟨w.heap.size + 1 + 1, 2, none⟩ = some (.int .u8 2) ∧ w.heap.size + 1 + 1 < W.heap.size := ⟨by rw [hW]; simp [go_sem], by omega⟩
  have HC3 : W.cell? ⟨w.heap.size + 1 + 1, 3, none⟩ = some (.int .u8 8) ∧ w.heap.size + 1 + 1 < W.heap.size := ⟨by rw [hW]; simp [go_sem], by omega⟩
  have HC4 : W.cell? ⟨w.heap.size + 1 + 1, 4, none⟩ = some (.int .u8 4) ∧ w.heap.size + 1 + 1 < W.heap.size := ⟨by rw [hW]; simp [go_sem], by omega⟩
  have HC5 : W.cell? ⟨w.heap.size + 1 + 1, 5, none⟩ = some (.int .u8 1) ∧ w.heap.size + 1 + 1 < W.heap.size := ⟨by rw [hW]; simp [go_sem], by omega⟩
  have HC6 : W.cell? ⟨w.heap.size + 1 + 1, 6, none⟩ = some (.int .u8 8) ∧ w.heap.size + 1 + 1 < W.heap.size := ⟨by rw [hW]; simp [go_sem], by omega⟩
  have HC7 : W.cell? ⟨w.heap.size + 1 + 1, 7, none⟩ = some (.int .u8 2) ∧ w.heap.size + 1 + 1 < W.heap.size := ⟨by rw [hW]; simp [go_sem], by omega⟩
  have K0 := hide hb0
  clear hW hb0
  go_loopw [3, 5] (fun s i wr => ∃ m : Nat, m ≤ 4 ∧ s = .int .u8 (turnA l.f m) ∧ i = .int .i64 m ∧ Hid (Below W.heap.size W wr)) (fun _ i _ => 4 - (intOf i).toNat)
  case atStart => exact ⟨0, by omega, rfl, rfl, hide (Below.refl _ _)⟩
  case round =>
    obtain ⟨m, hm, rfl, rfl, HB⟩ := hrel
    have hsw := HB.out.size
    have hm5 : m = 0 ∨ m = 1 ∨ m = 2 ∨ m = 3 ∨ m = 4 := by omega
    have HLr := HL.below HB.out
    have HAr := HA.below HB.out
    obtain ⟨l0, l1, l2, l3, l4, -, -, -, -, -⟩ := id HLr
    have q0 : w.heap.size < wr.heap.size := by omega
    have q1 : w.heap.size + 1 + 1 < wr.heap.size := by omega
    rcases hm5 with rfl | rfl | rfl | rfl | rfl
    · have c0 := (HB.out.cell (p := ⟨w.heap.size + 1 + 1, 0, none⟩) HC0.2).trans HC0.1
      simp only [turnA]
      have zz : ((0 : Nat) : Int) = 0 := rfl
      have HHs := hide (HH.out 1 (by unfold isSide; omega))
      have hz := turnA_bd l.f 0
      simp only [turnA] at hz
      obtain ⟨hz0, hz1⟩ := hz
      obtain ⟨hb, hq⟩ : ∃ hb, hasS l.f 1 = hb := ⟨_, rfl⟩
      rw [hq] at HHs
      have HQ := hide hq
      clear hq
      go_upto_region 6 with fail
      refine wp_hab fun hab => ?_
      refine wp_region_above (by kernel_rfl) (by kernel_rfl) ?_
      repeat (go_big_quiet_step ((go_at_call 27; exact above_same (HHs.out _))))
      refine wpQuiet_nil ?_
      refine above_ends fun w9 hb9 => ?_
      have HB9 : Hid (Below W.heap.size W w9) := hide (HB.out.trans (hb9.mono hsw))
      have c1 := (HB9.out.cell (p := ⟨w.heap.size + 1 + 1, 1, none⟩) HC1.2).trans HC1.1
      clear hab hb9 l4 c0
      cases hb with
      | false =>
        go_wp2_with (fail)
        go_roundw
        case rel => exact ⟨1, by omega, by simp [turnA, turnF, HQ.out], by go_num, HB9⟩
        case measure => simp [intOf]
      | true =>
        go_wp2_with (fail)
        go_roundw
        case rel => exact ⟨1, by omega, by simp [turnA, turnF, HQ.out], by go_num, HB9⟩
        case measure => simp [intOf]
    · have c2 := (HB.out.cell (p := ⟨w.heap.size + 1 + 1, 2, none⟩) HC2.2).trans HC2.1
      simp only [turnA]
      have zz : ((1 : Nat) : Int) = 1 := rfl
      have HHs := hide (HH.out 2 (by unfold isSide; omega))
      have hz := turnA_bd l.f 1
      simp only [turnA] at hz
      obtain ⟨hz0, hz1⟩ := hz
      obtain ⟨hb, hq⟩ : ∃ hb, hasS l.f 2 = hb := ⟨_, rfl⟩
      rw [hq] at HHs
      have HQ := hide hq
      clear hq
      go_upto_region 6 with fail
      refine wp_hab fun hab => ?_
      refine wp_region_above (by kernel_rfl) (by kernel_rfl) ?_
      repeat (go_big_quiet_step ((go_at_call 27; exact above_same (HHs.out _))))
      refine wpQuiet_nil ?_
      refine above_ends fun w9 hb9 => ?_
      have HB9 : Hid (Below W.heap.size W w9) := hide (HB.out.trans (hb9.mono hsw))
      have c3 := (HB9.out.cell (p := ⟨w.heap.size + 1 + 1, 3, none⟩) HC3.2).trans HC3.1
      clear hab hb9 l4 c2
      cases hb with
      | false =>
        go_wp2_with (fail)
        go_roundw
        case rel => exact ⟨2, by omega, by simp [turnA, turnF, HQ.out], by go_num, HB9⟩
        case measure => simp [intOf]
      | true =>
        go_wp2_with (fail)
        go_roundw
        case rel => exact ⟨2, by omega, by simp [turnA, turnF, HQ.out], by go_num, HB9⟩
        case measure => simp [intOf]
    · have c4 := (HB.out.cell (p := ⟨w.heap.size + 1 + 1, 4, none⟩) HC4.2).trans HC4.1
      simp only [turnA]
      have zz : ((2 : Nat) : Int) = 2 := rfl
      have HHs := hide (HH.out 4 (by unfold isSide; omega))
      have hz := turnA_bd l.f 2
      simp only [turnA] at hz
      obtain ⟨hz0, hz1⟩ := hz
      obtain ⟨hb, hq⟩ : ∃ hb, hasS l.f 4 = hb := ⟨_, rfl⟩
      rw [hq] at HHs
      have HQ := hide hq
      clear hq
      go_upto_region 6 with fail
      refine wp_hab fun hab => ?_
      refine wp_region_above (by kernel_rfl) (by kernel_rfl) ?_
      repeat (go_big_quiet_step ((go_at_call 27; exact above_same (HHs.out _))))
      refine wpQuiet_nil ?_
      refine above_ends fun w9 hb9 => ?_
      have HB9 : Hid (Below W.heap.size W w9) := hide (HB.out.trans (hb9.mono hsw))
      have c5 := (HB9.out.cell (p := ⟨w.heap.size + 1 + 1, 5, none⟩) HC5.2).trans HC5.1
      clear hab hb9 l4 c4
      cases hb with
      | false =>
        go_wp2_with (fail)
        go_roundw
        case rel => exact ⟨3, by omega, by simp [turnA, turnF, HQ.out], by go_num, HB9⟩
        case measure => simp [intOf]
      | true =>
        go_wp2_with (fail)
        go_roundw
        case rel => exact ⟨3, by omega, by simp [turnA, turnF, HQ.out], by go_num, HB9⟩
        case measure => simp [intOf]
    · have c6 := (HB.out.cell (p := ⟨w.heap.size + 1 + 1, 6, none⟩) HC6.2).trans HC6.1
      simp only [turnA]
      have zz : ((3 : Nat) : Int) = 3 := rfl
      have HHs := hide (HH.out 8 (by unfold isSide; omega))
      have hz := turnA_bd l.f 3
      simp only [turnA] at hz
      obtain ⟨hz0, hz1⟩ := hz
      obtain ⟨hb, hq⟩ : ∃ hb, hasS l.f 8 = hb := ⟨_, rfl⟩
      rw [hq] at HHs
      have HQ := hide hq
      clear hq
      go_upto_region 6 with fail
      refine wp_hab fun hab => ?_
      refine wp_region_above (by kernel_rfl) (by kernel_rfl) ?_
      repeat (go_big_quiet_step ((go_at_call 27; exact above_same (HHs.out _))))
      refine wpQuiet_nil ?_
      refine above_ends fun w9 hb9 => ?_
      have HB9 : Hid (Below W.heap.size W w9) := hide (HB.out.trans (hb9.mono hsw))
      have c7 := (HB9.out.cell (p := ⟨w.heap.size + 1 + 1, 7, none⟩) HC7.2).trans HC7.1
      clear hab hb9 l4 c6
      cases hb with
      | false =>
        go_wp2_with (fail)
        go_roundw
        case rel => exact ⟨4, by omega, by simp [turnA, turnF, HQ.out], by go_num, HB9⟩
        case measure => simp [intOf]
      | true =>
        go_wp2_with (fail)
        go_roundw
        case rel => exact ⟨4, by omega, by simp [turnA, turnF, HQ.out], by go_num, HB9⟩
        case measure => simp [intOf]
    · rw [HTF.out]
      obtain ⟨a0, a1, a2, a3, a4, af0, af1, af2, af3, af4⟩ := HAr
      have K4 := hide (K0.out.trans (HB.out.mono (by omega)))
      have zz : ((4 : Nat) : Int) = 4 := rfl
      obtain ⟨tf, htf⟩ : ∃ tf, turnF l.f = tf := ⟨_, rfl⟩
      rw [htf]
      have HT2 := hide htf
      clear htf
      clear HB hsw
      go_wp2_with (fail)
      refine exit_name fun V hV => ?_
      have HV : Box5 V (w.heap.size + 1) (.int .i64 l.r.y0) (.int .i64 l.r.x0) (.int .i64 l.r.y1) (.int .i64 l.r.x1) (.int .u8 tf) := by rw [hV]; refine ⟨?_, ?_, ?_, ?_, ?_, ?_, ?_, ?_, ?_, ?_⟩ <;> simp [go_sem, a0, a1, a2, a3, a4, af0, af1, af2, af3, af4]
      have KV : Below w.heap.size w V := by
        rw [hV]
        repeat (first | with_reducible exact K4.out | with_reducible refine Below.setCell ?_ (by first | (simp; done) | (simp; omega)) _)
      clear hV a0 a1 a2 a3 a4
      obtain ⟨a0, a1, a2, a3, a4, -, -, -, -, -⟩ := HV
      refine bodyPost_ret (v := .agg #[.int .i64 l.r.y0, .int .i64 l.r.x0, .int .i64 l.r.y1, .int .i64 l.r.x1, .int .u8 tf]) (by simp [results, Try.results31, go_sem, a0, a1, a2, a3, a4]) rfl ⟨by rw [HT2.out], KV⟩
structure Five5 (w : World) (b : Nat) (v0 v1 v2 v3 v4 : Value) : Prop where
  c0 : w.cell? ⟨b, 0, none⟩ = some v0
  c1 : w.cell? ⟨b, 1, none⟩ = some v1
  c2 : w.cell? ⟨b, 2, none⟩ = some v2
  c3 : w.cell? ⟨b, 3, none⟩ = some v3
  c4 : w.cell? ⟨b, 4, none⟩ = some v4
theorem Five5.set {w : World} {b : Nat} {u0 u1 u2 u3 u4 v0 v1 v2 v3 v4 : Value} (h : Five5 w b u0 u1 u2 u3 u4) : Five5 (((((w.setCell ⟨b, 0, none⟩ v0).setCell ⟨b, 1, none⟩ v1).setCell ⟨b, 2, none⟩ v2).setCell ⟨b, 3, none⟩ v3).setCell ⟨b, 4, none⟩ v4) b v0 v1 v2 v3 v4 := by
  obtain ⟨c0, c1, c2, c3, c4⟩ := h
  refine ⟨?_, ?_, ?_, ?_, ?_⟩ <;> simp [go_sem, c0, c1, c2, c3, c4]
theorem Five5.other {w : World} {b g k : Nat} {v u0 u1 u2 u3 u4 : Value} (h : Five5 w b u0 u1 u2 u3 u4) (hne : b ≠ g) : Five5 (w.setCell ⟨g, k, none⟩ v) b u0 u1 u2 u3 u4 := by
  obtain ⟨c0, c1, c2, c3, c4⟩ := h
  refine ⟨?_, ?_, ?_, ?_, ?_⟩ <;> simp [go_sem, hne, hne.symm, c0, c1, c2, c3, c4]
theorem Five5.other5 {w : World} {b g : Nat} {v0 v1 v2 v3 v4 u0 u1 u2 u3 u4 : Value} (h : Five5 w b u0 u1 u2 u3 u4) (hne : b ≠ g) : Five5 (((((w.setCell ⟨g, 0, none⟩ v0).setCell ⟨g, 1, none⟩ v1).setCell ⟨g, 2, none⟩ v2).setCell ⟨g, 3, none⟩ v3).setCell ⟨g, 4, none⟩ v4) b u0 u1 u2 u3 u4 :=
  ((((h.other hne).other hne).other hne).other hne).other hne
theorem Five5.alloc {w : World} {b : Nat} {o : Obj} {u0 u1 u2 u3 u4 : Value} (h : Five5 w b u0 u1 u2 u3 u4) : Five5 (w.alloc o) b u0 u1 u2 u3 u4 := by
  have hs := lt_of_cell h.c0
  exact ⟨(World.cell?_alloc_lt w o ⟨b, 0, none⟩ hs).trans h.c0, (World.cell?_alloc_lt w o ⟨b, 1, none⟩ hs).trans h.c1, (World.cell?_alloc_lt w o ⟨b, 2, none⟩ hs).trans h.c2, (World.cell?_alloc_lt w o ⟨b, 3, none⟩ hs).trans h.c3, (World.cell?_alloc_lt w o ⟨b, 4, none⟩ hs).trans h.c4⟩
theorem Five5.kept {w X : World} {b : Nat} {u0 u1 u2 u3 u4 : Value} (h : Five5 X b u0 u1 u2 u3 u4) (hc : ∀ (b o : Nat), b < X.heap.size → w.cell? ⟨b, o, none⟩ = X.cell? ⟨b, o, none⟩) : Five5 w b u0 u1 u2 u3 u4 := by
  have hs := lt_of_cell h.c0
  exact ⟨(hc _ _ hs).trans h.c0, (hc _ _ hs).trans h.c1, (hc _ _ hs).trans h.c2, (hc _ _ hs).trans h.c3, (hc _ _ hs).trans h.c4⟩
set_option maxRecDepth 100000 in
set_option maxHeartbeats 8000000 in
theorem turns_bad (l : Lot5) (p : Pl3) (hf : 0 ≤ l.f ∧ l.f ≤ 255) (h0 : (checkL l p == 0) = false) (w : World) : Calls Try.prog 9 #[.agg (encL l).toArray, .agg (encP p).toArray] w fun e w' => e = .returned (.bool true) ∧ Below w.heap.size w w' := by
  have HAL := hide (fun W => alive24_any W)
  have HV1 : Hid (∀ W : World, Calls Try.prog 14 #[.agg #[.int .i64 l.r.x0, .int .i64 l.r.y0, .int .i64 l.r.x1, .int .i64 l.r.y1, .int .u8 l.f], .agg #[.int .i64 p.mf, .int .i64 p.ms, .int .i64 p.ma]] W fun e w' => e = .returned (.bool (checkL l p == 0)) ∧ Below W.heap.size W w') := hide (fun W => valid24_any l p hf W)
  rw [h0] at HV1
  clear h0 hf
  show Calls Try.prog _ #[.agg #[.int .i64 l.r.x0, .int .i64 l.r.y0, .int .i64 l.r.x1, .int .i64 l.r.y1, .int .u8 l.f], .agg #[.int .i64 p.mf, .int .i64 p.ms, .int .i64 p.ma]] w _
  go_enter Try.func9, Try.ntmps9
  go_upto_region 1 with fail
  refine wp_name5 fun W hW => ?_
  have hb0 : Below w.heap.size w W := by rw [hW]; exact ((Below.refl _ _).alloc (Nat.le_refl _) _).alloc (by simp) _
  have hs0 : w.heap.size + 2 ≤ W.heap.size := by rw [hW]; simp
  have HL : Box5L W w.heap.size l := by rw [hW]; refine ⟨?_, ?_, ?_, ?_, ?_, ?_, ?_, ?_, ?_, ?_⟩ <;> simp [go_sem]
  have HP : Box3 W (w.heap.size + 1) (.int .i64 p.mf) (.int .i64 p.ms) (.int .i64 p.ma) := by rw [hW]; refine ⟨?_, ?_, ?_⟩ <;> simp [go_sem]
  obtain ⟨n, hn⟩ : ∃ n, w.heap.size = n := ⟨_, rfl⟩
  have HN := hide hn
  rw [hn] at hb0 hs0 HL HP ⊢
  have K0 := hide hb0
  clear hW hb0 hn
  obtain ⟨l0, l1, l2, l3, l4, -, -, -, -, -⟩ := id HL
  obtain ⟨p0, p1, p2⟩ := id HP
  have q0 : n < W.heap.size := by omega
  have q1 : n + 1 < W.heap.size := by omega
  refine wp_hab fun hab => ?_
  refine wp_region_above (by kernel_rfl) (by kernel_rfl) ?_
  repeat (go_big_quiet_step (((first | (go_at_call 14; exact above_of (HV1.out _))))))
  refine wpQuiet_nil ?_
  refine above_ends fun w1 hb => ?_
  have HL1 := HL.below hb
  have HP1 := HP.below hb
  have hs1 : n + 2 ≤ w1.heap.size := Nat.le_trans hs0 hb.size
  have K1 := hide (K0.out.trans (hb.mono (by omega)))
  clear hab hb q0 q1 HL HP K0 hs0
  try clear l0 l1 l2 l3 l4 p0 p1 p2
  go_wp2_with (fail)
  refine (HAL.out _).mono ?_
  rintro e w2 ⟨rfl, hb⟩
  have K2 := hide (K1.out.trans (hb.mono (by omega)))
  clear hb
  go_wp2_with (fail)
  go_ret
  exact ⟨rfl, by rw [HN.out]; exact K2.out⟩
set_option maxRecDepth 100000 in
set_option maxHeartbeats 8000000 in
theorem turns_even (l : Lot5) (p : Pl3) (hf : 0 ≤ l.f ∧ l.f ≤ 255) (h0 : (checkL l p == 0) = true) (he : l.w = l.h) (w : World) : Calls Try.prog 9 #[.agg (encL l).toArray, .agg (encP p).toArray] w fun e w' => e = .returned (.bool true) ∧ Below w.heap.size w w' := by
  have HAL := hide (fun W => alive24_any W)
  have HV1 : Hid (∀ W : World, Calls Try.prog 14 #[.agg #[.int .i64 l.r.x0, .int .i64 l.r.y0, .int .i64 l.r.x1, .int .i64 l.r.y1, .int .u8 l.f], .agg #[.int .i64 p.mf, .int .i64 p.ms, .int .i64 p.ma]] W fun e w' => e = .returned (.bool (checkL l p == 0)) ∧ Below W.heap.size W w') := hide (fun W => valid24_any l p hf W)
  have hv : validL l := checkL_valid (by simpa using h0)
  have HHE : Hid (∀ W, Calls Try.prog 30 #[.agg #[.int .i64 l.r.x0, .int .i64 l.r.y0, .int .i64 l.r.x1, .int .i64 l.r.y1]] W fun e w' => e = .returned (.int .i64 l.h) ∧ Below W.heap.size W w') := hide (fun W => rHeight_any l.r hv.1 W)
  have HWI : Hid (∀ W, Calls Try.prog 29 #[.agg #[.int .i64 l.r.x0, .int .i64 l.r.y0, .int .i64 l.r.x1, .int .i64 l.r.y1]] W fun e w' => e = .returned (.int .i64 l.w) ∧ Below W.heap.size W w') := hide (fun W => rWidth_any l.r hv.1 W)
  rw [h0] at HV1
  rw [he] at HWI
  clear h0 hf hv he
  generalize l.h = hh at *
  show Calls Try.prog _ #[.agg #[.int .i64 l.r.x0, .int .i64 l.r.y0, .int .i64 l.r.x1, .int .i64 l.r.y1, .int .u8 l.f], .agg #[.int .i64 p.mf, .int .i64 p.ms, .int .i64 p.ma]] w _
  go_enter Try.func9, Try.ntmps9
  go_upto_region 1 with fail
  refine wp_name5 fun W hW => ?_
  have hb0 : Below w.heap.size w W := by rw [hW]; exact ((Below.refl _ _).alloc (Nat.le_refl _) _).alloc (by simp) _
  have hs0 : w.heap.size + 2 ≤ W.heap.size := by rw [hW]; simp
  have HL : Box5L W w.heap.size l := by rw [hW]; refine ⟨?_, ?_, ?_, ?_, ?_, ?_, ?_, ?_, ?_, ?_⟩ <;> simp [go_sem]
  have HP : Box3 W (w.heap.size + 1) (.int .i64 p.mf) (.int .i64 p.ms) (.int .i64 p.ma) := by rw [hW]; refine ⟨?_, ?_, ?_⟩ <;> simp [go_sem]
  obtain ⟨n, hn⟩ : ∃ n, w.heap.size = n := ⟨_, rfl⟩
  have HN := hide hn
  rw [hn] at hb0 hs0 HL HP ⊢
  have K0 := hide hb0
  clear hW hb0 hn
  obtain ⟨l0, l1, l2, l3, l4, -, -, -, -, -⟩ := id HL
  obtain ⟨p0, p1, p2⟩ := id HP
  have q0 : n < W.heap.size := by omega
  have q1 : n + 1 < W.heap.size := by omega
  refine wp_hab fun hab => ?_
  refine wp_region_above (by kernel_rfl) (by kernel_rfl) ?_
  repeat (go_big_quiet_step (((first | (go_at_call 14; exact above_of (HV1.out _)) | (go_at_call 29; exact above_of (HWI.out _)) | (go_at_call 30; exact above_of (HHE.out _))))))
  refine wpQuiet_nil ?_
  refine above_ends fun w1 hb => ?_
  have HL1 := HL.below hb
  have HP1 := HP.below hb
  have hs1 : n + 2 ≤ w1.heap.size := Nat.le_trans hs0 hb.size
  have K1 := hide (K0.out.trans (hb.mono (by omega)))
  clear hab hb q0 q1 HL HP K0 hs0
  try clear l0 l1 l2 l3 l4 p0 p1 p2
  go_wp2_with (fail)
  refine (HAL.out _).mono ?_
  rintro e w2 ⟨rfl, hb⟩
  have K2 := hide (K1.out.trans (hb.mono (by omega)))
  clear hb
  go_wp2_with (fail)
  go_ret
  exact ⟨rfl, by rw [HN.out]; exact K2.out⟩
set_option maxRecDepth 100000 in
set_option maxHeartbeats 16000000 in
theorem turns_none (l : Lot5) (p : Pl3) (hf : 0 ≤ l.f ∧ l.f ≤ 255) (h0 : (checkL l p == 0) = true) (hne : l.w ≠ l.h) (hc : cutL p l = none) (w : World) : Calls Try.prog 9 #[.agg (encL l).toArray, .agg (encP p).toArray] w fun e w' => e = .returned (.bool true) ∧ Below w.heap.size w w' := by
  have HAL := hide (fun W => alive24_any W)
  have HV1 : Hid (∀ W : World, Calls Try.prog 14 #[.agg #[.int .i64 l.r.x0, .int .i64 l.r.y0, .int .i64 l.r.x1, .int .i64 l.r.y1, .int .u8 l.f], .agg #[.int .i64 p.mf, .int .i64 p.ms, .int .i64 p.ma]] W fun e w' => e = .returned (.bool (checkL l p == 0)) ∧ Below W.heap.size W w') := hide (fun W => valid24_any l p hf W)
  have h00 : checkL l p = 0 := by simpa using h0
  have hv : validL l := checkL_valid h00
  have hf15 : 0 ≤ l.f ∧ l.f ≤ 15 := by have := hv.2; omega
  have HHE : Hid (∀ W, Calls Try.prog 30 #[.agg #[.int .i64 l.r.x0, .int .i64 l.r.y0, .int .i64 l.r.x1, .int .i64 l.r.y1]] W fun e w' => e = .returned (.int .i64 l.h) ∧ Below W.heap.size W w') := hide (fun W => rHeight_any l.r hv.1 W)
  have HWI : Hid (∀ W, Calls Try.prog 29 #[.agg #[.int .i64 l.r.x0, .int .i64 l.r.y0, .int .i64 l.r.x1, .int .i64 l.r.y1]] W fun e w' => e = .returned (.int .i64 l.w) ∧ Below W.heap.size W w') := hide (fun W => rWidth_any l.r hv.1 W)
  rw [h0] at HV1
  have hne2 : (l.w == l.h) = false := by simpa using hne
  have hct := turn_cut (p := p) hf15 hne
  rw [hc] at hct
  have hvt := (turn_valid (l := l) hf15).2 hv
  have HTL : Hid (∀ W : World, Calls Try.prog 31 #[.agg #[.int .i64 l.r.x0, .int .i64 l.r.y0, .int .i64 l.r.x1, .int .i64 l.r.y1, .int .u8 l.f]] W fun e w' => e = .returned (.agg #[.int .i64 l.r.y0, .int .i64 l.r.x0, .int .i64 l.r.y1, .int .i64 l.r.x1, .int .u8 (turnF l.f)]) ∧ Below W.heap.size W w') := hide (fun W => turned24_any l hf15 W)
  have HC1 : Hid (∀ W : World, Calls Try.prog 23 #[.agg #[.int .i64 l.r.x0, .int .i64 l.r.y0, .int .i64 l.r.x1, .int .i64 l.r.y1, .int .u8 l.f], .agg #[.int .i64 p.mf, .int .i64 p.ms, .int .i64 p.ma]] W fun e w' => e = .returned (.tuple #[.agg #[.int .i64 0, .int .i64 0, .int .i64 0, .int .i64 0, .int .u8 0], .agg #[.int .i64 0, .int .i64 0, .int .i64 0, .int .i64 0, .int .u8 0], .int .i64 6]) ∧ Below W.heap.size W w') := hide (fun W => by
    have := pcut_any l p hf W
    rw [cutE_none h00 hc] at this
    exact this)
  have HC2 : Hid (∀ W : World, Calls Try.prog 23 #[.agg #[.int .i64 l.r.y0, .int .i64 l.r.x0, .int .i64 l.r.y1, .int .i64 l.r.x1, .int .u8 (turnF l.f)], .agg #[.int .i64 p.mf, .int .i64 p.ms, .int .i64 p.ma]] W fun e w' => e = .returned (.tuple #[.agg #[.int .i64 0, .int .i64 0, .int .i64 0, .int .i64 0, .int .u8 0], .agg #[.int .i64 0, .int .i64 0, .int .i64 0, .int .i64 0, .int .u8 0], .int .i64 6]) ∧ Below W.heap.size W w') := hide (fun W => by
    have := pcut_any (turnL l) p (by have := hvt.2; omega) W
    rw [cutE_none (check_of h00 hvt) hct] at this
    exact this)
  clear h0 h00 hf hv hne hc hct hvt hf15
  generalize l.h = hh at *
  generalize l.w = ww at *
  show Calls Try.prog _ #[.agg #[.int .i64 l.r.x0, .int .i64 l.r.y0, .int .i64 l.r.x1, .int .i64 l.r.y1, .int .u8 l.f], .agg #[.int .i64 p.mf, .int .i64 p.ms, .int .i64 p.ma]] w _
  go_enter Try.func9, Try.ntmps9
  go_upto_region 1 with fail
  refine wp_name5 fun W hW => ?_
  have hb0 : Below w.heap.size w W := by rw [hW]; exact ((Below.refl _ _).alloc (Nat.le_refl _) _).alloc (by simp) _
  have hs0 : w.heap.size + 2 ≤ W.heap.size := by rw [hW]; simp
  have HL : Box5L W w.heap.size l := by rw [hW]; refine ⟨?_, ?_, ?_, ?_, ?_, ?_, ?_, ?_, ?_, ?_⟩ <;> simp [go_sem]
  have HP : Box3 W (w.heap.size + 1) (.int .i64 p.mf) (.int .i64 p.ms) (.int .i64 p.ma) := by rw [hW]; refine ⟨?_, ?_, ?_⟩ <;> simp [go_sem]
  obtain ⟨n, hn⟩ : ∃ n, w.heap.size = n := ⟨_, rfl⟩
  have HN := hide hn
  rw [hn] at hb0 hs0 HL HP ⊢
  have K0 := hide hb0
  clear hW hb0 hn
  obtain ⟨l0, l1, l2, l3, l4, -, -, -, -, -⟩ := id HL
  obtain ⟨p0, p1, p2⟩ := id HP
  have q0 : n < W.heap.size := by omega
  have q1 : n + 1 < W.heap.size := by omega
  refine wp_hab fun hab => ?_
  refine wp_region_above (by kernel_rfl) (by kernel_rfl) ?_
  repeat (go_big_quiet_step (((first | (go_at_call 14; exact above_of (HV1.out _)) | (go_at_call 29; exact above_of (HWI.out _)) | (go_at_call 30; exact above_of (HHE.out _))))))
  refine wpQuiet_nil ?_
  refine above_ends fun w1 hb => ?_
  have HL1 := HL.below hb
  have HP1 := HP.below hb
  have hs1 : n + 2 ≤ w1.heap.size := Nat.le_trans hs0 hb.size
  have K1 := hide (K0.out.trans (hb.mono (by omega)))
  clear hab hb q0 q1 HL HP K0 hs0
  try clear l0 l1 l2 l3 l4 p0 p1 p2
  clear hne2 HV1 HWI HHE
  try clear l0 l1 l2 l3 l4 p0 p1 p2
  obtain ⟨l0, l1, l2, l3, l4, -, -, -, -, -⟩ := id HL1
  obtain ⟨p0, p1, p2⟩ := id HP1
  go_wp2_with (fail)
  refine (HC1.out _).mono ?_
  rintro e w2 ⟨rfl, hb⟩
  have HL2 := HL1.below hb
  have HP2 := HP1.below hb
  have hs2 : n + 2 ≤ w2.heap.size := Nat.le_trans hs1 hb.size
  have K2 := hide (K1.out.trans (hb.mono (by omega)))
  clear hb HL1 HP1 K1 hs1
  try clear l0 l1 l2 l3 l4 p0 p1 p2
  go_upto_region 4 with fail
  refine wp_name5 fun Z hZ => ?_
  have hb : Below w2.heap.size w2 Z := by
    rw [hZ]
    repeat (first | with_reducible exact Below.refl _ _ | with_reducible refine Below.setCell ?_ (by first | (simp; done) | (simp; omega)) _ | with_reducible refine Below.alloc ?_ (by first | omega | (simp; omega) | simp) _)
  have HL3 := HL2.below hb
  have HP3 := HP2.below hb
  have K3 := hide (K2.out.trans (hb.mono (by omega)))
  have hs3 : n + 2 ≤ Z.heap.size := by have := hb.size; omega
  obtain ⟨g, hg⟩ : ∃ g, w2.heap.size = g := ⟨_, rfl⟩
  rw [hg] at hs2 ⊢
  clear hZ hb HL2 HP2 K2 hg HC1
  try clear l0 l1 l2 l3 l4 p0 p1 p2
  obtain ⟨l0, l1, l2, l3, l4, -, -, -, -, -⟩ := id HL3
  obtain ⟨p0, p1, p2⟩ := id HP3
  have q0 : n < Z.heap.size := by omega
  have q1 : n + 1 < Z.heap.size := by omega
  have HK : Hid (Keep8 n 0 (n + 1) l p Z) := hide ⟨⟨l0, l1, l2, l3, l4⟩, p0, p1, p2⟩
  go_cut [8, 9, 10] (fun s8 s9 s10 wx => ∃ g8 g9 : Nat, s8 = .pointer (some ⟨g8, 0, none⟩) ∧ s9 = .pointer (some ⟨g9, 0, none⟩) ∧ s10 = .int .i64 6 ∧ Below Z.heap.size Z wx)
  case first =>
    go_region_held3 (fun w' => (w'.cell? ⟨n, 0, none⟩ = some (.int .i64 l.r.x0) ∧ w'.cell? ⟨n, 1, none⟩ = some (.int .i64 l.r.y0) ∧ w'.cell? ⟨n, 2, none⟩ = some (.int .i64 l.r.x1) ∧ w'.cell? ⟨n, 3, none⟩ = some (.int .i64 l.r.y1) ∧ w'.cell? ⟨n, 4, none⟩ = some (.int .u8 l.f)) ∧ w'.cell? ⟨n + 1, 0, none⟩ = some (.int .i64 p.mf) ∧ w'.cell? ⟨n + 1, 1, none⟩ = some (.int .i64 p.ms) ∧ w'.cell? ⟨n + 1, 2, none⟩ = some (.int .i64 p.ma)) ((refine HK.out.below (B := Z.heap.size) ?_ q0 q1; repeat (first | with_reducible exact Below.refl _ _ | with_reducible exact hbJ | with_reducible exact hbK | with_reducible refine Below.setCell ?_ (by first | omega | (simp; done) | (simp; omega)) _ | with_reducible refine Below.alloc ?_ (by first | omega | (simp; omega) | simp) _ | with_reducible refine Below.drew ?_)))
      (first
        | (go_at_call 31; refine (HTL.out _).mono ?_; rintro e w9 ⟨rfl, hb9⟩; have hbK : Below Z.heap.size Z w9 := Below.trans (by repeat (first | with_reducible exact Below.refl _ _ | with_reducible refine Below.alloc ?_ (by first | omega | (simp; omega) | simp) _ | with_reducible refine Below.drew ?_)) (hb9.mono (by first | omega | (simp; omega) | simp)); have hsK := hbK.size; obtain ⟨hcK, hfK⟩ := bcell hb9; (try have z0 : Z.heap.size < w9.heap.size := by have := hb9.size; first | omega | (simp at this; omega)); (try have z1 : Z.heap.size + 1 < w9.heap.size := by have := hb9.size; first | omega | (simp at this; omega)); (try have y0 : ¬ Z.heap.size = w9.heap.size := by omega); (try have y1 : ¬ w9.heap.size = Z.heap.size := by omega); clear hb9)
        | (go_at_call 23; refine (HC2.out _).mono ?_; rintro e w10 ⟨rfl, hb10⟩; have hbJ : Below Z.heap.size Z w10 := Below.trans (by repeat (first | with_reducible exact Below.refl _ _ | with_reducible exact hbK | with_reducible refine Below.alloc ?_ (by first | omega | (simp; omega) | simp) _ | with_reducible refine Below.drew ?_)) (hb10.mono (by first | omega | (simp; omega) | simp)); have hsJ := hbJ.size; obtain ⟨hcJ, hfJ⟩ := bcell hb10; (try have z2 : Z.heap.size < w10.heap.size := by have := hb10.size; first | omega | (simp at this; omega)); (try have z3 : Z.heap.size + 1 < w10.heap.size := by have := hb10.size; first | omega | (simp at this; omega)); (try have z4 : w9.heap.size < w10.heap.size := by have := hb10.size; first | omega | (simp at this; omega)); (try have z5 : w9.heap.size + 1 < w10.heap.size := by have := hb10.size; first | omega | (simp at this; omega)); (try have y2 : ¬ Z.heap.size = w10.heap.size := by omega); (try have y3 : ¬ w10.heap.size = Z.heap.size := by omega); (try have y4 : ¬ w9.heap.size = w10.heap.size := by omega); (try have y5 : ¬ w10.heap.size = w9.heap.size := by omega); clear hb10))
    all_goals (go_wp2_with (fail); go_meet)
    all_goals
      refine ⟨_, _, rfl, rfl, rfl, ?_⟩
      · repeat (first | with_reducible exact Below.refl _ _ | with_reducible exact hbJ | with_reducible exact hbK | with_reducible refine Below.setCell ?_ (by first | omega | (simp; done) | (simp; omega)) _ | with_reducible refine Below.alloc ?_ (by first | omega | (simp; omega) | simp) _ | with_reducible refine Below.drew ?_)
  case rest =>
    obtain ⟨g8, g9, rfl, rfl, rfl, hb⟩ := hcut
    have K4 := hide (K3.out.trans (hb.mono (by omega)))
    have hs4 : n + 2 ≤ wc.heap.size := by have := hb.size; omega
    clear hb K3 HL3 HP3 HK q0 q1 l0 l1 l2 l3 l4 p0 p1 p2 HC2 HTL
    go_upto_region 7 with fail
    refine wp_hab fun hab => ?_
    refine wp_region_above (by kernel_rfl) (by kernel_rfl) ?_
    repeat (go_big_quiet_step (((first | (go_at_call 15; exact above_of (HAL.out _))))))
    refine wpQuiet_nil ?_
    refine above_ends fun w9 hb => ?_
    have K9 := hide (K4.out.trans (hb.mono (by omega)))
    clear hab hb
    go_wp2_with (fail)
    go_ret
    exact ⟨rfl, by rw [HN.out]; exact K9.out⟩
end Go.Proofs.Ytgdlbaabdebclaa

/- ParcelTurns: the cut of a lot in which x and y change places: the walk. -/
namespace Go.Proofs.Ytgdlbaabdebclaa
open Go.RowKit
set_option linter.unusedVariables false
set_option linter.unusedSimpArgs false

set_option maxRecDepth 100000 in
set_option maxHeartbeats 16000000 in
theorem turns_some (l : Lot5) (p : Pl3) (hf : 0 ≤ l.f ∧ l.f ≤ 255) (h0 : (checkL l p == 0) = true) (hne : l.w ≠ l.h) {a b : Lot5} (hc : cutL p l = some (a, b)) (w : World) : Calls Try.prog 9 #[.agg (encL l).toArray, .agg (encP p).toArray] w fun e w' => e = .returned (.bool true) ∧ Below w.heap.size w w' := by
  have HAL := hide (fun W => alive24_any W)
  have HV1 : Hid (∀ W : World, Calls Try.prog 14 #[.agg #[.int .i64 l.r.x0, .int .i64 l.r.y0, .int .i64 l.r.x1, .int .i64 l.r.y1, .int .u8 l.f], .agg #[.int .i64 p.mf, .int .i64 p.ms, .int .i64 p.ma]] W fun e w' => e = .returned (.bool (checkL l p == 0)) ∧ Below W.heap.size W w') := hide (fun W => valid24_any l p hf W)
  have h00 : checkL l p = 0 := by simpa using h0
  have hv : validL l := checkL_valid h00
  have hf15 : 0 ≤ l.f ∧ l.f ≤ 15 := by have := hv.2; omega
  have HHE : Hid (∀ W, Calls Try.prog 30 #[.agg #[.int .i64 l.r.x0, .int .i64 l.r.y0, .int .i64 l.r.x1, .int .i64 l.r.y1]] W fun e w' => e = .returned (.int .i64 l.h) ∧ Below W.heap.size W w') := hide (fun W => rHeight_any l.r hv.1 W)
  have HWI : Hid (∀ W, Calls Try.prog 29 #[.agg #[.int .i64 l.r.x0, .int .i64 l.r.y0, .int .i64 l.r.x1, .int .i64 l.r.y1]] W fun e w' => e = .returned (.int .i64 l.w) ∧ Below W.heap.size W w') := hide (fun W => rWidth_any l.r hv.1 W)
  rw [h0] at HV1
  have hne2 : (l.w == l.h) = false := by simpa using hne
  have hct := turn_cut (p := p) hf15 hne
  rw [hc] at hct
  have hvt := (turn_valid (l := l) hf15).2 hv
  have HTL : Hid (∀ W : World, Calls Try.prog 31 #[.agg #[.int .i64 l.r.x0, .int .i64 l.r.y0, .int .i64 l.r.x1, .int .i64 l.r.y1, .int .u8 l.f]] W fun e w' => e = .returned (.agg #[.int .i64 l.r.y0, .int .i64 l.r.x0, .int .i64 l.r.y1, .int .i64 l.r.x1, .int .u8 (turnF l.f)]) ∧ Below W.heap.size W w') := hide (fun W => turned24_any l hf15 W)
  have HC1 : Hid (∀ W : World, Calls Try.prog 23 #[.agg #[.int .i64 l.r.x0, .int .i64 l.r.y0, .int .i64 l.r.x1, .int .i64 l.r.y1, .int .u8 l.f], .agg #[.int .i64 p.mf, .int .i64 p.ms, .int .i64 p.ma]] W fun e w' => e = .returned (.tuple #[.agg #[.int .i64 a.r.x0, .int .i64 a.r.y0, .int .i64 a.r.x1, .int .i64 a.r.y1, .int .u8 a.f], .agg #[.int .i64 b.r.x0, .int .i64 b.r.y0, .int .i64 b.r.x1, .int .i64 b.r.y1, .int .u8 b.f], .int .i64 0]) ∧ Below W.heap.size W w') := hide (fun W => by
    have := pcut_any l p hf W
    rw [cutE_some h00 hc] at this
    exact this)
  have HC2 : Hid (∀ W : World, Calls Try.prog 23 #[.agg #[.int .i64 l.r.y0, .int .i64 l.r.x0, .int .i64 l.r.y1, .int .i64 l.r.x1, .int .u8 (turnF l.f)], .agg #[.int .i64 p.mf, .int .i64 p.ms, .int .i64 p.ma]] W fun e w' => e = .returned (.tuple #[.agg #[.int .i64 a.r.y0, .int .i64 a.r.x0, .int .i64 a.r.y1, .int .i64 a.r.x1, .int .u8 (turnF a.f)], .agg #[.int .i64 b.r.y0, .int .i64 b.r.x0, .int .i64 b.r.y1, .int .i64 b.r.x1, .int .u8 (turnF b.f)], .int .i64 0]) ∧ Below W.heap.size W w') := hide (fun W => by
    have := pcut_any (turnL l) p (by have := hvt.2; omega) W
    rw [cutE_some (check_of h00 hvt) hct] at this
    exact this)
  obtain ⟨_, hga, hgb, _⟩ := cutL_some hc
  have ha := hga.1.2
  have hb0 := hgb.1.2
  have fa0 : 0 ≤ a.f := by omega
  have fa1 : a.f ≤ 15 := by omega
  have fb0 : 0 ≤ b.f := by omega
  have fb1 : b.f ≤ 15 := by omega
  have HT : Hid (∀ z : Lot5, 0 ≤ z.f → z.f ≤ 15 → ∀ W : World, Calls Try.prog 31 #[.agg #[.int .i64 z.r.x0, .int .i64 z.r.y0, .int .i64 z.r.x1, .int .i64 z.r.y1, .int .u8 z.f]] W fun e w' => e = .returned (.agg #[.int .i64 z.r.y0, .int .i64 z.r.x0, .int .i64 z.r.y1, .int .i64 z.r.x1, .int .u8 (turnF z.f)]) ∧ Below W.heap.size W w') := hide (fun z h1 h2 W => turned24_any z ⟨h1, h2⟩ W)
  clear ha hb0 hga hgb
  clear h0 h00 hf hv hne hc hct hvt hf15
  generalize l.h = hh at *
  generalize l.w = ww at *
  show Calls Try.prog _ #[.agg #[.int .i64 l.r.x0, .int .i64 l.r.y0, .int .i64 l.r.x1, .int .i64 l.r.y1, .int .u8 l.f], .agg #[.int .i64 p.mf, .int .i64 p.ms, .int .i64 p.ma]] w _
  go_enter Try.func9, Try.ntmps9
  go_upto_region 1 with fail
  refine wp_name5 fun W hW => ?_
  have hb0 : Below w.heap.size w W := by rw [hW]; exact ((Below.refl _ _).alloc (Nat.le_refl _) _).alloc (by simp) _
  have hs0 : w.heap.size + 2 ≤ W.heap.size := by rw [hW]; simp
  have HL : Box5L W w.heap.size l := by rw [hW]; refine ⟨?_, ?_, ?_, ?_, ?_, ?_, ?_, ?_, ?_, ?_⟩ <;> simp [go_sem]
  have HP : Box3 W (w.heap.size + 1) (.int .i64 p.mf) (.int .i64 p.ms) (.int .i64 p.ma) := by rw [hW]; refine ⟨?_, ?_, ?_⟩ <;> simp [go_sem]
  obtain ⟨n, hn⟩ : ∃ n, w.heap.size = n := ⟨_, rfl⟩
  have HN := hide hn
  rw [hn] at hb0 hs0 HL HP ⊢
  have K0 := hide hb0
  clear hW hb0 hn
  obtain ⟨l0, l1, l2, l3, l4, -, -, -, -, -⟩ := id HL
  obtain ⟨p0, p1, p2⟩ := id HP
  have q0 : n < W.heap.size := by omega
  have q1 : n + 1 < W.heap.size := by omega
  refine wp_hab fun hab => ?_
  refine wp_region_above (by kernel_rfl) (by kernel_rfl) ?_
  repeat (go_big_quiet_step (((first | (go_at_call 14; exact above_of (HV1.out _)) | (go_at_call 29; exact above_of (HWI.out _)) | (go_at_call 30; exact above_of (HHE.out _))))))
  refine wpQuiet_nil ?_
  refine above_ends fun w1 hb => ?_
  have HL1 := HL.below hb
  have HP1 := HP.below hb
  have hs1 : n + 2 ≤ w1.heap.size := Nat.le_trans hs0 hb.size
  have K1 := hide (K0.out.trans (hb.mono (by omega)))
  clear hab hb q0 q1 HL HP K0 hs0
  try clear l0 l1 l2 l3 l4 p0 p1 p2
  clear hne2 HV1 HWI HHE
  try clear l0 l1 l2 l3 l4 p0 p1 p2
  obtain ⟨l0, l1, l2, l3, l4, -, -, -, -, -⟩ := id HL1
  obtain ⟨p0, p1, p2⟩ := id HP1
  go_wp2_with (fail)
  refine (HC1.out _).mono ?_
  rintro e w2 ⟨rfl, hb⟩
  have HL2 := HL1.below hb
  have HP2 := HP1.below hb
  have hs2 : n + 2 ≤ w2.heap.size := Nat.le_trans hs1 hb.size
  have K2 := hide (K1.out.trans (hb.mono (by omega)))
  clear hb HL1 HP1 K1 hs1
  try clear l0 l1 l2 l3 l4 p0 p1 p2
  go_upto_region 4 with fail
  refine wp_name5 fun Z hZ => ?_
  have hb : Below w2.heap.size w2 Z := by
    rw [hZ]
    repeat (first | with_reducible exact Below.refl _ _ | with_reducible refine Below.setCell ?_ (by first | (simp; done) | (simp; omega)) _ | with_reducible refine Below.alloc ?_ (by first | omega | (simp; omega) | simp) _)
  have HX3 : Box5L Z w2.heap.size a := by rw [hZ]; refine ⟨?_, ?_, ?_, ?_, ?_, ?_, ?_, ?_, ?_, ?_⟩ <;> simp [go_sem]
  have HY3 : Box5L Z (w2.heap.size + 1) b := by rw [hZ]; refine ⟨?_, ?_, ?_, ?_, ?_, ?_, ?_, ?_, ?_, ?_⟩ <;> simp [go_sem]
  have HL3 := HL2.below hb
  have HP3 := HP2.below hb
  have K3 := hide (K2.out.trans (hb.mono (by omega)))
  have hs3 : n + 2 ≤ Z.heap.size := by have := hb.size; omega
  obtain ⟨g, hg⟩ : ∃ g, w2.heap.size = g := ⟨_, rfl⟩
  rw [hg] at HX3 HY3 hs2 ⊢
  clear hZ hb HL2 HP2 K2 hg HC1
  try clear l0 l1 l2 l3 l4 p0 p1 p2
  obtain ⟨l0, l1, l2, l3, l4, -, -, -, -, -⟩ := id HL3
  obtain ⟨p0, p1, p2⟩ := id HP3
  have q0 : n < Z.heap.size := by omega
  have q1 : n + 1 < Z.heap.size := by omega
  have HK : Hid (Keep8 n 0 (n + 1) l p Z) := hide ⟨⟨l0, l1, l2, l3, l4⟩, p0, p1, p2⟩
  go_cut [8, 9, 10] (fun s8 s9 s10 wx => ∃ g8 g9 : Nat, s8 = .pointer (some ⟨g8, 0, none⟩) ∧ s9 = .pointer (some ⟨g9, 0, none⟩) ∧ s10 = .int .i64 0 ∧ Below Z.heap.size Z wx ∧ Five5 wx g8 (.int .i64 a.r.y0) (.int .i64 a.r.x0) (.int .i64 a.r.y1) (.int .i64 a.r.x1) (.int .u8 (turnF a.f)) ∧ Five5 wx g9 (.int .i64 b.r.y0) (.int .i64 b.r.x0) (.int .i64 b.r.y1) (.int .i64 b.r.x1) (.int .u8 (turnF b.f)))
  case first =>
    go_region_held3 (fun w' => (w'.cell? ⟨n, 0, none⟩ = some (.int .i64 l.r.x0) ∧ w'.cell? ⟨n, 1, none⟩ = some (.int .i64 l.r.y0) ∧ w'.cell? ⟨n, 2, none⟩ = some (.int .i64 l.r.x1) ∧ w'.cell? ⟨n, 3, none⟩ = some (.int .i64 l.r.y1) ∧ w'.cell? ⟨n, 4, none⟩ = some (.int .u8 l.f)) ∧ w'.cell? ⟨n + 1, 0, none⟩ = some (.int .i64 p.mf) ∧ w'.cell? ⟨n + 1, 1, none⟩ = some (.int .i64 p.ms) ∧ w'.cell? ⟨n + 1, 2, none⟩ = some (.int .i64 p.ma)) ((refine HK.out.below (B := Z.heap.size) ?_ q0 q1; repeat (first | with_reducible exact Below.refl _ _ | with_reducible exact hbJ | with_reducible exact hbK | with_reducible refine Below.setCell ?_ (by first | omega | (simp; done) | (simp; omega)) _ | with_reducible refine Below.alloc ?_ (by first | omega | (simp; omega) | simp) _ | with_reducible refine Below.drew ?_)))
      (first
        | (go_at_call 31; refine (HTL.out _).mono ?_; rintro e w9 ⟨rfl, hb9⟩; have hbK : Below Z.heap.size Z w9 := Below.trans (by repeat (first | with_reducible exact Below.refl _ _ | with_reducible refine Below.alloc ?_ (by first | omega | (simp; omega) | simp) _ | with_reducible refine Below.drew ?_)) (hb9.mono (by first | omega | (simp; omega) | simp)); have hsK := hbK.size; obtain ⟨hcK, hfK⟩ := bcell hb9; (try have z0 : Z.heap.size < w9.heap.size := by have := hb9.size; first | omega | (simp at this; omega)); (try have z1 : Z.heap.size + 1 < w9.heap.size := by have := hb9.size; first | omega | (simp at this; omega)); (try have y0 : ¬ Z.heap.size = w9.heap.size := by omega); (try have y1 : ¬ w9.heap.size = Z.heap.size := by omega); clear hb9)
        | (go_at_call 23; refine (HC2.out _).mono ?_; rintro e w10 ⟨rfl, hb10⟩; have hbJ : Below Z.heap.size Z w10 := Below.trans (by repeat (first | with_reducible exact Below.refl _ _ | with_reducible exact hbK | with_reducible refine Below.alloc ?_ (by first | omega | (simp; omega) | simp) _ | with_reducible refine Below.drew ?_)) (hb10.mono (by first | omega | (simp; omega) | simp)); have hsJ := hbJ.size; obtain ⟨hcJ, hfJ⟩ := bcell hb10; (try have z2 : Z.heap.size < w10.heap.size := by have := hb10.size; first | omega | (simp at this; omega)); (try have z3 : Z.heap.size + 1 < w10.heap.size := by have := hb10.size; first | omega | (simp at this; omega)); (try have z4 : w9.heap.size < w10.heap.size := by have := hb10.size; first | omega | (simp at this; omega)); (try have z5 : w9.heap.size + 1 < w10.heap.size := by have := hb10.size; first | omega | (simp at this; omega)); (try have y2 : ¬ Z.heap.size = w10.heap.size := by omega); (try have y3 : ¬ w10.heap.size = Z.heap.size := by omega); (try have y4 : ¬ w9.heap.size = w10.heap.size := by omega); (try have y5 : ¬ w10.heap.size = w9.heap.size := by omega); clear hb10))
    all_goals (go_wp2_with (fail); go_meet)
    all_goals
      refine ⟨_, _, rfl, rfl, rfl, ?_, ?_, ?_⟩
      · repeat (first | with_reducible exact Below.refl _ _ | with_reducible exact hbJ | with_reducible exact hbK | with_reducible refine Below.setCell ?_ (by first | omega | (simp; done) | (simp; omega)) _ | with_reducible refine Below.alloc ?_ (by first | omega | (simp; omega) | simp) _ | with_reducible refine Below.drew ?_)
      · first | (refine ⟨?_, ?_, ?_, ?_, ?_⟩ <;> (simp [go_sem]; done)) | ((with_reducible refine Five5.alloc ?_); (with_reducible refine Five5.set (u0 := .int .i64 0) (u1 := .int .i64 0) (u2 := .int .i64 0) (u3 := .int .i64 0) (u4 := .int .u8 0) ?_); ((with_reducible refine Five5.kept (u0 := .int .i64 0) (u1 := .int .i64 0) (u2 := .int .i64 0) (u3 := .int .i64 0) (u4 := .int .u8 0) ?_ hcJ); first | (refine ⟨?_, ?_, ?_, ?_, ?_⟩ <;> (simp [go_sem]; done)) | ((with_reducible refine Five5.kept ?_ hcK); refine ⟨?_, ?_, ?_, ?_, ?_⟩ <;> (simp [go_sem]; done)) | ((with_reducible refine Five5.alloc ?_); (with_reducible refine Five5.kept ?_ hcK); refine ⟨?_, ?_, ?_, ?_, ?_⟩ <;> (simp [go_sem]; done)))) | ((with_reducible refine Five5.set (u0 := .int .i64 0) (u1 := .int .i64 0) (u2 := .int .i64 0) (u3 := .int .i64 0) (u4 := .int .u8 0) ?_); (with_reducible refine Five5.other5 ?_ ?_); rotate_left 1; (first | assumption | exact Ne.symm (by assumption) | omega); ((with_reducible refine Five5.kept (u0 := .int .i64 0) (u1 := .int .i64 0) (u2 := .int .i64 0) (u3 := .int .i64 0) (u4 := .int .u8 0) ?_ hcJ); first | (refine ⟨?_, ?_, ?_, ?_, ?_⟩ <;> (simp [go_sem]; done)) | ((with_reducible refine Five5.kept ?_ hcK); refine ⟨?_, ?_, ?_, ?_, ?_⟩ <;> (simp [go_sem]; done)) | ((with_reducible refine Five5.alloc ?_); (with_reducible refine Five5.kept ?_ hcK); refine ⟨?_, ?_, ?_, ?_, ?_⟩ <;> (simp [go_sem]; done)))) | ((with_reducible refine Five5.other5 ?_ ?_); rotate_left 1; (first | assumption | exact Ne.symm (by assumption) | omega); (with_reducible refine Five5.set (u0 := .int .i64 0) (u1 := .int .i64 0) (u2 := .int .i64 0) (u3 := .int .i64 0) (u4 := .int .u8 0) ?_); ((with_reducible refine Five5.kept (u0 := .int .i64 0) (u1 := .int .i64 0) (u2 := .int .i64 0) (u3 := .int .i64 0) (u4 := .int .u8 0) ?_ hcJ); first | (refine ⟨?_, ?_, ?_, ?_, ?_⟩ <;> (simp [go_sem]; done)) | ((with_reducible refine Five5.kept ?_ hcK); refine ⟨?_, ?_, ?_, ?_, ?_⟩ <;> (simp [go_sem]; done)) | ((with_reducible refine Five5.alloc ?_); (with_reducible refine Five5.kept ?_ hcK); refine ⟨?_, ?_, ?_, ?_, ?_⟩ <;> (simp [go_sem]; done))))
      · first | (refine ⟨?_, ?_, ?_, ?_, ?_⟩ <;> (simp [go_sem]; done)) | ((with_reducible refine Five5.alloc ?_); (with_reducible refine Five5.set (u0 := .int .i64 0) (u1 := .int .i64 0) (u2 := .int .i64 0) (u3 := .int .i64 0) (u4 := .int .u8 0) ?_); ((with_reducible refine Five5.kept (u0 := .int .i64 0) (u1 := .int .i64 0) (u2 := .int .i64 0) (u3 := .int .i64 0) (u4 := .int .u8 0) ?_ hcJ); first | (refine ⟨?_, ?_, ?_, ?_, ?_⟩ <;> (simp [go_sem]; done)) | ((with_reducible refine Five5.kept ?_ hcK); refine ⟨?_, ?_, ?_, ?_, ?_⟩ <;> (simp [go_sem]; done)) | ((with_reducible refine Five5.alloc ?_); (with_reducible refine Five5.kept ?_ hcK); refine ⟨?_, ?_, ?_, ?_, ?_⟩ <;> (simp [go_sem]; done)))) | ((with_reducible refine Five5.set (u0 := .int .i64 0) (u1 := .int .i64 0) (u2 := .int .i64 0) (u3 := .int .i64 0) (u4 := .int .u8 0) ?_); (with_reducible refine Five5.other5 ?_ ?_); rotate_left 1; (first | assumption | exact Ne.symm (by assumption) | omega); ((with_reducible refine Five5.kept (u0 := .int .i64 0) (u1 := .int .i64 0) (u2 := .int .i64 0) (u3 := .int .i64 0) (u4 := .int .u8 0) ?_ hcJ); first | (refine ⟨?_, ?_, ?_, ?_, ?_⟩ <;> (simp [go_sem]; done)) | ((with_reducible refine Five5.kept ?_ hcK); refine ⟨?_, ?_, ?_, ?_, ?_⟩ <;> (simp [go_sem]; done)) | ((with_reducible refine Five5.alloc ?_); (with_reducible refine Five5.kept ?_ hcK); refine ⟨?_, ?_, ?_, ?_, ?_⟩ <;> (simp [go_sem]; done)))) | ((with_reducible refine Five5.other5 ?_ ?_); rotate_left 1; (first | assumption | exact Ne.symm (by assumption) | omega); (with_reducible refine Five5.set (u0 := .int .i64 0) (u1 := .int .i64 0) (u2 := .int .i64 0) (u3 := .int .i64 0) (u4 := .int .u8 0) ?_); ((with_reducible refine Five5.kept (u0 := .int .i64 0) (u1 := .int .i64 0) (u2 := .int .i64 0) (u3 := .int .i64 0) (u4 := .int .u8 0) ?_ hcJ); first | (refine ⟨?_, ?_, ?_, ?_, ?_⟩ <;> (simp [go_sem]; done)) | ((with_reducible refine Five5.kept ?_ hcK); refine ⟨?_, ?_, ?_, ?_, ?_⟩ <;> (simp [go_sem]; done)) | ((with_reducible refine Five5.alloc ?_); (with_reducible refine Five5.kept ?_ hcK); refine ⟨?_, ?_, ?_, ?_, ?_⟩ <;> (simp [go_sem]; done))))
  case rest =>
    obtain ⟨g8, g9, rfl, rfl, rfl, hb, H8, H9⟩ := hcut
    have K4 := hide (K3.out.trans (hb.mono (by omega)))
    have hs4 : n + 2 ≤ wc.heap.size := by have := hb.size; omega
    have HX4 := HX3.below hb
    have HY4 := HY3.below hb
    obtain ⟨a0, a1, a2, a3, a4, -, -, -, -, -⟩ := HX4
    obtain ⟨b0, b1, b2, b3, b4, -, -, -, -, -⟩ := HY4
    obtain ⟨c0, c1, c2, c3, c4⟩ := H8
    obtain ⟨d0, d1, d2, d3, d4⟩ := H9
    have r0 : g < wc.heap.size := lt_of_cell a0
    have r1 : g + 1 < wc.heap.size := lt_of_cell b0
    have r2 : g8 < wc.heap.size := lt_of_cell c0
    have r3 : g9 < wc.heap.size := lt_of_cell d0
    have gq : Try.prog.eqGuardType Try.prog.depth 25 = false := by kernel_rfl
    clear hb K3 HL3 HP3 HK q0 q1 l0 l1 l2 l3 l4 p0 p1 p2 HC2 HTL
    go_upto_region 7 with fail
    refine wp_hab fun hab => ?_
    refine wp_region_above (by kernel_rfl) (by kernel_rfl) ?_
    repeat (go_big_quiet_step (((first | (go_at_call 31; exact above_of (HT.out _ (by assumption) (by assumption) _)) | (go_at_call 15; exact above_of (HAL.out _))))))
    refine wpQuiet_nil ?_
    refine above_ends fun w9 hb => ?_
    have K9 := hide (K4.out.trans (hb.mono (by omega)))
    clear hab hb
    go_wp2_with (fail)
    go_ret
    exact ⟨rfl, by rw [HN.out]; exact K9.out⟩
theorem turns_walk (l : Lot5) (p : Pl3) (hf : 0 ≤ l.f ∧ l.f ≤ 255) (w : World) : Calls Try.prog 9 #[.agg (encL l).toArray, .agg (encP p).toArray] w fun e w' => e = .returned (.bool true) ∧ Below w.heap.size w w' := by
  by_cases h0 : (checkL l p == 0) = true
  · by_cases he : l.w = l.h
    · exact turns_even l p hf h0 he w
    · cases hc : cutL p l with
      | none => exact turns_none l p hf h0 he hc w
      | some x => exact turns_some l p hf h0 he hc w
  · exact turns_bad l p hf (by simpa using h0) w
end Go.Proofs.Ytgdlbaabdebclaa
