/- Texts laid together: ParLf. Lemmas for the statements of this seat; no condition. -/
import Derived.Test.YtgdlbaabdebclaaPk8

/- ParcelFronts: the fronts of the lots of a lot: the walk. -/
namespace Go.Proofs.Ytgdlbaabdebclaa
open Go.RowKit
set_option linter.unusedVariables false
set_option linter.unusedSimpArgs false

def sideV : Nat → Int
  | 0 => 1
  | 1 => 2
  | 2 => 4
  | 3 => 8
  | _ => 16
set_option maxRecDepth 100000 in
set_option maxHeartbeats 4000000 in
theorem on24_any (a b : R4) (s : Int) (hs : isSide s) (w : World) : Calls Try.prog 28 #[.agg #[.int .i64 a.x0, .int .i64 a.y0, .int .i64 a.x1, .int .i64 a.y1], .agg #[.int .i64 b.x0, .int .i64 b.y0, .int .i64 b.x1, .int .i64 b.y1], .int .u8 s] w fun e w' => e = .returned (.bool (onS a b s)) ∧ Below w.heap.size w w' := by
  rcases hs with rfl | rfl | rfl | rfl
  all_goals
    go_enter Try.func28, Try.ntmps28
    go_wp2
    go_ret
    refine ⟨ret_eq (bool_eq ?_), ((Below.refl _ _).alloc (Nat.le_refl _) _).alloc (by simp) _⟩
    unfold onS
    first
      | rfl
      | (rw [Bool.eq_iff_iff]; simp)
theorem leaves_was {p : Pl3} {l x : Lot5} (hx : x ∈ leaves p l) : decide (goodL p l) = true → decide (goodL p x) = true := fun h => by
  rcases leaves_good p l x hx with rfl | h2
  · exact h
  · exact decide_eq_true h2
theorem good_ok {x : Lot5} {p : Pl3} (h : checkL x p = 0) : goodR x p = (decide (goodL p x), 0) := if_pos h
set_option maxRecDepth 100000 in
set_option maxHeartbeats 16000000 in
theorem fronts_walk (l : Lot5) (p : Pl3) (hf : 0 ≤ l.f ∧ l.f ≤ 255) (w : World) : Calls Try.prog 7 #[.agg (encL l).toArray, .agg (encP p).toArray] w fun e w' => e = .returned (.bool true) ∧ Below w.heap.size w w' := by
  have HV := hide (fun W => valid24_any l p hf W)
  have HAL := hide (fun W => alive24_any W)
  by_cases h0 : checkL l p = 0
  · have hv := checkL_valid h0
    have hS := fun W => psplit_any l p hf W
    rw [h0] at HV
    have HV1 : Hid (∀ W : World, Calls Try.prog 14 #[.agg #[.int .i64 l.r.x0, .int .i64 l.r.y0, .int .i64 l.r.x1, .int .i64 l.r.y1, .int .u8 l.f], .agg #[.int .i64 p.mf, .int .i64 p.ms, .int .i64 p.ma]] W fun e w' => e = .returned (.bool true) ∧ Below W.heap.size W w') := hide HV.out
    clear HV
    by_cases h4 : (leaves p l).length ≤ 400
    · have hR : splitR l p = (leaves p l, 0) := by unfold splitR; rw [if_pos h0, if_pos h4]
      rw [hR] at hS
      have HGL : Hid (∀ W : World, Calls Try.prog 19 #[.agg #[.int .i64 l.r.x0, .int .i64 l.r.y0, .int .i64 l.r.x1, .int .i64 l.r.y1, .int .u8 l.f], .agg #[.int .i64 p.mf, .int .i64 p.ms, .int .i64 p.ma]] W fun e w' => e = .returned (.tuple #[.bool (decide (goodL p l)), .int .i64 0]) ∧ Below W.heap.size W w') := hide (fun W => by
        have := pgood_any l p hf W
        rw [good_ok h0] at this
        exact this)
      have HGX : Hid (∀ x ∈ leaves p l, (decide (goodL p l) = true → decide (goodL p x) = true) ∧ ∀ W : World, Calls Try.prog 19 #[.agg #[.int .i64 x.r.x0, .int .i64 x.r.y0, .int .i64 x.r.x1, .int .i64 x.r.y1, .int .u8 x.f], .agg #[.int .i64 p.mf, .int .i64 p.ms, .int .i64 p.ma]] W fun e w' => e = .returned (.tuple #[.bool (decide (goodL p x)), .int .i64 0]) ∧ Below W.heap.size W w') := hide (fun x hx => ⟨leaves_was hx, fun W => by
        have hxv := leaves_valid hv x hx
        have := pgood_any x p (by have := hxv.2; omega) W
        rw [good_ok (check_of h0 hxv)] at this
        exact this⟩)
      have HFR : Hid (∀ x ∈ leaves p l, ∀ s, isSide s → hasS x.f s = (hasS l.f s && onS x.r l.r s)) := hide (fun x hx s hs => leaves_front p hs l hv x hx)
      have HVL := hide (fun x hx => leaves_valid (p := p) hv x hx)
      have hlf := hv.2
      have hlf0 : 0 ≤ l.f := by omega
      have hlf1 : l.f ≤ 255 := by omega
      have HH : Hid (∀ s, isSide s → ∀ f, 0 ≤ f → f ≤ 255 → ∀ W : World, Calls Try.prog 27 #[.int .u8 f, .int .u8 s] W fun e w' => e = .returned (.bool (hasS f s)) ∧ W = w') := hide (fun s hs f h1 h2 W => (rHasS_any ⟨h1, h2⟩ hs W).mono fun _ _ ⟨a, b⟩ => ⟨a, b.symm⟩)
      have HON : Hid (∀ s, isSide s → ∀ (a b : R4) (W : World), Calls Try.prog 28 #[.agg #[.int .i64 a.x0, .int .i64 a.y0, .int .i64 a.x1, .int .i64 a.y1], .agg #[.int .i64 b.x0, .int .i64 b.y0, .int .i64 b.x1, .int .i64 b.y1], .int .u8 s] W fun e w' => e = .returned (.bool (onS a b s)) ∧ Below W.heap.size W w') := hide (fun s hs a b W => on24_any a b s hs W)
      generalize decide (goodL p l) = G at *
      generalize leaves p l = Q at *
      clear hlf
      have HS : Hid (∀ W : World, Calls Try.prog 11 #[.agg #[.int .i64 l.r.x0, .int .i64 l.r.y0, .int .i64 l.r.x1, .int .i64 l.r.y1, .int .u8 l.f], .agg #[.int .i64 p.mf, .int .i64 p.ms, .int .i64 p.ma]] W (LotsRet W (Q, 0))) := hide hS
      clear hS hR h0 hv hf
      show Calls Try.prog _ #[.agg #[.int .i64 l.r.x0, .int .i64 l.r.y0, .int .i64 l.r.x1, .int .i64 l.r.y1, .int .u8 l.f], .agg #[.int .i64 p.mf, .int .i64 p.ms, .int .i64 p.ma]] w _
      go_enter Try.func7, Try.ntmps7
      go_wp2_with (fail)
      obtain ⟨W, hW⟩ : ∃ x, x = (w.alloc (.cells #[.int .i64 l.r.x0, .int .i64 l.r.y0, .int .i64 l.r.x1, .int .i64 l.r.y1, .int .u8 l.f] 25)).alloc (.cells #[.int .i64 p.mf, .int .i64 p.ms, .int .i64 p.ma] 27) := ⟨_, rfl⟩
      rw [← hW]
      have hb0 : Below w.heap.size w W := by rw [hW]; exact ((Below.refl _ _).alloc (Nat.le_refl _) _).alloc (by simp) _
      have hs0 : w.heap.size + 2 ≤ W.heap.size := by rw [hW]; simp
      have HL : Box5L W w.heap.size l := by rw [hW]; refine ⟨?_, ?_, ?_, ?_, ?_, ?_, ?_, ?_, ?_, ?_⟩ <;> simp [go_sem]
      have HP : Box3 W (w.heap.size + 1) (.int .i64 p.mf) (.int .i64 p.ms) (.int .i64 p.ma) := by rw [hW]; refine ⟨?_, ?_, ?_⟩ <;> simp [go_sem]
      obtain ⟨n, hn⟩ : ∃ n, w.heap.size = n := ⟨_, rfl⟩
      have HN := hide hn
      rw [hn] at hb0 hs0 HL HP ⊢
      have K0 := hide hb0
      clear hW hb0 hn
      refine (HV1.out _).mono ?_
      rintro e w1 ⟨rfl, hb⟩
      have HL1 := HL.below hb
      have HP1 := HP.below hb
      have hs1 : n + 2 ≤ w1.heap.size := Nat.le_trans hs0 hb.size
      have K1 := hide (K0.out.trans (hb.mono (by omega)))
      clear hb HL HP K0 hs0
      try clear l0 l1 l2 l3 l4 p0 p1 p2
      obtain ⟨l0, l1, l2, l3, l4, -, -, -, -, -⟩ := id HL1
      obtain ⟨p0, p1, p2⟩ := id HP1
      go_wp2_with (fail)
      refine (HS.out _).mono ?_
      rintro e w2 ⟨⟨A1, c1, rfl, ho⟩, hb⟩
      have HL2 := HL1.below hb
      have HP2 := HP1.below hb
      have hs2 : n + 2 ≤ w2.heap.size := Nat.le_trans hs1 hb.size
      have K2 := hide (K1.out.trans (hb.mono (by omega)))
      have HO2 : Hid (RdK encL 5 w2 w2.heap.size (.slice A1 Q.length c1) Q) := hide (own_rd ho (fun _ => rfl))
      clear ho HV1 HS
      clear hb HL1 HP1 K1 hs1
      try clear l0 l1 l2 l3 l4 p0 p1 p2
      obtain ⟨l0, l1, l2, l3, l4, -, -, -, -, -⟩ := id HL2
      obtain ⟨p0, p1, p2⟩ := id HP2
      go_wp2_with (fail)
      refine (HGL.out _).mono ?_
      rintro e w3 ⟨rfl, hb⟩
      have HO3 := hide ((HO2.out.below hb).mono hb.size)
      have HL3 := HL2.below hb
      have HP3 := HP2.below hb
      have hs3 : n + 2 ≤ w3.heap.size := Nat.le_trans hs2 hb.size
      have K3 := hide (K2.out.trans (hb.mono (by omega)))
      clear HO2 HGL
      clear hb HL2 HP2 K2 hs2
      try clear l0 l1 l2 l3 l4 p0 p1 p2
      go_wp2_with (fail)
      go_loopw [9] (fun i wr => ∃ m : Nat, m ≤ Q.length ∧ i = .int .i64 m ∧ Hid (Below w3.heap.size w3 wr)) (fun i _ => Q.length - (intOf i).toNat)
      case atStart => exact ⟨0, Nat.zero_le _, rfl, hide (Below.refl _ _)⟩
      case round =>
        obtain ⟨m, hm, rfl, HB⟩ := hrel
        have hsw := HB.out.size
        by_cases hlt : m < Q.length
        · obtain ⟨x, hx⟩ : ∃ x, Q[m]? = some x := ⟨_, List.getElem?_eq_getElem hlt⟩
          obtain ⟨b, o, rfl, hbl, k⟩ := HO3.out.cells5 (by intro e; rw [e] at hlt; simp at hlt)
          have d0 : wr.cell? ⟨b, o + m * 5, none⟩ = some (.int .i64 x.r.x0) := (HB.out.cell (p := ⟨b, _, none⟩) hbl).trans (k m _ hx 0 _ rfl)
          have d1 : wr.cell? ⟨b, o + m * 5 + 1, none⟩ = some (.int .i64 x.r.y0) := (HB.out.cell (p := ⟨b, _, none⟩) hbl).trans (k m _ hx 1 _ rfl)
          have d2 : wr.cell? ⟨b, o + m * 5 + 2, none⟩ = some (.int .i64 x.r.x1) := (HB.out.cell (p := ⟨b, _, none⟩) hbl).trans (k m _ hx 2 _ rfl)
          have d3 : wr.cell? ⟨b, o + m * 5 + 3, none⟩ = some (.int .i64 x.r.y1) := (HB.out.cell (p := ⟨b, _, none⟩) hbl).trans (k m _ hx 3 _ rfl)
          have d4 : wr.cell? ⟨b, o + m * 5 + 4, none⟩ = some (.int .u8 x.f) := (HB.out.cell (p := ⟨b, _, none⟩) hbl).trans (k m _ hx 4 _ rfl)
          have mz : (m : Int) < (Q.length : Int) := by omega
          have HX := hide hx
          have HC5 : Hid (∀ i u, (encL x)[i]? = some u → w3.cell? ⟨b, o + m * 5 + i, none⟩ = some u) := hide (k m _ hx)
          clear k hx
          obtain ⟨p0, p1, p2⟩ := HP3.below HB.out
          obtain ⟨hwas, hgx⟩ := HGX.out x (List.mem_of_getElem? HX.out)
          have HE := hide (HFR.out x (List.mem_of_getElem? HX.out))
          have hxf := (HVL.out x (List.mem_of_getElem? HX.out)).2
          have hxf0 : 0 ≤ x.f := by omega
          have hxf1 : x.f ≤ 255 := by omega
          have HGC := hide hgx
          have q0 : b < wr.heap.size := by omega
          have q1 : n + 1 < wr.heap.size := by omega
          clear hxf hgx
          generalize decide (goodL p x) = GX at *
          go_wp2_with (fail)
          refine wp_hab fun hab => ?_
          refine wp_region_above (by kernel_rfl) (by kernel_rfl) ?_
          repeat (go_big_quiet_step ((go_at_call 19; exact above_of (HGC.out _))))
          refine wpQuiet_nil ?_
          refine above_ends fun w4 hb => ?_
          have HB4 : Hid (Below w3.heap.size w3 w4) := hide (HB.out.trans (hb.mono hsw))
          have hs4 := HB4.out.size
          clear hab hb d0 d1 d2 d3 d4 p0 p1 p2 HB hsw q0 q1
          cases G with
          | false =>
            go_wp2_with (fail)
            go_loopw [12] (fun s wi => ∃ j : Nat, j ≤ 4 ∧ s = .int .u8 (sideV j) ∧ Hid (Below w4.heap.size w4 wi)) (fun s _ => (16 - intOf s).toNat)
            case atStart => exact ⟨0, by omega, rfl, hide (Below.refl _ _)⟩
            case round =>
              obtain ⟨j, hj, rfl, HBi⟩ := hrel
              have hswi := HBi.out.size
              have hj5 : j = 0 ∨ j = 1 ∨ j = 2 ∨ j = 3 ∨ j = 4 := by omega
              have HBw := hide (HB4.out.trans (HBi.out.mono hs4))
              have HLi := HL3.below HBw.out
              obtain ⟨l0, l1, l2, l3, l4, -, -, -, -, -⟩ := id HLi
              have q0 : b < wr.heap.size := by omega
              have q1 : n < wr.heap.size := by omega
              have d0 : wr.cell? ⟨b, o + m * 5, none⟩ = some (.int .i64 x.r.x0) := (HBw.out.cell (p := ⟨b, _, none⟩) hbl).trans (HC5.out 0 _ rfl)
              have d1 : wr.cell? ⟨b, o + m * 5 + 1, none⟩ = some (.int .i64 x.r.y0) := (HBw.out.cell (p := ⟨b, _, none⟩) hbl).trans (HC5.out 1 _ rfl)
              have d2 : wr.cell? ⟨b, o + m * 5 + 2, none⟩ = some (.int .i64 x.r.x1) := (HBw.out.cell (p := ⟨b, _, none⟩) hbl).trans (HC5.out 2 _ rfl)
              have d3 : wr.cell? ⟨b, o + m * 5 + 3, none⟩ = some (.int .i64 x.r.y1) := (HBw.out.cell (p := ⟨b, _, none⟩) hbl).trans (HC5.out 3 _ rfl)
              have d4 : wr.cell? ⟨b, o + m * 5 + 4, none⟩ = some (.int .u8 x.f) := (HBw.out.cell (p := ⟨b, _, none⟩) hbl).trans (HC5.out 4 _ rfl)
              rcases hj5 with rfl | rfl | rfl | rfl | rfl
              · simp only [sideV]
                have hs : isSide 1 := by unfold isSide; omega
                have HHx : Hid (∀ W : World, Calls Try.prog 27 #[.int .u8 x.f, .int .u8 1] W fun e w' => e = .returned (.bool (hasS x.f 1)) ∧ W = w') := hide (HH.out 1 hs x.f hxf0 hxf1)
                have HHl : Hid (∀ W : World, Calls Try.prog 27 #[.int .u8 l.f, .int .u8 1] W fun e w' => e = .returned (.bool (hasS l.f 1)) ∧ W = w') := hide (HH.out 1 hs l.f hlf0 hlf1)
                have HONs := hide (HON.out 1 hs x.r l.r)
                have hE := HE.out 1 hs
                rw [hE] at HHx
                generalize onS x.r l.r 1 = t at *
                generalize hasS l.f 1 = hl at *
                clear hE
                cases hl with
                | false =>
                  simp only [Bool.false_and] at HHx
                  go_upto_region 18 with fail
                  refine wp_hab fun hab => ?_
                  refine wp_region_above (by kernel_rfl) (by kernel_rfl) ?_
                  repeat (go_big_quiet_step (((first | (go_at_call 27; first | (with_reducible exact above_same (HHx.out _)) | (with_reducible exact above_same (HHl.out _))) | (go_at_call 28; exact above_of (HONs.out _))))))
                  refine wpQuiet_nil ?_
                  refine above_ends fun w9 hb => ?_
                  have HB9 : Hid (Below w4.heap.size w4 w9) := hide (HBi.out.trans (hb.mono hswi))
                  clear hab hb d0 d1 d2 d3 d4 l0 l1 l2 l3 l4 HBi
                  go_wp2_with (fail)
                  go_roundw
                  case rel => exact ⟨1, by omega, by simp [sideV], HB9⟩
                  case measure => simp [intOf, sideV]
                | true =>
                  simp only [Bool.true_and] at HHx
                  go_upto_region 18 with fail
                  refine wp_hab fun hab => ?_
                  refine wp_region_above (by kernel_rfl) (by kernel_rfl) ?_
                  repeat (go_big_quiet_step (((first | (go_at_call 27; first | (with_reducible exact above_same (HHx.out _)) | (with_reducible exact above_same (HHl.out _))) | (go_at_call 28; exact above_of (HONs.out _))))))
                  refine wpQuiet_nil ?_
                  refine above_ends fun w9 hb => ?_
                  have HB9 : Hid (Below w4.heap.size w4 w9) := hide (HBi.out.trans (hb.mono hswi))
                  clear hab hb d0 d1 d2 d3 d4 l0 l1 l2 l3 l4 HBi
                  go_wp2_with (fail)
                  go_roundw
                  case rel => exact ⟨1, by omega, by simp [sideV], HB9⟩
                  case measure => simp [intOf, sideV]
              · simp only [sideV]
                have hs : isSide 2 := by unfold isSide; omega
                have HHx : Hid (∀ W : World, Calls Try.prog 27 #[.int .u8 x.f, .int .u8 2] W fun e w' => e = .returned (.bool (hasS x.f 2)) ∧ W = w') := hide (HH.out 2 hs x.f hxf0 hxf1)
                have HHl : Hid (∀ W : World, Calls Try.prog 27 #[.int .u8 l.f, .int .u8 2] W fun e w' => e = .returned (.bool (hasS l.f 2)) ∧ W = w') := hide (HH.out 2 hs l.f hlf0 hlf1)
                have HONs := hide (HON.out 2 hs x.r l.r)
                have hE := HE.out 2 hs
                rw [hE] at HHx
                generalize onS x.r l.r 2 = t at *
                generalize hasS l.f 2 = hl at *
                clear hE
                cases hl with
                | false =>
                  simp only [Bool.false_and] at HHx
                  go_upto_region 18 with fail
                  refine wp_hab fun hab => ?_
                  refine wp_region_above (by kernel_rfl) (by kernel_rfl) ?_
                  repeat (go_big_quiet_step (((first | (go_at_call 27; first | (with_reducible exact above_same (HHx.out _)) | (with_reducible exact above_same (HHl.out _))) | (go_at_call 28; exact above_of (HONs.out _))))))
                  refine wpQuiet_nil ?_
                  refine above_ends fun w9 hb => ?_
                  have HB9 : Hid (Below w4.heap.size w4 w9) := hide (HBi.out.trans (hb.mono hswi))
                  clear hab hb d0 d1 d2 d3 d4 l0 l1 l2 l3 l4 HBi
                  go_wp2_with (fail)
                  go_roundw
                  case rel => exact ⟨2, by omega, by simp [sideV], HB9⟩
                  case measure => simp [intOf, sideV]
                | true =>
                  simp only [Bool.true_and] at HHx
                  go_upto_region 18 with fail
                  refine wp_hab fun hab => ?_
                  refine wp_region_above (by kernel_rfl) (by kernel_rfl) ?_
                  repeat (go_big_quiet_step (((first | (go_at_call 27; first | (with_reducible exact above_same (HHx.out _)) | (with_reducible exact above_same (HHl.out _))) | (go_at_call 28; exact above_of (HONs.out _))))))
                  refine wpQuiet_nil ?_
                  refine above_ends fun w9 hb => ?_
                  have HB9 : Hid (Below w4.heap.size w4 w9) := hide (HBi.out.trans (hb.mono hswi))
                  clear hab hb d0 d1 d2 d3 d4 l0 l1 l2 l3 l4 HBi
                  go_wp2_with (fail)
                  go_roundw
                  case rel => exact ⟨2, by omega, by simp [sideV], HB9⟩
                  case measure => simp [intOf, sideV]
              · simp only [sideV]
                have hs : isSide 4 := by unfold isSide; omega
                have HHx : Hid (∀ W : World, Calls Try.prog 27 #[.int .u8 x.f, .int .u8 4] W fun e w' => e = .returned (.bool (hasS x.f 4)) ∧ W = w') := hide (HH.out 4 hs x.f hxf0 hxf1)
                have HHl : Hid (∀ W : World, Calls Try.prog 27 #[.int .u8 l.f, .int .u8 4] W fun e w' => e = .returned (.bool (hasS l.f 4)) ∧ W = w') := hide (HH.out 4 hs l.f hlf0 hlf1)
                have HONs := hide (HON.out 4 hs x.r l.r)
                have hE := HE.out 4 hs
                rw [hE] at HHx
                generalize onS x.r l.r 4 = t at *
                generalize hasS l.f 4 = hl at *
                clear hE
                cases hl with
                | false =>
                  simp only [Bool.false_and] at HHx
                  go_upto_region 18 with fail
                  refine wp_hab fun hab => ?_
                  refine wp_region_above (by kernel_rfl) (by kernel_rfl) ?_
                  repeat (go_big_quiet_step (((first | (go_at_call 27; first | (with_reducible exact above_same (HHx.out _)) | (with_reducible exact above_same (HHl.out _))) | (go_at_call 28; exact above_of (HONs.out _))))))
                  refine wpQuiet_nil ?_
                  refine above_ends fun w9 hb => ?_
                  have HB9 : Hid (Below w4.heap.size w4 w9) := hide (HBi.out.trans (hb.mono hswi))
                  clear hab hb d0 d1 d2 d3 d4 l0 l1 l2 l3 l4 HBi
                  go_wp2_with (fail)
                  go_roundw
                  case rel => exact ⟨3, by omega, by simp [sideV], HB9⟩
                  case measure => simp [intOf, sideV]
                | true =>
                  simp only [Bool.true_and] at HHx
                  go_upto_region 18 with fail
                  refine wp_hab fun hab => ?_
                  refine wp_region_above (by kernel_rfl) (by kernel_rfl) ?_
                  repeat (go_big_quiet_step (((first | (go_at_call 27; first | (with_reducible exact above_same (HHx.out _)) | (with_reducible exact above_same (HHl.out _))) | (go_at_call 28; exact above_of (HONs.out _))))))
                  refine wpQuiet_nil ?_
                  refine above_ends fun w9 hb => ?_
                  have HB9 : Hid (Below w4.heap.size w4 w9) := hide (HBi.out.trans (hb.mono hswi))
                  clear hab hb d0 d1 d2 d3 d4 l0 l1 l2 l3 l4 HBi
                  go_wp2_with (fail)
                  go_roundw
                  case rel => exact ⟨3, by omega, by simp [sideV], HB9⟩
                  case measure => simp [intOf, sideV]
              · simp only [sideV]
                have hs : isSide 8 := by unfold isSide; omega
                have HHx : Hid (∀ W : World, Calls Try.prog 27 #[.int .u8 x.f, .int .u8 8] W fun e w' => e = .returned (.bool (hasS x.f 8)) ∧ W = w') := hide (HH.out 8 hs x.f hxf0 hxf1)
                have HHl : Hid (∀ W : World, Calls Try.prog 27 #[.int .u8 l.f, .int .u8 8] W fun e w' => e = .returned (.bool (hasS l.f 8)) ∧ W = w') := hide (HH.out 8 hs l.f hlf0 hlf1)
                have HONs := hide (HON.out 8 hs x.r l.r)
                have hE := HE.out 8 hs
                rw [hE] at HHx
                generalize onS x.r l.r 8 = t at *
                generalize hasS l.f 8 = hl at *
                clear hE
                cases hl with
                | false =>
                  simp only [Bool.false_and] at HHx
                  go_upto_region 18 with fail
                  refine wp_hab fun hab => ?_
                  refine wp_region_above (by kernel_rfl) (by kernel_rfl) ?_
                  repeat (go_big_quiet_step (((first | (go_at_call 27; first | (with_reducible exact above_same (HHx.out _)) | (with_reducible exact above_same (HHl.out _))) | (go_at_call 28; exact above_of (HONs.out _))))))
                  refine wpQuiet_nil ?_
                  refine above_ends fun w9 hb => ?_
                  have HB9 : Hid (Below w4.heap.size w4 w9) := hide (HBi.out.trans (hb.mono hswi))
                  clear hab hb d0 d1 d2 d3 d4 l0 l1 l2 l3 l4 HBi
                  go_wp2_with (fail)
                  go_roundw
                  case rel => exact ⟨4, by omega, by simp [sideV], HB9⟩
                  case measure => simp [intOf, sideV]
                | true =>
                  simp only [Bool.true_and] at HHx
                  go_upto_region 18 with fail
                  refine wp_hab fun hab => ?_
                  refine wp_region_above (by kernel_rfl) (by kernel_rfl) ?_
                  repeat (go_big_quiet_step (((first | (go_at_call 27; first | (with_reducible exact above_same (HHx.out _)) | (with_reducible exact above_same (HHl.out _))) | (go_at_call 28; exact above_of (HONs.out _))))))
                  refine wpQuiet_nil ?_
                  refine above_ends fun w9 hb => ?_
                  have HB9 : Hid (Below w4.heap.size w4 w9) := hide (HBi.out.trans (hb.mono hswi))
                  clear hab hb d0 d1 d2 d3 d4 l0 l1 l2 l3 l4 HBi
                  go_wp2_with (fail)
                  go_roundw
                  case rel => exact ⟨4, by omega, by simp [sideV], HB9⟩
                  case measure => simp [intOf, sideV]
              · simp only [sideV]
                go_wp2_with (fail)
                go_roundw
                case rel => exact ⟨m + 1, by omega, by go_num, HBw⟩
                case measure => simp [intOf]; omega
          | true =>
            obtain rfl := hwas rfl
            go_wp2_with (fail)
            go_loopw [12] (fun s wi => ∃ j : Nat, j ≤ 4 ∧ s = .int .u8 (sideV j) ∧ Hid (Below w4.heap.size w4 wi)) (fun s _ => (16 - intOf s).toNat)
            case atStart => exact ⟨0, by omega, rfl, hide (Below.refl _ _)⟩
            case round =>
              obtain ⟨j, hj, rfl, HBi⟩ := hrel
              have hswi := HBi.out.size
              have hj5 : j = 0 ∨ j = 1 ∨ j = 2 ∨ j = 3 ∨ j = 4 := by omega
              have HBw := hide (HB4.out.trans (HBi.out.mono hs4))
              have HLi := HL3.below HBw.out
              obtain ⟨l0, l1, l2, l3, l4, -, -, -, -, -⟩ := id HLi
              have q0 : b < wr.heap.size := by omega
              have q1 : n < wr.heap.size := by omega
              have d0 : wr.cell? ⟨b, o + m * 5, none⟩ = some (.int .i64 x.r.x0) := (HBw.out.cell (p := ⟨b, _, none⟩) hbl).trans (HC5.out 0 _ rfl)
              have d1 : wr.cell? ⟨b, o + m * 5 + 1, none⟩ = some (.int .i64 x.r.y0) := (HBw.out.cell (p := ⟨b, _, none⟩) hbl).trans (HC5.out 1 _ rfl)
              have d2 : wr.cell? ⟨b, o + m * 5 + 2, none⟩ = some (.int .i64 x.r.x1) := (HBw.out.cell (p := ⟨b, _, none⟩) hbl).trans (HC5.out 2 _ rfl)
              have d3 : wr.cell? ⟨b, o + m * 5 + 3, none⟩ = some (.int .i64 x.r.y1) := (HBw.out.cell (p := ⟨b, _, none⟩) hbl).trans (HC5.out 3 _ rfl)
              have d4 : wr.cell? ⟨b, o + m * 5 + 4, none⟩ = some (.int .u8 x.f) := (HBw.out.cell (p := ⟨b, _, none⟩) hbl).trans (HC5.out 4 _ rfl)
              rcases hj5 with rfl | rfl | rfl | rfl | rfl
              · simp only [sideV]
                have hs : isSide 1 := by unfold isSide; omega
                have HHx : Hid (∀ W : World, Calls Try.prog 27 #[.int .u8 x.f, .int .u8 1] W fun e w' => e = .returned (.bool (hasS x.f 1)) ∧ W = w') := hide (HH.out 1 hs x.f hxf0 hxf1)
                have HHl : Hid (∀ W : World, Calls Try.prog 27 #[.int .u8 l.f, .int .u8 1] W fun e w' => e = .returned (.bool (hasS l.f 1)) ∧ W = w') := hide (HH.out 1 hs l.f hlf0 hlf1)
                have HONs := hide (HON.out 1 hs x.r l.r)
                have hE := HE.out 1 hs
                rw [hE] at HHx
                generalize onS x.r l.r 1 = t at *
                generalize hasS l.f 1 = hl at *
                clear hE
                cases hl with
                | false =>
                  simp only [Bool.false_and] at HHx
                  go_upto_region 18 with fail
                  refine wp_hab fun hab => ?_
                  refine wp_region_above (by kernel_rfl) (by kernel_rfl) ?_
                  repeat (go_big_quiet_step (((first | (go_at_call 27; first | (with_reducible exact above_same (HHx.out _)) | (with_reducible exact above_same (HHl.out _))) | (go_at_call 28; exact above_of (HONs.out _))))))
                  refine wpQuiet_nil ?_
                  refine above_ends fun w9 hb => ?_
                  have HB9 : Hid (Below w4.heap.size w4 w9) := hide (HBi.out.trans (hb.mono hswi))
                  clear hab hb d0 d1 d2 d3 d4 l0 l1 l2 l3 l4 HBi
                  go_wp2_with (fail)
                  go_roundw
                  case rel => exact ⟨1, by omega, by simp [sideV], HB9⟩
                  case measure => simp [intOf, sideV]
                | true =>
                  simp only [Bool.true_and] at HHx
                  go_upto_region 18 with fail
                  refine wp_hab fun hab => ?_
                  refine wp_region_above (by kernel_rfl) (by kernel_rfl) ?_
                  repeat (go_big_quiet_step (((first | (go_at_call 27; first | (with_reducible exact above_same (HHx.out _)) | (with_reducible exact above_same (HHl.out _))) | (go_at_call 28; exact above_of (HONs.out _))))))
                  refine wpQuiet_nil ?_
                  refine above_ends fun w9 hb => ?_
                  have HB9 : Hid (Below w4.heap.size w4 w9) := hide (HBi.out.trans (hb.mono hswi))
                  clear hab hb d0 d1 d2 d3 d4 l0 l1 l2 l3 l4 HBi
                  go_wp2_with (fail)
                  go_roundw
                  case rel => exact ⟨1, by omega, by simp [sideV], HB9⟩
                  case measure => simp [intOf, sideV]
              · simp only [sideV]
                have hs : isSide 2 := by unfold isSide; omega
                have HHx : Hid (∀ W : World, Calls Try.prog 27 #[.int .u8 x.f, .int .u8 2] W fun e w' => e = .returned (.bool (hasS x.f 2)) ∧ W = w') := hide (HH.out 2 hs x.f hxf0 hxf1)
                have HHl : Hid (∀ W : World, Calls Try.prog 27 #[.int .u8 l.f, .int .u8 2] W fun e w' => e = .returned (.bool (hasS l.f 2)) ∧ W = w') := hide (HH.out 2 hs l.f hlf0 hlf1)
                have HONs := hide (HON.out 2 hs x.r l.r)
                have hE := HE.out 2 hs
                rw [hE] at HHx
                generalize onS x.r l.r 2 = t at *
                generalize hasS l.f 2 = hl at *
                clear hE
                cases hl with
                | false =>
                  simp only [Bool.false_and] at HHx
                  go_upto_region 18 with fail
                  refine wp_hab fun hab => ?_
                  refine wp_region_above (by kernel_rfl) (by kernel_rfl) ?_
                  repeat (go_big_quiet_step (((first | (go_at_call 27; first | (with_reducible exact above_same (HHx.out _)) | (with_reducible exact above_same (HHl.out _))) | (go_at_call 28; exact above_of (HONs.out _))))))
                  refine wpQuiet_nil ?_
                  refine above_ends fun w9 hb => ?_
                  have HB9 : Hid (Below w4.heap.size w4 w9) := hide (HBi.out.trans (hb.mono hswi))
                  clear hab hb d0 d1 d2 d3 d4 l0 l1 l2 l3 l4 HBi
                  go_wp2_with (fail)
                  go_roundw
                  case rel => exact ⟨2, by omega, by simp [sideV], HB9⟩
                  case measure => simp [intOf, sideV]
                | true =>
                  simp only [Bool.true_and] at HHx
                  go_upto_region 18 with fail
                  refine wp_hab fun hab => ?_
                  refine wp_region_above (by kernel_rfl) (by kernel_rfl) ?_
                  repeat (go_big_quiet_step (((first | (go_at_call 27; first | (with_reducible exact above_same (HHx.out _)) | (with_reducible exact above_same (HHl.out _))) | (go_at_call 28; exact above_of (HONs.out _))))))
                  refine wpQuiet_nil ?_
                  refine above_ends fun w9 hb => ?_
                  have HB9 : Hid (Below w4.heap.size w4 w9) := hide (HBi.out.trans (hb.mono hswi))
                  clear hab hb d0 d1 d2 d3 d4 l0 l1 l2 l3 l4 HBi
                  go_wp2_with (fail)
                  go_roundw
                  case rel => exact ⟨2, by omega, by simp [sideV], HB9⟩
                  case measure => simp [intOf, sideV]
              · simp only [sideV]
                have hs : isSide 4 := by unfold isSide; omega
                have HHx : Hid (∀ W : World, Calls Try.prog 27 #[.int .u8 x.f, .int .u8 4] W fun e w' => e = .returned (.bool (hasS x.f 4)) ∧ W = w') := hide (HH.out 4 hs x.f hxf0 hxf1)
                have HHl : Hid (∀ W : World, Calls Try.prog 27 #[.int .u8 l.f, .int .u8 4] W fun e w' => e = .returned (.bool (hasS l.f 4)) ∧ W = w') := hide (HH.out 4 hs l.f hlf0 hlf1)
                have HONs := hide (HON.out 4 hs x.r l.r)
                have hE := HE.out 4 hs
                rw [hE] at HHx
                generalize onS x.r l.r 4 = t at *
                generalize hasS l.f 4 = hl at *
                clear hE
                cases hl with
                | false =>
                  simp only [Bool.false_and] at HHx
                  go_upto_region 18 with fail
                  refine wp_hab fun hab => ?_
                  refine wp_region_above (by kernel_rfl) (by kernel_rfl) ?_
                  repeat (go_big_quiet_step (((first | (go_at_call 27; first | (with_reducible exact above_same (HHx.out _)) | (with_reducible exact above_same (HHl.out _))) | (go_at_call 28; exact above_of (HONs.out _))))))
                  refine wpQuiet_nil ?_
                  refine above_ends fun w9 hb => ?_
                  have HB9 : Hid (Below w4.heap.size w4 w9) := hide (HBi.out.trans (hb.mono hswi))
                  clear hab hb d0 d1 d2 d3 d4 l0 l1 l2 l3 l4 HBi
                  go_wp2_with (fail)
                  go_roundw
                  case rel => exact ⟨3, by omega, by simp [sideV], HB9⟩
                  case measure => simp [intOf, sideV]
                | true =>
                  simp only [Bool.true_and] at HHx
                  go_upto_region 18 with fail
                  refine wp_hab fun hab => ?_
                  refine wp_region_above (by kernel_rfl) (by kernel_rfl) ?_
                  repeat (go_big_quiet_step (((first | (go_at_call 27; first | (with_reducible exact above_same (HHx.out _)) | (with_reducible exact above_same (HHl.out _))) | (go_at_call 28; exact above_of (HONs.out _))))))
                  refine wpQuiet_nil ?_
                  refine above_ends fun w9 hb => ?_
                  have HB9 : Hid (Below w4.heap.size w4 w9) := hide (HBi.out.trans (hb.mono hswi))
                  clear hab hb d0 d1 d2 d3 d4 l0 l1 l2 l3 l4 HBi
                  go_wp2_with (fail)
                  go_roundw
                  case rel => exact ⟨3, by omega, by simp [sideV], HB9⟩
                  case measure => simp [intOf, sideV]
              · simp only [sideV]
                have hs : isSide 8 := by unfold isSide; omega
                have HHx : Hid (∀ W : World, Calls Try.prog 27 #[.int .u8 x.f, .int .u8 8] W fun e w' => e = .returned (.bool (hasS x.f 8)) ∧ W = w') := hide (HH.out 8 hs x.f hxf0 hxf1)
                have HHl : Hid (∀ W : World, Calls Try.prog 27 #[.int .u8 l.f, .int .u8 8] W fun e w' => e = .returned (.bool (hasS l.f 8)) ∧ W = w') := hide (HH.out 8 hs l.f hlf0 hlf1)
                have HONs := hide (HON.out 8 hs x.r l.r)
                have hE := HE.out 8 hs
                rw [hE] at HHx
                generalize onS x.r l.r 8 = t at *
                generalize hasS l.f 8 = hl at *
                clear hE
                cases hl with
                | false =>
                  simp only [Bool.false_and] at HHx
                  go_upto_region 18 with fail
                  refine wp_hab fun hab => ?_
                  refine wp_region_above (by kernel_rfl) (by kernel_rfl) ?_
                  repeat (go_big_quiet_step (((first | (go_at_call 27; first | (with_reducible exact above_same (HHx.out _)) | (with_reducible exact above_same (HHl.out _))) | (go_at_call 28; exact above_of (HONs.out _))))))
                  refine wpQuiet_nil ?_
                  refine above_ends fun w9 hb => ?_
                  have HB9 : Hid (Below w4.heap.size w4 w9) := hide (HBi.out.trans (hb.mono hswi))
                  clear hab hb d0 d1 d2 d3 d4 l0 l1 l2 l3 l4 HBi
                  go_wp2_with (fail)
                  go_roundw
                  case rel => exact ⟨4, by omega, by simp [sideV], HB9⟩
                  case measure => simp [intOf, sideV]
                | true =>
                  simp only [Bool.true_and] at HHx
                  go_upto_region 18 with fail
                  refine wp_hab fun hab => ?_
                  refine wp_region_above (by kernel_rfl) (by kernel_rfl) ?_
                  repeat (go_big_quiet_step (((first | (go_at_call 27; first | (with_reducible exact above_same (HHx.out _)) | (with_reducible exact above_same (HHl.out _))) | (go_at_call 28; exact above_of (HONs.out _))))))
                  refine wpQuiet_nil ?_
                  refine above_ends fun w9 hb => ?_
                  have HB9 : Hid (Below w4.heap.size w4 w9) := hide (HBi.out.trans (hb.mono hswi))
                  clear hab hb d0 d1 d2 d3 d4 l0 l1 l2 l3 l4 HBi
                  go_wp2_with (fail)
                  go_roundw
                  case rel => exact ⟨4, by omega, by simp [sideV], HB9⟩
                  case measure => simp [intOf, sideV]
              · simp only [sideV]
                go_wp2_with (fail)
                go_roundw
                case rel => exact ⟨m + 1, by omega, by go_num, HBw⟩
                case measure => simp [intOf]; omega
        · have mz : ¬ (m : Int) < (Q.length : Int) := by omega
          have K4 := hide (K3.out.trans (HB.out.mono (by omega)))
          have hs4 : n + 2 ≤ wr.heap.size := by omega
          clear HB hsw
          go_wp2_with (fail)
          refine (HAL.out _).mono ?_
          rintro e w9 ⟨rfl, hb⟩
          have K9 := hide (K4.out.trans (hb.mono (by omega)))
          clear hb
          go_wp2_with (fail)
          go_ret
          exact ⟨rfl, by rw [HN.out]; exact K9.out⟩
    · have hR : splitR l p = ([], 4) := by unfold splitR; rw [if_pos h0, if_neg h4]
      rw [hR] at hS
      have HS : Hid (∀ W : World, Calls Try.prog 11 #[.agg #[.int .i64 l.r.x0, .int .i64 l.r.y0, .int .i64 l.r.x1, .int .i64 l.r.y1, .int .u8 l.f], .agg #[.int .i64 p.mf, .int .i64 p.ms, .int .i64 p.ma]] W (LotsRet W ([], 4))) := hide hS
      clear hS hR h0 hv h4 hf
      show Calls Try.prog _ #[.agg #[.int .i64 l.r.x0, .int .i64 l.r.y0, .int .i64 l.r.x1, .int .i64 l.r.y1, .int .u8 l.f], .agg #[.int .i64 p.mf, .int .i64 p.ms, .int .i64 p.ma]] w _
      go_enter Try.func7, Try.ntmps7
      go_wp2_with (fail)
      obtain ⟨W, hW⟩ : ∃ x, x = (w.alloc (.cells #[.int .i64 l.r.x0, .int .i64 l.r.y0, .int .i64 l.r.x1, .int .i64 l.r.y1, .int .u8 l.f] 25)).alloc (.cells #[.int .i64 p.mf, .int .i64 p.ms, .int .i64 p.ma] 27) := ⟨_, rfl⟩
      rw [← hW]
      have hb0 : Below w.heap.size w W := by rw [hW]; exact ((Below.refl _ _).alloc (Nat.le_refl _) _).alloc (by simp) _
      have hs0 : w.heap.size + 2 ≤ W.heap.size := by rw [hW]; simp
      have HL : Box5L W w.heap.size l := by rw [hW]; refine ⟨?_, ?_, ?_, ?_, ?_, ?_, ?_, ?_, ?_, ?_⟩ <;> simp [go_sem]
      have HP : Box3 W (w.heap.size + 1) (.int .i64 p.mf) (.int .i64 p.ms) (.int .i64 p.ma) := by rw [hW]; refine ⟨?_, ?_, ?_⟩ <;> simp [go_sem]
      obtain ⟨n, hn⟩ : ∃ n, w.heap.size = n := ⟨_, rfl⟩
      have HN := hide hn
      rw [hn] at hb0 hs0 HL HP ⊢
      have K0 := hide hb0
      clear hW hb0 hn
      refine (HV1.out _).mono ?_
      rintro e w1 ⟨rfl, hb⟩
      have HL1 := HL.below hb
      have HP1 := HP.below hb
      have hs1 : n + 2 ≤ w1.heap.size := Nat.le_trans hs0 hb.size
      have K1 := hide (K0.out.trans (hb.mono (by omega)))
      clear hb HL HP K0 hs0
      try clear l0 l1 l2 l3 l4 p0 p1 p2
      obtain ⟨l0, l1, l2, l3, l4, -, -, -, -, -⟩ := id HL1
      obtain ⟨p0, p1, p2⟩ := id HP1
      go_wp2_with (fail)
      refine (HS.out _).mono ?_
      rintro e w2 ⟨⟨A1, c1, rfl, ho⟩, hb⟩
      clear ho
      have HL2 := HL1.below hb
      have HP2 := HP1.below hb
      have hs2 : n + 2 ≤ w2.heap.size := Nat.le_trans hs1 hb.size
      have K2 := hide (K1.out.trans (hb.mono (by omega)))
      clear hb HL1 HP1 K1 hs1
      try clear l0 l1 l2 l3 l4 p0 p1 p2
      go_wp2_with (fail)
      refine (HAL.out _).mono ?_
      rintro e w3 ⟨rfl, hb⟩
      have K3 := hide (K2.out.trans (hb.mono (by omega)))
      clear hb HL2 HP2
      go_wp2_with (fail)
      go_ret
      exact ⟨rfl, by rw [HN.out]; exact K3.out⟩
  · have hck : (checkL l p == 0) = false := by simpa using h0
    rw [hck] at HV
    have HV1 : Hid (∀ W : World, Calls Try.prog 14 #[.agg #[.int .i64 l.r.x0, .int .i64 l.r.y0, .int .i64 l.r.x1, .int .i64 l.r.y1, .int .u8 l.f], .agg #[.int .i64 p.mf, .int .i64 p.ms, .int .i64 p.ma]] W fun e w' => e = .returned (.bool false) ∧ Below W.heap.size W w') := hide HV.out
    clear HV hck h0 hf
    show Calls Try.prog _ #[.agg #[.int .i64 l.r.x0, .int .i64 l.r.y0, .int .i64 l.r.x1, .int .i64 l.r.y1, .int .u8 l.f], .agg #[.int .i64 p.mf, .int .i64 p.ms, .int .i64 p.ma]] w _
    go_enter Try.func7, Try.ntmps7
    go_wp2_with (fail)
    obtain ⟨W, hW⟩ : ∃ x, x = (w.alloc (.cells #[.int .i64 l.r.x0, .int .i64 l.r.y0, .int .i64 l.r.x1, .int .i64 l.r.y1, .int .u8 l.f] 25)).alloc (.cells #[.int .i64 p.mf, .int .i64 p.ms, .int .i64 p.ma] 27) := ⟨_, rfl⟩
    rw [← hW]
    have hb0 : Below w.heap.size w W := by rw [hW]; exact ((Below.refl _ _).alloc (Nat.le_refl _) _).alloc (by simp) _
    have hs0 : w.heap.size + 2 ≤ W.heap.size := by rw [hW]; simp
    have HL : Box5L W w.heap.size l := by rw [hW]; refine ⟨?_, ?_, ?_, ?_, ?_, ?_, ?_, ?_, ?_, ?_⟩ <;> simp [go_sem]
    have HP : Box3 W (w.heap.size + 1) (.int .i64 p.mf) (.int .i64 p.ms) (.int .i64 p.ma) := by rw [hW]; refine ⟨?_, ?_, ?_⟩ <;> simp [go_sem]
    obtain ⟨n, hn⟩ : ∃ n, w.heap.size = n := ⟨_, rfl⟩
    have HN := hide hn
    rw [hn] at hb0 hs0 HL HP ⊢
    have K0 := hide hb0
    clear hW hb0 hn
    refine (HV1.out _).mono ?_
    rintro e w1 ⟨rfl, hb⟩
    have HL1 := HL.below hb
    have HP1 := HP.below hb
    have hs1 : n + 2 ≤ w1.heap.size := Nat.le_trans hs0 hb.size
    have K1 := hide (K0.out.trans (hb.mono (by omega)))
    clear hb HL HP K0 hs0
    try clear l0 l1 l2 l3 l4 p0 p1 p2
    go_wp2_with (fail)
    refine (HAL.out _).mono ?_
    rintro e w2 ⟨rfl, hb⟩
    have K2 := hide (K1.out.trans (hb.mono (by omega)))
    clear hb HL1 HP1
    go_wp2_with (fail)
    go_ret
    exact ⟨rfl, by rw [HN.out]; exact K2.out⟩
end Go.Proofs.Ytgdlbaabdebclaa
