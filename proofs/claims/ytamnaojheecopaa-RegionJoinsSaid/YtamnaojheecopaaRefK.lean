/- The reference's Check, Make, Area. -/
import Derived.Test.YtamnaojheecopaaRefJ
import Derived.Test.YtamnaojheecopaaRefE
import Derived.Test.YtamnaojheecopaaChk
namespace Go.Proofs.Ytamnaojheecopaa
open Go.RowKit
set_option linter.unusedVariables false
set_option linter.unusedSimpArgs false

theorem rjoin_or {l : List R4} (h : ∀ r ∈ l, wf4 r) : rjoin (hk 2) l [] = rjoin hFst l [] := by
  obtain ⟨h1, h2⟩ := rjoin_ok (h := hk 2) rfl h (b := []) (by simp)
  refine rjoin_eq rfl h (by simp) h1 fun x y => ?_
  rw [h2]
  have : decide (pmem ([] : List R4) x y) = false := decide_eq_false pmem_nil
  rw [this]
  simp [hk, hFst]
theorem isortI_len : ∀ (l : List Int), (isortI l).length ≤ l.length
  | [] => Nat.le_refl _
  | c :: l => by
    have h1 := insI_len c (isortI l)
    have h2 := isortI_len l
    simp only [isortI, List.length_cons]
    omega
theorem rjoin_len (l : List R4) (hl : l.length ≤ 400) : (rjoin hFst l []).length ≤ 100000000 := by
  have h1 := swp_len (fun c => sjoin hFst (crossL l c) (crossL [] c)) 1000 (fun c => by
    have h1 := sjoin_len hFst (crossL l c) (crossL [] c)
    have h2 := crossL_len l c
    have h3 : (crossL [] c).length = 0 := rfl
    omega) (prs (isortI (cutsL l ++ cutsL [])))
  rw [swp_sweep] at h1
  have h2 := prs_len (isortI (cutsL l ++ cutsL []))
  have h3 := isortI_len (cutsL l ++ cutsL [])
  rw [List.length_append, cutsL_len, cutsL_len] at h3
  simp only [List.length_nil] at h3
  unfold rjoin
  have h4 : (prs (isortI (cutsL l ++ cutsL []))).length ≤ 1000 := by omega
  have h5 := Nat.mul_le_mul_right 1000 h4
  omega
theorem makeF_len (l : List R4) : (makeF l).1.length ≤ 400 := by
  unfold makeF
  split
  · simp
  · split
    · simp
    · unfold madeF
      split
      · simp
      · simp only; omega
theorem checkF_valid {l : List R4} (h4 : ¬ 400 < l.length) (ha : l.any (fun r => !decide (valid4 r)) = false) : checkF l = if rjoin hFst l [] = l then 0 else 8 := by
  unfold checkF
  rw [if_neg h4, ha]
  simp only [Bool.false_eq_true, if_false]
  unfold madeF
  by_cases hr : rjoin hFst l [] = l
  · rw [hr, if_neg h4, if_pos rfl, if_pos ⟨rfl, rfl⟩]
  · rw [if_neg hr]
    by_cases h5 : 400 < (rjoin hFst l []).length
    · rw [if_pos h5, if_neg (by simp)]
    · rw [if_neg h5, if_neg (fun h => hr h.2)]

set_option maxRecDepth 100000 in
set_option maxHeartbeats 2000000 in
theorem rCheck_any {w : World} {v : Value} {l : List R4} (hr : RdK encR 4 w w.heap.size v l) (hl : l.length ≤ 100000000) :
    Calls Try.prog 15 #[v] w fun e w' => e = .returned (.int .i64 (checkF l)) ∧ Below w.heap.size w w' := by
  obtain ⟨A, c, hv, hc⟩ := id hr
  subst hv
  have HR := hide hr
  have HRC := hide hc
  clear hr hc
  by_cases h4 : 400 < l.length
  · have hz : (400 : Int) < (l.length : Int) := by omega
    have hm : checkF l = 4 := if_pos h4
    have HM := hide hm
    clear hm
    go_enter Try.func15, Try.ntmps15
    go_wp2
    go_ret
    exact ⟨ret_eq (int_eq HM.out.symm), Below.refl _ _⟩
  · have hz : (l.length : Int) ≤ 400 := by omega
    have hck : ∀ ha : l.any (fun r => !decide (valid4 r)) = false, checkF l = if rjoin hFst l [] = l then 0 else 8 := checkF_valid h4
    have hck8 : ∀ ha : l.any (fun r => !decide (valid4 r)) = true, checkF l = 8 := fun ha => by unfold checkF; rw [if_neg h4, ha]; rfl
    have HCK := hide hck
    have HCK8 := hide hck8
    clear hck hck8
    go_enter Try.func15, Try.ntmps15
    go_wp2
    go_loopw [3] (fun i wr => ∃ m : Nat, m ≤ l.length ∧ i = .int .i64 m ∧ Hid (∀ r ∈ l.take m, valid4 r) ∧ Hid (Below w.heap.size w wr)) (fun i _ => l.length - (intOf i).toNat)
    case atStart => exact ⟨0, Nat.zero_le _, rfl, hide (by simp), hide (Below.refl _ _)⟩
    case round =>
      obtain ⟨m, hm, rfl, HV, HB⟩ := hrel
      by_cases hlt : m < l.length
      · obtain ⟨⟨x0, y0, x1, y1⟩, hp⟩ : ∃ p, l[m]? = some p := ⟨_, List.getElem?_eq_getElem hlt⟩
        obtain ⟨b, o, rfl, hbl, k⟩ := HRC.out (by intro e; rw [e] at hlt; simp at hlt)
        have d0 : wr.cell? ⟨b, o + m * 4, none⟩ = some (.int .i64 x0) := (HB.out.cell (p := ⟨b, _, none⟩) hbl).trans (k m _ hp 0 _ rfl)
        have d1 : wr.cell? ⟨b, o + m * 4 + 1, none⟩ = some (.int .i64 y0) := (HB.out.cell (p := ⟨b, _, none⟩) hbl).trans (k m _ hp 1 _ rfl)
        have d2 : wr.cell? ⟨b, o + m * 4 + 2, none⟩ = some (.int .i64 x1) := (HB.out.cell (p := ⟨b, _, none⟩) hbl).trans (k m _ hp 2 _ rfl)
        have d3 : wr.cell? ⟨b, o + m * 4 + 3, none⟩ = some (.int .i64 y1) := (HB.out.cell (p := ⟨b, _, none⟩) hbl).trans (k m _ hp 3 _ rfl)
        have mz : (m : Int) < (l.length : Int) := by omega
        have hva := rValid_any ⟨x0, y0, x1, y1⟩ wr
        have HP := hide hp
        simp only [encR] at hva
        have HVA := hide hva
        have hp' := hp
        clear k hp hva
        cases hq : decide (valid4 ⟨x0, y0, x1, y1⟩) with
        | true =>
          have HQ := hide hq
          rw [hq] at HVA
          clear hq hp'
          go_wp2_with (go_at_call 43; refine HVA.out.mono ?_; rintro e w2 ⟨rfl, hb2⟩)
          go_roundw
          case rel =>
            refine ⟨m + 1, by omega, by go_num, hide ?_, hide (HB.out.trans (hb2.mono HB.out.size))⟩
            obtain ⟨i1, e1⟩ := List.getElem?_eq_some_iff.1 HP.out
            intro r hr
            rw [List.take_succ_eq_append_getElem i1, List.mem_append] at hr
            rcases hr with hr | hr
            · exact HV.out r hr
            · rw [List.mem_singleton] at hr
              subst hr
              rw [e1]
              exact of_decide_eq_true HQ.out
          case measure => simp [intOf]; omega
        | false =>
          have hany : l.any (fun r => !decide (valid4 r)) = true := List.any_eq_true.2 ⟨_, List.mem_of_getElem? hp', by rw [hq]; rfl⟩
          have HAN := hide hany
          rw [hq] at HVA
          clear hq hany hp'
          go_wp2_with (go_at_call 43; refine HVA.out.mono ?_; rintro e w2 ⟨rfl, hb2⟩)
          go_ret
          exact ⟨ret_eq (int_eq (HCK8.out HAN.out).symm), HB.out.trans (hb2.mono HB.out.size)⟩
      · have mz : ¬ (m : Int) < (l.length : Int) := by omega
        have hva : ∀ r ∈ l, valid4 r := by have := HV.out; rwa [List.take_of_length_le (by omega)] at this
        have hany : l.any (fun r => !decide (valid4 r)) = false := by
          rw [List.any_eq_false]
          intro r hr
          simp [hva r hr]
        have HAN := hide hany
        have HW := hide (fun (r : R4) (h : r ∈ l) => (show wf4 r from ⟨(hva r h).1, (hva r h).2.1⟩))
        have hjo := rJoined_any 2 (.inr (.inl rfl)) (w := wr) (HR.out.below HB.out) (RdK.nil (α := R4) none 0) HB.out.size (by omega) (by simp)
        rw [ref_join (h := hk 2) rfl HW.out (by simp), rjoin_or HW.out] at hjo
        have hsz := HB.out.size
        have HJO := hide hjo
        clear hjo hany hva
        have HRL := hide (rjoin_len l (by omega))
        generalize rjoin hFst l [] = R at *
        have heq : ∀ (W : World) (vs : Value), Below w.heap.size w W → W.ownsRow wr.heap.size 43 4 vs R.length (R.flatMap encR) → _ := fun W vs h1 h2 => rSameRects_any (w := W) (own_rd h2 (fun _ => rfl)) ((HR.out.below h1).mono h1.size) HRL.out (Nat.le_refl _) (Nat.le_refl _)
        have HEQ := hide heq
        clear heq
        cases hd : decide (R = l) with
        | true =>
          have HD := hide hd
          clear hd
          go_wp2_with (first
            | (go_at_call 44; refine HJO.out.mono ?_; rintro e w2 ⟨vo, rfl, ho, hb2⟩; have HO := hide ho; have HB2 := hide hb2; clear ho hb2)
            | (go_at_call 16; refine (HEQ.out _ _ (HB.out.trans (HB2.out.mono hsz)) HO.out).mono ?_; rintro e w3 ⟨rfl, hb3⟩; rw [HD.out]))
          go_ret
          exact ⟨ret_eq (int_eq (by rw [HCK.out HAN.out, if_pos (of_decide_eq_true HD.out)])), (HB.out.trans (HB2.out.mono hsz)).trans (hb3.mono (Nat.le_trans hsz HB2.out.size))⟩
        | false =>
          have HD := hide hd
          clear hd
          go_wp2_with (first
            | (go_at_call 44; refine HJO.out.mono ?_; rintro e w2 ⟨vo, rfl, ho, hb2⟩; have HO := hide ho; have HB2 := hide hb2; clear ho hb2)
            | (go_at_call 16; refine (HEQ.out _ _ (HB.out.trans (HB2.out.mono hsz)) HO.out).mono ?_; rintro e w3 ⟨rfl, hb3⟩; rw [HD.out]))
          go_ret
          exact ⟨ret_eq (int_eq (by rw [HCK.out HAN.out, if_neg (of_decide_eq_false HD.out)])), (HB.out.trans (HB2.out.mono hsz)).trans (hb3.mono (Nat.le_trans hsz HB2.out.size))⟩

set_option maxRecDepth 100000 in
set_option maxHeartbeats 2000000 in
theorem rMake_any {w : World} {v : Value} {l : List R4} (hr : RdK encR 4 w w.heap.size v l) (hl : l.length ≤ 100000000) :
    Calls Try.prog 11 #[v] w fun e w' => RegRet w.heap.size (makeF l) e w' ∧ Below w.heap.size w w' := by
  obtain ⟨A, c, hv, hc⟩ := id hr
  subst hv
  have HR := hide hr
  have HRC := hide hc
  clear hr hc
  by_cases h4 : 400 < l.length
  · have hz : (400 : Int) < (l.length : Int) := by omega
    have hm : makeF l = ([], 4) := if_pos h4
    have HM := hide hm
    clear hm
    go_enter Try.func11, Try.ntmps11
    go_wp2
    go_ret2
    exact ⟨⟨none, 0, by rw [HM.out]; rfl, by rw [HM.out]; exact World.ownsRow_nil _ _ _ _⟩, Below.refl _ _⟩
  · have hz : (l.length : Int) ≤ 400 := by omega
    have hck : ∀ ha : l.any (fun r => !decide (valid4 r)) = false, makeF l = if 400 < (rjoin hFst l []).length then ([], 4) else (rjoin hFst l [], 0) := fun ha => by unfold makeF madeF; rw [if_neg h4, ha]; rfl
    have hck8 : ∀ ha : l.any (fun r => !decide (valid4 r)) = true, makeF l = ([], 8) := fun ha => by unfold makeF; rw [if_neg h4, ha]; rfl
    have HCK := hide hck
    have HCK8 := hide hck8
    clear hck hck8
    go_enter Try.func11, Try.ntmps11
    go_wp2
    go_loopw [4] (fun i wr => ∃ m : Nat, m ≤ l.length ∧ i = .int .i64 m ∧ Hid (∀ r ∈ l.take m, valid4 r) ∧ Hid (Below w.heap.size w wr)) (fun i _ => l.length - (intOf i).toNat)
    case atStart => exact ⟨0, Nat.zero_le _, rfl, hide (by simp), hide (Below.refl _ _)⟩
    case round =>
      obtain ⟨m, hm, rfl, HV, HB⟩ := hrel
      by_cases hlt : m < l.length
      · obtain ⟨⟨x0, y0, x1, y1⟩, hp⟩ : ∃ p, l[m]? = some p := ⟨_, List.getElem?_eq_getElem hlt⟩
        obtain ⟨b, o, rfl, hbl, k⟩ := HRC.out (by intro e; rw [e] at hlt; simp at hlt)
        have d0 : wr.cell? ⟨b, o + m * 4, none⟩ = some (.int .i64 x0) := (HB.out.cell (p := ⟨b, _, none⟩) hbl).trans (k m _ hp 0 _ rfl)
        have d1 : wr.cell? ⟨b, o + m * 4 + 1, none⟩ = some (.int .i64 y0) := (HB.out.cell (p := ⟨b, _, none⟩) hbl).trans (k m _ hp 1 _ rfl)
        have d2 : wr.cell? ⟨b, o + m * 4 + 2, none⟩ = some (.int .i64 x1) := (HB.out.cell (p := ⟨b, _, none⟩) hbl).trans (k m _ hp 2 _ rfl)
        have d3 : wr.cell? ⟨b, o + m * 4 + 3, none⟩ = some (.int .i64 y1) := (HB.out.cell (p := ⟨b, _, none⟩) hbl).trans (k m _ hp 3 _ rfl)
        have mz : (m : Int) < (l.length : Int) := by omega
        have hva := rValid_any ⟨x0, y0, x1, y1⟩ wr
        have HP := hide hp
        simp only [encR] at hva
        have HVA := hide hva
        have hp' := hp
        clear k hp hva
        cases hq : decide (valid4 ⟨x0, y0, x1, y1⟩) with
        | true =>
          have HQ := hide hq
          rw [hq] at HVA
          clear hq hp'
          go_wp2_with (go_at_call 43; refine HVA.out.mono ?_; rintro e w2 ⟨rfl, hb2⟩)
          go_roundw
          case rel =>
            refine ⟨m + 1, by omega, by go_num, hide ?_, hide (HB.out.trans (hb2.mono HB.out.size))⟩
            obtain ⟨i1, e1⟩ := List.getElem?_eq_some_iff.1 HP.out
            intro r hr
            rw [List.take_succ_eq_append_getElem i1, List.mem_append] at hr
            rcases hr with hr | hr
            · exact HV.out r hr
            · rw [List.mem_singleton] at hr
              subst hr
              rw [e1]
              exact of_decide_eq_true HQ.out
          case measure => simp [intOf]; omega
        | false =>
          have hany : l.any (fun r => !decide (valid4 r)) = true := List.any_eq_true.2 ⟨_, List.mem_of_getElem? hp', by rw [hq]; rfl⟩
          have HAN := hide hany
          rw [hq] at HVA
          clear hq hany hp'
          go_wp2_with (go_at_call 43; refine HVA.out.mono ?_; rintro e w2 ⟨rfl, hb2⟩)
          go_ret2
          exact ⟨⟨none, 0, by rw [HCK8.out HAN.out]; rfl, by rw [HCK8.out HAN.out]; exact World.ownsRow_nil _ _ _ _⟩, HB.out.trans (hb2.mono HB.out.size)⟩
      · have mz : ¬ (m : Int) < (l.length : Int) := by omega
        have hva : ∀ r ∈ l, valid4 r := by have := HV.out; rwa [List.take_of_length_le (by omega)] at this
        have hany : l.any (fun r => !decide (valid4 r)) = false := by
          rw [List.any_eq_false]
          intro r hr
          simp [hva r hr]
        have HAN := hide hany
        have HW := hide (fun (r : R4) (h : r ∈ l) => (show wf4 r from ⟨(hva r h).1, (hva r h).2.1⟩))
        have hjo := rJoined_any 2 (.inr (.inl rfl)) (w := wr) (HR.out.below HB.out) (RdK.nil (α := R4) none 0) HB.out.size (by omega) (by simp)
        rw [ref_join (h := hk 2) rfl HW.out (by simp), rjoin_or HW.out] at hjo
        have hsz := HB.out.size
        have HJO := hide hjo
        clear hjo hany hva
        have HRL := hide (rjoin_len l (by omega))
        generalize rjoin hFst l [] = R at *
        by_cases h5 : 400 < R.length
        · have h5z : (400 : Int) < (R.length : Int) := by omega
          have HM : Hid (makeF l = ([], 4)) := hide (by rw [HCK.out HAN.out, if_pos h5])
          go_wp2_with (first
            | (go_at_call 44; refine HJO.out.mono ?_; rintro e w2 ⟨vo, rfl, ho, hb2⟩; obtain ⟨Ao, co, hvo⟩ := own_form ho; subst hvo; have HO := hide ho; have HB2 := hide hb2; clear ho hb2))
          go_ret2
          exact ⟨⟨none, 0, by rw [HM.out]; rfl, by rw [HM.out]; exact World.ownsRow_nil _ _ _ _⟩, HB.out.trans (HB2.out.mono hsz)⟩
        · have h5z : (R.length : Int) ≤ 400 := by omega
          have HM : Hid (makeF l = (R, 0)) := hide (by rw [HCK.out HAN.out, if_neg h5])
          go_wp2_with (first
            | (go_at_call 44; refine HJO.out.mono ?_; rintro e w2 ⟨vo, rfl, ho, hb2⟩; obtain ⟨Ao, co, hvo⟩ := own_form ho; subst hvo; have HO := hide ho; have HB2 := hide hb2; clear ho hb2))
          go_ret2
          exact ⟨⟨Ao, co, by rw [HM.out]; rfl, by rw [HM.out]; exact own_base HO.out hsz⟩, HB.out.trans (HB2.out.mono hsz)⟩

set_option maxRecDepth 100000 in
set_option maxHeartbeats 4000000 in
theorem rArea_any {w : World} {v : Value} {l : List R4} (hr : RdK encR 4 w w.heap.size v l) (hl : l.length ≤ 100000000) :
    Calls Try.prog 13 #[v] w fun e w' => e = .returned (.tuple #[.int .i64 (areaF l).1, .int .i64 (areaF l).2]) ∧ Below w.heap.size w w' := by
  have hck := fun (W : World) (hW : Below w.heap.size w W) => rCheck_any (w := W) ((hr.below hW).mono hW.size) hl
  obtain ⟨A, c, hv, hc⟩ := id hr
  subst hv
  have HCK := hide hck
  clear hck
  by_cases h0 : checkF l = 0
  · obtain ⟨k1, k2, _⟩ := checkF_ok h0
    have hf : areaF l = (areaS l, 0) := if_pos h0
    have HF := hide hf
    rw [h0] at HCK
    have HV := hide k2
    have HRC := hide hc
    clear hf h0 k2 hr hc
    go_enter Try.func13, Try.ntmps13
    go_wp2_with (go_at_call 15; refine (HCK.out _ (Below.refl _ _)).mono ?_; rintro e w1 ⟨rfl, hb1⟩)
    go_loopw [4, 5] (fun s i wr => ∃ m : Nat, m ≤ l.length ∧ i = .int .i64 m ∧ s = .int .i64 (areaS (l.take m)) ∧ Hid (Below w.heap.size w wr)) (fun _ i _ => l.length - (intOf i).toNat)
    case atStart => exact ⟨0, Nat.zero_le _, rfl, by simp [areaS], hide hb1⟩
    case round =>
      clear hb1
      obtain ⟨m, hm, rfl, rfl, HB⟩ := hrel
      by_cases hlt : m < l.length
      · obtain ⟨⟨x0, y0, x1, y1⟩, hp⟩ : ∃ p, l[m]? = some p := ⟨_, List.getElem?_eq_getElem hlt⟩
        obtain ⟨b, o, rfl, hbl, k⟩ := HRC.out (by intro e; rw [e] at hlt; simp at hlt)
        have d0 : wr.cell? ⟨b, o + m * 4, none⟩ = some (.int .i64 x0) := (HB.out.cell (p := ⟨b, _, none⟩) hbl).trans (k m _ hp 0 _ rfl)
        have d1 : wr.cell? ⟨b, o + m * 4 + 1, none⟩ = some (.int .i64 y0) := (HB.out.cell (p := ⟨b, _, none⟩) hbl).trans (k m _ hp 1 _ rfl)
        have d2 : wr.cell? ⟨b, o + m * 4 + 2, none⟩ = some (.int .i64 x1) := (HB.out.cell (p := ⟨b, _, none⟩) hbl).trans (k m _ hp 2 _ rfl)
        have d3 : wr.cell? ⟨b, o + m * 4 + 3, none⟩ = some (.int .i64 y1) := (HB.out.cell (p := ⟨b, _, none⟩) hbl).trans (k m _ hp 3 _ rfl)
        obtain ⟨v1, v2, ⟨v3, v4⟩, ⟨v5, v6⟩, ⟨v7, v8⟩, ⟨v9, v10⟩⟩ := HV.out _ (List.mem_of_getElem? hp)
        have ba := area4_bd (HV.out _ (List.mem_of_getElem? hp))
        have bs := areaS_bd (l := l.take m) fun r hr => HV.out r (List.mem_of_mem_take hr)
        rw [List.length_take] at bs
        have HT := hide (areaS_take hp)
        have mz : (m : Int) < (l.length : Int) := by omega
        have lz : (l.length : Int) ≤ 400 := by omega
        have mz0 : (0 : Int) ≤ (m : Int) := by omega
        simp only [area4] at ba v1 v2 v3 v4 v5 v6 v7 v8 v9 v10
        clear k hp
        generalize areaS (l.take m) = s at *
        have bs1 := bs.1
        have bs2 : s ≤ 1600000000000000 := by omega
        have ba1 := ba.1
        have ba2 := ba.2
        have t1 : IntKind.i64.wrap (x1 - x0) = x1 - x0 := by simp [IntKind.wrap, IntKind.bits, IntKind.signed]; omega
        have t2 : IntKind.i64.wrap (y1 - y0) = y1 - y0 := by simp [IntKind.wrap, IntKind.bits, IntKind.signed]; omega
        have t3 : IntKind.i64.wrap ((x1 - x0) * (y1 - y0)) = (x1 - x0) * (y1 - y0) := by
          generalize (x1 - x0) * (y1 - y0) = q at *
          simp [IntKind.wrap, IntKind.bits, IntKind.signed]; omega
        have t4 : IntKind.i64.wrap (s + (x1 - x0) * (y1 - y0)) = s + (x1 - x0) * (y1 - y0) := by
          generalize (x1 - x0) * (y1 - y0) = q at *
          simp [IntKind.wrap, IntKind.bits, IntKind.signed]; omega
        clear bs ba ba1 ba2 bs1 bs2 v1 v2 v3 v4 v5 v6 v7 v8 v9 v10
        go_wp2
        go_quiet (fail)
        refine name_exit fun wd hwd => ?_
        have hbd : Below w.heap.size w wd := by rw [hwd]; exact below_drewN HB.out _
        have HBD := hide hbd
        clear hwd hbd t1 t2 t3 t4
        go_wp2
        go_roundw
        case rel => exact ⟨m + 1, by omega, by go_num, by rw [HT.out]; rfl, HBD⟩
        case measure => simp [intOf]; omega
      · have mz : ¬ (m : Int) < (l.length : Int) := by omega
        have ht : l.take m = l := List.take_of_length_le (by omega)
        have HT := hide ht
        clear ht
        go_wp2
        go_ret2
        exact ⟨by rw [HF.out, HT.out]; rfl, HB.out⟩
  · have hf : areaF l = (0, checkF l) := if_neg h0
    have HF := hide hf
    clear hf
    generalize checkF l = ck at *
    have hne : (ck != 0) = true := by simpa using h0
    clear h0 hr
    go_enter Try.func13, Try.ntmps13
    go_wp2_with (fail)
    refine (HCK.out _ (Below.refl _ _)).mono ?_
    rintro e w1 ⟨rfl, hb1⟩
    have HB1 := hide hb1
    clear hb1
    go_wp2_with (fail)
    refine (HCK.out _ HB1.out).mono ?_
    rintro e w2 ⟨rfl, hb2⟩
    go_wp2_with (fail)
    go_ret2
    exact ⟨by rw [HF.out]; rfl, HB1.out.trans (hb2.mono HB1.out.size)⟩
end Go.Proofs.Ytamnaojheecopaa
