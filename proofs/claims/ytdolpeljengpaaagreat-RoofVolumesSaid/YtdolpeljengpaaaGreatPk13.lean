/- Texts laid together: RoofM, TouchA, TouchB, MParts, MCount, RowSet, MLabel, TouchC, PartsB, RoofL. Lemmas for the statements of this seat; no condition. -/
import Derived.Test.YtdolpeljengpaaaGreatPk12
import Derived.Test.YtdolpeljengpaaaGreatPk10
import Derived.Test.YtdolpeljengpaaaGreatPk6
import Derived.Test.YtdolpeljengpaaaGreatPk5
import Derived.Test.YtdolpeljengpaaaGreatPk1
import Derived.Test.YtdolpeljengpaaaGreatPk11
import Derived.Test.YtdolpeljengpaaaGreatPk9

/- roof.measured and the reference's: the error of a region whose roof is measured. -/
namespace Go.Proofs.YtdolpeljengpaaaGreat
open Go.RowKit
set_option linter.unusedVariables false
set_option linter.unusedSimpArgs false

set_option maxRecDepth 100000 in
set_option maxHeartbeats 4000000 in
theorem omeasured_any {w : World} {v : Value} {l : List R4} (hr : RdK encR 4 w w.heap.size v l) (hl : l.length ≤ 100000000) :
    Calls Tryz.prog 81 #[v] w fun e w' => e = .returned (.int .i64 (measF l)) ∧ Below w.heap.size w w' := by
  have HCK := hide (check_any hr hl)
  have HHU := hide (fun (W : World) (hW : Below w.heap.size w W) => hull_any ((hr.below hW).mono hW.size) hl)
  obtain ⟨A, c, rfl, _⟩ := id hr
  by_cases hc : checkF l = 0
  · by_cases hne : l = []
    · have HF : Hid (measF l = 0) := hide (by unfold measF; rw [if_pos hc, hne]; rfl)
      have hh : hullF l = (⟨0, 0, 0, 0⟩, 6) := by unfold hullF; rw [if_pos hc, if_pos hne]
      have HU : Hid (∀ W : World, Below w.heap.size w W → Calls Tryz.prog 129 #[.slice A l.length c] W fun e w' => e = .returned (.tuple #[.agg #[.int .i64 0, .int .i64 0, .int .i64 0, .int .i64 0], .int .i64 6]) ∧ Below W.heap.size W w') := hide (fun W hW => by have := HHU.out W hW; rw [hh] at this; exact this)
      rw [hc] at HCK
      clear HHU hh hc hne hr hl
      generalize measF l = M at *
      go_enter Tryz.func81, Tryz.ntmps81
      go_wp2_with (fail)
      refine HCK.out.mono ?_
      rintro e w1 ⟨rfl, hb⟩
      have HB := hide hb
      clear hb HCK
      go_wp2_with (fail)
      refine (HU.out _ HB.out).mono ?_
      rintro e w2 ⟨rfl, hb⟩
      have HB2 := hide (HB.out.trans (hb.mono HB.out.size))
      clear hb HB HU
      go_upto_region 5 with fail
      refine wp_name fun Z hZ => ?_
      have hbz : Below w2.heap.size w2 Z := by rw [hZ]; exact (Below.refl _ _).alloc (Nat.le_refl _) _
      have HB3 := hide (HB2.out.trans (hbz.mono HB2.out.size))
      clear hZ hbz HB2
      go_wp2_with (fail)
      go_ret
      exact ⟨by rw [HF.out]; rfl, HB3.out⟩
    · have hh : hullF l = (hullL l, 0) := by unfold hullF; rw [if_pos hc, if_neg hne]
      have hf := hull_far hne
      rcases hq : hullL l with ⟨h0, h1, h2, h3⟩
      rw [hq] at hf
      simp only at hf
      have HU : Hid (∀ W : World, Below w.heap.size w W → Calls Tryz.prog 129 #[.slice A l.length c] W fun e w' => e = .returned (.tuple #[.agg #[.int .i64 h0, .int .i64 h1, .int .i64 h2, .int .i64 h3], .int .i64 0]) ∧ Below W.heap.size W w') := hide (fun W hW => by have := HHU.out W hW; rw [hh, hq] at this; exact this)
      have HM : Hid (measF l = if l.any far200 = true then 16 else 0) := hide (by unfold measF; rw [if_pos hc])
      have hHF := hf
      have HFAR := hide hHF
      rw [hc] at HCK
      clear HHU hh hc hne hr hl hf hHF hq
      generalize measF l = M at *
      generalize l.any far200 = G at *
      by_cases q1 : min h0 h1 < -200
      · have HF : Hid (M = 16) := hide (by rw [HM.out, if_pos (HFAR.out.1 (.inl q1))])
        clear HM HFAR
        go_enter Tryz.func81, Tryz.ntmps81
        go_wp2_with (fail)
        refine HCK.out.mono ?_
        rintro e w1 ⟨rfl, hb⟩
        have HB := hide hb
        clear hb HCK
        go_wp2_with (fail)
        refine (HU.out _ HB.out).mono ?_
        rintro e w2 ⟨rfl, hb⟩
        have HB2 := hide (HB.out.trans (hb.mono HB.out.size))
        clear hb HB HU
        go_upto_region 5 with fail
        refine wp_name fun Z hZ => ?_
        have hbz : Below w2.heap.size w2 Z := by rw [hZ]; exact (Below.refl _ _).alloc (Nat.le_refl _) _
        have z0 : Z.cell? ⟨w2.heap.size, 0, none⟩ = some (.int .i64 h0) := by rw [hZ]; simp [go_sem]
        have z1 : Z.cell? ⟨w2.heap.size, 1, none⟩ = some (.int .i64 h1) := by rw [hZ]; simp [go_sem]
        have z2 : Z.cell? ⟨w2.heap.size, 2, none⟩ = some (.int .i64 h2) := by rw [hZ]; simp [go_sem]
        have z3 : Z.cell? ⟨w2.heap.size, 3, none⟩ = some (.int .i64 h3) := by rw [hZ]; simp [go_sem]
        have HB3 := hide (HB2.out.trans (hbz.mono HB2.out.size))
        clear hZ hbz HB2
        go_wp2_with (fail)
        go_ret
        exact ⟨by rw [HF.out]; rfl, HB3.out⟩
      · by_cases q2 : 200 < max h2 h3
        · have q1' : -200 ≤ min h0 h1 := by omega
          have HF : Hid (M = 16) := hide (by rw [HM.out, if_pos (HFAR.out.1 (.inr q2))])
          clear HM HFAR q1
          go_enter Tryz.func81, Tryz.ntmps81
          go_wp2_with (fail)
          refine HCK.out.mono ?_
          rintro e w1 ⟨rfl, hb⟩
          have HB := hide hb
          clear hb HCK
          go_wp2_with (fail)
          refine (HU.out _ HB.out).mono ?_
          rintro e w2 ⟨rfl, hb⟩
          have HB2 := hide (HB.out.trans (hb.mono HB.out.size))
          clear hb HB HU
          go_upto_region 5 with fail
          refine wp_name fun Z hZ => ?_
          have hbz : Below w2.heap.size w2 Z := by rw [hZ]; exact (Below.refl _ _).alloc (Nat.le_refl _) _
          have z0 : Z.cell? ⟨w2.heap.size, 0, none⟩ = some (.int .i64 h0) := by rw [hZ]; simp [go_sem]
          have z1 : Z.cell? ⟨w2.heap.size, 1, none⟩ = some (.int .i64 h1) := by rw [hZ]; simp [go_sem]
          have z2 : Z.cell? ⟨w2.heap.size, 2, none⟩ = some (.int .i64 h2) := by rw [hZ]; simp [go_sem]
          have z3 : Z.cell? ⟨w2.heap.size, 3, none⟩ = some (.int .i64 h3) := by rw [hZ]; simp [go_sem]
          have HB3 := hide (HB2.out.trans (hbz.mono HB2.out.size))
          clear hZ hbz HB2
          go_wp2_with (fail)
          go_ret
          exact ⟨by rw [HF.out]; rfl, HB3.out⟩
        · have q1' : -200 ≤ min h0 h1 := by omega
          have q2' : max h2 h3 ≤ 200 := by omega
          have HF : Hid (M = 0) := hide (by rw [HM.out, if_neg (fun h => by have := HFAR.out.2 h; omega)])
          clear HM HFAR q1 q2
          go_enter Tryz.func81, Tryz.ntmps81
          go_wp2_with (fail)
          refine HCK.out.mono ?_
          rintro e w1 ⟨rfl, hb⟩
          have HB := hide hb
          clear hb HCK
          go_wp2_with (fail)
          refine (HU.out _ HB.out).mono ?_
          rintro e w2 ⟨rfl, hb⟩
          have HB2 := hide (HB.out.trans (hb.mono HB.out.size))
          clear hb HB HU
          go_upto_region 5 with fail
          refine wp_name fun Z hZ => ?_
          have hbz : Below w2.heap.size w2 Z := by rw [hZ]; exact (Below.refl _ _).alloc (Nat.le_refl _) _
          have z0 : Z.cell? ⟨w2.heap.size, 0, none⟩ = some (.int .i64 h0) := by rw [hZ]; simp [go_sem]
          have z1 : Z.cell? ⟨w2.heap.size, 1, none⟩ = some (.int .i64 h1) := by rw [hZ]; simp [go_sem]
          have z2 : Z.cell? ⟨w2.heap.size, 2, none⟩ = some (.int .i64 h2) := by rw [hZ]; simp [go_sem]
          have z3 : Z.cell? ⟨w2.heap.size, 3, none⟩ = some (.int .i64 h3) := by rw [hZ]; simp [go_sem]
          have HB3 := hide (HB2.out.trans (hbz.mono HB2.out.size))
          clear hZ hbz HB2
          go_wp2_with (fail)
          go_ret
          exact ⟨by rw [HF.out]; rfl, HB3.out⟩
  · have HF : Hid (measF l = checkF l) := hide (if_neg hc)
    have hne : (checkF l != 0) = true := by simpa using hc
    clear hc HHU hr hl
    generalize measF l = M at *
    generalize checkF l = ck at *
    go_enter Tryz.func81, Tryz.ntmps81
    go_wp2_with (fail)
    refine HCK.out.mono ?_
    rintro e w1 ⟨rfl, hb⟩
    have HB := hide hb
    clear hb HCK
    go_wp2_with (fail)
    go_ret
    exact ⟨by rw [HF.out]; rfl, HB.out⟩

set_option maxRecDepth 100000 in
set_option maxHeartbeats 4000000 in
theorem rmeasured_any {w : World} {v : Value} {l : List R4} (hr : RdK encR 4 w w.heap.size v l) (hl : l.length ≤ 100000000) :
    Calls Tryz.prog 83 #[v] w fun e w' => e = .returned (.int .i64 (measF l)) ∧ Below w.heap.size w w' := by
  have HCK : Hid (∀ W : World, Below w.heap.size w W → Calls Tryz.prog 53 #[v] W fun e w' => e = .returned (.int .i64 (checkF l)) ∧ Below W.heap.size W w') := hide (fun W hW => rCheck_any ((hr.below hW).mono hW.size) hl)
  obtain ⟨A, c, rfl, hcc⟩ := hr
  by_cases hc : checkF l = 0
  · have HM : Hid (measF l = if l.any far200 = true then 16 else 0) := hide (by unfold measF; rw [if_pos hc])
    have HT : Hid (∀ (m : Nat) (q : R4), l[m]? = some q → (l.take m).any far200 = false → far200 q = false → (l.take (m + 1)).any far200 = false) := hide (fun m q hq h1 h2 => by
      rw [List.take_add_one, hq, List.any_append, h1]
      simp [h2])
    have HE : Hid ((l.take l.length).any far200 = l.any far200) := hide (by rw [List.take_length])
    have HI : Hid (∀ (m : Nat) (q : R4), l[m]? = some q → far200 q = true → l.any far200 = true) := hide (fun m q hq h => List.any_eq_true.2 ⟨q, List.mem_of_getElem? hq, h⟩)
    have HR := hide hcc
    have lz : (l.length : Int) ≤ 100000000 := by omega
    rw [hc] at HCK
    clear hc hcc
    generalize measF l = M at *
    have hmx := @run_max2 Tryz.prog
    have hmn := @run_min2 Tryz.prog
    go_enter Tryz.func83, Tryz.ntmps83
    go_wp2_with (fail)
    refine (HCK.out _ (Below.refl _ _)).mono ?_
    rintro e w1 ⟨rfl, hb⟩
    have HB0 := hide hb
    clear hb HCK
    go_wp2_with (fail)
    go_loopw [3] (fun i wr => ∃ m : Nat, m ≤ l.length ∧ i = .int .i64 m ∧ Hid ((l.take m).any far200 = false) ∧ Hid (Below w.heap.size w wr)) (fun i _ => l.length - (intOf i).toNat)
    case atStart => exact ⟨0, Nat.zero_le _, rfl, hide (by simp), HB0⟩
    case round =>
      clear HB0
      obtain ⟨m, hm, rfl, HP, HB⟩ := hrel
      by_cases hlt : m < l.length
      · obtain ⟨⟨g0, g1, g2, g3⟩, hp⟩ : ∃ p, l[m]? = some p := ⟨_, List.getElem?_eq_getElem hlt⟩
        obtain ⟨b, o, rfl, hbl, k⟩ := HR.out (by intro e; rw [e] at hlt; simp at hlt)
        have d0 : wr.cell? ⟨b, o + m * 4, none⟩ = some (.int .i64 g0) := (HB.out.cell (p := ⟨b, _, none⟩) hbl).trans (k m _ hp 0 _ rfl)
        have d1 : wr.cell? ⟨b, o + m * 4 + 1, none⟩ = some (.int .i64 g1) := (HB.out.cell (p := ⟨b, _, none⟩) hbl).trans (k m _ hp 1 _ rfl)
        have d2 : wr.cell? ⟨b, o + m * 4 + 2, none⟩ = some (.int .i64 g2) := (HB.out.cell (p := ⟨b, _, none⟩) hbl).trans (k m _ hp 2 _ rfl)
        have d3 : wr.cell? ⟨b, o + m * 4 + 3, none⟩ = some (.int .i64 g3) := (HB.out.cell (p := ⟨b, _, none⟩) hbl).trans (k m _ hp 3 _ rfl)
        have mz : (m : Int) < (l.length : Int) := by omega
        have m0 : (0 : Int) ≤ (m : Int) := by omega
        have hbr : b < wr.heap.size := Nat.lt_of_lt_of_le hbl HB.out.size
        have HHP := hide hp
        clear k hp
        by_cases q1 : min g0 g1 < -200
        · have HF : Hid (M = 16) := hide (by rw [HM.out, if_pos (HI.out m _ HHP.out (by unfold far200; rw [decide_eq_true_eq]; exact .inl q1))])
          have q1' : decide (min g0 g1 < -200) = true := decide_eq_true q1
          clear HM HI HT HE q1
          go_upto_region 6 with fail
          refine wp_hab fun hab => ?_
          refine wp_region_above (by kernel_rfl) (by kernel_rfl) ?_
          repeat (go_big_quiet_step ((fail)))
          refine wpQuiet_nil ?_
          refine above_ends fun w5 hb => ?_
          have HB5 := hide (HB.out.trans (hb.mono HB.out.size))
          clear hab hb d0 d1 d2 d3
          go_wp2_with (fail)
          go_ret
          exact ⟨by rw [HF.out]; rfl, HB5.out⟩
        · have q1' : decide (min g0 g1 < -200) = false := decide_eq_false q1
          by_cases q2 : 200 < max g2 g3
          · have HF : Hid (M = 16) := hide (by rw [HM.out, if_pos (HI.out m _ HHP.out (by unfold far200; rw [decide_eq_true_eq]; exact .inr q2))])
            have q2' : decide (200 < max g2 g3) = true := decide_eq_true q2
            clear HM HI HT HE q1 q2
            go_upto_region 6 with fail
            refine wp_hab fun hab => ?_
            refine wp_region_above (by kernel_rfl) (by kernel_rfl) ?_
            repeat (go_big_quiet_step ((fail)))
            refine wpQuiet_nil ?_
            refine above_ends fun w5 hb => ?_
            have HB5 := hide (HB.out.trans (hb.mono HB.out.size))
            clear hab hb d0 d1 d2 d3
            go_wp2_with (fail)
            go_ret
            exact ⟨by rw [HF.out]; rfl, HB5.out⟩
          · have q2' : decide (200 < max g2 g3) = false := decide_eq_false q2
            have HP2 := hide (HT.out m _ HHP.out HP.out (by unfold far200; rw [decide_eq_false_iff_not]; simp only; omega))
            clear q1 q2
            go_upto_region 6 with fail
            refine wp_hab fun hab => ?_
            refine wp_region_above (by kernel_rfl) (by kernel_rfl) ?_
            repeat (go_big_quiet_step ((fail)))
            refine wpQuiet_nil ?_
            refine above_ends fun w5 hb => ?_
            have HB5 := hide (HB.out.trans (hb.mono HB.out.size))
            clear hab hb d0 d1 d2 d3
            go_wp2_with (fail)
            go_roundw
            case rel => exact ⟨m + 1, by omega, by go_num, HP2, HB5⟩
            case measure => simp [intOf]; omega
      · obtain rfl : m = l.length := by omega
        have HF : Hid (M = 0) := hide (by rw [HM.out, ← HE.out, HP.out]; rfl)
        clear HM HI HT HE HP
        go_wp2_with (fail)
        go_ret
        exact ⟨by rw [HF.out]; rfl, HB.out⟩
  · have HF : Hid (measF l = checkF l) := hide (if_neg hc)
    have hne : (checkF l != 0) = true := by simpa using hc
    clear hc hcc
    generalize measF l = M at *
    generalize checkF l = ck at *
    go_enter Tryz.func83, Tryz.ntmps83
    go_wp2_with (fail)
    refine (HCK.out _ (Below.refl _ _)).mono ?_
    rintro e w1 ⟨rfl, hb⟩
    have HB := hide hb
    clear hb
    go_wp2_with (fail)
    refine (HCK.out _ HB.out).mono ?_
    rintro e w2 ⟨rfl, hb⟩
    have HB2 := hide (HB.out.trans (hb.mono HB.out.size))
    clear hb HB HCK
    go_wp2_with (fail)
    go_ret
    exact ⟨by rw [HF.out]; rfl, HB2.out⟩
end Go.Proofs.YtdolpeljengpaaaGreat

/- Rectangles side by side: region.beside, and the reference's near and common. -/
namespace Go.Proofs.YtdolpeljengpaaaGreat
open Go.RowKit
set_option linter.unusedVariables false
set_option linter.unusedSimpArgs false

def cmn (a b : R4) : Bool := decide (a.x0 < b.x1) && decide (b.x0 < a.x1) && decide (a.y0 < b.y1) && decide (b.y0 < a.y1)
def nearF (a b : R4) : Bool := cmn ⟨a.x0 - 1, a.y0, a.x1 + 1, a.y1⟩ b || cmn ⟨a.x0, a.y0 - 1, a.x1, a.y1 + 1⟩ b
def bsd (a b : R4) : Bool := (decide (min a.x1 b.x1 - max a.x0 b.x0 = 0) && decide (0 < min a.y1 b.y1 - max a.y0 b.y0)) || (decide (0 < min a.x1 b.x1 - max a.x0 b.x0) && decide (min a.y1 b.y1 - max a.y0 b.y0 = 0))
/-- Of rectangles with points and without a common one, both say the same. -/
theorem bsd_near {a b : R4} (ha : wf4 a) (hb : wf4 b) (h : cmn a b = false) : nearF a b = bsd a b := by
  obtain ⟨a0, a1, a2, a3⟩ := a
  obtain ⟨b0, b1, b2, b3⟩ := b
  obtain ⟨p, q⟩ := ha
  obtain ⟨r, s⟩ := hb
  simp only at p q r s
  rw [Bool.eq_iff_iff]
  simp only [cmn, nearF, bsd, Bool.and_eq_true, Bool.or_eq_true, decide_eq_true_eq, ← Bool.not_eq_true] at h ⊢
  omega
theorem cmn_symm (a b : R4) : cmn a b = cmn b a := by
  rw [Bool.eq_iff_iff]
  simp only [cmn, Bool.and_eq_true, decide_eq_true_eq]
  omega
theorem bsd_symm (a b : R4) : bsd a b = bsd b a := by
  unfold bsd
  rw [Int.min_comm a.x1, Int.max_comm a.x0, Int.min_comm a.y1, Int.max_comm a.y0]

set_option maxHeartbeats 1000000 in
theorem common_any (r s : R4) (w : World) :
    Calls Tryz.prog 151 #[.agg (encR r).toArray, .agg (encR s).toArray] w fun e w' => e = .returned (.bool (cmn r s)) ∧ Below w.heap.size w w' := by
  obtain ⟨a0, a1, a2, a3⟩ := r
  obtain ⟨b0, b1, b2, b3⟩ := s
  show Calls Tryz.prog 151 #[.agg #[.int .i64 a0, .int .i64 a1, .int .i64 a2, .int .i64 a3], .agg #[.int .i64 b0, .int .i64 b1, .int .i64 b2, .int .i64 b3]] w _
  have hF : cmn ⟨a0, a1, a2, a3⟩ ⟨b0, b1, b2, b3⟩ = (decide (a0 < b2) && decide (b0 < a2) && decide (a1 < b3) && decide (b1 < a3)) := rfl
  rw [hF]
  have fin : Below w.heap.size w ((w.alloc (.cells #[.int .i64 a0, .int .i64 a1, .int .i64 a2, .int .i64 a3] 69)).alloc (.cells #[.int .i64 b0, .int .i64 b1, .int .i64 b2, .int .i64 b3] 69)) := ((Below.refl _ _).alloc (Nat.le_refl _) _).alloc (by simp) _
  have FIN := hide fin
  clear fin hF
  by_cases t1 : a0 < b2
  · by_cases t2 : b0 < a2
    · by_cases t3 : a1 < b3
      · go_enter Tryz.func151, Tryz.ntmps151
        go_wp2_with (fail)
        go_ret
        exact ⟨ret_eq (bool_eq (by simp [t1, t2, t3])), FIN.out⟩
      · go_enter Tryz.func151, Tryz.ntmps151
        go_wp2_with (fail)
        go_ret
        exact ⟨ret_eq (bool_eq (by simp; omega)), FIN.out⟩
    · go_enter Tryz.func151, Tryz.ntmps151
      go_wp2_with (fail)
      go_ret
      exact ⟨ret_eq (bool_eq (by simp; omega)), FIN.out⟩
  · go_enter Tryz.func151, Tryz.ntmps151
    go_wp2_with (fail)
    go_ret
    exact ⟨ret_eq (bool_eq (by simp; omega)), FIN.out⟩
def mid4 (r : R4) : Prop := (-1000000 ≤ r.x0 ∧ r.x0 ≤ 1000000) ∧ (-1000000 ≤ r.y0 ∧ r.y0 ≤ 1000000) ∧ (-1000000 ≤ r.x1 ∧ r.x1 ≤ 1000000) ∧ (-1000000 ≤ r.y1 ∧ r.y1 ≤ 1000000)
set_option maxHeartbeats 1000000 in
theorem beside_any (r s : R4) (hr : mid4 r) (hs : mid4 s) (w : World) :
    Calls Tryz.prog 98 #[.agg (encR r).toArray, .agg (encR s).toArray] w fun e w' => e = .returned (.bool (bsd r s)) ∧ Below w.heap.size w w' := by
  obtain ⟨a0, a1, a2, a3⟩ := r
  obtain ⟨b0, b1, b2, b3⟩ := s
  obtain ⟨⟨p0, p0'⟩, ⟨p1, p1'⟩, ⟨p2, p2'⟩, p3, p3'⟩ := hr
  obtain ⟨⟨q0, q0'⟩, ⟨q1, q1'⟩, ⟨q2, q2'⟩, q3, q3'⟩ := hs
  simp only at p0 p0' p1 p1' p2 p2' p3 p3' q0 q0' q1 q1' q2 q2' q3 q3'
  show Calls Tryz.prog 98 #[.agg #[.int .i64 a0, .int .i64 a1, .int .i64 a2, .int .i64 a3], .agg #[.int .i64 b0, .int .i64 b1, .int .i64 b2, .int .i64 b3]] w _
  have wx : wrap64 (min a2 b2 - max a0 b0) = min a2 b2 - max a0 b0 := by unfold wrap64; omega
  have wy : wrap64 (min a3 b3 - max a1 b1) = min a3 b3 - max a1 b1 := by unfold wrap64; omega
  have hF : bsd ⟨a0, a1, a2, a3⟩ ⟨b0, b1, b2, b3⟩ = ((decide (min a2 b2 - max a0 b0 = 0) && decide (0 < min a3 b3 - max a1 b1)) || (decide (0 < min a2 b2 - max a0 b0) && decide (min a3 b3 - max a1 b1 = 0))) := rfl
  rw [hF]
  have fin : Below w.heap.size w ((w.alloc (.cells #[.int .i64 a0, .int .i64 a1, .int .i64 a2, .int .i64 a3] 69)).alloc (.cells #[.int .i64 b0, .int .i64 b1, .int .i64 b2, .int .i64 b3] 69)) := ((Below.refl _ _).alloc (Nat.le_refl _) _).alloc (by simp) _
  have FIN := hide fin
  clear fin hF p0 p0' p1 p1' p2 p2' p3 p3' q0 q0' q1 q1' q2 q2' q3 q3'
  go_enter Tryz.func98, Tryz.ntmps98
  go_wp2_with (fail)
  all_goals go_ret
  all_goals refine ⟨ret_eq (bool_eq ?_), FIN.out⟩
  all_goals first
    | rfl
    | (rw [Bool.eq_iff_iff]; simp only [Bool.or_eq_true, Bool.and_eq_true, decide_eq_true_eq, Bool.false_eq_true, true_iff, iff_true, false_iff, iff_false, beq_iff_eq]; omega)
set_option maxHeartbeats 1000000 in
theorem near_any (r s : R4) (hr : mid4 r) (hs : mid4 s) (w : World) :
    Calls Tryz.prog 100 #[.agg (encR r).toArray, .agg (encR s).toArray] w fun e w' => e = .returned (.bool (nearF r s)) ∧ Below w.heap.size w w' := by
  have hc1 := fun W => common_any ⟨r.x0 - 1, r.y0, r.x1 + 1, r.y1⟩ s W
  have hc2 := fun W => common_any ⟨r.x0, r.y0 - 1, r.x1, r.y1 + 1⟩ s W
  obtain ⟨a0, a1, a2, a3⟩ := r
  obtain ⟨b0, b1, b2, b3⟩ := s
  obtain ⟨⟨p0, p0'⟩, ⟨p1, p1'⟩, ⟨p2, p2'⟩, p3, p3'⟩ := hr
  simp only at p0 p0' p1 p1' p2 p2' p3 p3'
  show Calls Tryz.prog 100 #[.agg #[.int .i64 a0, .int .i64 a1, .int .i64 a2, .int .i64 a3], .agg #[.int .i64 b0, .int .i64 b1, .int .i64 b2, .int .i64 b3]] w _
  have w0 : wrap64 (a0 - 1) = a0 - 1 := by unfold wrap64; omega
  have w1 : wrap64 (a1 - 1) = a1 - 1 := by unfold wrap64; omega
  have w2 : wrap64 (a2 + 1) = a2 + 1 := by unfold wrap64; omega
  have w3 : wrap64 (a3 + 1) = a3 + 1 := by unfold wrap64; omega
  have hF : nearF ⟨a0, a1, a2, a3⟩ ⟨b0, b1, b2, b3⟩ = (cmn ⟨a0 - 1, a1, a2 + 1, a3⟩ ⟨b0, b1, b2, b3⟩ || cmn ⟨a0, a1 - 1, a2, a3 + 1⟩ ⟨b0, b1, b2, b3⟩) := rfl
  rw [hF]
  simp only [encR] at hc1 hc2
  generalize cmn ⟨a0 - 1, a1, a2 + 1, a3⟩ ⟨b0, b1, b2, b3⟩ = c1 at *
  generalize cmn ⟨a0, a1 - 1, a2, a3 + 1⟩ ⟨b0, b1, b2, b3⟩ = c2 at *
  have H1 := hide hc1
  have H2 := hide hc2
  have nb : Below w.heap.size w ((((w.alloc (.cells #[.int .i64 a0, .int .i64 a1, .int .i64 a2, .int .i64 a3] 69)).alloc (.cells #[.int .i64 b0, .int .i64 b1, .int .i64 b2, .int .i64 b3] 69)).alloc (.cells #[.int .i64 (a0 - 1), .int .i64 a1, .int .i64 (a2 + 1), .int .i64 a3] 69)).alloc (.cells #[.int .i64 a0, .int .i64 (a1 - 1), .int .i64 a2, .int .i64 (a3 + 1)] 69)) := ((((Below.refl _ _).alloc (Nat.le_refl _) _).alloc (by simp) _).alloc (by simp; omega) _).alloc (by simp; omega) _
  have NB := hide nb
  clear nb
  clear hc1 hc2 hF hs p0 p0' p1 p1' p2 p2' p3 p3'
  cases c1 with
  | true =>
    go_enter Tryz.func100, Tryz.ntmps100
    go_wp2_with (fail)
    refine (H1.out _).mono ?_
    rintro e wa ⟨rfl, hb⟩
    have hb2 := NB.out.trans (hb.mono (by simp; omega))
    clear hb
    go_wp2_with (fail)
    go_ret
    exact ⟨rfl, hb2⟩
  | false =>
    go_enter Tryz.func100, Tryz.ntmps100
    go_wp2_with (fail)
    refine (H1.out _).mono ?_
    rintro e wa ⟨rfl, hb⟩
    have hb2 := NB.out.trans (hb.mono (by simp; omega))
    have x0 := (hb.cell (p := ⟨w.heap.size + 1, 0, none⟩) (by simp)).trans (by simp [go_sem] : _ = some (.int .i64 b0))
    have x1 := (hb.cell (p := ⟨w.heap.size + 1, 1, none⟩) (by simp)).trans (by simp [go_sem] : _ = some (.int .i64 b1))
    have x2 := (hb.cell (p := ⟨w.heap.size + 1, 2, none⟩) (by simp)).trans (by simp [go_sem] : _ = some (.int .i64 b2))
    have x3 := (hb.cell (p := ⟨w.heap.size + 1, 3, none⟩) (by simp)).trans (by simp [go_sem] : _ = some (.int .i64 b3))
    have y0 := (hb.cell (p := ⟨w.heap.size + 1 + 1 + 1, 0, none⟩) (by simp)).trans (by simp [go_sem] : _ = some (.int .i64 a0))
    have y1 := (hb.cell (p := ⟨w.heap.size + 1 + 1 + 1, 1, none⟩) (by simp)).trans (by simp [go_sem] : _ = some (.int .i64 (a1 - 1)))
    have y2 := (hb.cell (p := ⟨w.heap.size + 1 + 1 + 1, 2, none⟩) (by simp)).trans (by simp [go_sem] : _ = some (.int .i64 a2))
    have y3 := (hb.cell (p := ⟨w.heap.size + 1 + 1 + 1, 3, none⟩) (by simp)).trans (by simp [go_sem] : _ = some (.int .i64 (a3 + 1)))
    have HB2 := hide hb2
    clear hb hb2
    go_wp2_with (fail)
    refine (H2.out _).mono ?_
    rintro e wb ⟨rfl, hb⟩
    have hb3 := HB2.out.trans (hb.mono HB2.out.size)
    clear hb
    go_wp2_with (fail)
    go_ret
    exact ⟨rfl, hb3⟩
end Go.Proofs.YtdolpeljengpaaaGreat

/- region.Touch. -/
namespace Go.Proofs.YtdolpeljengpaaaGreat
open Go.RowKit
set_option linter.unusedVariables false
set_option linter.unusedSimpArgs false

def ovl (a b : List R4) : Bool := a.any fun x => b.any fun y => cmn x y
def sid (a b : List R4) : Bool := a.any fun x => b.any fun y => bsd x y
def touchF (a b : List R4) : Bool × Int := if bothF a b = 0 then (!ovl a b && sid a b, 0) else (false, bothF a b)
theorem any_take {α : Type} {l : List α} {m : Nat} {x : α} (h : l[m]? = some x) (f : α → Bool) : (l.take (m + 1)).any f = ((l.take m).any f || f x) := by
  obtain ⟨h1, h2⟩ := List.getElem?_eq_some_iff.1 h
  rw [List.take_succ_eq_append_getElem h1, h2]
  simp
theorem any_of_at {α : Type} {l : List α} {m : Nat} {x : α} (h : l[m]? = some x) {f : α → Bool} (hf : f x = true) : l.any f = true :=
  List.any_eq_true.2 ⟨x, List.mem_of_getElem? h, hf⟩
theorem cmn_min {a b : R4} : cmn a b = (decide (max a.x0 b.x0 < min a.x1 b.x1) && decide (max a.y0 b.y0 < min a.y1 b.y1)) ∨ ¬ (wf4 a ∧ wf4 b) := by
  by_cases h : wf4 a ∧ wf4 b
  · left
    obtain ⟨⟨p, q⟩, r, s⟩ := h
    rw [Bool.eq_iff_iff]
    simp only [cmn, Bool.and_eq_true, decide_eq_true_eq]
    omega
  · exact .inr h
theorem valid_mid {r : R4} (h : valid4 r) : mid4 r := by
  obtain ⟨_, _, h1, h2, h3, h4⟩ := h
  unfold fineP at h1 h2 h3 h4
  unfold mid4
  omega

end Go.Proofs.YtdolpeljengpaaaGreat

/- Plain law: components of a list of rectangles, each named by its least index. -/
namespace Go.Proofs.YtdolpeljengpaaaGreat
set_option linter.unusedVariables false
set_option linter.unusedSimpArgs false

/-- Rectangles i and j lie side by side. -/
def adj (l : List R4) (i j : Nat) : Prop := ∃ x y, l[i]? = some x ∧ l[j]? = some y ∧ bsd x y = true
theorem adj.symm {l : List R4} {i j : Nat} (h : adj l i j) : adj l j i := by
  obtain ⟨x, y, h1, h2, h3⟩ := h
  exact ⟨y, x, h2, h1, by rw [bsd_symm]; exact h3⟩
inductive Conn (l : List R4) (i : Nat) : Nat → Prop where
  | refl : Conn l i i
  | step {j k : Nat} : Conn l i j → adj l j k → Conn l i k
theorem Conn.trans {l : List R4} {i j k : Nat} (h : Conn l i j) (g : Conn l j k) : Conn l i k := by
  induction g with
  | refl => exact h
  | step _ a ih => exact ih.step a
theorem Conn.symm {l : List R4} {i j : Nat} (h : Conn l i j) : Conn l j i := by
  induction h with
  | refl => exact .refl
  | step _ a ih => exact (Conn.refl.step a.symm).trans ih
theorem Conn.lt {l : List R4} {i j : Nat} (h : Conn l i j) (hi : i < l.length) : j < l.length := by
  cases h with
  | refl => exact hi
  | step _ a =>
    obtain ⟨x, y, _, h2, _⟩ := a
    exact (List.getElem?_eq_some_iff.1 h2).1
theorem least (p : Nat → Prop) : ∀ n, p n → ∃ m, p m ∧ ∀ k, p k → m ≤ k := by
  intro n
  induction n using Nat.strongRecOn with
  | _ n ih =>
    intro h
    by_cases hk : ∃ k, k < n ∧ p k
    · obtain ⟨k, h1, h2⟩ := hk
      exact ih k h1 h2
    · refine ⟨n, h, fun k hp => ?_⟩
      by_cases hkn : k < n
      · exact absurd ⟨k, hkn, hp⟩ hk
      · omega
/-- The least index of a component. -/
noncomputable def mn (l : List R4) (i : Nat) : Nat := Classical.choose (least (Conn l i) i .refl)
theorem mn_conn (l : List R4) (i : Nat) : Conn l i (mn l i) := (Classical.choose_spec (least (Conn l i) i .refl)).1
theorem mn_least {l : List R4} {i k : Nat} (h : Conn l i k) : mn l i ≤ k := (Classical.choose_spec (least (Conn l i) i .refl)).2 k h
theorem mn_le (l : List R4) (i : Nat) : mn l i ≤ i := mn_least .refl
theorem mn_eq {l : List R4} {i j : Nat} (h : Conn l i j) : mn l i = mn l j := by
  have h1 := mn_least (h.trans (mn_conn l j))
  have h2 := mn_least (h.symm.trans (mn_conn l i))
  omega
theorem mn_mn (l : List R4) (i : Nat) : mn l (mn l i) = mn l i := (mn_eq (mn_conn l i)).symm
theorem conn_of_mn {l : List R4} {i j : Nat} (h : mn l i = mn l j) : Conn l i j := by
  have h1 := mn_conn l i
  rw [h] at h1
  exact h1.trans (mn_conn l j).symm
/-- Labels that do not go down any more are the least indices. -/
theorem labels_mn {l : List R4} {f : Nat → Nat} (h1 : ∀ i, i < l.length → Conn l i (f i) ∧ f i ≤ i) (h2 : ∀ i k, adj l i k → f i ≤ f k) : ∀ i, i < l.length → f i = mn l i := by
  have key : ∀ i k, Conn l i k → f i = f k := by
    intro i k h
    induction h with
    | refl => rfl
    | step _ a ih => have := h2 _ _ a; have := h2 _ _ a.symm; omega
  intro i hi
  have a1 := mn_least (h1 i hi).1
  have a2 := (h1 _ ((mn_conn l i).lt hi)).2
  have a3 := key _ _ (mn_conn l i)
  omega
open Classical in
/-- The rectangles of the component whose least index is i, in their order. -/
noncomputable def compL (l : List R4) (i : Nat) : List R4 := ((List.range l.length).filter fun j => decide (mn l j = i)).filterMap fun j => l[j]?
open Classical in
noncomputable def partsF (l : List R4) : List (List R4) := ((List.range l.length).filter fun i => decide (mn l i = i)).map fun i => rjoin hFst (compL l i) []
theorem mem_compL {l : List R4} {i : Nat} {r : R4} : r ∈ compL l i ↔ ∃ j, mn l j = i ∧ l[j]? = some r := by
  unfold compL
  simp only [List.mem_filterMap, List.mem_filter, List.mem_range, decide_eq_true_eq]
  constructor
  · rintro ⟨j, ⟨_, h2⟩, h3⟩
    exact ⟨j, h2, h3⟩
  · rintro ⟨j, h2, h3⟩
    exact ⟨j, ⟨(List.getElem?_eq_some_iff.1 h3).1, h2⟩, h3⟩
/-- The region of a list hangs on its rectangles' set alone. -/
theorem rjoin_set {a b : List R4} (ha : ∀ r ∈ a, wf4 r) (hb : ∀ r ∈ b, wf4 r) (h : ∀ r, r ∈ a ↔ r ∈ b) : rjoin hFst a [] = rjoin hFst b [] := by
  obtain ⟨c1, p1⟩ := rjoin_ok (h := hFst) rfl ha (b := []) (by simp)
  obtain ⟨c2, p2⟩ := rjoin_ok (h := hFst) rfl hb (b := []) (by simp)
  refine c1.ext c2 fun x y => ?_
  rw [p1, p2]
  have : decide (pmem a x y) = decide (pmem b x y) := decide_eq_decide.2 (by
    unfold pmem
    constructor
    · rintro ⟨r, h1, h2⟩
      exact ⟨r, (h r).1 h1, h2⟩
    · rintro ⟨r, h1, h2⟩
      exact ⟨r, (h r).2 h1, h2⟩)
  rw [this]
end Go.Proofs.YtdolpeljengpaaaGreat

/- Plain law: a part of a canonical region, made a region, has no more rectangles than the part. -/
namespace Go.Proofs.YtdolpeljengpaaaGreat
set_option linter.unusedVariables false
set_option linter.unusedSimpArgs false

theorem swp_sum_from (g : Int → List Sp) : ∀ (ps : List (Int × Int)) (S : List Slab), (flat (ps.foldl (fun S p => addS S p.1 p.2 (g p.1)) S)).length ≤ (flat S).length + (ps.map fun p => (g p.1).length).sum
  | [], S => by simp
  | p :: ps, S => by
    have h1 := swp_sum_from g ps (addS S p.1 p.2 (g p.1))
    have h2 := addS_len S p.1 p.2 (g p.1)
    simp only [List.foldl_cons, List.map_cons, List.sum_cons]
    omega
theorem prs_sum (f : Int → Nat) : ∀ cs : List Int, ((prs cs).map fun p => f p.1).sum ≤ (cs.map f).sum
  | [] => by simp [prs]
  | [c] => by simp [prs]
  | c :: d :: r => by
    have := prs_sum f (d :: r)
    simp only [prs, List.map_cons, List.sum_cons] at this ⊢
    omega
theorem crossL_cons_len (r : R4) (C : List R4) (c : Int) : (crossL (r :: C) c).length = (if r.x0 ≤ c ∧ c < r.x1 then 1 else 0) + (crossL C c).length := by
  unfold crossL
  by_cases h : r.x0 ≤ c ∧ c < r.x1
  · rw [List.filter_cons_of_pos (by simp [h.1, h.2]), if_pos h]
    simp; omega
  · rw [List.filter_cons_of_neg (by simpa using h), if_neg h]
    simp
theorem sum_add {α : Type} (f g : α → Nat) : ∀ l : List α, (l.map fun x => f x + g x).sum = (l.map f).sum + (l.map g).sum
  | [] => rfl
  | a :: l => by have := sum_add f g l; simp only [List.map_cons, List.sum_cons, this]; omega
theorem one_cut {r : R4} : ∀ {cs : List Int}, cs.Pairwise (· < ·) → (∀ c ∈ cs, r.x0 ≤ c → c < r.x1 → r.x0 = c) → (cs.map fun c => if r.x0 ≤ c ∧ c < r.x1 then 1 else 0).sum ≤ 1
  | [], _, _ => by simp
  | c :: cs, hs, h => by
    have ih := one_cut (r := r) (List.pairwise_cons.1 hs).2 (fun c hc => h c (List.mem_cons_of_mem _ hc))
    simp only [List.map_cons, List.sum_cons]
    by_cases hc : r.x0 ≤ c ∧ c < r.x1
    · have e := h c (List.mem_cons_self) hc.1 hc.2
      have hz : (cs.map fun c => if r.x0 ≤ c ∧ c < r.x1 then 1 else 0).sum = 0 := by
        rw [List.sum_eq_zero_iff_forall_eq_nat]
        intro n hn
        obtain ⟨d, hd, rfl⟩ := List.mem_map.1 hn
        have h1 := (List.pairwise_cons.1 hs).1 d hd
        rw [if_neg]
        rintro ⟨h2, h3⟩
        have := h d (List.mem_cons_of_mem _ hd) h2 h3
        omega
      rw [if_pos hc, hz]
      omega
    · rw [if_neg hc]
      omega
theorem sum_cross {cs : List Int} (hs : cs.Pairwise (· < ·)) : ∀ {C : List R4}, (∀ r ∈ C, ∀ c ∈ cs, r.x0 ≤ c → c < r.x1 → r.x0 = c) → (cs.map fun c => (crossL C c).length).sum ≤ C.length
  | [], _ => by
    have : (cs.map fun c => (crossL [] c).length).sum = 0 := by
      rw [List.sum_eq_zero_iff_forall_eq_nat]
      intro n hn
      obtain ⟨d, _, rfl⟩ := List.mem_map.1 hn
      rfl
    omega
  | r :: C, h => by
    have ih := sum_cross hs (C := C) (fun r hr => h r (List.mem_cons_of_mem _ hr))
    have h1 := one_cut hs (h r (List.mem_cons_self))
    simp only [crossL_cons_len]
    rw [sum_add]
    simp only [List.length_cons]
    omega
theorem SOK.apart : ∀ {S : List Slab}, SOK S → ∀ a ∈ S, ∀ b ∈ S, a = b ∨ a.t ≤ b.f ∨ b.t ≤ a.f
  | [], _, a, ha, _, _ => by cases ha
  | c :: S, h, a, ha, b, hb => by
    rcases List.mem_cons.1 ha with e1 | ha'
    · rcases List.mem_cons.1 hb with e2 | hb'
      · exact .inl (e1.trans e2.symm)
      · exact .inr (.inl (e1 ▸ h.after b hb'))
    · rcases List.mem_cons.1 hb with e2 | hb'
      · exact .inr (.inr (e2 ▸ h.after a ha'))
      · exact SOK.apart h.tail a ha' b hb'
theorem SOK.wide : ∀ {S : List Slab}, SOK S → ∀ a ∈ S, a.f < a.t
  | [], _, a, ha => by cases ha
  | c :: S, h, a, ha => by
    rcases List.mem_cons.1 ha with rfl | ha
    · exact h.head.1
    · exact SOK.wide h.tail a ha
theorem mem_flat {S : List Slab} {r : R4} (h : r ∈ flat S) : ∃ a ∈ S, r.x0 = a.f ∧ r.x1 = a.t := by
  obtain ⟨a, ha, h⟩ := List.mem_flatMap.1 h
  obtain ⟨p, hp, rfl⟩ := List.mem_map.1 h
  exact ⟨a, ha, rfl, rfl⟩
theorem can_cut {l : List R4} (h : RCan l) {r s : R4} (hr : r ∈ l) (hs : s ∈ l) {c : Int} (hc : c = s.x0 ∨ c = s.x1) (h1 : r.x0 ≤ c) (h2 : c < r.x1) : r.x0 = c := by
  obtain ⟨S, hS, rfl⟩ := h
  obtain ⟨a, ha, a1, a2⟩ := mem_flat hr
  obtain ⟨b, hb, b1, b2⟩ := mem_flat hs
  have w1 := hS.wide a ha
  have w2 := hS.wide b hb
  rcases hS.apart a ha b hb with rfl | h3 | h3 <;> rcases hc with rfl | rfl <;> omega
theorem sub_count {l C : List R4} (h : RCan l) (hw : ∀ r ∈ l, wf4 r) (hC : C.Sublist l) : (rjoin hFst C []).length ≤ C.length := by
  have hcs := cutsOf_ok (cutsL C)
  have hwC : ∀ r ∈ C, wf4 r := fun r hr => hw r (hC.subset hr)
  have hg : ∀ c, sjoin hFst (crossL C c) (crossL [] c) = crossL C c := fun c => by
    refine (sjoin_eq (h := hFst) rfl (crossL_wf hwC c) (by simp [crossL]) ⟨crossL_wf hwC c, (crossL_can h c).2.sublist ((hC.filter _).map _)⟩ fun x => by simp [hFst]).symm
  rw [← swp_join (h := hFst) rfl hwC (b := []) (by simp) hcs.1 (fun c hc => (hcs.2 c).2 hc) (by simp [cutsL])]
  have h1 := swp_sum_from (fun c => sjoin hFst (crossL C c) (crossL [] c)) (prs (cutsOf (cutsL C))) []
  simp only [hg] at h1
  have h2 := prs_sum (fun c => (crossL C c).length) (cutsOf (cutsL C))
  have h3 := sum_cross hcs.1 (C := C) (fun r hr c hc q1 q2 => by
    have hc2 := (hcs.2 c).1 hc
    obtain ⟨s, hs, he⟩ : ∃ s ∈ C, c = s.x0 ∨ c = s.x1 := by simpa [cutsL] using hc2
    exact can_cut h (hC.subset hr) (hC.subset hs) he q1 q2)
  have h4 : (flat ([] : List Slab)).length = 0 := rfl
  unfold swp
  simp only [hg]
  omega
theorem filterMap_at {α : Type} : ∀ l : List α, (List.range l.length).filterMap (fun j => l[j]?) = l
  | [] => rfl
  | a :: l => by
    have ih := filterMap_at l
    rw [List.length_cons, List.range_succ_eq_map, List.filterMap_cons_some (by rfl : (a :: l)[0]? = some a), List.filterMap_map]
    show a :: List.filterMap (fun j => l[j]?) (List.range l.length) = a :: l
    rw [ih]
theorem compL_sub (l : List R4) (i : Nat) : (compL l i).Sublist l := by
  have h := filterMap_at l
  have h2 : (compL l i).Sublist ((List.range l.length).filterMap (fun j => l[j]?)) := (List.filter_sublist).filterMap _
  rwa [h] at h2
end Go.Proofs.YtdolpeljengpaaaGreat

/- A store into a row of the call's own; the sum of a row of numbers, read off the world. -/
namespace Go.Proofs.YtdolpeljengpaaaGreat
open Go.RowKit
set_option linter.unusedVariables false
set_option linter.unusedSimpArgs false

theorem heap_set_same {w : World} {g j : Nat} {cur : Array Value} {e : TypeId} (h : w.heap[g]? = some (.cells cur e (0, 0))) (u : Value) : (w.setCell ⟨g, j, none⟩ u).heap[g]? = some (.cells (cur.setIfInBounds j u) e (0, 0)) := by
  simp only [World.setCell, Array.getElem?_modify, h]
  simp
theorem own_set {w : World} {base g n cap j : Nat} {e : TypeId} {xs : List Value} (h : w.ownsRow base e 1 (.slice (some ⟨g, 0, none⟩) n cap) n xs) (u : Value) : (w.setCell ⟨g, j, none⟩ u).ownsRow base e 1 (.slice (some ⟨g, 0, none⟩) n cap) n (xs.set j u) := by
  refine ⟨by rw [List.length_set]; exact h.1, ?_⟩
  rcases h.2 with ⟨hv, _⟩ | ⟨g', cap', cur, hv, hb, hg, hnc, hcm, hcs, ht⟩
  · cases hv
  · injection hv with e1 _ e3
    injection e1 with e1
    injection e1 with e1
    subst e1; subst e3
    refine .inr ⟨g, cap, cur.setIfInBounds j u, rfl, hb, heap_set_same hg u, hnc, hcm, by simpa using hcs, ?_⟩
    rw [Array.toList_setIfInBounds, List.take_set, ht]
/-- The sum of n numbers of a row. -/
def cellSum (w : World) (v : Value) (n : Nat) : Nat :=
  match v with
  | .slice (some p) _ _ => ((List.range n).map fun j => match w.cell? ⟨p.block, p.off + j, none⟩ with | some (.int _ x) => x.toNat | _ => 0).sum
  | _ => 0
theorem cellSum_own {w : World} {base : Nat} {e : TypeId} {v : Value} {l : List Int} (h : w.ownsRow base e 1 v l.length (l.map iv)) : cellSum w v l.length = (l.map Int.toNat).sum := by
  rcases h.2 with ⟨rfl, h0⟩ | ⟨g, cap, cur, rfl, hb, hg, _⟩
  · have := List.eq_nil_of_length_eq_zero h0
    subst this
    rfl
  · unfold cellSum
    show (List.map _ (List.range l.length)).sum = _
    refine congrArg List.sum ?_
    apply List.ext_getElem?
    intro k
    rw [List.getElem?_map, List.getElem?_map]
    by_cases hk : k < l.length
    · rw [List.getElem?_range hk, List.getElem?_eq_getElem hk]
      have := (h.cells (g := g) rfl) k (iv l[k]) (by simp [hk])
      rw [addr_add] at this
      simp only [Option.map_some, Nat.zero_add] at this ⊢
      rw [this]
    · rw [List.getElem?_eq_none (by simpa using hk), List.getElem?_eq_none (by omega)]
      rfl
end Go.Proofs.YtdolpeljengpaaaGreat

/- Plain law: labels that go down along neighbours, step by step. -/
namespace Go.Proofs.YtdolpeljengpaaaGreat
set_option linter.unusedVariables false
set_option linter.unusedSimpArgs false

/-- Each label names a rectangle of the component, not behind its own. -/
def Lb (l : List R4) (L : List Int) : Prop := L.length = l.length ∧ ∀ (i : Nat) x, L[i]? = some x → ∃ j : Nat, x = (j : Int) ∧ Conn l i j ∧ j ≤ i
def sumN (L : List Int) : Nat := (L.map Int.toNat).sum
/-- No label is below a neighbour's, as far as the pairs have been seen: rows before m, and row m before j. -/
def Seen (l : List R4) (L : List Int) (m j : Nat) : Prop := ∀ i k x y, adj l i k → L[i]? = some x → L[k]? = some y → (i < m ∨ (i = m ∧ k < j)) → x ≤ y
/-- Inside one pass over all pairs: something went down, or nothing yet. -/
def Pass (l : List R4) (L0 L : List Int) (mb : Bool) (m j : Nat) : Prop := Lb l L ∧ ((mb = true ∧ sumN L < sumN L0) ∨ (mb = false ∧ L = L0 ∧ Seen l L m j))
theorem sumN_set : ∀ {L : List Int} {i : Nat} {x y : Int}, L[i]? = some x → sumN (L.set i y) + x.toNat = sumN L + y.toNat
  | [], i, x, y, h => by simp at h
  | a :: L, 0, x, y, h => by
    simp at h
    subst h
    simp [sumN]; omega
  | a :: L, i + 1, x, y, h => by
    have := sumN_set (L := L) (i := i) (y := y) (by simpa using h)
    simp [sumN] at this ⊢
    omega
theorem Lb.start (l : List R4) : Lb l ((List.range l.length).map fun i : Nat => (i : Int)) := by
  refine ⟨by simp, fun i x h => ?_⟩
  rw [List.getElem?_map] at h
  obtain ⟨j, hj, rfl⟩ := Option.map_eq_some_iff.1 h
  obtain ⟨h1, h2⟩ := List.getElem?_eq_some_iff.1 hj
  simp at h2
  subst h2
  exact ⟨i, rfl, .refl, Nat.le_refl _⟩
/-- The step of a pair whose second label is smaller. -/
theorem Pass.down {l : List R4} {L0 L : List Int} {mb : Bool} {m j : Nat} {x y : Int} (h : Pass l L0 L mb m j) (ha : adj l m j) (hx : L[m]? = some x) (hy : L[j]? = some y) (hlt : y < x) : Pass l L0 (L.set m y) true m (j + 1) := by
  obtain ⟨⟨h1, h2⟩, h3⟩ := h
  obtain ⟨jy, ey, cy, _⟩ := h2 j y hy
  obtain ⟨jx, ex, cx, lx⟩ := h2 m x hx
  refine ⟨⟨by simpa using h1, fun i z hz => ?_⟩, .inl ⟨rfl, ?_⟩⟩
  · by_cases hi : m = i
    · subst hi
      have hm : m < L.length := (List.getElem?_eq_some_iff.1 hx).1
      rw [List.getElem?_set_self hm] at hz
      injection hz with hz
      subst hz
      exact ⟨jy, ey, (Conn.refl.step ha).trans cy, by omega⟩
    · rw [List.getElem?_set_ne hi] at hz
      exact h2 i z hz
  · have := sumN_set (y := y) hx
    rcases h3 with ⟨_, h3⟩ | ⟨_, rfl, _⟩ <;> omega
theorem Pass.stay {l : List R4} {L0 L : List Int} {mb : Bool} {m j : Nat} (h : Pass l L0 L mb m j) (hn : ∀ x y, adj l m j → L[m]? = some x → L[j]? = some y → x ≤ y) : Pass l L0 L mb m (j + 1) := by
  refine ⟨h.1, h.2.imp id fun ⟨a, b, c⟩ => ⟨a, b, fun i k x y ha hx hy hs => ?_⟩⟩
  by_cases e : i = m ∧ k = j
  · obtain ⟨rfl, rfl⟩ := e
    exact hn x y ha hx hy
  · exact c i k x y ha hx hy (by omega)
theorem Pass.row {l : List R4} {L0 L : List Int} {mb : Bool} {m j : Nat} (h : Pass l L0 L mb m j) (hj : l.length ≤ j) : Pass l L0 L mb (m + 1) 0 := by
  refine ⟨h.1, h.2.imp id fun ⟨a, b, c⟩ => ⟨a, b, fun i k x y ha hx hy hs => ?_⟩⟩
  have hk : k < L.length := (List.getElem?_eq_some_iff.1 hy).1
  have := h.1.1
  exact c i k x y ha hx hy (by omega)
/-- Labels of a pass that changed nothing are the least indices. -/
theorem Pass.done {l : List R4} {L0 L : List Int} {m j : Nat} (h : Pass l L0 L false m j) (hm : l.length ≤ m) : L = (List.range l.length).map fun i => ((mn l i : Nat) : Int) := by
  obtain ⟨⟨h1, h2⟩, h3⟩ := h
  obtain ⟨_, _, hs⟩ := h3.resolve_left (fun q => by cases q.1)
  have key := labels_mn (l := l) (f := fun i => ((L[i]?).getD 0).toNat) (fun i hi => by
    obtain ⟨x, hx⟩ : ∃ x, L[i]? = some x := ⟨_, List.getElem?_eq_getElem (by omega)⟩
    obtain ⟨j, rfl, c, le⟩ := h2 i x hx
    simp only [hx, Option.getD_some, Int.toNat_natCast]
    exact ⟨c, le⟩) (fun i k ha => by
    obtain ⟨x0, y0, g1, g2, _⟩ := id ha
    have hi := (List.getElem?_eq_some_iff.1 g1).1
    have hk := (List.getElem?_eq_some_iff.1 g2).1
    obtain ⟨x, hx⟩ : ∃ x, L[i]? = some x := ⟨_, List.getElem?_eq_getElem (by omega)⟩
    obtain ⟨y, hy⟩ : ∃ y, L[k]? = some y := ⟨_, List.getElem?_eq_getElem (by omega)⟩
    have := hs i k x y ha hx hy (.inl (by omega))
    simp only [hx, hy, Option.getD_some]
    omega)
  apply List.ext_getElem?
  intro i
  by_cases hi : i < l.length
  · obtain ⟨x, hx⟩ : ∃ x, L[i]? = some x := ⟨_, List.getElem?_eq_getElem (by omega)⟩
    obtain ⟨j, rfl, c, le⟩ := h2 i x hx
    have := key i hi
    simp only [hx, Option.getD_some, Int.toNat_natCast] at this
    rw [hx, List.getElem?_map, List.getElem?_range hi]
    simp [this]
  · rw [List.getElem?_eq_none (by omega), List.getElem?_eq_none (by simpa using hi)]
end Go.Proofs.YtdolpeljengpaaaGreat

/- The reference's Touch. -/
namespace Go.Proofs.YtdolpeljengpaaaGreat
open Go.RowKit
set_option linter.unusedVariables false
set_option linter.unusedSimpArgs false

end Go.Proofs.YtdolpeljengpaaaGreat

/- The reference's Parts. -/
namespace Go.Proofs.YtdolpeljengpaaaGreat
open Go.RowKit
set_option linter.unusedVariables false
set_option linter.unusedSimpArgs false

/-- A list of regions of the call's own. -/
structure Regs (w : World) (vo : Value) (R : List (List R4)) (wr : World) : Prop where
  low : Below w.heap.size w wr
  o : ∃ vs, wr.ownsRow w.heap.size 27 1 vo R.length vs ∧ ∀ (i : Nat) (r : List R4), R[i]? = some r → ∃ v, vs[i]? = some v ∧ wr.ownsRow w.heap.size 69 4 v r.length (r.flatMap encR)
theorem Regs.below {w wr w2 : World} {vo : Value} {R : List (List R4)} (h : Regs w vo R wr) (hb : Below wr.heap.size wr w2) : Regs w vo R w2 := by
  obtain ⟨vs, h1, h2⟩ := h.o
  refine ⟨h.low.trans (hb.mono h.low.size), vs, own_below h1 hb, fun i r hr => ?_⟩
  obtain ⟨v, h3, h4⟩ := h2 i r hr
  exact ⟨v, h3, own_below h4 hb⟩
theorem Regs.push {w wr w2 : World} {vo v2 v : Value} {R : List (List R4)} {r : List R4} {vs : List Value} (low : Below w.heap.size w wr) (h1 : wr.ownsRow w.heap.size 27 1 vo R.length vs)
    (h2 : ∀ (i : Nat) (r : List R4), R[i]? = some r → ∃ v, vs[i]? = some v ∧ wr.ownsRow w.heap.size 69 4 v r.length (r.flatMap encR)) (hv : wr.ownsRow w.heap.size 69 4 v r.length (r.flatMap encR))
    (hg : wr.grownBy w2 vo.ownBlock) (h3 : w2.ownsRow w.heap.size 27 1 v2 (R.length + 1) (vs ++ [v])) : Regs w v2 (R ++ [r]) w2 := by
  have hl : vs.length = R.length := by have := h1.1; omega
  refine ⟨low.grown hg low.size (fun q hq => (h1.lt q hq).1), vs ++ [v], by simpa using h3, fun i x hx => ?_⟩
  by_cases hi : i < R.length
  · rw [List.getElem?_append_left hi] at hx
    obtain ⟨u, h4, h5⟩ := h2 i x hx
    exact ⟨u, by rw [List.getElem?_append_left (by omega)]; exact h4, h5.kept hg (own_apart h5 h1 (by decide))⟩
  · rw [List.getElem?_append_right (by omega)] at hx
    have hi0 : i - R.length = 0 := by
      have := (List.getElem?_eq_some_iff.1 hx).1
      simp at this
      omega
    rw [hi0] at hx
    simp at hx
    subst hx
    refine ⟨v, by rw [List.getElem?_append_right (by omega), hl, hi0]; rfl, hv.kept hg (own_apart hv h1 (by decide))⟩
def RegsRet (B : Nat) (x : List (List R4) × Int) (e : Ending) (w' : World) : Prop :=
  ∃ A c vs, e = .returned (.tuple #[.slice A x.1.length c, .int .i64 x.2]) ∧ w'.ownsRow B 27 1 (.slice A x.1.length c) x.1.length vs ∧ ∀ (i : Nat) (r : List R4), x.1[i]? = some r → ∃ v, vs[i]? = some v ∧ w'.ownsRow B 69 4 v r.length (r.flatMap encR)
noncomputable def partsE (l : List R4) : List (List R4) × Int := if checkF l = 0 then (partsF l, 0) else ([], checkF l)
theorem infoRg : (Tryz.prog.info? 27).map (fun i => (i.zero, i.size, i.bytes)) = some (some (.slice none 0 0), 1, 24) := by kernel_rfl
theorem cmn_apart {l : List R4} (h : l.Pairwise apart4) {i k : Nat} {x y : R4} (hx : l[i]? = some x) (hy : l[k]? = some y) (hne : i ≠ k) (wx : wf4 x) (wy : wf4 y) : cmn x y = false := by
  obtain ⟨hi, ex⟩ := List.getElem?_eq_some_iff.1 hx
  obtain ⟨hk, ey⟩ := List.getElem?_eq_some_iff.1 hy
  have key : ∀ a b : R4, apart4 a b → wf4 a → wf4 b → cmn a b = false := fun a b hab w1 w2 => by
    have := hab (max a.x0 b.x0) (max a.y0 b.y0)
    unfold wf4 at w1 w2
    simp only [rin] at this
    unfold cmn
    by_cases c1 : a.x0 < b.x1 <;> by_cases c2 : b.x0 < a.x1 <;> by_cases c3 : a.y0 < b.y1 <;> by_cases c4 : b.y0 < a.y1 <;> simp only [c1, c2, c3, c4, decide_true, decide_false, Bool.and_true, Bool.and_false, Bool.false_and]
    exact absurd ⟨⟨by omega, by omega, by omega, by omega⟩, by omega, by omega, by omega, by omega⟩ this
  have P := List.pairwise_iff_getElem.1 h
  rcases Nat.lt_or_gt_of_ne hne with hlt | hlt
  · exact key x y (by have := P i k hi hk hlt; rwa [ex, ey] at this) wx wy
  · exact key x y (fun u v ⟨h1, h2⟩ => by have := P k i hk hi hlt; rw [ex, ey] at this; exact this u v ⟨h2, h1⟩) wx wy
/-- The component's rectangles among the first j. -/
noncomputable def compP (l : List R4) (i j : Nat) : List R4 := ((List.range j).filter fun k => decide (mn l k = i)).filterMap fun k => l[k]?
theorem compP_in {l : List R4} {i j : Nat} {r : R4} (hr : l[j]? = some r) (h : mn l j = i) : compP l i (j + 1) = compP l i j ++ [r] := by
  unfold compP
  rw [List.range_succ, List.filter_append, List.filterMap_append]
  simp [h, hr]
theorem compP_out {l : List R4} {i j : Nat} (h : mn l j ≠ i) : compP l i (j + 1) = compP l i j := by
  unfold compP
  rw [List.range_succ, List.filter_append, List.filterMap_append]
  simp [h]
theorem compP_all (l : List R4) (i : Nat) : compP l i l.length = compL l i := rfl
theorem compP_len (l : List R4) (i j : Nat) : (compP l i j).length ≤ j := by
  unfold compP
  exact Nat.le_trans (List.length_filterMap_le _ _) (Nat.le_trans (List.length_filter_le _ _) (by simp))
noncomputable def partsP (l : List R4) (m : Nat) : List (List R4) := ((List.range m).filter fun i => decide (mn l i = i)).map fun i => rjoin hFst (compL l i) []
theorem partsP_in {l : List R4} {m : Nat} (h : mn l m = m) : partsP l (m + 1) = partsP l m ++ [rjoin hFst (compL l m) []] := by
  unfold partsP
  rw [List.range_succ, List.filter_append, List.map_append]
  simp [h]
theorem partsP_out {l : List R4} {m : Nat} (h : mn l m ≠ m) : partsP l (m + 1) = partsP l m := by
  unfold partsP
  rw [List.range_succ, List.filter_append, List.map_append]
  simp [h]
theorem partsP_all (l : List R4) : partsP l l.length = partsF l := rfl
theorem partsP_len (l : List R4) (m : Nat) : (partsP l m).length ≤ m := by
  unfold partsP
  rw [List.length_map]
  exact Nat.le_trans (List.length_filter_le _ _) (by simp)
/-- The labels' row, at one place. -/
theorem lab_cell {w wr : World} {g n c i : Nat} {L : List Int} {x : Int} (h : wr.ownsRow w.heap.size 3 1 (.slice (some ⟨g, 0, none⟩) n c) n (L.map iv)) (hx : L[i]? = some x) : wr.cell? ⟨g, i, none⟩ = some (.int .i64 x) := by
  have := (h.cells (g := g) rfl) i (iv x) (by simp [hx])
  rwa [addr_add] at this
theorem rects_at {W wr : World} {l : List R4} {b o m : Nat} (hk : ∀ (j : Nat) (x : R4), l[j]? = some x → ∀ (i : Nat) (u : Value), (encR x)[i]? = some u → W.cell? ⟨b, o + j * 4 + i, none⟩ = some u) (hb : ∀ q, wr.cell? ⟨b, q, none⟩ = W.cell? ⟨b, q, none⟩) {p0 p1 p2 p3 : Int} (hp : l[m]? = some ⟨p0, p1, p2, p3⟩) :
    wr.cell? ⟨b, o + m * 4, none⟩ = some (.int .i64 p0) ∧ wr.cell? ⟨b, o + m * 4 + 1, none⟩ = some (.int .i64 p1) ∧ wr.cell? ⟨b, o + m * 4 + 2, none⟩ = some (.int .i64 p2) ∧ wr.cell? ⟨b, o + m * 4 + 3, none⟩ = some (.int .i64 p3) :=
  ⟨(hb _).trans (hk m _ hp 0 _ rfl), (hb _).trans (hk m _ hp 1 _ rfl), (hb _).trans (hk m _ hp 2 _ rfl), (hb _).trans (hk m _ hp 3 _ rfl)⟩
def lab0 (m : Nat) : List Int := (List.range m).map fun i : Nat => (i : Int)
theorem lab0_len (m : Nat) : (lab0 m).length = m := by simp [lab0]
theorem lab0_snoc (m : Nat) : (lab0 m).map iv ++ [.int .i64 (m : Int)] = (lab0 (m + 1)).map iv := by
  unfold lab0
  rw [List.range_succ, List.map_append, List.map_append]
  rfl
theorem cellSum_lab {w : World} {base n : Nat} {e : TypeId} {v : Value} {L : List Int} (h : w.ownsRow base e 1 v n (L.map iv)) : cellSum w v n = sumN L := by
  have hn : n = L.length := by have := h.1; simp at this; omega
  subst hn
  exact cellSum_own h
def labR (l : List R4) (w : World) (vf : Value) (L : List Int) (wr : World) : Prop := wr.ownsRow w.heap.size 3 1 vf l.length (L.map iv) ∧ Below w.heap.size w wr

set_option maxRecDepth 100000 in
set_option maxHeartbeats 4000000 in
theorem rParts_any {w : World} {v : Value} {l : List R4} (hr : RdK encR 4 w w.heap.size v l) (hl : l.length ≤ 100000000) :
    Calls Tryz.prog 55 #[v] w fun e w' => RegsRet w.heap.size (partsE l) e w' ∧ Below w.heap.size w w' := by
  obtain ⟨i1, gi, gz0, gz1, gz2⟩ := info_parts infoInt
  obtain ⟨i2, fi, fz0, fz1, fz2⟩ := info_parts infoRg
  obtain ⟨i3, ki, kz0, kz1, kz2⟩ := info_parts infoRc
  have hck := fun (W : World) (hW : Below w.heap.size w W) => rCheck_any (w := W) ((hr.below hW).mono hW.size) hl
  have hR := hide hr
  obtain ⟨A0, c0, hv, hc⟩ := id hr
  subst hv
  have HCK := hide hck
  have HRC := hide hc
  clear hck hr hc
  by_cases h0 : checkF l = 0
  · obtain ⟨k1, k2, _⟩ := checkF_ok h0
    have HF : Hid (partsE l = (partsF l, 0)) := hide (if_pos h0)
    have HCAN := hide (check_rcan h0)
    have HV := hide k2
    rw [h0] at HCK
    clear k2 h0
    go_enter Tryz.func55, Tryz.ntmps55
    go_wp2_with (go_at_call 53; refine (HCK.out _ (Below.refl _ _)).mono ?_; rintro e w1 ⟨rfl, hb1⟩)
    have HB1 := hide hb1
    clear hb1
    go_loopw [4, 5] (fun v i wr => ∃ m : Nat, m ≤ l.length ∧ i = .int .i64 m ∧ ∃ Av cv, v = .slice Av m cv ∧ Hid (wr.ownsRow w.heap.size 3 1 v m ((lab0 m).map iv)) ∧ Hid (Below w.heap.size w wr)) (fun _ i _ => l.length - (intOf i).toNat)
    case atStart => exact ⟨0, Nat.zero_le _, rfl, none, 0, rfl, hide (World.ownsRow_nil _ _ _ _), HB1⟩
    case round =>
      clear HB1
      obtain ⟨m, hm, rfl, Av, cv, rfl, HO, HB⟩ := hrel
      by_cases hlt : m < l.length
      · have mz : (m : Int) < (l.length : Int) := by omega
        have hsz := HB.out.size
        go_wp2_with (at_builtin; go_loud (refine wpList_append_lies _ rfl (.tmp 24) (.tmp 26) 156 rfl w.heap.size 3 i1 (.int .i64 0) 1 8 Tryz.underlying156 gi gz0 gz1 gz2 rfl (by decide) _ m _ rfl (HO.out.alloc _) ⟨wr.heap.size, 0, none⟩ 1 1 [.int .i64 m] rfl rfl (news_new wr _ _ _ rfl) (ints_one rfl) (by omega) (by unfold maxLen; omega) (by omega) (by simp; omega) _ rfl ?_))
        intro g9 cap9 w9 hown9 hgrow9 _ _
        rw [lab0_snoc] at hown9
        have HB9 := hide ((HB.out.alloc hsz _).grown hgrow9 (by simp; omega) (fun q hq => (HO.out.lt q hq).1))
        have HO9 := hide hown9
        clear hown9 hgrow9
        go_wp2
        go_roundw
        case rel => exact ⟨m + 1, by omega, by go_num, _, cap9, rfl, HO9, HB9⟩
        case measure => simp [intOf]; omega
      · have mz : ¬ (m : Int) < (l.length : Int) := by omega
        obtain rfl : m = l.length := by omega
        go_wp2
        have HLB := hide (Lb.start l)
        have HO0 := hide (show labR l w (.slice Av l.length cv) (lab0 l.length) wr from ⟨HO.out, HB.out⟩)
        clear HO HB
        go_loopw [6] (fun q wr => ∃ mb : Bool, q = .bool mb ∧ ∃ L : List Int, Hid (Lb l L) ∧ Hid (labR l w (.slice Av l.length cv) L wr) ∧ Hid (mb = false → L = (List.range l.length).map fun i => ((mn l i : Nat) : Int)))
          (fun q wr => match q with | .bool true => cellSum wr (.slice Av l.length cv) l.length + 1 | _ => 0)
        case atStart => exact ⟨true, rfl, _, HLB, HO0, hide (fun h => by cases h)⟩
        case round =>
          clear HLB HO0
          obtain ⟨mb, rfl, L, HLB, HO, HDN⟩ := hrel
          cases mb with
          | true =>
            obtain ⟨L0, HL0⟩ : ∃ L0, Hid (L0 = L) := ⟨_, hide rfl⟩
            have HPS := hide (show Pass l L L false 0 0 from ⟨HLB.out, .inr ⟨rfl, rfl, fun i k x y _ _ _ h => by omega⟩⟩)
            go_wp2
            go_loopw [6, 7] (fun q i wr => ∃ m : Nat, m ≤ l.length ∧ i = .int .i64 m ∧ ∃ mb : Bool, q = .bool mb ∧ ∃ L1 : List Int, Hid (Pass l L L1 mb m 0) ∧ Hid (labR l w (.slice Av l.length cv) L1 wr)) (fun _ i _ => l.length - (intOf i).toNat)
            case atStart => exact ⟨0, Nat.zero_le _, rfl, false, rfl, L, HPS, HO⟩
            case round =>
              clear HPS
              obtain ⟨m, hm, rfl, mb, rfl, L1, HPS, HOa⟩ := hrel
              by_cases hlt : m < l.length
              · have mz : (m : Int) < (l.length : Int) := by omega
                go_wp2
                go_loopw [6, 8] (fun q i wr => ∃ j : Nat, j ≤ l.length ∧ i = .int .i64 j ∧ ∃ mb : Bool, q = .bool mb ∧ ∃ L2 : List Int, Hid (Pass l L L2 mb m j) ∧ Hid (labR l w (.slice Av l.length cv) L2 wr)) (fun _ i _ => l.length - (intOf i).toNat)
                case atStart => exact ⟨0, Nat.zero_le _, rfl, mb, rfl, L1, HPS, HOa⟩
                case round =>
                  clear HPS HOa
                  obtain ⟨j, hj, rfl, mb, rfl, L2, HPS, HOb⟩ := hrel
                  by_cases hlj : j < l.length
                  · have jz : (j : Int) < (l.length : Int) := by omega
                    obtain ⟨g, cpg, hvg, hBg, hgg⟩ := HOb.out.1.form (by omega)
                    injection hvg with e1 _ e3
                    subst e1; subst e3
                    have hL2 := HPS.out.1.1
                    obtain ⟨x, hx⟩ : ∃ x, L2[m]? = some x := ⟨_, List.getElem?_eq_getElem (by omega)⟩
                    obtain ⟨y, hy⟩ : ∃ y, L2[j]? = some y := ⟨_, List.getElem?_eq_getElem (by omega)⟩
                    have cx := lab_cell HOb.out.1 hx
                    have cy := lab_cell HOb.out.1 hy
                    have r1 : (0 : Int) ≤ (m : Int) := by omega
                    have r2 : (0 : Int) ≤ (j : Int) := by omega
                    have hsz := HOb.out.2.size
                    have hgw : g < wr.heap.size := (HOb.out.1.lt g rfl).2
                    have HX := hide hx
                    have HY := hide hy
                    clear hx hy hL2
                    by_cases hxy : y < x
                    · have hd : decide (y < x) = true := decide_eq_true hxy
                      obtain ⟨⟨p0, p1, p2, p3⟩, hp⟩ : ∃ p, l[m]? = some p := ⟨_, List.getElem?_eq_getElem hlt⟩
                      obtain ⟨⟨q0, q1, q2, q3⟩, hq⟩ : ∃ p, l[j]? = some p := ⟨_, List.getElem?_eq_getElem hlj⟩
                      obtain ⟨b, o, rfl, hbl, k⟩ := HRC.out (by intro e; rw [e] at hlt; simp at hlt)
                      obtain ⟨d0, d1, d2, d3⟩ := rects_at k (fun q => HOb.out.2.cell (p := ⟨b, q, none⟩) hbl) hp
                      obtain ⟨e0, e1, e2, e3⟩ := rects_at k (fun q => HOb.out.2.cell (p := ⟨b, q, none⟩) hbl) hq
                      have hbw : b < wr.heap.size := by omega
                      have hvp := HV.out _ (List.mem_of_getElem? hp)
                      have hvq := HV.out _ (List.mem_of_getElem? hq)
                      have hne : m ≠ j := fun e => by
                        subst e
                        have := HX.out.symm.trans HY.out
                        injection this with this
                        omega
                      have hbn := bsd_near (a := ⟨p0, p1, p2, p3⟩) (b := ⟨q0, q1, q2, q3⟩) ⟨hvp.1, hvp.2.1⟩ ⟨hvq.1, hvq.2.1⟩ (cmn_apart HCAN.out.apart hp hq hne ⟨hvp.1, hvp.2.1⟩ ⟨hvq.1, hvq.2.1⟩)
                      have hnr := fun W => near_any ⟨p0, p1, p2, p3⟩ ⟨q0, q1, q2, q3⟩ (valid_mid hvp) (valid_mid hvq) W
                      simp only [encR] at hnr
                      rw [hbn] at hnr
                      have HP := hide hp
                      have HQ := hide hq
                      have HXY := hide hxy
                      cases hbs : bsd ⟨p0, p1, p2, p3⟩ ⟨q0, q1, q2, q3⟩ with
                      | true =>
                        rw [hbs] at hnr
                        have HNR := hide hnr
                        have HA := hide (show adj l m j from ⟨_, _, hp, hq, hbs⟩)
                        clear k hp hq hvp hvq hne hbn hnr hbs hxy
                        go_wp2
                        refine wp_hab fun hab => ?_
                        refine wp_region_above (by kernel_rfl) (by kernel_rfl) ?_
                        repeat (go_big_quiet_step ((go_at_call 100; exact above_of (HNR.out _))))
                        refine wpQuiet_nil ?_
                        refine above_ends fun w3 hb3 => ?_
                        clear hab d0 d1 d2 d3 e0 e1 e2 e3
                        have cx3 := (hb3.cell (p := ⟨g, m, none⟩) hgw).trans cx
                        have cy3 := (hb3.cell (p := ⟨g, j, none⟩) hgw).trans cy
                        have hO3 := own_below HOb.out.1 hb3
                        have f3 : w3.frozen? ⟨g, m, none⟩ = false := hO3.frozenAt _
                        have hset := own_set (j := m) hO3 (iv y)
                        rw [← List.map_set] at hset
                        have HO4 := hide (show labR l w (.slice (some ⟨g, 0, none⟩) l.length cv) (L2.set m y) (w3.setCell ⟨g, m, none⟩ (iv y)) from ⟨hset, (HOb.out.2.trans (hb3.mono hsz)).setCell hBg _⟩)
                        have HPS4 := hide (HPS.out.down HA.out HX.out HY.out HXY.out)
                        clear hb3 cx cy hset hO3
                        go_wp2
                        go_roundw
                        case rel => exact ⟨j + 1, by omega, by go_num, true, rfl, _, HPS4, HO4⟩
                        case measure => simp [intOf]; omega
                      | false =>
                        rw [hbs] at hnr
                        have HNR := hide hnr
                        have HPS4 := hide (HPS.out.stay (fun x' y' ha _ _ => by
                          obtain ⟨u, v, h1, h2, h3⟩ := ha
                          rw [hp] at h1; rw [hq] at h2
                          injection h1 with h1; injection h2 with h2
                          subst h1; subst h2
                          rw [hbs] at h3; cases h3))
                        clear k hp hq hvp hvq hne hbn hnr hbs hxy
                        go_wp2
                        refine wp_hab fun hab => ?_
                        refine wp_region_above (by kernel_rfl) (by kernel_rfl) ?_
                        repeat (go_big_quiet_step ((go_at_call 100; exact above_of (HNR.out _))))
                        refine wpQuiet_nil ?_
                        refine above_ends fun w3 hb3 => ?_
                        clear hab d0 d1 d2 d3 e0 e1 e2 e3
                        have HO4 := hide (show labR l w (.slice (some ⟨g, 0, none⟩) l.length cv) L2 w3 from ⟨own_below HOb.out.1 hb3, HOb.out.2.trans (hb3.mono hsz)⟩)
                        clear hb3 cx cy
                        go_wp2
                        go_roundw
                        case rel => exact ⟨j + 1, by omega, by go_num, mb, rfl, _, HPS4, HO4⟩
                        case measure => simp [intOf]; omega
                    · have hd : decide (y < x) = false := decide_eq_false hxy
                      have HPS4 := hide (HPS.out.stay (fun x' y' _ h1 h2 => by
                          have e1 := HX.out.symm.trans h1
                          have e2 := HY.out.symm.trans h2
                          injection e1 with e1; injection e2 with e2
                          omega))
                      clear hxy
                      go_wp2
                      refine wp_hab fun hab => ?_
                      refine wp_region_above (by kernel_rfl) (by kernel_rfl) ?_
                      repeat (go_big_quiet_step ((fail)))
                      refine wpQuiet_nil ?_
                      refine above_ends fun w3 hb3 => ?_
                      clear hab
                      have HO4 := hide (show labR l w (.slice (some ⟨g, 0, none⟩) l.length cv) L2 w3 from ⟨own_below HOb.out.1 hb3, HOb.out.2.trans (hb3.mono hsz)⟩)
                      clear hb3 cx cy
                      go_wp2
                      go_roundw
                      case rel => exact ⟨j + 1, by omega, by go_num, mb, rfl, _, HPS4, HO4⟩
                      case measure => simp [intOf]; omega
                  · have jz : ¬ (j : Int) < (l.length : Int) := by omega
                    have HPR := hide (HPS.out.row (by omega))
                    go_wp2
                    go_roundw
                    case rel => exact ⟨m + 1, by omega, by go_num, mb, rfl, L2, HPR, HOb⟩
                    case measure => simp [intOf]; omega
              · have mz : ¬ (m : Int) < (l.length : Int) := by omega
                go_wp2
                go_roundw
                case rel => exact ⟨mb, rfl, L1, hide HPS.out.1, HOa, hide (fun h => by subst h; exact HPS.out.done (by omega))⟩
                case measure =>
                  cases mb with
                  | false => exact Nat.succ_pos _
                  | true =>
                    have h1 := cellSum_lab HO.out.1
                    have h2 := cellSum_lab HOa.out.1
                    have h3 := (HPS.out.2.resolve_right (fun q => by cases q.1)).2
                    show cellSum _ _ _ + 1 < cellSum _ _ _ + 1
                    rw [h1, h2]
                    omega
          | false =>
            have hL := HDN.out rfl
            subst hL
            clear HDN HLB
            go_wp2
            go_loopw [9, 10] (fun v i wr => ∃ m : Nat, m ≤ l.length ∧ i = .int .i64 m ∧ ∃ Ao no co, v = .slice Ao no co ∧ Hid (no = (partsP l m).length) ∧ Hid (Regs w (.slice Ao no co) (partsP l m) wr) ∧ Hid (labR l w (.slice Av l.length cv) ((List.range l.length).map fun i => ((mn l i : Nat) : Int)) wr)) (fun _ i _ => l.length - (intOf i).toNat)
            case atStart => exact ⟨0, Nat.zero_le _, rfl, none, 0, 0, rfl, hide rfl, hide ⟨HO.out.2, [], World.ownsRow_nil _ _ _ _, fun i r h => by simp [partsP] at h⟩, HO⟩
            case round =>
              clear HO
              obtain ⟨m, hm, rfl, Ao, no, co, rfl, HN, HRG, HO⟩ := hrel
              by_cases hlt : m < l.length
              · have mz : (m : Int) < (l.length : Int) := by omega
                obtain ⟨g, cpg, hvg, hBg, hgg⟩ := HO.out.1.form (by omega)
                injection hvg with e1 _ e3
                subst e1; subst e3
                obtain ⟨x, hx⟩ : ∃ x : Int, x = ((mn l m : Nat) : Int) := ⟨_, rfl⟩
                have cx := lab_cell (i := m) (x := x) HO.out.1 (by rw [List.getElem?_map, List.getElem?_range hlt, hx]; rfl)
                have r1 : (0 : Int) ≤ (m : Int) := by omega
                by_cases hmn : mn l m = m
                · have hd : (x != (m : Int)) = false := by rw [hx, hmn]; simp
                  have HMN := hide hmn
                  clear hx hmn
                  obtain ⟨wo, hwo⟩ : ∃ wo : World, wo = wr := ⟨_, rfl⟩
                  subst hwo
                  have hszo := HO.out.2.size
                  have hgo : g < wo.heap.size := (HO.out.1.lt g rfl).2
                  go_wp2
                  go_loopw [11, 12] (fun v q wi => ∃ j : Nat, j ≤ l.length ∧ q = .int .i64 j ∧ ∃ Ap np cp, v = .slice Ap np cp ∧ Hid (np = (compP l m j).length) ∧ Hid (wi.ownsRow wo.heap.size 69 4 (.slice Ap np cp) np ((compP l m j).flatMap encR)) ∧ Hid (Below wo.heap.size wo wi)) (fun _ q _ => l.length - (intOf q).toNat)
                  case atStart => exact ⟨0, Nat.zero_le _, rfl, none, 0, 0, rfl, hide rfl, hide (World.ownsRow_nil _ _ _ _), hide (Below.refl _ _)⟩
                  case round =>
                    clear cx
                    obtain ⟨j, hj, rfl, Ap, np, cp, rfl, HNP, HP, HBI⟩ := hrel
                    by_cases hlj : j < l.length
                    · have jz : (j : Int) < (l.length : Int) := by omega
                      obtain ⟨z, hz⟩ : ∃ z : Int, z = ((mn l j : Nat) : Int) := ⟨_, rfl⟩
                      have cz := (HBI.out.cell (p := ⟨g, j, none⟩) hgo).trans (lab_cell (i := j) (x := z) HO.out.1 (by rw [List.getElem?_map, List.getElem?_range hlj, hz]; rfl))
                      have r2 : (0 : Int) ≤ (j : Int) := by omega
                      by_cases hmj : mn l j = m
                      · have hd2 : (z == (m : Int)) = true := by rw [hz, hmj]; simp
                        obtain ⟨⟨p0, p1, p2, p3⟩, hp⟩ : ∃ p, l[j]? = some p := ⟨_, List.getElem?_eq_getElem hlj⟩
                        obtain ⟨b, o, rfl, hbl, k⟩ := HRC.out (by intro e; rw [e] at hlj; simp at hlj)
                        obtain ⟨d0, d1, d2, d3⟩ := rects_at k (fun q => (HBI.out.cell (p := ⟨b, q, none⟩) (show b < wo.heap.size by omega)).trans (HO.out.2.cell (p := ⟨b, q, none⟩) hbl)) hp
                        have HT := hide (compP_in hp hmj)
                        have hnp : np ≤ 400 := by have := HNP.out; have := compP_len l m j; omega
                        have hszi := HBI.out.size
                        generalize compP l m j = C at *
                        clear k hp hz hmj
                        go_wp2_with (at_builtin; go_loud (refine wpList_append_lies _ rfl (.tmp 92) (.tmp 97) 26 rfl wo.heap.size 69 i3 (.agg #[.int .i64 0, .int .i64 0, .int .i64 0, .int .i64 0]) 4 32 Tryz.underlying26 ki kz0 kz1 kz2 rfl (by decide) _ np _ rfl (World.ownsRow.alloc HP.out _) ⟨wr.heap.size, 0, none⟩ 1 1 [.int .i64 p0, .int .i64 p1, .int .i64 p2, .int .i64 p3] rfl rfl (news_new wr _ _ _ rfl) (ints_one rfl) (by omega) (by unfold maxLen; omega) (by omega) (by simp; omega) _ rfl ?_))
                        intro g9 cap9 w9 hown9 hgrow9 _ _
                        have hx9 : C.flatMap encR ++ [.int .i64 p0, .int .i64 p1, .int .i64 p2, .int .i64 p3] = (C ++ [(⟨p0, p1, p2, p3⟩ : R4)]).flatMap encR := by simp [encR]
                        rw [hx9, ← HT.out] at hown9
                        have HB9 := hide ((HBI.out.alloc hszi _).grown hgrow9 (by simp; omega) (fun q hq => (HP.out.lt q hq).1))
                        have HN9 := hide (own_len (k := 4) hown9 (fun _ => rfl) (by omega))
                        have HO9 := hide hown9
                        clear hown9 hgrow9 hx9
                        go_wp2
                        go_roundw
                        case rel => exact ⟨j + 1, by omega, by go_num, _, _, cap9, rfl, HN9, HO9, HB9⟩
                        case measure => simp [intOf]; omega
                      · have hd2 : (z == (m : Int)) = false := by rw [hz]; simp; omega
                        have HPP := hide (compP_out hmj)
                        clear hz hmj
                        rw [← HPP.out] at HNP HP
                        go_wp2
                        go_roundw
                        case rel => exact ⟨j + 1, by omega, by go_num, Ap, np, cp, rfl, HNP, HP, HBI⟩
                        case measure => simp [intOf]; omega
                    · have jz : ¬ (j : Int) < (l.length : Int) := by omega
                      obtain rfl : j = l.length := by omega
                      rw [compP_all] at HNP HP
                      have hcl : (compL l m).length ≤ 400 := Nat.le_trans (compL_sub l m).length_le k1
                      have hwf : ∀ r ∈ compL l m, wf4 r := fun r hr => by have := HV.out r ((compL_sub l m).subset hr); exact ⟨this.1, this.2.1⟩
                      have hszi := HBI.out.size
                      have hjo := rJoined_any 2 (.inr (.inl rfl)) (w := wr) (own_rd (own_n HP.out HNP.out) (fun _ => rfl)) (RdK.nil (α := R4) none 0) (Nat.le_refl _) (by omega) (by simp)
                      rw [ref_join (h := hk 2) rfl hwf (by simp), rjoin_or hwf] at hjo
                      have hrl := rjoin_len (compL l m) hcl
                      have HJO := hide hjo
                      have HPI := hide (partsP_in HMN.out)
                      clear hjo hwf
                      generalize rjoin hFst (compL l m) [] = J at *
                      obtain ⟨low, vs, g1, g2⟩ := (HRG.out.below HBI.out)
                      have HLOW := hide low
                      have HG1 := hide g1
                      have HG2 := hide g2
                      have hno : no ≤ 400 := by have := HN.out; have := partsP_len l m; omega
                      have hlow := low.size
                      clear low g1 g2
                      go_wp2_with (first
                        | (go_at_call 72; refine HJO.out.mono ?_; rintro e w3 ⟨vo, rfl, ho, hb3⟩; have HJ := hide (own_base ho hlow); obtain ⟨Aj, cj, hvj⟩ := own_form ho; subst hvj; have HB3 := hide hb3; clear ho hb3; have hs3 := HB3.out.size)
                        | (at_builtin; go_loud (refine wpList_append_lies _ rfl (.tmp 99) (.tmp 102) 35 rfl w.heap.size 27 i2 (.slice none 0 0) 1 24 Tryz.underlying35 fi fz0 fz1 fz2 rfl (by decide) _ no _ rfl (World.ownsRow.alloc (own_below (own_n HG1.out HN.out.symm) HB3.out) _) ⟨w3.heap.size, 0, none⟩ 1 1 [.slice Aj J.length cj] rfl rfl (news_new w3 _ _ _ rfl) (by intro u hu; rw [List.mem_singleton] at hu; subst hu; rfl) (by omega) (by unfold maxLen; omega) (by omega) (by simp; omega) _ rfl ?_)))
                      intro g9 cap9 w9 hown9 hgrow9 _ _
                      have hpush := Regs.push (w := w) ((HLOW.out.trans (HB3.out.mono hlow)).alloc (Nat.le_trans hlow hs3) _) (World.ownsRow.alloc (own_below HG1.out HB3.out) _) (fun i r hi => by
                        obtain ⟨v, q1, q2⟩ := HG2.out i r hi
                        exact ⟨v, q1, World.ownsRow.alloc (own_below q2 HB3.out) _⟩) (World.ownsRow.alloc HJ.out _) hgrow9 (by rw [← HN.out]; exact hown9)
                      rw [← HPI.out] at hpush
                      have HRG9 := hide hpush
                      have HN9 := hide (show no + 1 = (partsP l (m + 1)).length by rw [HPI.out, List.length_append, ← HN.out]; rfl)
                      have HL9 := hide (show labR l w (.slice (some ⟨g, 0, none⟩) l.length cv) ((List.range l.length).map fun i => ((mn l i : Nat) : Int)) w9 from
                        ⟨(World.ownsRow.alloc (own_below (own_below HO.out.1 HBI.out) HB3.out) _).kept hgrow9 (own_apart (own_below (own_below HO.out.1 HBI.out) HB3.out) (own_below HG1.out HB3.out) (by decide)), hpush.low⟩)
                      clear hown9 hgrow9 hpush
                      go_wp2
                      go_roundw
                      case rel => exact ⟨m + 1, by omega, by go_num, _, _, cap9, rfl, HN9, HRG9, HL9⟩
                      case measure => simp [intOf]; omega
                · have hd : (x != (m : Int)) = true := by rw [hx]; simp; omega
                  have HPP := hide (partsP_out hmn)
                  clear hx hmn
                  rw [← HPP.out] at HN HRG
                  go_wp2
                  go_roundw
                  case rel => exact ⟨m + 1, by omega, by go_num, Ao, no, co, rfl, HN, HRG, HO⟩
                  case measure => simp [intOf]; omega
              · have mz : ¬ (m : Int) < (l.length : Int) := by omega
                obtain rfl : m = l.length := by omega
                rw [partsP_all] at HN HRG
                go_wp2
                go_ret2
                obtain ⟨low, vs, h1, h2⟩ := HRG.out
                have hn := HN.out
                subst hn
                refine ⟨⟨Ao, co, vs, by rw [HF.out]; rfl, by rw [HF.out]; exact h1, ?_⟩, low⟩
                rw [HF.out]
                exact h2
  · have HF : Hid (partsE l = ([], checkF l)) := hide (if_neg h0)
    generalize checkF l = ck at *
    have hne : (ck != 0) = true := by simpa using h0
    clear h0
    go_enter Tryz.func55, Tryz.ntmps55
    go_wp2_with (go_at_call 53; refine (HCK.out _ (Below.refl _ _)).mono ?_; rintro e w1 ⟨rfl, hb1⟩)
    have HB1 := hide hb1
    clear hb1
    go_wp2_with (go_at_call 53; refine (HCK.out _ HB1.out).mono ?_; rintro e w2 ⟨rfl, hb2⟩)
    have HB2 := hide (HB1.out.trans (hb2.mono HB1.out.size))
    clear hb2
    go_ret2
    exact ⟨⟨none, 0, [], by rw [HF.out]; rfl, by rw [HF.out]; exact World.ownsRow_nil _ _ _ _, fun i r hi => by rw [HF.out] at hi; simp at hi⟩, HB2.out⟩
end Go.Proofs.YtdolpeljengpaaaGreat

/- roof.levels and its iterator; roof.Levels and the reference's Levels. -/
namespace Go.Proofs.YtdolpeljengpaaaGreat
open Go.RowKit
set_option linter.unusedVariables false
set_option linter.unusedSimpArgs false
attribute [local go_sem] Oper.semAt_some

/-- What a round of the caller keeps: the old blocks, but for k boxes from bb on. -/
def KpR (bb k n : Nat) (A B : World) : Prop := A.heap.size ≤ B.heap.size ∧ ∀ b o, b < n → (b < bb ∨ bb + k ≤ b) → B.cell? ⟨b, o, none⟩ = A.cell? ⟨b, o, none⟩
theorem KpR.trans {bb k n : Nat} {A B C : World} (h : KpR bb k n A B) (g : KpR bb k n B C) : KpR bb k n A C := ⟨Nat.le_trans h.1 g.1, fun q o h1 h2 => (g.2 q o h1 h2).trans (h.2 q o h1 h2)⟩
theorem KpR.below {bb k n : Nat} {A B : World} (hn : n ≤ A.heap.size) (hb : Below A.heap.size A B) : KpR bb k n A B := ⟨hb.size, fun b o h _ => hb.cell (p := ⟨b, o, none⟩) (by show b < _; omega)⟩
/-- What a round is handed: level number d, and no error. -/
def OkLev (B : Nat) (l : List R4) (d : Nat) (args : Array Value) (W : World) : Prop :=
  ∃ A c, args = #[.slice A (levS l d).length c, .int .i64 0] ∧ W.ownsRow B 69 4 (.slice A (levS l d).length c) (levS l d).length ((levS l d).flatMap encR)
theorem range_post {N k : Nat} (h : k < N) : ∃ post, List.range N = List.range k ++ k :: post := by
  refine ⟨(List.range N).drop (k + 1), ?_⟩
  have hk : k < (List.range N).length := by rw [List.length_range]; exact h
  have e1 : (List.range N).take k = List.range k := by rw [List.take_range, Nat.min_eq_left (Nat.le_of_lt h)]
  have e2 := List.take_append_drop k (List.range N)
  rw [e1, List.drop_eq_getElem_cons hk, List.getElem_range] at e2
  exact e2.symm

set_option maxRecDepth 100000 in
set_option maxHeartbeats 8000000 in
theorem levelsIt {l : List R4} {N bb k br c0 : Nat} {A0 : Option Addr} (w0 : World) (hl : l.length ≤ 400) (hN : levN (levS l) N) (hNb : N ≤ 1000000) (hs : ∀ d : Nat, d ≤ N → shrF l (d : Int) = (levS l d, 0))
    (hbox : w0.cell? ⟨br, 0, none⟩ = some (.slice A0 l.length c0)) (hbr : br < bb ∨ bb + k ≤ br) (hr : RdK encR 4 w0 bb (.slice A0 l.length c0) l) (hbw : bb ≤ w0.heap.size) :
    Iter Tryz.prog 130 #[.pointer (some ⟨br, 0, none⟩)] (List.range N) (OkLev w0.heap.size l) (KpR bb k w0.heap.size) w0 := by
  intro l' J Jx W hW hJ hY h0
  have HSH : Hid (∀ d : Nat, d ≤ N → ∀ W : World, RdK encR 4 W W.heap.size (.slice A0 l.length c0) l → Calls Tryz.prog 131 #[.slice A0 l.length c0, .int .i64 (d : Int)] W fun e w' => RegRet W.heap.size (levS l d, 0) e w' ∧ Below W.heap.size W w') := hide (fun d hd W h => by
    have := oShrink_any h (by omega) (d : Int)
    rwa [hs d hd] at this)
  have HR := hide hr
  have HN := hide hN
  have lbr := lt_of_cell hbox
  refine callsIn_of_wp Tryz.func130 rfl trivial ?_
  simp only [Tryz.ntmps130, List.size_toArray, List.length_cons, List.length_nil, Nat.reduceAdd, Nat.reduceSub, Array.replicate_succ, Array.replicate_zero, List.push_toArray, List.append_toArray, List.nil_append, List.cons_append]
  have HY := hide hY
  have HJ := hide hJ
  clear hY hJ hs hr hN
  gi_wp2
  gi_loopw [3] (fun p wr => ∃ d : Nat, d ≤ N ∧ p = .int .i64 d ∧ Hid (J (List.range d) wr) ∧ Hid (∀ b o, b < w0.heap.size → (b < bb ∨ bb + k ≤ b) → wr.cell? ⟨b, o, none⟩ = w0.cell? ⟨b, o, none⟩) ∧ w0.heap.size ≤ wr.heap.size) (fun p _ => N - (intOf p).toNat)
  case atStart => exact ⟨0, Nat.zero_le _, rfl, hide (by simpa using h0), hide fun b o h _ => hW.cell (p := ⟨b, o, none⟩) h, hW.size⟩
  case round =>
    clear h0
    obtain ⟨d, hd, rfl, HJk, HC, hsz⟩ := hrel
    have kb := (HC.out br 0 lbr hbr).trans hbox
    have HS := hide (HSH.out d hd wr ((HR.out.keep fun b o hb => HC.out b o (Nat.lt_of_lt_of_le hb hbw) (.inl hb)).mono (by omega)))
    by_cases hlt : d < N
    · obtain ⟨post, hpost⟩ := range_post hlt
      have hne : 0 < (levS l d).length := List.length_pos_iff.2 (HN.out.2 d hlt)
      have hlen : (((levS l d).length : Int) == 0) = false := by have := HN.out.2 d hlt; simpa using this
      have hdz : (d : Int) < 1000000 := by omega
      clear hne
      gi_upto_region 3 with (first
        | (refine ⟨trivial, rfl, ?_⟩)
        | (gi_at_call 131; refine (callsIn_wide.2 HS.out).mono ?_; rintro e A3 ⟨⟨A2, c2, rfl, ho⟩, hb⟩))
      have hJ2 := HJ.out _ _ _ HJk.out hb
      have hok : OkLev w0.heap.size l d #[.slice A2 (levS l d).length c2, .int .i64 0] A3 := ⟨A2, c2, rfl, own_base ho hsz⟩
      obtain ⟨fn, tmps, assign, body, hy, hR⟩ := HY.out (List.range d) d _ A3 hJ2 ⟨post, hpost⟩ hok
      have HCB : Hid (∀ b o, b < w0.heap.size → (b < bb ∨ bb + k ≤ b) → A3.cell? ⟨b, o, none⟩ = w0.cell? ⟨b, o, none⟩) := hide (fun b o h1 h2 => (hb.cell (p := ⟨b, o, none⟩) (by show b < _; omega)).trans (HC.out b o h1 h2))
      have hsz3 : w0.heap.size ≤ A3.heap.size := by have := hb.size; omega
      have FI : Hid (List.range (d + 1) = List.range d ++ [d]) := hide List.range_succ
      clear hpost hJ2 hok hb ho HS HC HJ HY kb
      gi_wp2
      refine ⟨rfl, hR.mono ?_⟩
      rintro e W3 (⟨rfl, hJ3, hk3⟩ | ⟨rfl, hJx3⟩)
      · gi_wp2
        go_roundw
        case rel =>
          exact ⟨d + 1, by omega, by go_num, hide (by rw [FI.out]; exact hJ3), hide (fun b o h1 h2 => (hk3.2 b o h1 h2).trans (HCB.out b o h1 h2)), Nat.le_trans hsz3 hk3.1⟩
        case measure => simp [intOf]; omega
      · gi_wp2
        refine bodyPost_ret (results_none rfl _ _ _) rfl ?_
        exact ⟨⟨_, rfl⟩, .inr ⟨_, hJx3⟩⟩
    · obtain rfl : d = N := by omega
      have he : levS l d = [] := HN.out.1
      rw [he] at HS
      have HS2 : Hid (Calls Tryz.prog 131 #[.slice A0 l.length c0, .int .i64 (d : Int)] wr fun e w' => (∃ A c, e = .returned (.tuple #[.slice A 0 c, .int .i64 0])) ∧ Below wr.heap.size wr w') := hide (HS.out.mono fun e w' ⟨⟨A, c, h1, _⟩, h2⟩ => ⟨⟨A, c, h1⟩, h2⟩)
      clear he HS
      have HJ2 := HJ
      gi_wp2_with (first
        | (refine ⟨trivial, rfl, ?_⟩)
        | (gi_at_call 131; refine (callsIn_wide.2 HS2.out).mono ?_; rintro e A3 ⟨⟨A2, c2, rfl⟩, hb⟩))
      refine ⟨(fun _ h => by cases h), ?_⟩
      gi_wp2
      refine bodyPost_ret (results_none rfl _ _ _) rfl ?_
      exact ⟨⟨_, rfl⟩, .inl (HJ.out _ _ _ HJk.out hb)⟩
set_option maxHeartbeats 400000 in
theorem olevels_any (A0 : Option Addr) (n c : Nat) (w : World) :
    Calls Tryz.prog 82 #[.slice A0 n c] w fun e w' => e = .returned (.func (.func 130) #[] #[.pointer (some ⟨w.heap.size, 0, none⟩)]) ∧ w.alloc (.cells #[.slice A0 n c] 27) = w' := by
  go_enter Tryz.func82, Tryz.ntmps82
  go_wp2
  go_ret
  exact ⟨rfl, rfl⟩

/-- Box bb holds the list R; its rows lie at or above Bo. -/
structure LV (bb Bo : Nat) (W0 : World) (R : List (List R4)) (W : World) : Prop where
  lo : bb < Bo
  size : Bo ≤ W.heap.size
  out : ∃ vo vs, W.cell? ⟨bb, 0, none⟩ = some vo ∧ W.ownsRow Bo 27 1 vo R.length vs ∧ ∀ (i : Nat) (r : List R4), R[i]? = some r → ∃ v, vs[i]? = some v ∧ W.ownsRow Bo 69 4 v r.length (r.flatMap encR)
  fz : W.frozen? ⟨bb, 0, none⟩ = false
  low : Below bb W0 W
theorem LV.below {bb Bo : Nat} {W0 A B : World} {R : List (List R4)} (h : LV bb Bo W0 R A) (hb : Below A.heap.size A B) : LV bb Bo W0 R B := by
  have hlt : bb < A.heap.size := Nat.lt_of_lt_of_le h.lo h.size
  obtain ⟨vo, vs, o1, o2, o3⟩ := h.out
  exact ⟨h.lo, Nat.le_trans h.size hb.size, ⟨vo, vs, (hb.cell (p := ⟨bb, 0, none⟩) hlt).trans o1, own_below o2 hb, fun i r hr => by
    obtain ⟨v, q1, q2⟩ := o3 i r hr
    exact ⟨v, q1, own_below q2 hb⟩⟩, (hb.frozen (p := ⟨bb, 0, none⟩) hlt).trans h.fz, h.low.trans (hb.mono (Nat.le_of_lt hlt))⟩
theorem LV.putObj {bb Bo : Nat} {W0 A : World} {R : List (List R4)} (h : LV bb Bo W0 R A) {l : Nat} {o o' : Obj} (hw : Bo ≤ l) (hl : A.heap[l]? = some o) (ho : o.isCells = false) (ho' : o'.isCells = false) : LV bb Bo W0 R (A.putObj l o') := by
  obtain ⟨vo, vs, o1, o2, o3⟩ := h.out
  have hlo := h.lo
  exact ⟨h.lo, by simpa using h.size, ⟨vo, vs, (cell_putObj (o' := o') hl ho ho' _).1.trans o1, own_putObj o2 hl ho, fun i r hr => by
    obtain ⟨v, q1, q2⟩ := o3 i r hr
    exact ⟨v, q1, own_putObj q2 hl ho⟩⟩, (cell_putObj (o' := o') hl ho ho' _).2.trans h.fz, below_putObj h.low (by omega) _⟩
theorem own_grown_obj {w w2 : World} {B l n size : Nat} {e : TypeId} {v : Value} {xs : List Value} {o : Obj} (h : w.ownsRow B e size v n xs) (hg : w.grownBy w2 (some l)) (hl : w.heap[l]? = some o) (ho : o.isCells = false) : w2.ownsRow B e size v n xs := by
  refine h.kept hg ?_
  right
  intro e
  have := own_cells h l o e hl
  rw [ho] at this; cases this
theorem LV.grown {bb Bo : Nat} {W0 A B : World} {R : List (List R4)} (h : LV bb Bo W0 R A) {l : Nat} {o : Obj} (hw : Bo ≤ l) (hg : A.grownBy B (some l)) (hl : A.heap[l]? = some o) (ho : o.isCells = false) : LV bb Bo W0 R B := by
  obtain ⟨vo, vs, o1, o2, o3⟩ := h.out
  have hlo := h.lo
  have hsz := h.size
  have hbk : B.heap[bb]? = A.heap[bb]? := hg.block bb (by omega) (fun e => by injection e with e; omega)
  exact ⟨h.lo, Nat.le_trans h.size hg.size, ⟨vo, vs, (World.cell?_of_block (w := A) (a := ⟨bb, 0, none⟩) hbk).trans o1, own_grown_obj o2 hg hl ho, fun i r hr => by
    obtain ⟨v, q1, q2⟩ := o3 i r hr
    exact ⟨v, q1, own_grown_obj q2 hg hl ho⟩⟩, (World.frozen?_of_block (w := A) (a := ⟨bb, 0, none⟩) hbk).trans h.fz, h.low.grown hg (Nat.le_trans (Nat.le_of_lt h.lo) h.size) (fun k hk => by injection hk with hk; omega)⟩
theorem LV.push {bb Bo : Nat} {W0 wr wa w2 : World} {R : List (List R4)} {r : List R4} {vo v2 v : Value} {vs : List Value} (h : LV bb Bo W0 R wr) (hvo : wr.cell? ⟨bb, 0, none⟩ = some vo) (how : wr.ownsRow Bo 27 1 vo R.length vs)
    (hel : ∀ (i : Nat) (r : List R4), R[i]? = some r → ∃ v, vs[i]? = some v ∧ wr.ownsRow Bo 69 4 v r.length (r.flatMap encR)) (hv : wr.ownsRow Bo 69 4 v r.length (r.flatMap encR))
    (ha : Below wr.heap.size wr wa) (hg : wa.grownBy w2 vo.ownBlock) (hown2 : w2.ownsRow Bo 27 1 v2 (R.length + 1) (vs ++ [v])) :
    w2.cell? ⟨bb, 0, none⟩ = some vo ∧ w2.frozen? ⟨bb, 0, none⟩ = false ∧ Hid (LV bb Bo W0 (R ++ [r]) (w2.setCell ⟨bb, 0, none⟩ v2) ∧ KeepsOthers wr (w2.setCell ⟨bb, 0, none⟩ v2) ∧ KpR bb 1 Bo wr (w2.setCell ⟨bb, 0, none⟩ v2)) := by
  have hlo := h.lo
  have hsz := h.size
  have hl : vs.length = R.length := by have := how.1; omega
  have how2 := own_below how ha
  have hB : Below Bo wr w2 := (ha.mono hsz).grown hg (Nat.le_trans hsz ha.size) fun q hq => (how.lt q hq).1
  have k0 := (hB.cell (p := ⟨bb, 0, none⟩) hlo).trans hvo
  have kf := (hB.frozen (p := ⟨bb, 0, none⟩) hlo).trans h.fz
  have hkp : ∀ {x : List R4} {u : Value}, wr.ownsRow Bo 69 4 u x.length (x.flatMap encR) → (w2.setCell ⟨bb, 0, none⟩ v2).ownsRow Bo 69 4 u x.length (x.flatMap encR) := fun {x u} hu =>
    ownsRow_setCell_below ((own_below hu ha).kept hg (own_apart (own_below hu ha) how2 (by decide))) (by show bb < _; omega) _
  refine ⟨k0, kf, hide ⟨⟨hlo, ?_, ⟨v2, vs ++ [v], by simp [go_sem, k0], ?_, fun i x hx => ?_⟩, ?_, ?_⟩, ?_, ?_, fun b o h1 h2 => ?_⟩⟩
  · have := hB.size; simp [World.setCell]; omega
  · rw [List.length_append]
    exact ownsRow_setCell_below hown2 (by show bb < _; omega) _
  · by_cases hi : i < R.length
    · rw [List.getElem?_append_left hi] at hx
      obtain ⟨u, h4, h5⟩ := hel i x hx
      exact ⟨u, by rw [List.getElem?_append_left (by omega)]; exact h4, hkp h5⟩
    · rw [List.getElem?_append_right (by omega)] at hx
      have hi0 : i - R.length = 0 := by
        have := (List.getElem?_eq_some_iff.1 hx).1
        simp at this
        omega
      rw [hi0] at hx
      simp at hx
      subst hx
      exact ⟨v, by rw [List.getElem?_append_right (by omega), hl, hi0]; rfl, hkp hv⟩
  · rw [World.frozen?_setCell]; exact kf
  · exact (h.low.trans (hB.mono (Nat.le_of_lt hlo))).setCell (p := ⟨bb, 0, none⟩) (Nat.le_refl _) _
  · exact ((keeps_below ha).trans (KeepsOthers.of_grownBy hg fun j o hj ho => own_cells how2 j o hj ho)).trans (KeepsOthers.setCell _ _ _)
  · have := hB.size; simp [World.setCell]; omega
  · exact (World.cell?_of_block (w := w2) (a := ⟨b, o, none⟩) (Below.heap_setCell _ _ _ _ (by show b ≠ bb; omega))).trans (hB.cell (p := ⟨b, o, none⟩) h1)
def levR (l : List R4) (N : Nat) : List (List R4) × Int := if measF l = 0 then ((List.range N).map (levS l), 0) else ([], measF l)

set_option maxRecDepth 100000 in
set_option maxHeartbeats 8000000 in
theorem oLevels_any {w : World} {v : Value} {l : List R4} (hr : RdK encR 4 w w.heap.size v l) (hl : l.length ≤ 100000000) {N : Nat} (h : measF l = 0 → l.length ≤ 400 ∧ N ≤ 1000000 ∧ levN (levS l) N ∧ ∀ d : Nat, d ≤ N → shrF l (d : Int) = (levS l d, 0)) :
    Calls Tryz.prog 37 #[v] w fun e w' => RegsRet w.heap.size (levR l N) e w' ∧ Below w.heap.size w w' := by
  have HME := hide (fun (W : World) (hW : Below w.heap.size w W) => omeasured_any ((hr.below hW).mono hW.size) hl)
  obtain ⟨A0, c0, hv, _⟩ := id hr
  subst hv
  by_cases hm : measF l = 0
  · obtain ⟨hl4, hN6, hN, hs⟩ := h hm
    have HF : Hid (levR l N = ((List.range N).map (levS l), 0)) := hide (if_pos hm)
    rw [hm] at HME
    obtain ⟨i2, fi, fz0, fz1, fz2⟩ := info_parts infoRg
    have HRD := hide hr
    have HN := hide hN
    have HS := hide hs
    clear hr hN hs h hm
    generalize levR l N = LR at *
    refine (callsIn_wide (n := 0)).1 ?_
    refine callsIn_of_wp_marks Tryz.func37 rfl trivial ?_
    simp only [Tryz.ntmps37, List.size_toArray, List.length_cons, List.length_nil, Nat.reduceAdd, Nat.reduceSub, Array.replicate_succ, Array.replicate_zero, List.push_toArray, List.append_toArray, List.nil_append, List.cons_append]
    refine wpIn_wide.2 ?_
    go_upto_region 1 with fail
    refine wp_name fun Z hZ => ?_
    have hbz : Below w.heap.size w Z := by rw [hZ]; exact ((Below.refl _ _).alloc (Nat.le_refl _) _).alloc (by simp) _
    have z0 : Z.cell? ⟨w.heap.size, 0, none⟩ = some (.slice none 0 0) := by rw [hZ]; simp [go_sem]
    have z1 : Z.cell? ⟨w.heap.size + 1, 0, none⟩ = some (.int .i64 0) := by rw [hZ]; simp [go_sem]
    have f0 : Z.frozen? ⟨w.heap.size, 0, none⟩ = false := by rw [hZ]; simp [go_sem]
    have f1 : Z.frozen? ⟨w.heap.size + 1, 0, none⟩ = false := by rw [hZ]; simp [go_sem]
    have lz : Z.heap.size = w.heap.size + 2 := by rw [hZ]; simp
    have HBZ := hide hbz
    clear hZ hbz
    go_wp2_with (fail)
    refine (HME.out Z HBZ.out).mono ?_
    rintro e w1 ⟨rfl, hb1⟩
    have hs1 := hb1.size
    have c0' := (hb1.cell (p := ⟨w.heap.size, 0, none⟩) (by show w.heap.size < Z.heap.size; omega)).trans z0
    have c1' := (hb1.cell (p := ⟨w.heap.size + 1, 0, none⟩) (by show w.heap.size + 1 < Z.heap.size; omega)).trans z1
    have g0 := (hb1.frozen (p := ⟨w.heap.size, 0, none⟩) (by show w.heap.size < Z.heap.size; omega)).trans f0
    have g1 := (hb1.frozen (p := ⟨w.heap.size + 1, 0, none⟩) (by show w.heap.size + 1 < Z.heap.size; omega)).trans f1
    have HB1 := hide (HBZ.out.trans (hb1.mono HBZ.out.size))
    have hlw : w.heap.size + 2 ≤ w1.heap.size := by omega
    clear hb1 hs1 z0 z1 f0 f1 lz HBZ HME
    obtain ⟨W0, hW0⟩ : ∃ W0, W0 = (w1.alloc (.cells #[.slice none 0 0] 35)).alloc (.cells #[.slice A0 l.length c0] 27) := ⟨_, rfl⟩
    have hb0 : Below w1.heap.size w1 W0 := by rw [hW0]; exact ((Below.refl _ _).alloc (Nat.le_refl _) _).alloc (by simp) _
    have s0 : W0.heap.size = w1.heap.size + 2 := by rw [hW0]; simp
    have y0 : W0.cell? ⟨w1.heap.size, 0, none⟩ = some (.slice none 0 0) := by rw [hW0]; simp [go_sem]
    have y1 : W0.cell? ⟨w1.heap.size + 1, 0, none⟩ = some (.slice A0 l.length c0) := by rw [hW0]; simp [go_sem]
    have yf : W0.frozen? ⟨w1.heap.size, 0, none⟩ = false := by rw [hW0]; simp [go_sem]
    have HBW := hide (HB1.out.trans (hb0.mono HB1.out.size))
    have a0 := (hb0.cell (p := ⟨w.heap.size, 0, none⟩) (by show w.heap.size < w1.heap.size; omega)).trans c0'
    have a1 := (hb0.cell (p := ⟨w.heap.size + 1, 0, none⟩) (by show w.heap.size + 1 < w1.heap.size; omega)).trans c1'
    have e0 := (hb0.frozen (p := ⟨w.heap.size, 0, none⟩) (by show w.heap.size < w1.heap.size; omega)).trans g0
    have e1 := (hb0.frozen (p := ⟨w.heap.size + 1, 0, none⟩) (by show w.heap.size + 1 < w1.heap.size; omega)).trans g1
    have hit := levelsIt (bb := w1.heap.size) (k := 1) (br := w1.heap.size + 1) W0 hl4 HN.out hN6 HS.out y1 (.inr (Nat.le_refl _)) ((HRD.out.below HBW.out).mono (by omega)) (by omega)
    have hI0 : LV w1.heap.size W0.heap.size W0 [] W0 := ⟨by omega, Nat.le_refl _, ⟨_, [], y0, World.ownsRow_nil _ _ _ _, fun i r hr => by simp at hr⟩, yf, Below.refl _ _⟩
    clear c0' c1' g0 g1 hb0 y0 y1 yf HB1
    go_wp2_with (go_at_call 82; refine (olevels_any _ _ _ _).mono ?_; rintro e w2 ⟨rfl, rfl⟩)
    rw [← hW0]
    clear hW0
    refine (wpIn_wide (n := 0)).1 ?_
    refine wp_range rfl (enters_of Tryz.func130 (by kernel_rfl) rfl) hit (Below.refl _ _) (fun x args A hx => by obtain ⟨_, _, rfl, _⟩ := hx; rfl) KpR.trans ?_
      (fun pre A => LV w1.heap.size W0.heap.size W0 (pre.map (levS l)) A) (fun _ _ => False) (fun pre A B h hb => h.below hb) (fun pre A l o o' h hw hl ho ho' => h.putObj hw hl ho ho') (fun _ _ _ _ _ h => h.elim) hI0 ?_ ?_ (fun _ _ _ _ h => h.elim)
    · intro A l o o' hw h1 h2 h3
      exact ⟨by simp, fun b off hb _ => (cell_putObj h1 h2 h3 _).1⟩
    · rintro l2 pre d args A hLV ⟨post, hpost⟩ ⟨A2, c2, rfl, hrow⟩ hl1 ⟨ol, hl2, hl3⟩
      have hpl : pre.length ≤ 1000000 := by
        have := congrArg List.length hpost
        rw [List.length_range, List.length_append] at this
        omega
      have hszA := hLV.size
      have HL1 := hide hLV
      have HROW := hide hrow
      have HL2 := hide hl2
      clear hLV hrow hit hI0 hl2 hpost
      gi_wp2
      refine ⟨KeepsFrom.of_below' (Below.refl _ _), KpR.below hszA (Below.refl _ _), ?_⟩
      intro A3 g2 s2 e2 f2
      have HL := hide (HL1.out.grown (by omega) g2 HL2.out hl3)
      have HRW := hide (own_grown_obj HROW.out g2 HL2.out hl3)
      clear g2 s2 e2 f2 HL1 HROW HL2
      obtain ⟨vo, vs, v1, v2, v3⟩ := HL.out.out
      rw [List.length_map] at v2
      obtain ⟨Av, cv, hvo⟩ := own_form v2
      subst hvo
      have HV1 := hide v1
      have HV2 := hide v2
      have HV3 := hide v3
      have hsz3 := HL.out.size
      have hlo3 := HL.out.lo
      clear v2 v3
      gi_upto_region 10 with fail
      refine wpIn_region_plain_round (by kernel_rfl) (fun _ _ h => h) ?_
      go_wp2_with (at_builtin; refine wpList_append_lies _ rfl (.tmp 20) (.tmp 22) 35 rfl W0.heap.size 27 i2 (.slice none 0 0) 1 24 Tryz.underlying35 fi fz0 fz1 fz2 rfl (by decide) _ pre.length _ rfl (HV2.out.alloc _) ⟨A3.heap.size, 0, none⟩ 1 1 [.slice A2 (levS l d).length c2] rfl rfl (news_new A3 _ _ _ rfl) (by intro u hu; rw [List.mem_singleton] at hu; subst hu; rfl) (by omega) (by unfold maxLen; omega) (by omega) (by simp; omega) _ rfl ?_)
      intro g9 cap9 w9 hown9 hgrow9 hor9 hlt9
      obtain ⟨t1, t2, HF9⟩ := HL.out.push HV1.out (by rw [List.length_map]; exact HV2.out) HV3.out HRW.out ((Below.refl A3.heap.size A3).alloc (Nat.le_refl _) _) hgrow9 (by rw [List.length_map, s0]; exact hown9)
      clear hown9 hgrow9 hor9 hlt9 v1
      go_wp2_with (fail)
      refine ⟨HF9.out.2.1.from _, HF9.out.2.2, ?_⟩
      show LV w1.heap.size W0.heap.size W0 ((pre ++ [d]).map (levS l)) _
      rw [List.map_append]
      exact HF9.out.1
    · rintro D W hD hLV hK
      obtain ⟨vo, vs, v1, v2, v3⟩ := hLV.out
      rw [List.length_map, List.length_range] at v2
      obtain ⟨Av, cv, hvo⟩ := own_form v2
      subst hvo
      have hloW := hLV.low
      have hszW := hLV.size
      have b0 := (hloW.cell (p := ⟨w.heap.size, 0, none⟩) (by show w.heap.size < w1.heap.size; omega)).trans a0
      have b1 := (hloW.cell (p := ⟨w.heap.size + 1, 0, none⟩) (by show w.heap.size + 1 < w1.heap.size; omega)).trans a1
      have d0 := (hloW.frozen (p := ⟨w.heap.size, 0, none⟩) (by show w.heap.size < w1.heap.size; omega)).trans e0
      have d1 := (hloW.frozen (p := ⟨w.heap.size + 1, 0, none⟩) (by show w.heap.size + 1 < w1.heap.size; omega)).trans e1
      have HV2 := hide v2
      have HV3 := hide v3
      have HLW := hide (HBW.out.trans (hloW.mono (by omega)))
      have HK := hide hK
      have hDw : D ≠ w.heap.size ∧ D ≠ w.heap.size + 1 := by omega
      clear hLV v2 v3 hloW hit hI0 hK a0 a1 e0 e1
      simp only [Exit.inBlock, Exit.then]
      go_wp2_with (fail)
      obtain ⟨W3, hW3⟩ : ∃ W3, W3 = (W.setCell ⟨w.heap.size, 0, none⟩ (.slice Av N cv)).setCell ⟨w.heap.size + 1, 0, none⟩ (.int .i64 0) := ⟨_, rfl⟩
      rw [← hW3]
      have r0 : W3.cell? ⟨w.heap.size, 0, none⟩ = some (.slice Av N cv) := by rw [hW3]; simp [go_sem, b0, b1, d0, d1]
      have r1 : W3.cell? ⟨w.heap.size + 1, 0, none⟩ = some (.int .i64 0) := by rw [hW3]; simp [go_sem, b0, b1, d0, d1]
      have cD : W3.heap[D]? = some (.deferred (some [])) := by rw [hW3]; exact (Below.heap_setCell _ _ _ _ (by show D ≠ w.heap.size + 1; omega)).trans ((Below.heap_setCell _ _ _ _ (by show D ≠ w.heap.size; omega)).trans HK.out)
      have hbL : Below w.heap.size w W3 := by rw [hW3]; exact (HLW.out.setCell (p := ⟨w.heap.size, 0, none⟩) (Nat.le_refl _) _).setCell (p := ⟨w.heap.size + 1, 0, none⟩) (by show w.heap.size ≤ w.heap.size + 1; omega) _
      have keep : ∀ {t size v n xs}, W.ownsRow W0.heap.size t size v n xs → W3.ownsRow W0.heap.size t size v n xs := fun hw => by
        rw [hW3]
        exact ownsRow_setCell_below (ownsRow_setCell_below hw (by show w.heap.size < _; omega) _) (by show w.heap.size + 1 < _; omega) _
      clear hW3 b0 b1 d0 d1
      refine ⟨by simp, .inl ⟨_, _, rfl, run_takeDeferred cD, ?_⟩⟩
      have e6 := (cell_putObj (o' := .deferred none) cD rfl rfl ⟨w.heap.size, 0, none⟩).1.trans r0
      have e7 := (cell_putObj (o' := .deferred none) cD rfl rfl ⟨w.heap.size + 1, 0, none⟩).1.trans r1
      refine ⟨.tuple #[.slice Av N cv, .int .i64 0], by simp [results, Tryz.results37, go_sem, e6, e7], ⟨Av, cv, vs, ?_, ?_, ?_⟩, below_putObj hbL (by omega) _⟩
      · rw [HF.out]; simp
      · rw [HF.out]
        simp only [List.length_map, List.length_range]
        exact own_base (own_putObj (keep HV2.out) cD rfl) (by omega)
      · rw [HF.out]
        intro i r hi
        obtain ⟨u, q1, q2⟩ := HV3.out i r hi
        exact ⟨u, q1, own_base (own_putObj (keep q2) cD rfl) (by omega)⟩
  · have HF : Hid (levR l N = ([], measF l)) := hide (if_neg hm)
    have hne : (measF l != 0) = true := by simpa using hm
    clear hm hr h
    generalize levR l N = LR at *
    generalize measF l = ck at *
    go_enter Tryz.func37, Tryz.ntmps37
    go_upto_region 1 with fail
    refine wp_name fun Z hZ => ?_
    have hbz : Below w.heap.size w Z := by rw [hZ]; exact ((Below.refl _ _).alloc (Nat.le_refl _) _).alloc (by simp) _
    have z0 : Z.cell? ⟨w.heap.size, 0, none⟩ = some (.slice none 0 0) := by rw [hZ]; simp [go_sem]
    have z1 : Z.cell? ⟨w.heap.size + 1, 0, none⟩ = some (.int .i64 0) := by rw [hZ]; simp [go_sem]
    have f0 : Z.frozen? ⟨w.heap.size, 0, none⟩ = false := by rw [hZ]; simp [go_sem]
    have f1 : Z.frozen? ⟨w.heap.size + 1, 0, none⟩ = false := by rw [hZ]; simp [go_sem]
    have lz : Z.heap.size = w.heap.size + 2 := by rw [hZ]; simp
    have HBZ := hide hbz
    clear hZ hbz
    go_wp2_with (fail)
    refine (HME.out Z HBZ.out).mono ?_
    rintro e w1 ⟨rfl, hb1⟩
    have c0' := (hb1.cell (p := ⟨w.heap.size, 0, none⟩) (by show w.heap.size < Z.heap.size; omega)).trans z0
    have c1' := (hb1.cell (p := ⟨w.heap.size + 1, 0, none⟩) (by show w.heap.size + 1 < Z.heap.size; omega)).trans z1
    have g0 := (hb1.frozen (p := ⟨w.heap.size, 0, none⟩) (by show w.heap.size < Z.heap.size; omega)).trans f0
    have g1 := (hb1.frozen (p := ⟨w.heap.size + 1, 0, none⟩) (by show w.heap.size + 1 < Z.heap.size; omega)).trans f1
    have HB1 := hide (HBZ.out.trans (hb1.mono HBZ.out.size))
    clear hb1 z0 z1 f0 f1 lz HBZ HME
    go_wp2_with (fail)
    refine bodyPost_ret (v := .tuple #[.slice none 0 0, .int .i64 ck]) (by simp [results, Tryz.results37, go_sem, c0', c1', g0, g1]) rfl ⟨⟨none, 0, [], by rw [HF.out]; rfl, by rw [HF.out]; exact World.ownsRow_nil _ _ _ _, fun i r hi => by rw [HF.out] at hi; simp at hi⟩, ?_⟩
    exact (HB1.out.setCell (p := ⟨w.heap.size, 0, none⟩) (Nat.le_refl _) _).setCell (p := ⟨w.heap.size + 1, 0, none⟩) (by show w.heap.size ≤ w.heap.size + 1; omega) _

set_option maxRecDepth 100000 in
set_option maxHeartbeats 8000000 in
theorem rLevels_any {w : World} {v : Value} {l : List R4} (hr : RdK encR 4 w w.heap.size v l) (hl : l.length ≤ 100000000) {N : Nat} (h : measF l = 0 → l.length ≤ 400 ∧ N ≤ 1000000 ∧ levN (levS l) N ∧ ∀ d : Nat, d ≤ N → shrF l (d : Int) = (levS l d, 0)) :
    Calls Tryz.prog 38 #[v] w fun e w' => RegsRet w.heap.size (levR l N) e w' ∧ Below w.heap.size w w' := by
  have HME := hide (fun (W : World) (hW : Below w.heap.size w W) => rmeasured_any ((hr.below hW).mono hW.size) hl)
  by_cases hm : measF l = 0
  · obtain ⟨hl4, hN6, hN, hs⟩ := h hm
    have HF : Hid (levR l N = ((List.range N).map (levS l), 0)) := hide (if_pos hm)
    have HSH : Hid (∀ d : Nat, d ≤ N → ∀ W : World, Below w.heap.size w W → Calls Tryz.prog 84 #[v, .int .i64 (d : Int)] W fun e w' => RegRet W.heap.size (levS l d, 0) e w' ∧ Below W.heap.size W w') := hide (fun d hd W hW => by
      have := rShrink_any ((hr.below hW).mono hW.size) hl (d : Int)
      rwa [hs d hd] at this)
    rw [hm] at HME
    obtain ⟨i2, fi, fz0, fz1, fz2⟩ := info_parts infoRg
    obtain ⟨A0, c0, hv, _⟩ := id hr
    subst hv
    have HN := hide hN
    clear hr hN hs h hm
    generalize levR l N = LR at *
    go_enter Tryz.func38, Tryz.ntmps38
    go_wp2_with (fail)
    refine (HME.out _ (Below.refl _ _)).mono ?_
    rintro e w1 ⟨rfl, hb1⟩
    have HB1 := hide hb1
    clear hb1 HME
    go_wp2_with (fail)
    go_loopw [4, 5] (fun o p wr => ∃ d : Nat, d ≤ N ∧ p = .int .i64 d ∧ ∃ Ao co, o = .slice Ao d co ∧ Hid (Regs w (.slice Ao d co) ((List.range d).map (levS l)) wr)) (fun _ p _ => N - (intOf p).toNat)
    case atStart => exact ⟨0, Nat.zero_le _, rfl, none, 0, rfl, hide ⟨HB1.out, [], World.ownsRow_nil _ _ _ _, fun i r h => by simp at h⟩⟩
    case round =>
      clear HB1
      obtain ⟨d, hd, rfl, Ao, co, rfl, HRG⟩ := hrel
      have hlow := HRG.out.low
      have hsz := hlow.size
      have HS := hide (HSH.out d hd wr hlow)
      by_cases hlt : d < N
      · have hne : 0 < (levS l d).length := List.length_pos_iff.2 (HN.out.2 d hlt)
        have hlen : (((levS l d).length : Int) == 0) = false := by have := HN.out.2 d hlt; simpa using this
        have hdz : (d : Int) < 1000000 := by omega
        have FI : Hid ((List.range (d + 1)).map (levS l) = (List.range d).map (levS l) ++ [levS l d]) := hide (by rw [List.range_succ, List.map_append]; rfl)
        clear hne hlow
        go_wp2_with (fail)
        refine HS.out.mono ?_
        rintro e w2 ⟨⟨A2, c2, rfl, ho⟩, hb⟩
        have HRG2 := hide (HRG.out.below hb)
        have HO := hide (own_base (base := w.heap.size) ho hsz)
        have hs2 := hb.size
        clear ho hb HS HRG
        obtain ⟨vs, v2, v3⟩ := HRG2.out.o
        rw [List.length_map, List.length_range] at v2
        have HV2 := hide v2
        have HV3 := hide v3
        have HLO := hide HRG2.out.low
        clear v2 v3 HRG2
        go_wp2_with (at_builtin; refine wpList_append_lies _ rfl (.tmp 28) (.tmp 30) 35 rfl w.heap.size 27 i2 (.slice none 0 0) 1 24 Tryz.underlying35 fi fz0 fz1 fz2 rfl (by decide) _ d _ rfl (HV2.out.alloc _) ⟨w2.heap.size, 0, none⟩ 1 1 [.slice A2 (levS l d).length c2] rfl rfl (news_new w2 _ _ _ rfl) (by intro u hu; rw [List.mem_singleton] at hu; subst hu; rfl) (by omega) (by unfold maxLen; omega) (by omega) (by simp; omega) _ rfl ?_)
        intro g9 cap9 w9 hown9 hgrow9 hor9 hlt9
        have hpush := Regs.push (w := w) (R := (List.range d).map (levS l)) (r := levS l d) (HLO.out.alloc (by omega) _) (by rw [List.length_map, List.length_range]; exact World.ownsRow.alloc HV2.out _) (fun i r hi => by
          obtain ⟨u, q1, q2⟩ := HV3.out i r hi
          exact ⟨u, q1, World.ownsRow.alloc q2 _⟩) (World.ownsRow.alloc HO.out _) hgrow9 (by rw [List.length_map, List.length_range]; exact hown9)
        rw [← FI.out] at hpush
        have HP := hide hpush
        clear hpush hown9 hgrow9 hor9 hlt9
        go_wp2_with (fail)
        go_roundw
        case rel => exact ⟨d + 1, by omega, by go_num, _, _, rfl, HP⟩
        case measure => simp [intOf]; omega
      · obtain rfl : d = N := by omega
        have he : levS l d = [] := HN.out.1
        rw [he] at HS
        clear he hlow
        go_wp2_with (fail)
        refine HS.out.mono ?_
        rintro e w2 ⟨⟨A2, c2, he2, _⟩, hb⟩
        have he3 : e = .returned (.tuple #[.slice A2 0 c2, .int .i64 0]) := he2
        subst he3
        have HRG2 := hide (HRG.out.below hb)
        clear hb HS HRG he2
        obtain ⟨vs, v2, v3⟩ := HRG2.out.o
        have HV2 := hide v2
        have HV3 := hide v3
        clear v2 v3
        go_wp2_with (fail)
        go_ret2
        refine ⟨⟨Ao, co, vs, ?_, ?_, ?_⟩, HRG2.out.low⟩
        · rw [HF.out]; simp
        · rw [HF.out]; have := HV2.out; simpa using this
        · rw [HF.out]; exact HV3.out
  · have HF : Hid (levR l N = ([], measF l)) := hide (if_neg hm)
    have hne : (measF l != 0) = true := by simpa using hm
    obtain ⟨A0, c0, hv, _⟩ := id hr
    subst hv
    clear hm hr h
    generalize levR l N = LR at *
    generalize measF l = ck at *
    go_enter Tryz.func38, Tryz.ntmps38
    go_wp2_with (fail)
    refine (HME.out _ (Below.refl _ _)).mono ?_
    rintro e w1 ⟨rfl, hb⟩
    have HB := hide hb
    clear hb
    go_wp2_with (fail)
    refine (HME.out _ HB.out).mono ?_
    rintro e w2 ⟨rfl, hb⟩
    have HB2 := hide (HB.out.trans (hb.mono HB.out.size))
    clear hb HB HME
    go_wp2_with (fail)
    go_ret2
    exact ⟨⟨none, 0, [], by rw [HF.out]; rfl, by rw [HF.out]; exact World.ownsRow_nil _ _ _ _, fun i r hi => by rw [HF.out] at hi; simp at hi⟩, HB2.out⟩
end Go.Proofs.YtdolpeljengpaaaGreat
