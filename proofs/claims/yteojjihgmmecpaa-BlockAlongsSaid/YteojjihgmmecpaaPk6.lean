/- Texts laid together: MAlg, BlkB, BlkC, BlkD, Row, Open, MLot. Lemmas for the statements of this seat; no condition. -/
import Derived.Test.YteojjihgmmecpaaPk5
import Derived.Test.YteojjihgmmecpaaPk1
import Derived.Test.YteojjihgmmecpaaPk3
import Derived.Test.YteojjihgmmecpaaPk4
import Derived.ProofKit
import Derived.Lib.SmallJoins
import Derived.Deep.Slices
import Derived.Deep.Fields
import Derived.ChangeSame

/- Plain law: what makes a list a region; joins of regions are regions; areas count points. -/
namespace Go.Proofs.Yteojjihgmmecpaa
set_option linter.unusedVariables false
set_option linter.unusedSimpArgs false

theorem can_wf {l : List R4} (h : RCan l) : ∀ r ∈ l, wf4 r := by
  obtain ⟨S, hS, rfl⟩ := h
  intro r hr
  obtain ⟨a, ha, hr⟩ := List.mem_flatMap.1 hr
  obtain ⟨p, hp, rfl⟩ := List.mem_map.1 hr
  have := hS.all a ha
  exact ⟨this.1, this.2.2.1 p hp⟩
/-- A list whose points belong to valid rectangles has valid rectangles. -/
theorem sub_valid {l m : List R4} (hl : ∀ r ∈ l, wf4 r) (hm : ∀ r ∈ m, valid4 r) (h : ∀ x y, pmem l x y → pmem m x y) : ∀ r ∈ l, valid4 r := by
  intro r hr
  obtain ⟨w1, w2⟩ := hl r hr
  obtain ⟨s, hs, h1⟩ := h r.x0 r.y0 ⟨r, hr, by simp only [rin]; omega⟩
  obtain ⟨t, ht, h2⟩ := h (r.x1 - 1) (r.y1 - 1) ⟨r, hr, by simp only [rin]; omega⟩
  have v1 := hm s hs
  have v2 := hm t ht
  simp only [rin, valid4, fineP] at h1 h2 v1 v2 ⊢
  omega
theorem made_self {l : List R4} (hc : RCan l) : rjoin hFst l [] = l :=
  (rjoin_eq (h := hFst) rfl (can_wf hc) (by simp) hc fun x y => by simp [hFst]).symm
theorem can_check {l : List R4} (hc : RCan l) (hv : ∀ r ∈ l, valid4 r) (hn : l.length ≤ 400) : checkF l = 0 := by
  have ha : l.any (fun r => !decide (valid4 r)) = false := by
    rw [List.any_eq_false]
    intro r hr
    simp [hv r hr]
  rw [checkF_valid (by omega) ha, if_pos (made_self hc)]
theorem check_frame {l : List R4} (h : checkF l = 0) {m : Nat} (hm : 1000000 ≤ m) : ∀ r ∈ l, inFr m r := fun r hr => by
  have := (checkF_ok h).2.1 r hr
  simp only [valid4, fineP, inFr] at this ⊢
  omega
theorem join_pts {h : Bool → Bool → Bool} (h0 : h false false = false) {a b : List R4} (ha : checkF a = 0) (hb : checkF b = 0) (x y : Int) : pmem (rjoin h a b) x y ↔ h (decide (pmem a x y)) (decide (pmem b x y)) = true :=
  (rjoin_ok h0 (check_wf ha) (check_wf hb)).2 x y
theorem join_check {h : Bool → Bool → Bool} (h0 : h false false = false) {a b : List R4} (ha : checkF a = 0) (hb : checkF b = 0) (hn : (rjoin h a b).length ≤ 400) : checkF (rjoin h a b) = 0 := by
  have hc := (rjoin_ok h0 (check_wf ha) (check_wf hb)).1
  refine can_check hc (sub_valid (m := a ++ b) (can_wf hc) (fun r hr => ?_) fun x y hx => ?_) hn
  · rcases List.mem_append.1 hr with hr | hr
    · exact (checkF_ok ha).2.1 r hr
    · exact (checkF_ok hb).2.1 r hr
  · rw [join_pts h0 ha hb] at hx
    rw [pmem_append]
    by_cases p1 : pmem a x y
    · exact .inl p1
    · by_cases p2 : pmem b x y
      · exact .inr p2
      · rw [decide_eq_false p1, decide_eq_false p2, h0] at hx; cases hx
theorem joinF_ok {h : Bool → Bool → Bool} {a b : List R4} (ha : checkF a = 0) (hb : checkF b = 0) : joinF h a b = if 400 < (rjoin h a b).length then ([], 4) else (rjoin h a b, 0) := by
  have : bothF a b = 0 := by unfold bothF; rw [if_pos ha]; exact hb
  unfold joinF
  rw [if_pos this]
theorem can_eq {a b : List R4} (ha : checkF a = 0) (hb : checkF b = 0) (h : ∀ x y, pmem a x y ↔ pmem b x y) : a = b := (check_rcan ha).ext (check_rcan hb) h
theorem area_vol {l : List R4} (h : checkF l = 0) {m : Nat} (hm : 1000000 ≤ m) : areaS l = vol m (one l) := by
  have e : vol m (one l) = vol m (cntP l) := vol_congr fun x y _ _ _ _ => (cntP_ind (check_rcan h).apart x y).symm
  rw [e, vol_cntP (check_frame h hm)]
  unfold areaS
  congr 1
  refine List.map_congr_left fun r hr => ?_
  obtain ⟨w1, w2⟩ := check_wf h r hr
  unfold area4 box
  rw [Int.max_eq_right (by omega), Int.max_eq_right (by omega)]
/-- The areas of the union and of the common part. -/
theorem area_sum {a b u c : List R4} (ha : checkF a = 0) (hb : checkF b = 0) (hu : checkF u = 0) (hc : checkF c = 0) (pu : ∀ x y, pmem u x y ↔ pmem a x y ∨ pmem b x y) (pc : ∀ x y, pmem c x y ↔ pmem a x y ∧ pmem b x y) : areaS u + areaS c = areaS a + areaS b := by
  obtain ⟨m, hm⟩ : ∃ m : Nat, m = 1000000 := ⟨_, rfl⟩
  rw [area_vol ha (m := m) (by omega), area_vol hb (m := m) (by omega), area_vol hu (m := m) (by omega), area_vol hc (m := m) (by omega), ← vol_add, ← vol_add]
  refine vol_congr fun x y _ _ _ _ => ?_
  unfold one
  rw [ind_iff (pu x y), ind_iff (pc x y)]
  unfold ind
  by_cases h1 : pmem a x y <;> by_cases h2 : pmem b x y <;> simp [h1, h2]
end Go.Proofs.Yteojjihgmmecpaa

/- block.Along: how far two regions are along each other. -/
namespace Go.Proofs.Yteojjihgmmecpaa
open Go.RowKit
set_option linter.unusedVariables false
set_option linter.unusedSimpArgs false
attribute [local go_sem] Oper.semAt_some

def alongF (a b : List R4) : Int × Int := if checkF a = 0 then (if checkF b = 0 then (alongC a b, 0) else (0, checkF b)) else (0, checkF a)
theorem fine_of {l : List R4} (h : checkF l = 0) : ∀ r ∈ l, fineR r := fun r hr => by
  obtain ⟨_, _, v1, v2, v3, v4⟩ := (checkF_ok h).2.1 r hr
  unfold fineP at *
  unfold fineR
  omega
theorem both_fine {a b : List R4} (ha : ∀ r ∈ a, fineR r) (hb : ∀ r ∈ b, fineR r) : ∀ r ∈ bothL a b, fineR r := by
  intro r hr
  obtain ⟨p, hp, hr⟩ := List.mem_flatMap.1 hr
  obtain ⟨hr, _⟩ := List.mem_filter.1 hr
  obtain ⟨q, hq, rfl⟩ := List.mem_map.1 hr
  have h1 := ha p hp
  have h2 := hb q hq
  simp only [fineR, meet4] at h1 h2 ⊢; omega
def cnt01 (a : List R4) : Prop := ∀ X Y, cntP a X Y = 0 ∨ cntP a X Y = 1
theorem cnt_of {l : List R4} (h : checkF l = 0) : cnt01 l := fun X Y => by
  rw [cntP_ind (check_rcan h).apart]
  exact ind_01 _
theorem cnt_both {a b : List R4} (ha : cnt01 a) (hb : cnt01 b) : cnt01 (bothL a b) := fun X Y => by
  rw [cntP_both]
  rcases ha X Y with h1 | h1 <;> rcases hb X Y with h2 | h2 <;> rw [h1, h2] <;> simp
theorem shF_bd {a b : List R4} (ca : cnt01 a) (cb : cnt01 b) (fa : ∀ r ∈ a, fineR r) {x y : Int} (hx : -1 ≤ x ∧ x ≤ 1) (hy : -1 ≤ y ∧ y ≤ 1) : 0 ≤ shF a b x y ∧ shF a b x y ≤ 4000008000004 := by
  obtain ⟨m, hm⟩ : ∃ m : Nat, m = 1000001 := ⟨_, rfl⟩
  rw [shF_vol (m := m) (fun r hr => by have := fa r hr; simp only [fineR, inFr, mvA] at this ⊢; omega)]
  have h : ∀ X Y, cntP a (X - x) (Y - y) * cntP b X Y = 0 ∨ cntP a (X - x) (Y - y) * cntP b X Y = 1 := fun X Y => by
    rcases ca (X - x) (Y - y) with h1 | h1 <;> rcases cb X Y with h2 | h2 <;> simp only [h1, h2] <;> simp
  have := vol_bd (m := m) (f := fun X Y => cntP a (X - x) (Y - y) * cntP b X Y) (fun X Y => by rcases h X Y with h | h <;> rw [h] <;> omega) (fun X Y => by rcases h X Y with h | h <;> rw [h] <;> omega)
  refine ⟨this.1, Int.le_trans this.2 ?_⟩
  subst hm
  decide
theorem bothP_snoc (p : R4) {b : List R4} {k : Nat} {q : R4} (h : b[k]? = some q) : bothP p (b.take (k + 1)) = bothP p (b.take k) ++ if ok4 (meet4 p q) = true then [meet4 p q] else [] := by
  unfold bothP
  rw [List.take_add_one, h, Option.toList_some, List.map_append, List.filter_append]
  congr 1
  by_cases ho : ok4 (meet4 p q) = true <;> simp [ho]
theorem bothL_snoc (b : List R4) {a : List R4} {m : Nat} {p : R4} (h : a[m]? = some p) : bothL (a.take (m + 1)) b = bothL (a.take m) b ++ bothP p b := by
  unfold bothL
  rw [List.take_add_one, h, Option.toList_some, List.flatMap_append]
  simp
/-- Sums over the four directions. -/
def dirs4 : List (Int × Int) := [(1, 0), (-1, 0), (0, 1), (0, -1)]
def sumD (a b : List R4) (n : Nat) : Int := ((dirs4.take n).map fun d => dirF a b d.1 d.2).sum
theorem sumD_all (a b : List R4) : sumD a b 4 = alongC a b := by
  simp [sumD, dirs4, alongC]
  omega
set_option maxRecDepth 100000 in
set_option maxHeartbeats 8000000 in
theorem along_any {w : World} {va vb : Value} {a b : List R4} (ra : RdK encR 4 w w.heap.size va a) (rb : RdK encR 4 w w.heap.size vb b) (na : a.length ≤ 100000000) (nb : b.length ≤ 100000000) :
    Calls Try.prog 5 #[va, vb] w fun e w' => e = .returned (.tuple #[.int .i64 (alongF a b).1, .int .i64 (alongF a b).2]) ∧ Below w.heap.size w w' := by
  obtain ⟨i1, gi, gz0, gz1, gz2⟩ := info_parts infoRc
  have HA := hide ra
  have HB := hide rb
  have C1 := hide (fun (w' : World) (h : Below w.heap.size w w') => check_any (w := w') ((HA.out.below h).mono h.size) na)
  have C2 := hide (fun (w' : World) (h : Below w.heap.size w w') => check_any (w := w') ((HB.out.below h).mono h.size) nb)
  obtain ⟨A1, c1, hva, h1⟩ := ra
  obtain ⟨A2, c2, hvb, h2⟩ := rb
  subst hva
  subst hvb
  have hK := hide (Below.refl w.heap.size w)
  by_cases z1 : checkF a = 0
  rotate_left 1
  · have hF : alongF a b = (0, checkF a) := by unfold alongF; rw [if_neg z1]
    rw [hF]
    clear hF C2 h1 h2
    have hne : (checkF a != 0) = true := by simpa using z1
    generalize checkF a = ca at *
    clear z1
    go_enter Try.func5, Try.ntmps5
    go_wp2_with (fail)
    refine (C1.out _ hK.out).mono ?_
    rintro e w1 ⟨rfl, hb1⟩
    go_wp2_with (fail)
    go_ret2
    exact ⟨rfl, hb1⟩
  by_cases z2 : checkF b = 0
  rotate_left 1
  · have hF : alongF a b = (0, checkF b) := by unfold alongF; rw [if_pos z1, if_neg z2]
    rw [hF]
    rw [z1] at C1
    clear hF h1 h2
    have hne : (checkF b != 0) = true := by simpa using z2
    generalize checkF b = cb at *
    clear z2 z1
    go_enter Try.func5, Try.ntmps5
    go_wp2_with (fail)
    refine (C1.out _ hK.out).mono ?_
    rintro e w1 ⟨rfl, hb1⟩
    have HB1 := hide hb1
    clear hb1
    go_wp2_with (fail)
    refine (C2.out _ HB1.out).mono ?_
    rintro e w2 ⟨rfl, hb2⟩
    have HB2 := hide (HB1.out.trans (hb2.mono HB1.out.size))
    clear hb2
    go_wp2_with (fail)
    go_ret2
    exact ⟨rfl, HB2.out⟩
  have hF : alongF a b = (sumD a b 4, 0) := by unfold alongF; rw [if_pos z1, if_pos z2, sumD_all]
  rw [hF]
  rw [z1] at C1
  rw [z2] at C2
  have la := (checkF_ok z1).1
  have lb := (checkF_ok z2).1
  have FA := hide (fine_of z1)
  have FB := hide (fine_of z2)
  have CA := hide (cnt_of z1)
  have CB := hide (cnt_of z2)
  have H1 := hide h1
  have H2 := hide h2
  have hmx := @run_max2 Try.prog
  have hmn := @run_min2 Try.prog
  clear hF z1 z2 h1 h2 na nb
  have P0 : sumD a b 0 = 0 := rfl
  have P1 : sumD a b 1 = sumD a b 0 + dirF a b 1 0 := by simp [sumD, dirs4]
  have P2 : sumD a b 2 = sumD a b 1 + dirF a b (-1) 0 := by simp [sumD, dirs4]
  have P3 : sumD a b 3 = sumD a b 2 + dirF a b 0 1 := by simp [sumD, dirs4] <;> omega
  have P4 : sumD a b 4 = sumD a b 3 + dirF a b 0 (-1) := by simp [sumD, dirs4] <;> omega
  have HPP := hide (And.intro P0 (And.intro P1 (And.intro P2 (And.intro P3 P4))))
  clear P0 P1 P2 P3 P4
  generalize sumD a b = P at *
  go_enter Try.func5, Try.ntmps5
  go_wp2_with (fail)
  refine (C1.out _ hK.out).mono ?_
  rintro e w1 ⟨rfl, hb1⟩
  have HB1 := hide hb1
  clear hb1
  go_wp2_with (fail)
  refine (C2.out _ HB1.out).mono ?_
  rintro e w2 ⟨rfl, hb2⟩
  have HB2 := hide (HB1.out.trans (hb2.mono HB1.out.size))
  clear hb2 HB1 C1 C2
  go_wp2_with (fail)
  go_loopw [8, 31] (fun s i wr => ∃ (m n : Nat) (Av : Option Addr) (cv : Nat), m ≤ a.length ∧ i = .int .i64 (m : Int) ∧ s = .slice Av n cv ∧ n ≤ 400 * m ∧ Hid (n = (bothL (a.take m) b).length) ∧ Hid (wr.ownsRow w.heap.size 33 4 (.slice Av n cv) n ((bothL (a.take m) b).flatMap encR)) ∧ Hid (Below w.heap.size w wr)) (fun _ i _ => a.length - (intOf i).toNat)
  case atStart => exact ⟨0, 0, none, 0, Nat.zero_le _, rfl, rfl, by omega, hide rfl, hide (World.ownsRow_nil _ _ _ _), HB2⟩
  case round =>
    clear HB2
    obtain ⟨m, n, Av, cv, hm, rfl, rfl, hn, HN, HO, HBr⟩ := hrel
    by_cases hlt : m < a.length
    · obtain ⟨⟨a0, a1, a2, a3⟩, hp⟩ : ∃ p, a[m]? = some p := ⟨_, List.getElem?_eq_getElem hlt⟩
      obtain ⟨g, o, rfl, hg, k1⟩ := H1.out (by intro e; rw [e] at hlt; simp at hlt)
      have x0 : wr.cell? ⟨g, o + m * 4, none⟩ = some (.int .i64 a0) := (HBr.out.cell (p := ⟨g, _, none⟩) hg).trans (k1 m _ hp 0 _ rfl)
      have x1 : wr.cell? ⟨g, o + m * 4 + 1, none⟩ = some (.int .i64 a1) := (HBr.out.cell (p := ⟨g, _, none⟩) hg).trans (k1 m _ hp 1 _ rfl)
      have x2 : wr.cell? ⟨g, o + m * 4 + 2, none⟩ = some (.int .i64 a2) := (HBr.out.cell (p := ⟨g, _, none⟩) hg).trans (k1 m _ hp 2 _ rfl)
      have x3 : wr.cell? ⟨g, o + m * 4 + 3, none⟩ = some (.int .i64 a3) := (HBr.out.cell (p := ⟨g, _, none⟩) hg).trans (k1 m _ hp 3 _ rfl)
      have mz : (m : Int) < (a.length : Int) := by omega
      have HSN := hide (bothL_snoc b hp)
      clear hp k1
      go_upto_region 11 with fail
      refine wp_name fun w1 hw1 => ?_
      have hb1 : Below wr.heap.size wr w1 := by rw [hw1]; exact (Below.refl _ _).alloc (Nat.le_refl _) _
      obtain ⟨q, hq⟩ : ∃ q, q = wr.heap.size := ⟨_, rfl⟩
      have d0 : w1.cell? ⟨q, 0, none⟩ = some (.int .i64 a0) := by rw [hw1, hq]; simp [go_sem]
      have d1 : w1.cell? ⟨q, 1, none⟩ = some (.int .i64 a1) := by rw [hw1, hq]; simp [go_sem]
      have d2 : w1.cell? ⟨q, 2, none⟩ = some (.int .i64 a2) := by rw [hw1, hq]; simp [go_sem]
      have d3 : w1.cell? ⟨q, 3, none⟩ = some (.int .i64 a3) := by rw [hw1, hq]; simp [go_sem]
      have hq1 : q < w1.heap.size := by rw [hw1, hq]; simp
      have HB1 := hide (HBr.out.trans (hb1.mono HBr.out.size))
      have HO1 := hide (own_below HO.out hb1)
      have HV1 : Hid ((Value.slice Av n cv).ownBlock ≠ some q) := hide (fun e => by have := (HO.out.lt q e).2; omega)
      have hwq : w.heap.size ≤ q := by rw [hq]; exact HBr.out.size
      rw [← hq]
      clear hw1 hb1 hq x0 x1 x2 x3 HBr HO
      go_wp2
      go_loopw [8, 37] (fun s i wx => ∃ (k n2 : Nat) (Av2 : Option Addr) (cv2 : Nat), k ≤ b.length ∧ i = .int .i64 (k : Int) ∧ s = .slice Av2 n2 cv2 ∧ n2 ≤ 400 * m + k ∧ Hid (n2 = (bothL (a.take m) b ++ bothP ⟨a0, a1, a2, a3⟩ (b.take k)).length) ∧ Hid (wx.ownsRow w.heap.size 33 4 (.slice Av2 n2 cv2) n2 ((bothL (a.take m) b ++ bothP ⟨a0, a1, a2, a3⟩ (b.take k)).flatMap encR)) ∧ Hid (Below w.heap.size w wx) ∧ Hid ((Value.slice Av2 n2 cv2).ownBlock ≠ some q) ∧ Hid (q < wx.heap.size ∧ wx.cell? ⟨q, 0, none⟩ = some (.int .i64 a0) ∧ wx.cell? ⟨q, 1, none⟩ = some (.int .i64 a1) ∧ wx.cell? ⟨q, 2, none⟩ = some (.int .i64 a2) ∧ wx.cell? ⟨q, 3, none⟩ = some (.int .i64 a3))) (fun _ i _ => b.length - (intOf i).toNat)
      case atStart => exact ⟨0, n, Av, cv, Nat.zero_le _, rfl, rfl, by omega, hide (by simpa [bothP] using HN.out), hide (by simpa [bothP] using HO1.out), HB1, HV1, hide ⟨hq1, d0, d1, d2, d3⟩⟩
      case round =>
        clear HO1 HV1 HN HB1 d0 d1 d2 d3 hq1
        obtain ⟨k, n2, Av2, cv2, hk, rfl, rfl, hn2, HN, HO, HBr, HV, HD⟩ := hrel
        by_cases hltk : k < b.length
        · obtain ⟨⟨b0, b1, b2, b3⟩, hpk⟩ : ∃ p, b[k]? = some p := ⟨_, List.getElem?_eq_getElem hltk⟩
          obtain ⟨g2, o2, rfl, hg2, k2⟩ := H2.out (by intro e; rw [e] at hltk; simp at hltk)
          obtain ⟨hqr, e0, e1, e2, e3⟩ := HD.out
          have y0 : wr.cell? ⟨g2, o2 + k * 4, none⟩ = some (.int .i64 b0) := (HBr.out.cell (p := ⟨g2, _, none⟩) hg2).trans (k2 k _ hpk 0 _ rfl)
          have y1 : wr.cell? ⟨g2, o2 + k * 4 + 1, none⟩ = some (.int .i64 b1) := (HBr.out.cell (p := ⟨g2, _, none⟩) hg2).trans (k2 k _ hpk 1 _ rfl)
          have y2 : wr.cell? ⟨g2, o2 + k * 4 + 2, none⟩ = some (.int .i64 b2) := (HBr.out.cell (p := ⟨g2, _, none⟩) hg2).trans (k2 k _ hpk 2 _ rfl)
          have y3 : wr.cell? ⟨g2, o2 + k * 4 + 3, none⟩ = some (.int .i64 b3) := (HBr.out.cell (p := ⟨g2, _, none⟩) hg2).trans (k2 k _ hpk 3 _ rfl)
          have kz : (k : Int) < (b.length : Int) := by omega
          have HSK := hide (bothP_snoc ⟨a0, a1, a2, a3⟩ hpk)
          clear hpk k2
          go_upto_region 15 with fail
          refine wp_name fun w3 hw3 => ?_
          have hb3 : Below wr.heap.size wr w3 := by rw [hw3]; exact ((Below.refl _ _).alloc (Nat.le_refl _) _).alloc (by simp) _
          obtain ⟨z, hz⟩ : ∃ z, z = wr.heap.size + 1 := ⟨_, rfl⟩
          obtain ⟨r0, hr0⟩ : ∃ r, r = max a0 b0 := ⟨_, rfl⟩
          obtain ⟨r1, hr1⟩ : ∃ r, r = max a1 b1 := ⟨_, rfl⟩
          obtain ⟨r2, hr2⟩ : ∃ r, r = min a2 b2 := ⟨_, rfl⟩
          obtain ⟨r3, hr3⟩ : ∃ r, r = min a3 b3 := ⟨_, rfl⟩
          have f0 : w3.cell? ⟨z, 0, none⟩ = some (.int .i64 r0) := by rw [hw3, hz, hr0]; simp [go_sem]
          have f1 : w3.cell? ⟨z, 1, none⟩ = some (.int .i64 r1) := by rw [hw3, hz, hr1]; simp [go_sem]
          have f2 : w3.cell? ⟨z, 2, none⟩ = some (.int .i64 r2) := by rw [hw3, hz, hr2]; simp [go_sem]
          have f3 : w3.cell? ⟨z, 3, none⟩ = some (.int .i64 r3) := by rw [hw3, hz, hr3]; simp [go_sem]
          have hzs : z < w3.heap.size := by rw [hw3, hz]; simp
          have hm4 : meet4 ⟨a0, a1, a2, a3⟩ ⟨b0, b1, b2, b3⟩ = ⟨r0, r1, r2, r3⟩ := by rw [hr0, hr1, hr2, hr3]; rfl
          have HB3 := hide (HBr.out.trans (hb3.mono HBr.out.size))
          have HO3 := hide (own_below HO.out hb3)
          have HD3 : Hid (q < w3.heap.size ∧ w3.cell? ⟨q, 0, none⟩ = some (.int .i64 a0) ∧ w3.cell? ⟨q, 1, none⟩ = some (.int .i64 a1) ∧ w3.cell? ⟨q, 2, none⟩ = some (.int .i64 a2) ∧ w3.cell? ⟨q, 3, none⟩ = some (.int .i64 a3)) := hide ⟨Nat.lt_of_lt_of_le hqr hb3.size, (hb3.cell (p := ⟨q, 0, none⟩) hqr).trans e0, (hb3.cell (p := ⟨q, 1, none⟩) hqr).trans e1, (hb3.cell (p := ⟨q, 2, none⟩) hqr).trans e2, (hb3.cell (p := ⟨q, 3, none⟩) hqr).trans e3⟩
          rw [hm4] at HSK
          have hs3 : w.heap.size ≤ w3.heap.size := HB3.out.size
          rw [← hz]
          clear hw3 hb3 hz y0 y1 y2 y3 e0 e1 e2 e3 HD HO HBr hr0 hr1 hr2 hr3 hm4 hqr
          by_cases hok : r0 < r2 ∧ r1 < r3
          · obtain ⟨p1, p2⟩ := hok
            have HT : Hid (bothL (a.take m) b ++ bothP ⟨a0, a1, a2, a3⟩ (b.take (k + 1)) = (bothL (a.take m) b ++ bothP ⟨a0, a1, a2, a3⟩ (b.take k)) ++ [⟨r0, r1, r2, r3⟩]) := hide (by
              rw [HSK.out, if_pos (by simp [ok4, p1, p2]), List.append_assoc])
            generalize bothL (a.take m) b ++ bothP ⟨a0, a1, a2, a3⟩ (b.take k) = E0 at *
            clear HSK
            go_wp2_with (at_builtin; go_loud (refine wpList_append_lies _ rfl (.tmp 74) (.tmp 76) 22 rfl w.heap.size 33 i1 (.agg #[.int .i64 0, .int .i64 0, .int .i64 0, .int .i64 0]) 4 32 Try.underlying22 gi gz0 gz1 gz2 rfl (by decide) _ n2 _ rfl (World.ownsRow.alloc HO3.out _) ⟨w3.heap.size, 0, none⟩ 1 1 [.int .i64 r0, .int .i64 r1, .int .i64 r2, .int .i64 r3] rfl rfl (news_new w3 _ _ _ rfl) (ints_one rfl) (by omega) (by unfold maxLen; omega) (by omega) (by simp; omega) _ rfl ?_))
            intro g9 cap9 w9 hown9 hgrow9 hor9 hlt9
            have hx9 : E0.flatMap encR ++ [.int .i64 r0, .int .i64 r1, .int .i64 r2, .int .i64 r3] = (E0 ++ [(⟨r0, r1, r2, r3⟩ : R4)]).flatMap encR := by simp [encR]
            rw [hx9, ← HT.out] at hown9
            have hq3 := HD3.out.1
            have HB9 := hide ((HB3.out.alloc hs3 _).grown hgrow9 (by simp; omega) (fun q hq => (HO3.out.lt q hq).1))
            have hblk : w9.heap[q]? = w3.heap[q]? := (hgrow9.block q (by simp; omega) (fun e => HV.out e.symm)).trans (((Below.refl w3.heap.size w3).alloc (Nat.le_refl _) _).block q hq3)
            have HD9 : Hid (q < w9.heap.size ∧ w9.cell? ⟨q, 0, none⟩ = some (.int .i64 a0) ∧ w9.cell? ⟨q, 1, none⟩ = some (.int .i64 a1) ∧ w9.cell? ⟨q, 2, none⟩ = some (.int .i64 a2) ∧ w9.cell? ⟨q, 3, none⟩ = some (.int .i64 a3)) := hide ⟨Nat.lt_of_lt_of_le hq3 (Nat.le_trans (by simp) hgrow9.size), (World.cell?_of_block hblk).trans HD3.out.2.1, (World.cell?_of_block hblk).trans HD3.out.2.2.1, (World.cell?_of_block hblk).trans HD3.out.2.2.2.1, (World.cell?_of_block hblk).trans HD3.out.2.2.2.2⟩
            have HV9 : Hid ((Value.slice (some ⟨g9, 0, none⟩) (n2 + 1) cap9).ownBlock ≠ some q) := hide (fun e => by
              have e2 : g9 = q := by injection e
              subst e2
              rcases hor9 with h | h
              · exact HV.out h
              · have := hq3; (try simp at h); omega)
            have HO9 := hide hown9
            have HN9 : Hid (n2 + 1 = (bothL (a.take m) b ++ bothP ⟨a0, a1, a2, a3⟩ (b.take (k + 1))).length) := hide (by rw [HT.out, List.length_append, ← HN.out]; rfl)
            clear hown9 hgrow9 hor9 hlt9 hx9 hblk HD3 HO3 HB3 HV HT HN f0 f1 f2 f3
            go_wp2
            go_roundw
            case rel => exact ⟨k + 1, n2 + 1, _, cap9, by omega, by go_num, rfl, by omega, HN9, HO9, HB9, HV9, HD9⟩
            case measure => first | (simp [intOf]; done) | (simp [intOf]; omega)
          · have HT : Hid (bothL (a.take m) b ++ bothP ⟨a0, a1, a2, a3⟩ (b.take (k + 1)) = bothL (a.take m) b ++ bothP ⟨a0, a1, a2, a3⟩ (b.take k)) := hide (by
              rw [HSK.out, if_neg (by simp only [ok4, Bool.and_eq_true, decide_eq_true_eq]; exact hok), List.append_nil])
            have hcs : (decide (r0 < r2) = false) ∨ (decide (r0 < r2) = true ∧ decide (r1 < r3) = false) := by
              by_cases h : r0 < r2
              · exact .inr ⟨decide_eq_true h, decide_eq_false (fun h2 => hok ⟨h, h2⟩)⟩
              · exact .inl (decide_eq_false h)
            clear hok HSK
            rcases hcs with p1 | ⟨p1, p2⟩
            all_goals
              go_wp2
              go_roundw
              case rel => exact ⟨k + 1, n2, Av2, cv2, by omega, by go_num, rfl, by omega, hide (by rw [HT.out]; exact HN.out), hide (by rw [HT.out]; exact HO3.out), HB3, HV, HD3⟩
              case measure => first | (simp [intOf]; done) | (simp [intOf]; omega)
        · obtain rfl : k = b.length := by omega
          have kz : ¬ (b.length : Int) < (b.length : Int) := by omega
          have hT : bothL (a.take m) b ++ bothP ⟨a0, a1, a2, a3⟩ (b.take b.length) = bothL (a.take (m + 1)) b := by rw [HSN.out, List.take_length]
          have HT := hide hT
          clear hT
          go_wp2
          go_roundw
          case rel => exact ⟨m + 1, n2, Av2, cv2, by omega, by go_num, rfl, by omega, hide (by rw [← HT.out]; exact HN.out), hide (by rw [← HT.out]; exact HO.out), HBr⟩
          case measure => first | (simp [intOf]; done) | (simp [intOf]; omega)
    · obtain rfl : m = a.length := by omega
      have mz : ¬ (a.length : Int) < (a.length : Int) := by omega
      rw [List.take_length] at HN HO
      have hn4 := HN.out
      have HRC : Hid (RdK encR 4 wr wr.heap.size (.slice Av n cv) (bothL a b)) := hide (by
        have h := HO.out
        rw [HN.out] at h ⊢
        exact own_rd h (fun _ => rfl))
      have HRA := hide ((HA.out.below HBr.out).mono HBr.out.size)
      have HRB := hide ((HB.out.below HBr.out).mono HBr.out.size)
      have lc : (bothL a b).length ≤ 1000000 := by rw [← hn4]; omega
      have FC := hide (both_fine FA.out FB.out)
      have CC := hide (cnt_both CA.out CB.out)
      have S1 := hide (fun (w' : World) (h : Below wr.heap.size wr w') (x y : Int) (hx : -1 ≤ x ∧ x ≤ 1) (hy : -1 ≤ y ∧ y ≤ 1) => by
        have := shared_any (w := w') ((HRA.out.below h).mono h.size) ((HRB.out.below h).mono h.size) (by omega) (by omega) FA.out FB.out x y hx hy
        have hd := shF_bd (a := a) (b := b) CA.out CB.out FA.out hx hy
        rw [wrap_id (by omega) (by omega)] at this
        exact this)
      have B1 := fun x y hx hy => shF_bd (x := x) (y := y) (a := a) (b := b) CA.out CB.out FA.out hx hy
      have S2 := hide (fun (w' : World) (h : Below wr.heap.size wr w') (x y : Int) (hx : -1 ≤ x ∧ x ≤ 1) (hy : -1 ≤ y ∧ y ≤ 1) => by
        have := shared_any (w := w') ((HRC.out.below h).mono h.size) ((HRB.out.below h).mono h.size) (by omega) (by omega) FC.out FB.out x y hx hy
        have hd := shF_bd (a := bothL a b) (b := b) CC.out CB.out FC.out hx hy
        rw [wrap_id (by omega) (by omega)] at this
        exact this)
      have B2 := fun x y hx hy => shF_bd (x := x) (y := y) (a := bothL a b) (b := b) CC.out CB.out FC.out hx hy
      have S3 := hide (fun (w' : World) (h : Below wr.heap.size wr w') (x y : Int) (hx : -1 ≤ x ∧ x ≤ 1) (hy : -1 ≤ y ∧ y ≤ 1) => by
        have := shared_any (w := w') ((HRA.out.below h).mono h.size) ((HRC.out.below h).mono h.size) (by omega) (by omega) FA.out FC.out x y hx hy
        have hd := shF_bd (a := a) (b := bothL a b) CA.out CC.out FA.out hx hy
        rw [wrap_id (by omega) (by omega)] at this
        exact this)
      have B3 := fun x y hx hy => shF_bd (x := x) (y := y) (a := a) (b := bothL a b) CA.out CC.out FA.out hx hy
      have S4 := hide (fun (w' : World) (h : Below wr.heap.size wr w') (x y : Int) (hx : -1 ≤ x ∧ x ≤ 1) (hy : -1 ≤ y ∧ y ≤ 1) => by
        have := shared_any (w := w') ((HRC.out.below h).mono h.size) ((HRC.out.below h).mono h.size) (by omega) (by omega) FC.out FC.out x y hx hy
        have hd := shF_bd (a := bothL a b) (b := bothL a b) CC.out CC.out FC.out hx hy
        rw [wrap_id (by omega) (by omega)] at this
        exact this)
      have B4 := fun x y hx hy => shF_bd (x := x) (y := y) (a := bothL a b) (b := bothL a b) CC.out CC.out FC.out hx hy
      have D0 : dirF a b 1 0 = shF a b 1 0 - shF (bothL a b) b 1 0 - shF a (bothL a b) 1 0 + shF (bothL a b) (bothL a b) 1 0 := rfl
      have b01 := B1 1 0 (by omega) (by omega)
      have b02 := B2 1 0 (by omega) (by omega)
      have b03 := B3 1 0 (by omega) (by omega)
      have b04 := B4 1 0 (by omega) (by omega)
      have D1 : dirF a b (-1) 0 = shF a b (-1) 0 - shF (bothL a b) b (-1) 0 - shF a (bothL a b) (-1) 0 + shF (bothL a b) (bothL a b) (-1) 0 := rfl
      have b11 := B1 (-1) 0 (by omega) (by omega)
      have b12 := B2 (-1) 0 (by omega) (by omega)
      have b13 := B3 (-1) 0 (by omega) (by omega)
      have b14 := B4 (-1) 0 (by omega) (by omega)
      have D2 : dirF a b 0 1 = shF a b 0 1 - shF (bothL a b) b 0 1 - shF a (bothL a b) 0 1 + shF (bothL a b) (bothL a b) 0 1 := rfl
      have b21 := B1 0 1 (by omega) (by omega)
      have b22 := B2 0 1 (by omega) (by omega)
      have b23 := B3 0 1 (by omega) (by omega)
      have b24 := B4 0 1 (by omega) (by omega)
      have D3 : dirF a b 0 (-1) = shF a b 0 (-1) - shF (bothL a b) b 0 (-1) - shF a (bothL a b) 0 (-1) + shF (bothL a b) (bothL a b) 0 (-1) := rfl
      have b31 := B1 0 (-1) (by omega) (by omega)
      have b32 := B2 0 (-1) (by omega) (by omega)
      have b33 := B3 0 (-1) (by omega) (by omega)
      have b34 := B4 0 (-1) (by omega) (by omega)
      obtain ⟨P0, P1, P2, P3, P4⟩ := HPP.out
      clear HPP
      clear B1 B2 B3 B4 HRA HRB HRC FC CC FA FB CA CB HA HB H1 H2
      have T01 := hide (fun (w' : World) (h : Below wr.heap.size wr w') => S1.out w' h 1 0 (by omega) (by omega))
      have T02 := hide (fun (w' : World) (h : Below wr.heap.size wr w') => S2.out w' h 1 0 (by omega) (by omega))
      have T03 := hide (fun (w' : World) (h : Below wr.heap.size wr w') => S3.out w' h 1 0 (by omega) (by omega))
      have T04 := hide (fun (w' : World) (h : Below wr.heap.size wr w') => S4.out w' h 1 0 (by omega) (by omega))
      have T11 := hide (fun (w' : World) (h : Below wr.heap.size wr w') => S1.out w' h (-1) 0 (by omega) (by omega))
      have T12 := hide (fun (w' : World) (h : Below wr.heap.size wr w') => S2.out w' h (-1) 0 (by omega) (by omega))
      have T13 := hide (fun (w' : World) (h : Below wr.heap.size wr w') => S3.out w' h (-1) 0 (by omega) (by omega))
      have T14 := hide (fun (w' : World) (h : Below wr.heap.size wr w') => S4.out w' h (-1) 0 (by omega) (by omega))
      have T21 := hide (fun (w' : World) (h : Below wr.heap.size wr w') => S1.out w' h 0 1 (by omega) (by omega))
      have T22 := hide (fun (w' : World) (h : Below wr.heap.size wr w') => S2.out w' h 0 1 (by omega) (by omega))
      have T23 := hide (fun (w' : World) (h : Below wr.heap.size wr w') => S3.out w' h 0 1 (by omega) (by omega))
      have T24 := hide (fun (w' : World) (h : Below wr.heap.size wr w') => S4.out w' h 0 1 (by omega) (by omega))
      have T31 := hide (fun (w' : World) (h : Below wr.heap.size wr w') => S1.out w' h 0 (-1) (by omega) (by omega))
      have T32 := hide (fun (w' : World) (h : Below wr.heap.size wr w') => S2.out w' h 0 (-1) (by omega) (by omega))
      have T33 := hide (fun (w' : World) (h : Below wr.heap.size wr w') => S3.out w' h 0 (-1) (by omega) (by omega))
      have T34 := hide (fun (w' : World) (h : Below wr.heap.size wr w') => S4.out w' h 0 (-1) (by omega) (by omega))
      clear S1 S2 S3 S4
      generalize shF a b 1 0 = s01 at *
      generalize shF (bothL a b) b 1 0 = s02 at *
      generalize shF a (bothL a b) 1 0 = s03 at *
      generalize shF (bothL a b) (bothL a b) 1 0 = s04 at *
      generalize dirF a b 1 0 = dd0 at *
      generalize shF a b (-1) 0 = s11 at *
      generalize shF (bothL a b) b (-1) 0 = s12 at *
      generalize shF a (bothL a b) (-1) 0 = s13 at *
      generalize shF (bothL a b) (bothL a b) (-1) 0 = s14 at *
      generalize dirF a b (-1) 0 = dd1 at *
      generalize shF a b 0 1 = s21 at *
      generalize shF (bothL a b) b 0 1 = s22 at *
      generalize shF a (bothL a b) 0 1 = s23 at *
      generalize shF (bothL a b) (bothL a b) 0 1 = s24 at *
      generalize dirF a b 0 1 = dd2 at *
      generalize shF a b 0 (-1) = s31 at *
      generalize shF (bothL a b) b 0 (-1) = s32 at *
      generalize shF a (bothL a b) 0 (-1) = s33 at *
      generalize shF (bothL a b) (bothL a b) 0 (-1) = s34 at *
      generalize dirF a b 0 (-1) = dd3 at *
      clear HO HN hn4 lc
      have HBW := hide HBr.out
      clear HBr
      generalize hwo : wr = wo at *
      clear hwo
      go_wp2
      go_loopw [14, 85] (fun o i wx => ∃ m : Nat, m ≤ 4 ∧ i = .int .i64 (m : Int) ∧ o = .int .i64 (P m) ∧ Hid (Below wo.heap.size wo wx)) (fun _ i _ => 4 - (intOf i).toNat)
      case atStart => exact ⟨0, Nat.zero_le _, rfl, by rw [P0], hide (Below.refl _ _)⟩
      case round =>
        obtain ⟨m, hm4, rfl, rfl, HBx⟩ := hrel
        have hm5 : m = 0 ∨ m = 1 ∨ m = 2 ∨ m = 3 ∨ m = 4 := by omega
        rcases hm5 with rfl | rfl | rfl | rfl | rfl
        · have hidx : ∀ w : World, (Instr.index 35 (.agg #[.int .i64 1, .int .i64 0, .int .i64 (-1), .int .i64 0, .int .i64 0, .int .i64 1, .int .i64 0, .int .i64 (-1)]) (.int .i64 0)).run Try.prog w = .ok (.agg #[.int .i64 1, .int .i64 0]) w := fun w => by kernel_rfl
          have G1 := hide (T01.out)
          have G2 := hide (T02.out)
          have G3 := hide (T03.out)
          have G4 := hide (T04.out)
          have u1 : IntKind.i64.wrap (s01 - s02) = s01 - s02 := wrap_id (by omega) (by omega)
          have u2 : IntKind.i64.wrap (s01 - s02 - s03) = s01 - s02 - s03 := wrap_id (by omega) (by omega)
          have u3 : IntKind.i64.wrap (s01 - s02 - s03 + s04) = dd0 := by rw [← D0]; exact wrap_id (by omega) (by omega)
          have u4 : IntKind.i64.wrap (P 0 + dd0) = P 1 := by rw [← P1]; exact wrap_id (by omega) (by omega)
          clear P0 P1 P2 P3 P4 D0 D1 D2 D3 b01 b02 b03 b04 b11 b12 b13 b14 b21 b22 b23 b24 b31 b32 b33 b34 T01 T02 T03 T04 T11 T12 T13 T14 T21 T22 T23 T24 T31 T32 T33 T34
          go_upto_region 23 with fail
          refine wp_name fun Z hZ => ?_
          have hbz : Below wr.heap.size wr Z := by rw [hZ]; exact (Below.refl _ _).alloc (Nat.le_refl _) _
          have z0 : Z.cell? ⟨wr.heap.size, 0, none⟩ = some (.int .i64 1) := by rw [hZ]; simp [go_sem]
          have z1 : Z.cell? ⟨wr.heap.size, 1, none⟩ = some (.int .i64 0) := by rw [hZ]; simp [go_sem]
          have HBZ := hide (HBx.out.trans (hbz.mono HBx.out.size))
          clear hZ hbz HBx
          go_quiet (fail)
          refine name_exit fun Z1 hZ1 => ?_
          have HB0 : Hid (Below wo.heap.size wo Z1) := hide (by rw [hZ1]; exact below_drewN HBZ.out _)
          clear hZ1 HBZ z0 z1
          go_wp2_with (fail)
          refine (G1.out _ HB0.out).mono ?_
          rintro e v1 ⟨rfl, hb⟩
          have HB1 := hide (HB0.out.trans (hb.mono HB0.out.size))
          clear hb HB0 G1
          go_wp2_with (fail)
          refine (G2.out _ HB1.out).mono ?_
          rintro e v2 ⟨rfl, hb⟩
          have HB2 := hide (HB1.out.trans (hb.mono HB1.out.size))
          clear hb HB1 G2
          go_wp2_with (fail)
          refine (G3.out _ HB2.out).mono ?_
          rintro e v3 ⟨rfl, hb⟩
          have HB3 := hide (HB2.out.trans (hb.mono HB2.out.size))
          clear hb HB2 G3
          go_wp2_with (fail)
          refine (G4.out _ HB3.out).mono ?_
          rintro e v4 ⟨rfl, hb⟩
          have HB4 := hide (HB3.out.trans (hb.mono HB3.out.size))
          clear hb HB3 G4
          go_wp2_with (fail)
          go_roundw
          case rel => exact ⟨1, by omega, rfl, rfl, HB4⟩
          case measure => first | (simp [intOf]; done) | (simp [intOf]; omega)
        · have hidx : ∀ w : World, (Instr.index 35 (.agg #[.int .i64 1, .int .i64 0, .int .i64 (-1), .int .i64 0, .int .i64 0, .int .i64 1, .int .i64 0, .int .i64 (-1)]) (.int .i64 1)).run Try.prog w = .ok (.agg #[.int .i64 (-1), .int .i64 0]) w := fun w => by kernel_rfl
          have G1 := hide (T11.out)
          have G2 := hide (T12.out)
          have G3 := hide (T13.out)
          have G4 := hide (T14.out)
          have u1 : IntKind.i64.wrap (s11 - s12) = s11 - s12 := wrap_id (by omega) (by omega)
          have u2 : IntKind.i64.wrap (s11 - s12 - s13) = s11 - s12 - s13 := wrap_id (by omega) (by omega)
          have u3 : IntKind.i64.wrap (s11 - s12 - s13 + s14) = dd1 := by rw [← D1]; exact wrap_id (by omega) (by omega)
          have u4 : IntKind.i64.wrap (P 1 + dd1) = P 2 := by rw [← P2]; exact wrap_id (by omega) (by omega)
          clear P0 P1 P2 P3 P4 D0 D1 D2 D3 b01 b02 b03 b04 b11 b12 b13 b14 b21 b22 b23 b24 b31 b32 b33 b34 T01 T02 T03 T04 T11 T12 T13 T14 T21 T22 T23 T24 T31 T32 T33 T34
          go_upto_region 23 with fail
          refine wp_name fun Z hZ => ?_
          have hbz : Below wr.heap.size wr Z := by rw [hZ]; exact (Below.refl _ _).alloc (Nat.le_refl _) _
          have z0 : Z.cell? ⟨wr.heap.size, 0, none⟩ = some (.int .i64 (-1)) := by rw [hZ]; simp [go_sem]
          have z1 : Z.cell? ⟨wr.heap.size, 1, none⟩ = some (.int .i64 0) := by rw [hZ]; simp [go_sem]
          have HBZ := hide (HBx.out.trans (hbz.mono HBx.out.size))
          clear hZ hbz HBx
          go_quiet (fail)
          refine name_exit fun Z1 hZ1 => ?_
          have HB0 : Hid (Below wo.heap.size wo Z1) := hide (by rw [hZ1]; exact below_drewN HBZ.out _)
          clear hZ1 HBZ z0 z1
          go_wp2_with (fail)
          refine (G1.out _ HB0.out).mono ?_
          rintro e v1 ⟨rfl, hb⟩
          have HB1 := hide (HB0.out.trans (hb.mono HB0.out.size))
          clear hb HB0 G1
          go_wp2_with (fail)
          refine (G2.out _ HB1.out).mono ?_
          rintro e v2 ⟨rfl, hb⟩
          have HB2 := hide (HB1.out.trans (hb.mono HB1.out.size))
          clear hb HB1 G2
          go_wp2_with (fail)
          refine (G3.out _ HB2.out).mono ?_
          rintro e v3 ⟨rfl, hb⟩
          have HB3 := hide (HB2.out.trans (hb.mono HB2.out.size))
          clear hb HB2 G3
          go_wp2_with (fail)
          refine (G4.out _ HB3.out).mono ?_
          rintro e v4 ⟨rfl, hb⟩
          have HB4 := hide (HB3.out.trans (hb.mono HB3.out.size))
          clear hb HB3 G4
          go_wp2_with (fail)
          go_roundw
          case rel => exact ⟨2, by omega, rfl, rfl, HB4⟩
          case measure => first | (simp [intOf]; done) | (simp [intOf]; omega)
        · have hidx : ∀ w : World, (Instr.index 35 (.agg #[.int .i64 1, .int .i64 0, .int .i64 (-1), .int .i64 0, .int .i64 0, .int .i64 1, .int .i64 0, .int .i64 (-1)]) (.int .i64 2)).run Try.prog w = .ok (.agg #[.int .i64 0, .int .i64 1]) w := fun w => by kernel_rfl
          have G1 := hide (T21.out)
          have G2 := hide (T22.out)
          have G3 := hide (T23.out)
          have G4 := hide (T24.out)
          have u1 : IntKind.i64.wrap (s21 - s22) = s21 - s22 := wrap_id (by omega) (by omega)
          have u2 : IntKind.i64.wrap (s21 - s22 - s23) = s21 - s22 - s23 := wrap_id (by omega) (by omega)
          have u3 : IntKind.i64.wrap (s21 - s22 - s23 + s24) = dd2 := by rw [← D2]; exact wrap_id (by omega) (by omega)
          have u4 : IntKind.i64.wrap (P 2 + dd2) = P 3 := by rw [← P3]; exact wrap_id (by omega) (by omega)
          clear P0 P1 P2 P3 P4 D0 D1 D2 D3 b01 b02 b03 b04 b11 b12 b13 b14 b21 b22 b23 b24 b31 b32 b33 b34 T01 T02 T03 T04 T11 T12 T13 T14 T21 T22 T23 T24 T31 T32 T33 T34
          go_upto_region 23 with fail
          refine wp_name fun Z hZ => ?_
          have hbz : Below wr.heap.size wr Z := by rw [hZ]; exact (Below.refl _ _).alloc (Nat.le_refl _) _
          have z0 : Z.cell? ⟨wr.heap.size, 0, none⟩ = some (.int .i64 0) := by rw [hZ]; simp [go_sem]
          have z1 : Z.cell? ⟨wr.heap.size, 1, none⟩ = some (.int .i64 1) := by rw [hZ]; simp [go_sem]
          have HBZ := hide (HBx.out.trans (hbz.mono HBx.out.size))
          clear hZ hbz HBx
          go_quiet (fail)
          refine name_exit fun Z1 hZ1 => ?_
          have HB0 : Hid (Below wo.heap.size wo Z1) := hide (by rw [hZ1]; exact below_drewN HBZ.out _)
          clear hZ1 HBZ z0 z1
          go_wp2_with (fail)
          refine (G1.out _ HB0.out).mono ?_
          rintro e v1 ⟨rfl, hb⟩
          have HB1 := hide (HB0.out.trans (hb.mono HB0.out.size))
          clear hb HB0 G1
          go_wp2_with (fail)
          refine (G2.out _ HB1.out).mono ?_
          rintro e v2 ⟨rfl, hb⟩
          have HB2 := hide (HB1.out.trans (hb.mono HB1.out.size))
          clear hb HB1 G2
          go_wp2_with (fail)
          refine (G3.out _ HB2.out).mono ?_
          rintro e v3 ⟨rfl, hb⟩
          have HB3 := hide (HB2.out.trans (hb.mono HB2.out.size))
          clear hb HB2 G3
          go_wp2_with (fail)
          refine (G4.out _ HB3.out).mono ?_
          rintro e v4 ⟨rfl, hb⟩
          have HB4 := hide (HB3.out.trans (hb.mono HB3.out.size))
          clear hb HB3 G4
          go_wp2_with (fail)
          go_roundw
          case rel => exact ⟨3, by omega, rfl, rfl, HB4⟩
          case measure => first | (simp [intOf]; done) | (simp [intOf]; omega)
        · have hidx : ∀ w : World, (Instr.index 35 (.agg #[.int .i64 1, .int .i64 0, .int .i64 (-1), .int .i64 0, .int .i64 0, .int .i64 1, .int .i64 0, .int .i64 (-1)]) (.int .i64 3)).run Try.prog w = .ok (.agg #[.int .i64 0, .int .i64 (-1)]) w := fun w => by kernel_rfl
          have G1 := hide (T31.out)
          have G2 := hide (T32.out)
          have G3 := hide (T33.out)
          have G4 := hide (T34.out)
          have u1 : IntKind.i64.wrap (s31 - s32) = s31 - s32 := wrap_id (by omega) (by omega)
          have u2 : IntKind.i64.wrap (s31 - s32 - s33) = s31 - s32 - s33 := wrap_id (by omega) (by omega)
          have u3 : IntKind.i64.wrap (s31 - s32 - s33 + s34) = dd3 := by rw [← D3]; exact wrap_id (by omega) (by omega)
          have u4 : IntKind.i64.wrap (P 3 + dd3) = P 4 := by rw [← P4]; exact wrap_id (by omega) (by omega)
          clear P0 P1 P2 P3 P4 D0 D1 D2 D3 b01 b02 b03 b04 b11 b12 b13 b14 b21 b22 b23 b24 b31 b32 b33 b34 T01 T02 T03 T04 T11 T12 T13 T14 T21 T22 T23 T24 T31 T32 T33 T34
          go_upto_region 23 with fail
          refine wp_name fun Z hZ => ?_
          have hbz : Below wr.heap.size wr Z := by rw [hZ]; exact (Below.refl _ _).alloc (Nat.le_refl _) _
          have z0 : Z.cell? ⟨wr.heap.size, 0, none⟩ = some (.int .i64 0) := by rw [hZ]; simp [go_sem]
          have z1 : Z.cell? ⟨wr.heap.size, 1, none⟩ = some (.int .i64 (-1)) := by rw [hZ]; simp [go_sem]
          have HBZ := hide (HBx.out.trans (hbz.mono HBx.out.size))
          clear hZ hbz HBx
          go_quiet (fail)
          refine name_exit fun Z1 hZ1 => ?_
          have HB0 : Hid (Below wo.heap.size wo Z1) := hide (by rw [hZ1]; exact below_drewN HBZ.out _)
          clear hZ1 HBZ z0 z1
          go_wp2_with (fail)
          refine (G1.out _ HB0.out).mono ?_
          rintro e v1 ⟨rfl, hb⟩
          have HB1 := hide (HB0.out.trans (hb.mono HB0.out.size))
          clear hb HB0 G1
          go_wp2_with (fail)
          refine (G2.out _ HB1.out).mono ?_
          rintro e v2 ⟨rfl, hb⟩
          have HB2 := hide (HB1.out.trans (hb.mono HB1.out.size))
          clear hb HB1 G2
          go_wp2_with (fail)
          refine (G3.out _ HB2.out).mono ?_
          rintro e v3 ⟨rfl, hb⟩
          have HB3 := hide (HB2.out.trans (hb.mono HB2.out.size))
          clear hb HB2 G3
          go_wp2_with (fail)
          refine (G4.out _ HB3.out).mono ?_
          rintro e v4 ⟨rfl, hb⟩
          have HB4 := hide (HB3.out.trans (hb.mono HB3.out.size))
          clear hb HB3 G4
          go_wp2_with (fail)
          go_roundw
          case rel => exact ⟨4, by omega, rfl, rfl, HB4⟩
          case measure => first | (simp [intOf]; done) | (simp [intOf]; omega)
        · clear P0 P1 P2 P3 P4 D0 D1 D2 D3 b01 b02 b03 b04 b11 b12 b13 b14 b21 b22 b23 b24 b31 b32 b33 b34 T01 T02 T03 T04 T11 T12 T13 T14 T21 T22 T23 T24 T31 T32 T33 T34
          go_wp2
          go_ret2
          exact ⟨rfl, HBW.out.trans (HBx.out.mono HBW.out.size)⟩
end Go.Proofs.Yteojjihgmmecpaa

/- The reference's cuts and cell of layer 35. -/
namespace Go.Proofs.Yteojjihgmmecpaa
open Go.RowKit
set_option linter.unusedVariables false
set_option linter.unusedSimpArgs false
attribute [local go_sem] Oper.semAt_some

/-- Numbers that lie in a block of their own. -/
def IR (w : World) (B : Nat) (v : Value) (xs : List Int) : Prop :=
  ∃ A c, v = .slice A xs.length c ∧ (xs ≠ [] → ∃ g, A = some ⟨g, 0, none⟩ ∧ g < B ∧ ∀ (j : Nat) (x : Int), xs[j]? = some x → w.cell? ⟨g, j, none⟩ = some (.int .i64 x))
theorem IR.below {w w' : World} {B : Nat} {v : Value} {xs : List Int} (h : IR w B v xs) (hb : Below B w w') : IR w' B v xs := by
  obtain ⟨A, c, hv, h⟩ := h
  refine ⟨A, c, hv, fun hne => ?_⟩
  obtain ⟨g, h1, h2, h3⟩ := h hne
  exact ⟨g, h1, h2, fun j x hj => (hb.cell (p := ⟨g, _, none⟩) h2).trans (h3 j x hj)⟩
theorem IR.mono {w : World} {B B' : Nat} {v : Value} {xs : List Int} (h : IR w B v xs) (hB : B ≤ B') : IR w B' v xs := by
  obtain ⟨A, c, hv, h⟩ := h
  refine ⟨A, c, hv, fun hne => ?_⟩
  obtain ⟨g, h1, h2, h3⟩ := h hne
  exact ⟨g, h1, by omega, h3⟩
theorem own_ir {w : World} {B : Nat} {v : Value} {xs : List Int} (h : w.ownsRow B 3 1 v xs.length (xs.map iv)) : IR w w.heap.size v xs := by
  obtain ⟨A, c, hv⟩ := own_form h
  refine ⟨A, c, hv, fun hne => ?_⟩
  have hn : 0 < xs.length := List.length_pos_iff.2 hne
  subst hv
  obtain ⟨g, cap, e, h3, h4⟩ := h.form hn
  injection e with e1 _ e3
  subst e1; subst e3
  refine ⟨g, rfl, h4, fun j x hj => ?_⟩
  have := (h.cells (g := g) rfl) j (.int .i64 x) (by rw [List.getElem?_map, hj]; rfl)
  rwa [addr_add] at this
set_option maxRecDepth 100000 in
set_option maxHeartbeats 4000000 in
theorem rcuts_any {w : World} {v : Value} {l : List Int} (hr : IR w w.heap.size v l) (hl : l.length ≤ 100000000) (hs : l.Pairwise (· < ·)) :
    Calls Try.prog 10 #[v] w fun e w' => ∃ vo, e = .returned vo ∧ w'.ownsRow w.heap.size 3 1 vo l.length (l.map iv) ∧ Below w.heap.size w w' := by
  obtain ⟨i1, gi, gz0, gz1, gz2⟩ := info_parts infoInt
  obtain ⟨A, c, rfl, h1⟩ := hr
  have H1 := hide h1
  have HS := hide hs
  clear h1 hs
  go_enter Try.func10, Try.ntmps10
  go_wp2
  go_loopw [3, 4] (fun s i wr => ∃ (m : Nat) (Av : Option Addr) (cv : Nat), m ≤ l.length ∧ i = .int .i64 (m : Int) ∧ s = .slice Av m cv ∧ Hid (wr.ownsRow w.heap.size 3 1 (.slice Av m cv) m ((l.map iv).take m)) ∧ Hid (Below w.heap.size w wr)) (fun _ i _ => l.length - (intOf i).toNat)
  case atStart => exact ⟨0, none, 0, Nat.zero_le _, rfl, rfl, hide (World.ownsRow_nil _ _ _ _), hide (Below.refl _ _)⟩
  case round =>
    obtain ⟨m, Av, cv, hm, rfl, rfl, HO, HB⟩ := hrel
    by_cases hlt : m < l.length
    · obtain ⟨x, hp⟩ : ∃ p, l[m]? = some p := ⟨_, List.getElem?_eq_getElem hlt⟩
      obtain ⟨g, rfl, hg, k1⟩ := H1.out (by intro e; rw [e] at hlt; simp at hlt)
      have x0 : wr.cell? ⟨g, m, none⟩ = some (.int .i64 x) := (HB.out.cell (p := ⟨g, _, none⟩) hg).trans (k1 m _ hp)
      have mz : (m : Int) < (l.length : Int) := by omega
      have m0 : (0 : Int) ≤ (m : Int) := by omega
      have hgr : g < wr.heap.size := Nat.lt_of_lt_of_le hg HB.out.size
      have HT : Hid ((l.map iv).take (m + 1) = (l.map iv).take m ++ [.int .i64 x]) := hide (by rw [List.take_add_one, List.getElem?_map, hp]; rfl)
      have HSZ := hide HB.out.size
      have fin : ∀ (W : World), Hid (Below wr.heap.size wr W) → Hid (W.ownsRow w.heap.size 3 1 (.slice Av m cv) m ((l.map iv).take m)) ∧ Hid (Below w.heap.size w W) ∧ W.cell? ⟨g, m, none⟩ = some (.int .i64 x) := fun W h => ⟨hide (own_below HO.out h.out), hide (HB.out.trans (h.out.mono HB.out.size)), (h.out.cell (p := ⟨g, m, none⟩) hgr).trans x0⟩
      have FIN := hide fin
      clear fin
      rcases Nat.eq_zero_or_pos m with rfl | hpos
      · clear hp k1
        rw [show ((0 : Nat) : Int) = 0 from rfl] at mz m0 ⊢
        go_wp2
        go_quiet (fail)
        refine name_exit fun W hW => ?_
        obtain ⟨HO2, HB2, x2⟩ := FIN.out W (hide (by rw [hW]; exact below_drewN (Below.refl _ _) _))
        have hs2 : w.heap.size ≤ W.heap.size := HB2.out.size
        clear hW HO HB x0 FIN hgr
        go_wp2_with (at_builtin; go_loud (refine wpList_append_lies _ rfl (.tmp 25) (.tmp 30) 38 rfl w.heap.size 3 i1 (.int .i64 0) 1 8 Try.underlying38 gi gz0 gz1 gz2 rfl (by decide) _ 0 _ rfl (World.ownsRow.alloc HO2.out _) ⟨W.heap.size, 0, none⟩ 1 1 [.int .i64 x] rfl rfl (news_new W _ _ _ rfl) (ints_one rfl) (by omega) (by unfold maxLen; omega) (by omega) (by simp; omega) _ rfl ?_))
        intro g9 cap9 w9 hown9 hgrow9 _ _
        have HB9 := hide ((HB2.out.alloc hs2 _).grown hgrow9 (by simp; omega) (fun q hq => (HO2.out.lt q hq).1))
        have HO9 : Hid (w9.ownsRow w.heap.size 3 1 (.slice (some ⟨g9, 0, none⟩) 1 cap9) 1 ((l.map iv).take 1)) := hide (by rw [show (1 : Nat) = 0 + 1 from rfl, HT.out]; exact hown9)
        clear hown9 hgrow9
        go_wp2
        go_roundw
        case rel => exact ⟨1, _, cap9, by omega, rfl, rfl, HO9, HB9⟩
        case measure => first | (simp [intOf]; done) | (simp [intOf]; omega)
      · obtain ⟨j, rfl⟩ : ∃ j, m = j + 1 := ⟨m - 1, by omega⟩
        obtain ⟨y, hpj⟩ : ∃ p, l[j]? = some p := ⟨_, List.getElem?_eq_getElem (by omega)⟩
        have y0 : wr.cell? ⟨g, j, none⟩ = some (.int .i64 y) := (HB.out.cell (p := ⟨g, _, none⟩) hg).trans (k1 j _ hpj)
        have hyx : y < x := by
          obtain ⟨q1, e1⟩ := List.getElem?_eq_some_iff.1 hpj
          obtain ⟨q2, e2⟩ := List.getElem?_eq_some_iff.1 hp
          rw [← e1, ← e2]
          exact List.pairwise_iff_getElem.1 HS.out j (j + 1) q1 q2 (by omega)
        have hne : (x != y) = true := by simp; omega
        have hz0 : (((j + 1 : Nat) : Int) == 0) = false := by simp; omega
        have q3 : IntKind.i64.wrap (((j + 1 : Nat) : Int) - 1) = (j : Int) := by rw [show ((j + 1 : Nat) : Int) - 1 = (j : Int) by omega]; exact IntWalk.i64_in _ (by omega)
        have q4 : (0 : Int) ≤ (j : Int) := by omega
        have q5 : (j : Int) < (l.length : Int) := by omega
        clear hp hpj k1 hyx hpos
        rw [show ((j + 1 : Nat) : Int) = (j : Int) + 1 from rfl] at mz m0 hz0 q3 ⊢
        go_wp2
        go_quiet (fail)
        refine name_exit fun W hW => ?_
        obtain ⟨HO2, HB2, x2⟩ := FIN.out W (hide (by rw [hW]; exact below_drewN (Below.refl _ _) _))
        have hs2 : w.heap.size ≤ W.heap.size := HB2.out.size
        clear hW HO HB x0 y0 FIN hgr hne hz0 q3
        go_wp2_with (at_builtin; go_loud (refine wpList_append_lies _ rfl (.tmp 25) (.tmp 30) 38 rfl w.heap.size 3 i1 (.int .i64 0) 1 8 Try.underlying38 gi gz0 gz1 gz2 rfl (by decide) _ (j + 1) _ rfl (World.ownsRow.alloc HO2.out _) ⟨W.heap.size, 0, none⟩ 1 1 [.int .i64 x] rfl rfl (news_new W _ _ _ rfl) (ints_one rfl) (by omega) (by unfold maxLen; omega) (by omega) (by simp; omega) _ rfl ?_))
        intro g9 cap9 w9 hown9 hgrow9 _ _
        have HB9 := hide ((HB2.out.alloc hs2 _).grown hgrow9 (by simp; omega) (fun q hq => (HO2.out.lt q hq).1))
        rw [← HT.out] at hown9
        have HO9 := hide hown9
        clear hown9 hgrow9
        go_wp2
        go_roundw
        case rel => exact ⟨j + 1 + 1, _, cap9, by omega, by go_num, rfl, HO9, HB9⟩
        case measure => first | (simp [intOf]; done) | (simp [intOf]; omega)
    · obtain rfl : m = l.length := by omega
      have mz : ¬ (l.length : Int) < (l.length : Int) := by omega
      have hO := HO.out
      rw [List.take_of_length_le (by simp)] at hO
      have HO2 := hide hO
      clear hO HO
      go_wp2
      go_ret
      exact ⟨_, rfl, HO2.out, HB.out⟩
set_option maxRecDepth 100000 in
set_option maxHeartbeats 4000000 in
theorem rcell_any {w : World} {va vb vx vy : Value} {a b : List R4} {xs ys : List Int} (ra : RdK encR 4 w w.heap.size va a) (rb : RdK encR 4 w w.heap.size vb b) (rx : IR w w.heap.size vx xs) (ry : IR w w.heap.size vy ys) (na : a.length ≤ 100000000) (nb : b.length ≤ 100000000) (nx : xs.length ≤ 100000000) (ny : ys.length ≤ 100000000) (i k : Int) (hi : -1 ≤ i ∧ i < xs.length) (hk : -1 ≤ k ∧ k < ys.length) :
    Calls Try.prog 13 #[va, vb, vx, vy, .int .i64 i, .int .i64 k] w fun e w' => e = .returned (.tuple #[.bool (inC a xs ys i k), .bool (inC b xs ys i k)]) ∧ Below w.heap.size w w' := by
  obtain ⟨A1, c1, rfl, h1⟩ := id ra
  obtain ⟨A2, c2, rfl, h2⟩ := id rb
  obtain ⟨A3, c3, rfl, h3⟩ := id rx
  obtain ⟨A4, c4, rfl, h4⟩ := id ry
  clear h1 h2
  by_cases hi0 : i < 0
  · have e1 : inC a xs ys i k = false := if_pos (.inl hi0)
    have e2 : inC b xs ys i k = false := if_pos (.inl hi0)
    rw [e1, e2]
    have z1 : decide (i < 0) = true := decide_eq_true hi0
    clear ra rb rx ry h3 h4 e1 e2
    go_enter Try.func13, Try.ntmps13
    go_wp2
    go_ret2
    exact ⟨rfl, Below.refl _ _⟩
  · have z1 : decide (i < 0) = false := decide_eq_false hi0
    by_cases hk0 : k < 0
    · have e1 : inC a xs ys i k = false := if_pos (.inr hk0)
      have e2 : inC b xs ys i k = false := if_pos (.inr hk0)
      rw [e1, e2]
      have z2 : decide (k < 0) = true := decide_eq_true hk0
      clear ra rb rx ry h3 h4 e1 e2
      go_enter Try.func13, Try.ntmps13
      go_wp2
      go_ret2
      exact ⟨rfl, Below.refl _ _⟩
    · have z2 : decide (k < 0) = false := decide_eq_false hk0
      obtain ⟨m, rfl⟩ : ∃ m : Nat, i = (m : Int) := ⟨i.toNat, by omega⟩
      obtain ⟨n, rfl⟩ : ∃ n : Nat, k = (n : Int) := ⟨k.toNat, by omega⟩
      obtain ⟨x, hx⟩ : ∃ p, xs[m]? = some p := ⟨_, List.getElem?_eq_getElem (by omega)⟩
      obtain ⟨y, hy⟩ : ∃ p, ys[n]? = some p := ⟨_, List.getElem?_eq_getElem (by omega)⟩
      obtain ⟨gx, rfl, hgx, kx⟩ := h3 (by intro e; rw [e] at hx; simp at hx)
      obtain ⟨gy, rfl, hgy, ky⟩ := h4 (by intro e; rw [e] at hy; simp at hy)
      have x0 := kx m _ hx
      have y0 := ky n _ hy
      rw [inC_at, inC_at, show xs.getD m 0 = x by rw [List.getD_eq_getElem?_getD, hx]; rfl, show ys.getD n 0 = y by rw [List.getD_eq_getElem?_getD, hy]; rfl]
      have m1 : (m : Int) < (xs.length : Int) := by omega
      have m2 : (n : Int) < (ys.length : Int) := by omega
      have m3 : (0 : Int) ≤ (m : Int) := by omega
      have m4 : (0 : Int) ≤ (n : Int) := by omega
      have G1 : Hid (∀ y9 : Above w, Calls Try.prog 21 #[.slice A1 a.length c1, .int .i64 x, .int .i64 y] y9.get fun e w' => e = .returned (.bool (decide (pmem a x y))) ∧ ∃ z : Above w, w' = z.get) := hide (fun y9 => above_same (rHas_any (ra.below y9.keeps) na x y))
      have G2 : Hid (∀ y9 : Above w, Calls Try.prog 21 #[.slice A2 b.length c2, .int .i64 x, .int .i64 y] y9.get fun e w' => e = .returned (.bool (decide (pmem b x y))) ∧ ∃ z : Above w, w' = z.get) := hide (fun y9 => above_same (rHas_any (rb.below y9.keeps) nb x y))
      generalize decide (pmem a x y) = d1 at *
      generalize decide (pmem b x y) = d2 at *
      clear ra rb rx ry h3 h4 kx ky hx hy hi hk hi0 hk0
      go_enter Try.func13, Try.ntmps13
      go_upto_region 3 with fail
      refine wp_hab fun hab => ?_
      refine wp_region_above (by kernel_rfl) (by kernel_rfl) ?_
      repeat (go_big_quiet_step ((go_at_call 21; first | with_reducible exact G1.out _ | with_reducible exact G2.out _)))
      refine wpQuiet_nil ?_
      refine above_ends fun W hb => ?_
      clear hab
      have HBW := hide hb
      clear hb x0 y0 G1 G2
      go_wp2
      go_ret2
      exact ⟨rfl, HBW.out⟩
end Go.Proofs.Yteojjihgmmecpaa

/- gambrelref35.Along: the sum over cells between cuts. -/
namespace Go.Proofs.Yteojjihgmmecpaa
open Go.RowKit
set_option linter.unusedVariables false
set_option linter.unusedSimpArgs false
attribute [local go_sem] Oper.semAt_some

def bothE (a b : List R4) : Int := if checkF a = 0 then checkF b else checkF a
theorem rBothE_any {w : World} {va vb : Value} {a b : List R4} (ra : RdK encR 4 w w.heap.size va a) (rb : RdK encR 4 w w.heap.size vb b) (na : a.length ≤ 100000000) (nb : b.length ≤ 100000000) :
    Calls Try.prog 9 #[va, vb] w fun e w' => e = .returned (.int .i64 (bothE a b)) ∧ Below w.heap.size w w' := by
  have C1 := hide (fun (w' : World) (h : Below w.heap.size w w') => rCheck_any (w := w') ((ra.below h).mono h.size) na)
  have C2 := hide (fun (w' : World) (h : Below w.heap.size w w') => rCheck_any (w := w') ((rb.below h).mono h.size) nb)
  clear ra rb
  have hK := hide (Below.refl w.heap.size w)
  by_cases z1 : checkF a = 0
  · have e : bothE a b = checkF b := if_pos z1
    rw [e]
    rw [z1] at C1
    generalize checkF b = cb at *
    clear z1 e
    go_enter Try.func9, Try.ntmps9
    go_wp2_with (fail)
    refine (C1.out _ hK.out).mono ?_
    rintro e w1 ⟨rfl, hb1⟩
    have HB1 := hide hb1
    clear hb1
    go_wp2_with (fail)
    refine (C2.out _ HB1.out).mono ?_
    rintro e w2 ⟨rfl, hb2⟩
    have HB2 := hide (HB1.out.trans (hb2.mono HB1.out.size))
    clear hb2
    go_wp2_with (fail)
    go_ret
    exact ⟨rfl, HB2.out⟩
  · have e : bothE a b = checkF a := if_neg z1
    rw [e]
    have hne : (checkF a != 0) = true := by simpa using z1
    generalize checkF a = ca at *
    clear z1 e
    go_enter Try.func9, Try.ntmps9
    go_wp2_with (fail)
    refine (C1.out _ hK.out).mono ?_
    rintro e w1 ⟨rfl, hb1⟩
    have HB1 := hide hb1
    clear hb1
    go_wp2_with (fail)
    refine (C1.out _ HB1.out).mono ?_
    rintro e w2 ⟨rfl, hb2⟩
    have HB2 := hide (HB1.out.trans (hb2.mono HB1.out.size))
    clear hb2
    go_wp2_with (fail)
    go_ret
    exact ⟨rfl, HB2.out⟩
theorem alongC_bd {a b : List R4} (ha : checkF a = 0) (hb : checkF b = 0) : -100000000000000 ≤ alongC a b ∧ alongC a b ≤ 100000000000000 := by
  have ca := cnt_of ha
  have cb := cnt_of hb
  have fa := fine_of ha
  have fc := both_fine fa (fine_of hb)
  have cc := cnt_both ca cb
  have h : ∀ x y : Int, -1 ≤ x ∧ x ≤ 1 → -1 ≤ y ∧ y ≤ 1 → -20000000000000 ≤ dirF a b x y ∧ dirF a b x y ≤ 20000000000000 := fun x y hx hy => by
    have h1 := shF_bd ca cb fa hx hy
    have h2 := shF_bd cc cb fc hx hy
    have h3 := shF_bd ca cc fa hx hy
    have h4 := shF_bd cc cc fc hx hy
    unfold dirF
    omega
  have h1 := h 1 0 (by omega) (by omega)
  have h2 := h (-1) 0 (by omega) (by omega)
  have h3 := h 0 1 (by omega) (by omega)
  have h4 := h 0 (-1) (by omega) (by omega)
  unfold alongC
  omega
theorem cuts_fine {a b : List R4} (ha : ∀ r ∈ a, fineR r) (hb : ∀ r ∈ b, fineR r) : (∀ c ∈ srt (cutsL a ++ cutsL b), -1000000 ≤ c ∧ c ≤ 1000000) ∧ ∀ c ∈ srt (cutsY a ++ cutsY b), -1000000 ≤ c ∧ c ≤ 1000000 := by
  have h : ∀ l : List R4, (∀ r ∈ l, fineR r) → (∀ c ∈ cutsL l, -1000000 ≤ c ∧ c ≤ 1000000) ∧ ∀ c ∈ cutsY l, -1000000 ≤ c ∧ c ≤ 1000000 := fun l hl => by
    constructor
    all_goals
      intro c hc
      obtain ⟨r, hr, hc⟩ := List.mem_flatMap.1 hc
      have := hl r hr
      unfold fineR at this
      simp only [List.mem_cons, List.not_mem_nil, or_false] at hc
      rcases hc with rfl | rfl <;> omega
  constructor
  · intro c hc
    rcases List.mem_append.1 (((srt_ok _).2 c).1 hc) with hc | hc
    · exact (h a ha).1 c hc
    · exact (h b hb).1 c hc
  · intro c hc
    rcases List.mem_append.1 (((srt_ok _).2 c).1 hc) with hc | hc
    · exact (h a ha).2 c hc
    · exact (h b hb).2 c hc
theorem cuts_len (a b : List R4) : (srt (cutsL a ++ cutsL b)).length ≤ 2 * a.length + 2 * b.length ∧ (srt (cutsY a ++ cutsY b)).length ≤ 2 * a.length + 2 * b.length := by
  have h : ∀ l : List R4, (cutsL l).length = 2 * l.length ∧ (cutsY l).length = 2 * l.length := fun l => by
    induction l with
    | nil => exact ⟨rfl, rfl⟩
    | cons r l ih =>
      simp only [cutsL, cutsY, List.flatMap_cons, List.length_append, List.length_cons, List.length_nil] at ih ⊢
      omega
  have h1 := srt_len (cutsL a ++ cutsL b)
  have h2 := srt_len (cutsY a ++ cutsY b)
  rw [List.length_append, (h a).1, (h b).1] at h1
  rw [List.length_append, (h a).2, (h b).2] at h2
  exact ⟨h1, h2⟩
theorem along_sum {a b : List R4} (ha : checkF a = 0) (hb : checkF b = 0) : alongR a b (srt (cutsL a ++ cutsL b)) (srt (cutsY a ++ cutsY b)) (srt (cutsL a ++ cutsL b)).length = alongC a b := by
  obtain ⟨m, hm⟩ : ∃ m : Nat, m = 1000000 := ⟨_, rfl⟩
  have fr : ∀ l : List R4, checkF l = 0 → fits m l := fun l h => ⟨(check_rcan h).apart, check_frame h (by omega)⟩
  have hc := cuts_fine (fine_of ha) (fine_of hb)
  exact along_eq (m := m) (fr a ha) (fr b hb) (srt_ok _).1 (srt_ok _).1 (fun c h => by have := hc.1 c h; omega) (fun c h => by have := hc.2 c h; omega)
    (fun c h => ((srt_ok _).2 c).2 (List.mem_append_left _ h)) (fun c h => ((srt_ok _).2 c).2 (List.mem_append_right _ h)) (fun c h => ((srt_ok _).2 c).2 (List.mem_append_left _ h)) (fun c h => ((srt_ok _).2 c).2 (List.mem_append_right _ h))
theorem alongR_snoc (a b : List R4) (xs ys : List Int) (m : Nat) : alongR a b xs ys (m + 1) = alongR a b xs ys m + rowA a b xs ys m ys.length := by
  unfold alongR
  rw [List.range_succ, List.map_append, List.sum_append]
  simp
theorem rowA_snoc (a b : List R4) (xs ys : List Int) (m k : Nat) : rowA a b xs ys m (k + 1) = rowA a b xs ys m k + (tL a b xs ys m k + tB a b xs ys m k) := by
  unfold rowA
  rw [List.range_succ, List.map_append, List.sum_append]
  simp
theorem bool_cs (u q v p : Bool) : ((u == q) = false) ∨ ((u == q) = true ∧ (v == p) = false) ∨ ((u == q) = true ∧ (v == p) = true) := by
  cases u <;> cases q <;> cases v <;> cases p <;> simp
set_option maxRecDepth 100000 in
set_option maxHeartbeats 8000000 in
theorem rAlong_any {w : World} {va vb : Value} {a b : List R4} (ra : RdK encR 4 w w.heap.size va a) (rb : RdK encR 4 w w.heap.size vb b) (na : a.length ≤ 10000000) (nb : b.length ≤ 10000000) :
    Calls Try.prog 6 #[va, vb] w fun e w' => e = .returned (.tuple #[.int .i64 (alongF a b).1, .int .i64 (alongF a b).2]) ∧ Below w.heap.size w w' := by
  have HA := hide ra
  have HB := hide rb
  have C1 := hide (fun (w' : World) (h : Below w.heap.size w w') => rBothE_any (w := w') ((HA.out.below h).mono h.size) ((HB.out.below h).mono h.size) (by omega) (by omega))
  obtain ⟨A1, c1, hva, h1⟩ := ra
  obtain ⟨A2, c2, hvb, h2⟩ := rb
  subst hva
  subst hvb
  clear h1 h2
  have hK := hide (Below.refl w.heap.size w)
  by_cases z0 : bothE a b = 0
  rotate_left 1
  · have hF : alongF a b = (0, bothE a b) := by
      unfold alongF bothE at *
      by_cases z1 : checkF a = 0
      · rw [if_pos z1] at z0 ⊢
        rw [if_neg z0, if_pos z1]
      · rw [if_neg z1, if_neg z1]
    rw [hF]
    have hne : (bothE a b != 0) = true := by simpa using z0
    generalize bothE a b = ca at *
    clear z0 hF
    go_enter Try.func6, Try.ntmps6
    go_wp2_with (fail)
    refine (C1.out _ hK.out).mono ?_
    rintro e w1 ⟨rfl, hb1⟩
    have HB1 := hide hb1
    clear hb1
    go_wp2_with (fail)
    refine (C1.out _ HB1.out).mono ?_
    rintro e w2 ⟨rfl, hb2⟩
    have HB2 := hide (HB1.out.trans (hb2.mono HB1.out.size))
    clear hb2
    go_wp2_with (fail)
    go_ret2
    exact ⟨rfl, HB2.out⟩
  obtain ⟨z1, z2⟩ : checkF a = 0 ∧ checkF b = 0 := by
    unfold bothE at z0
    by_cases z1 : checkF a = 0
    · rw [if_pos z1] at z0; exact ⟨z1, z0⟩
    · rw [if_neg z1] at z0; exact absurd z0 z1
  have hF : alongF a b = (alongC a b, 0) := by unfold alongF; rw [if_pos z1, if_pos z2]
  rw [hF]
  rw [z0] at C1
  have la := (checkF_ok z1).1
  have lb := (checkF_ok z2).1
  have HSUM := hide (along_sum z1 z2)
  have hbd := alongC_bd z1 z2
  obtain ⟨fx, fy⟩ := cuts_fine (fine_of z1) (fine_of z2)
  obtain ⟨lx, ly⟩ := cuts_len a b
  have hsx := (srt_ok (cutsL a ++ cutsL b)).1
  have hsy := (srt_ok (cutsY a ++ cutsY b)).1
  have CX := hide (fun (w' : World) (h : Below w.heap.size w w') => rXs_any (w := w') ((HA.out.below h).mono h.size) ((HB.out.below h).mono h.size) (Nat.le_refl _) na nb)
  have CY := hide (fun (w' : World) (h : Below w.heap.size w w') => rYs_any (w := w') ((HA.out.below h).mono h.size) ((HB.out.below h).mono h.size) (Nat.le_refl _) na nb)
  generalize srt (cutsL a ++ cutsL b) = xs at *
  generalize srt (cutsY a ++ cutsY b) = ys at *
  have FX := hide fx
  have FY := hide fy
  have SX := hide hsx
  have SY := hide hsy
  clear hF z0 z1 z2 fx fy hsx hsy
  generalize alongC a b = TOT at *
  go_enter Try.func6, Try.ntmps6
  go_wp2_with (fail)
  refine (C1.out _ hK.out).mono ?_
  rintro e w1 ⟨rfl, hb1⟩
  have HB1 := hide hb1
  clear hb1
  go_wp2_with (fail)
  refine (CX.out _ HB1.out).mono ?_
  rintro e w2 ⟨vx, rfl, ho, hb⟩
  have HB2 := hide (HB1.out.trans (hb.mono HB1.out.size))
  have hix := own_ir ho
  obtain ⟨_, _, rfl, -⟩ := id hix
  have HIX := hide hix
  clear ho hb hix CX C1 HB1
  go_wp2_with (fail)
  refine (rcuts_any HIX.out (by omega) SX.out).mono ?_
  rintro e w3 ⟨vx, rfl, ho, hb⟩
  have HB3 := hide (HB2.out.trans (hb.mono HB2.out.size))
  have hix := own_ir ho
  obtain ⟨AX, cX, rfl, -⟩ := id hix
  replace HIX := hide hix
  clear ho hb hix HB2
  go_wp2_with (fail)
  refine (CY.out _ HB3.out).mono ?_
  rintro e w4 ⟨vy, rfl, ho, hb⟩
  have HB4 := hide (HB3.out.trans (hb.mono HB3.out.size))
  replace HIX := hide ((HIX.out.below hb).mono hb.size)
  have hiy := own_ir ho
  obtain ⟨_, _, rfl, -⟩ := id hiy
  have HIY := hide hiy
  clear ho hb hiy CY HB3
  go_wp2_with (fail)
  refine (rcuts_any HIY.out (by omega) SY.out).mono ?_
  rintro e w5 ⟨vy, rfl, ho, hb⟩
  have HB5 := hide (HB4.out.trans (hb.mono HB4.out.size))
  replace HIX := hide ((HIX.out.below hb).mono hb.size)
  have hiy := own_ir ho
  obtain ⟨AY, cY, rfl, -⟩ := id hiy
  replace HIY := hide hiy
  clear ho hb hiy HB4
  have HC := hide (fun (w' : World) (h : Below w5.heap.size w5 w') (i k : Int) (hi : -1 ≤ i ∧ i < xs.length) (hk : -1 ≤ k ∧ k < ys.length) => rcell_any (w := w') (((HA.out.below HB5.out).mono HB5.out.size).below h |>.mono h.size) (((HB.out.below HB5.out).mono HB5.out.size).below h |>.mono h.size) ((HIX.out.below h).mono h.size) ((HIY.out.below h).mono h.size) (by omega) (by omega) (by omega) (by omega) i k hi hk)
  have HS1 := hide (alongR_snoc a b xs ys)
  have HS2 := hide (rowA_snoc a b xs ys)
  have HTL : Hid (∀ m k : Nat, tL a b xs ys m k = if hitB (inC a xs ys m k) (inC b xs ys m k) (inC a xs ys ((m : Int) - 1) k) (inC b xs ys ((m : Int) - 1) k) = true ∧ k + 1 < ys.length then ys.getD (k + 1) 0 - ys.getD k 0 else 0) := hide (fun m k => rfl)
  have HTB : Hid (∀ m k : Nat, tB a b xs ys m k = if hitB (inC a xs ys m k) (inC b xs ys m k) (inC a xs ys m ((k : Int) - 1)) (inC b xs ys m ((k : Int) - 1)) = true ∧ m + 1 < xs.length then xs.getD (m + 1) 0 - xs.getD m 0 else 0) := hide (fun m k => rfl)
  have HR0 : Hid (alongR a b xs ys 0 = 0) := hide rfl
  have HW0 : Hid (∀ m, rowA a b xs ys m 0 = 0) := hide (fun m => rfl)
  have lx1 : xs.length ≤ 1600 := by omega
  have ly1 : ys.length ≤ 1600 := by omega
  generalize alongR a b xs ys = AR at *
  generalize rowA a b xs ys = RA at *
  generalize tL a b xs ys = TL at *
  generalize tB a b xs ys = TB at *
  generalize hIa : inC a xs ys = IA at *
  generalize hIb : inC b xs ys = IB at *
  obtain ⟨_, _, e1, kx⟩ := id HIX.out
  injection e1 with q1 _ q3
  subst q1
  subst q3
  obtain ⟨_, _, e1, ky⟩ := id HIY.out
  injection e1 with q1 _ q3
  subst q1
  subst q3
  have KX := hide kx
  have KY := hide ky
  clear kx ky HA HB HIX HIY hIa hIb lx ly la lb na nb
  go_wp2_with (fail)
  go_loopw [8, 9] (fun s i wr => ∃ (m : Nat) (v : Int), m ≤ xs.length ∧ i = .int .i64 (m : Int) ∧ s = .int .i64 v ∧ Hid (v = IntKind.i64.wrap (AR m)) ∧ Hid (Below w5.heap.size w5 wr)) (fun _ i _ => xs.length - (intOf i).toNat)
  case atStart => exact ⟨0, 0, Nat.zero_le _, rfl, rfl, hide (by rw [HR0.out]; rfl), hide (Below.refl _ _)⟩
  case round =>
    obtain ⟨m, v, hm, rfl, rfl, HV, HBr⟩ := hrel
    by_cases hlt : m < xs.length
    · have mz : (m : Int) < (xs.length : Int) := by omega
      have HN := hide (HS1.out m)
      clear HS1
      go_wp2
      go_loopw [8, 10] (fun s i wr => ∃ (k : Nat) (u : Int), k ≤ ys.length ∧ i = .int .i64 (k : Int) ∧ s = .int .i64 u ∧ Hid (u = IntKind.i64.wrap (AR m + RA m k)) ∧ Hid (Below w5.heap.size w5 wr)) (fun _ i _ => ys.length - (intOf i).toNat)
      case atStart => exact ⟨0, v, Nat.zero_le _, rfl, rfl, hide (by rw [HW0.out, Int.add_zero]; exact HV.out), HBr⟩
      case round =>
        clear HV HBr
        obtain ⟨k, u, hk, rfl, rfl, HU, HBr⟩ := hrel
        by_cases hltk : k < ys.length
        · have kz : (k : Int) < (ys.length : Int) := by omega
          have hn := HS2.out m k
          have htl := HTL.out m k
          have htb := HTB.out m k
          have G1 := hide (fun w' h => HC.out w' h m k (by omega) (by omega))
          have G2 := hide (fun w' h => HC.out w' h ((m : Int) - 1) k (by omega) (by omega))
          have G3 := hide (fun w' h => HC.out w' h m ((k : Int) - 1) (by omega) (by omega))
          obtain ⟨x0, hx0⟩ : ∃ p, xs[m]? = some p := ⟨_, List.getElem?_eq_getElem hlt⟩
          obtain ⟨y0, hy0⟩ : ∃ p, ys[k]? = some p := ⟨_, List.getElem?_eq_getElem hltk⟩
          obtain ⟨gx, rfl, hgx, kx⟩ := KX.out (by intro e; rw [e] at hlt; simp at hlt)
          obtain ⟨gy, rfl, hgy, ky⟩ := KY.out (by intro e; rw [e] at hltk; simp at hltk)
          have X0 := hide (fun (W : World) (h : Below w5.heap.size w5 W) => (h.cell (p := ⟨gx, m, none⟩) hgx).trans (kx m _ hx0))
          have Y0 := hide (fun (W : World) (h : Below w5.heap.size w5 W) => (h.cell (p := ⟨gy, k, none⟩) hgy).trans (ky k _ hy0))
          have fx0 := FX.out _ (List.mem_of_getElem? hx0)
          have fy0 := FY.out _ (List.mem_of_getElem? hy0)
          have gx0 : xs.getD m 0 = x0 := by rw [List.getD_eq_getElem?_getD, hx0]; rfl
          have gy0 : ys.getD k 0 = y0 := by rw [List.getD_eq_getElem?_getD, hy0]; rfl
          rw [gy0] at htl
          rw [gx0] at htb
          have X1 : Hid (m + 1 < xs.length → ∃ x1, (-1000000 ≤ x1 ∧ x1 ≤ 1000000) ∧ xs.getD (m + 1) 0 = x1 ∧ ∀ (W : World), Below w5.heap.size w5 W → W.cell? ⟨gx, m + 1, none⟩ = some (.int .i64 x1)) := hide (fun h => by
            obtain ⟨x1, h1⟩ : ∃ p, xs[m + 1]? = some p := ⟨_, List.getElem?_eq_getElem h⟩
            exact ⟨x1, FX.out _ (List.mem_of_getElem? h1), by rw [List.getD_eq_getElem?_getD, h1]; rfl, fun W hW => (hW.cell (p := ⟨gx, m + 1, none⟩) hgx).trans (kx _ _ h1)⟩)
          have Y1 : Hid (k + 1 < ys.length → ∃ y1, (-1000000 ≤ y1 ∧ y1 ≤ 1000000) ∧ ys.getD (k + 1) 0 = y1 ∧ ∀ (W : World), Below w5.heap.size w5 W → W.cell? ⟨gy, k + 1, none⟩ = some (.int .i64 y1)) := hide (fun h => by
            obtain ⟨y1, h1⟩ : ∃ p, ys[k + 1]? = some p := ⟨_, List.getElem?_eq_getElem h⟩
            exact ⟨y1, FY.out _ (List.mem_of_getElem? h1), by rw [List.getD_eq_getElem?_getD, h1]; rfl, fun W hW => (hW.cell (p := ⟨gy, k + 1, none⟩) hgy).trans (ky _ _ h1)⟩)
          generalize IA (m : Int) (k : Int) = p at *
          generalize IB (m : Int) (k : Int) = q at *
          generalize IA ((m : Int) - 1) (k : Int) = cu at *
          generalize IB ((m : Int) - 1) (k : Int) = cv at *
          generalize IA (m : Int) ((k : Int) - 1) = du at *
          generalize IB (m : Int) ((k : Int) - 1) = dv at *
          have HTLh := hide htl
          have HTBh := hide htb
          have HNh := hide hn
          have hs5 := HBr.out.size
          have hwm : IntKind.i64.wrap ((m : Int) - 1) = (m : Int) - 1 := wrap_id (by omega) (by omega)
          have hwk : IntKind.i64.wrap ((k : Int) - 1) = (k : Int) - 1 := wrap_id (by omega) (by omega)
          clear hx0 hy0 kx ky gx0 gy0 htl htb hn HC HTL HTB HS2 HN KX KY FX FY
          go_wp2_with (fail)
          refine (G1.out _ HBr.out).mono ?_
          rintro e v1 ⟨rfl, hb⟩
          have HV1 := hide (HBr.out.trans (hb.mono HBr.out.size))
          clear hb HBr G1 hs5
          cases hpq : (p == q) with
          | true =>
            have hr : RA m (k + 1) = RA m k := by
              have hh : ∀ s t : Bool, hitB p q s t = false := fun s t => by
                unfold hitB
                have : (p != q) = false := by simp [bne, hpq]
                rw [this]; rfl
              rw [HNh.out, HTLh.out, HTBh.out, hh, hh, if_neg (by simp), if_neg (by simp)]
              omega
            have HR := hide hr
            clear hr G2 G3 HNh HTLh HTBh X0 X1 Y0 Y1
            go_wp2
            go_roundw
            case rel => exact ⟨k + 1, u, by omega, by go_num, rfl, hide (by rw [HR.out]; exact HU.out), HV1⟩
            case measure => first | (simp [intOf]; done) | (simp [intOf]; omega)
          | false =>
            have hh : ∀ s t : Bool, hitB p q s t = (s == q && t == p) := fun s t => by
              unfold hitB
              have : (p != q) = true := by simp [bne, hpq]
              rw [this]; rfl
            rw [hh] at HTLh HTBh
            clear hh
            go_wp2_with (fail)
            refine (G2.out _ HV1.out).mono ?_
            rintro e v2 ⟨rfl, hb⟩
            have HV2 := hide (HV1.out.trans (hb.mono HV1.out.size))
            clear hb HV1 G2
            rcases bool_cs cu q cv p with e1 | ⟨e1, e2⟩ | ⟨e1, e2⟩
            · have hz : TL m k = 0 := by rw [HTLh.out, if_neg]; rintro ⟨h1, h2⟩; rw [e1] at h1; cases h1
              replace HNh : Hid (RA m (k + 1) = RA m k + TB m k) := hide (by rw [HNh.out, hz, Int.zero_add])
              have HS : Hid (u = IntKind.i64.wrap (AR m + RA m k)) := HU
              clear hz HTLh Y0 Y1 HU
              go_wp2_with (fail)
              refine (G3.out _ HV2.out).mono ?_
              rintro e v3 ⟨rfl, hb⟩
              have HV3 := hide (HV2.out.trans (hb.mono HV2.out.size))
              clear hb HV2 G3
              rcases bool_cs du q dv p with e1 | ⟨e1, e2⟩ | ⟨e1, e2⟩
              · have hz : TB m k = 0 := by rw [HTBh.out, if_neg]; rintro ⟨h1, h2⟩; rw [e1] at h1; cases h1
                have HR : Hid (u = IntKind.i64.wrap (AR m + RA m (k + 1))) := hide (by rw [HS.out, HNh.out, hz, Int.add_zero])
                clear hz HNh HTBh X0 X1 HS
                go_wp2
                go_roundw
                case rel => exact ⟨k + 1, u, by omega, by go_num, rfl, HR, HV3⟩
                case measure => first | (simp [intOf]; done) | (simp [intOf]; omega)
              · have hz : TB m k = 0 := by rw [HTBh.out, if_neg]; rintro ⟨h1, h2⟩; rw [e1, e2] at h1; cases h1
                have HR : Hid (u = IntKind.i64.wrap (AR m + RA m (k + 1))) := hide (by rw [HS.out, HNh.out, hz, Int.add_zero])
                clear hz HNh HTBh X0 X1 HS
                go_wp2
                go_roundw
                case rel => exact ⟨k + 1, u, by omega, by go_num, rfl, HR, HV3⟩
                case measure => first | (simp [intOf]; done) | (simp [intOf]; omega)
              · by_cases e3 : m + 1 < xs.length
                · obtain ⟨x1, fx1, ex1, cx1⟩ := X1.out e3
                  have hz : TB m k = x1 - x0 := by rw [HTBh.out, if_pos ⟨by rw [e1, e2]; rfl, e3⟩, ex1]
                  have z3 : (m : Int) + 1 < (xs.length : Int) := by omega
                  have z4 : ((m : Int) + 1).toNat = m + 1 := by omega
                  have z5 : (0 : Int) ≤ (m : Int) + 1 := by omega
                  have z6 : IntKind.i64.wrap ((m : Int) + 1) = (m : Int) + 1 := wrap_id (by omega) (by omega)
                  have z7 : IntKind.i64.wrap (x1 - x0) = x1 - x0 := wrap_id (by omega) (by omega)
                  obtain ⟨s9, hs9⟩ : ∃ s9, IntKind.i64.wrap (u + (x1 - x0)) = s9 := ⟨_, rfl⟩
                  have HR : Hid (s9 = IntKind.i64.wrap (AR m + RA m (k + 1))) := hide (by rw [← hs9, HS.out, wrap_add, HNh.out, hz, Int.add_assoc])
                  have r0 := X0.out _ HV3.out
                  have r1 := cx1 _ HV3.out
                  clear hz HNh HTBh X0 X1 HS cx1 ex1 fx1
                  go_wp2
                  go_quiet (fail)
                  refine name_exit fun v9 hZ => ?_
                  have HV9 : Hid (Below w5.heap.size w5 v9) := hide (by rw [hZ]; exact below_drewN HV3.out _)
                  clear hZ r0 r1 HV3
                  go_wp2
                  go_roundw
                  case rel => exact ⟨k + 1, s9, by omega, by go_num, rfl, HR, HV9⟩
                  case measure => first | (simp [intOf]; done) | (simp [intOf]; omega)
                · have hz : TB m k = 0 := by rw [HTBh.out, if_neg]; rintro ⟨h1, h2⟩; exact e3 h2
                  have z3 : ¬ ((m : Int) + 1 < (xs.length : Int)) := by omega
                  have HR : Hid (u = IntKind.i64.wrap (AR m + RA m (k + 1))) := hide (by rw [HS.out, HNh.out, hz, Int.add_zero])
                  clear hz HNh HTBh X0 X1 HS
                  go_wp2
                  go_roundw
                  case rel => exact ⟨k + 1, u, by omega, by go_num, rfl, HR, HV3⟩
                  case measure => first | (simp [intOf]; done) | (simp [intOf]; omega)
            · have hz : TL m k = 0 := by rw [HTLh.out, if_neg]; rintro ⟨h1, h2⟩; rw [e1, e2] at h1; cases h1
              replace HNh : Hid (RA m (k + 1) = RA m k + TB m k) := hide (by rw [HNh.out, hz, Int.zero_add])
              have HS : Hid (u = IntKind.i64.wrap (AR m + RA m k)) := HU
              clear hz HTLh Y0 Y1 HU
              go_wp2_with (fail)
              refine (G3.out _ HV2.out).mono ?_
              rintro e v3 ⟨rfl, hb⟩
              have HV3 := hide (HV2.out.trans (hb.mono HV2.out.size))
              clear hb HV2 G3
              rcases bool_cs du q dv p with e1 | ⟨e1, e2⟩ | ⟨e1, e2⟩
              · have hz : TB m k = 0 := by rw [HTBh.out, if_neg]; rintro ⟨h1, h2⟩; rw [e1] at h1; cases h1
                have HR : Hid (u = IntKind.i64.wrap (AR m + RA m (k + 1))) := hide (by rw [HS.out, HNh.out, hz, Int.add_zero])
                clear hz HNh HTBh X0 X1 HS
                go_wp2
                go_roundw
                case rel => exact ⟨k + 1, u, by omega, by go_num, rfl, HR, HV3⟩
                case measure => first | (simp [intOf]; done) | (simp [intOf]; omega)
              · have hz : TB m k = 0 := by rw [HTBh.out, if_neg]; rintro ⟨h1, h2⟩; rw [e1, e2] at h1; cases h1
                have HR : Hid (u = IntKind.i64.wrap (AR m + RA m (k + 1))) := hide (by rw [HS.out, HNh.out, hz, Int.add_zero])
                clear hz HNh HTBh X0 X1 HS
                go_wp2
                go_roundw
                case rel => exact ⟨k + 1, u, by omega, by go_num, rfl, HR, HV3⟩
                case measure => first | (simp [intOf]; done) | (simp [intOf]; omega)
              · by_cases e3 : m + 1 < xs.length
                · obtain ⟨x1, fx1, ex1, cx1⟩ := X1.out e3
                  have hz : TB m k = x1 - x0 := by rw [HTBh.out, if_pos ⟨by rw [e1, e2]; rfl, e3⟩, ex1]
                  have z3 : (m : Int) + 1 < (xs.length : Int) := by omega
                  have z4 : ((m : Int) + 1).toNat = m + 1 := by omega
                  have z5 : (0 : Int) ≤ (m : Int) + 1 := by omega
                  have z6 : IntKind.i64.wrap ((m : Int) + 1) = (m : Int) + 1 := wrap_id (by omega) (by omega)
                  have z7 : IntKind.i64.wrap (x1 - x0) = x1 - x0 := wrap_id (by omega) (by omega)
                  obtain ⟨s9, hs9⟩ : ∃ s9, IntKind.i64.wrap (u + (x1 - x0)) = s9 := ⟨_, rfl⟩
                  have HR : Hid (s9 = IntKind.i64.wrap (AR m + RA m (k + 1))) := hide (by rw [← hs9, HS.out, wrap_add, HNh.out, hz, Int.add_assoc])
                  have r0 := X0.out _ HV3.out
                  have r1 := cx1 _ HV3.out
                  clear hz HNh HTBh X0 X1 HS cx1 ex1 fx1
                  go_wp2
                  go_quiet (fail)
                  refine name_exit fun v9 hZ => ?_
                  have HV9 : Hid (Below w5.heap.size w5 v9) := hide (by rw [hZ]; exact below_drewN HV3.out _)
                  clear hZ r0 r1 HV3
                  go_wp2
                  go_roundw
                  case rel => exact ⟨k + 1, s9, by omega, by go_num, rfl, HR, HV9⟩
                  case measure => first | (simp [intOf]; done) | (simp [intOf]; omega)
                · have hz : TB m k = 0 := by rw [HTBh.out, if_neg]; rintro ⟨h1, h2⟩; exact e3 h2
                  have z3 : ¬ ((m : Int) + 1 < (xs.length : Int)) := by omega
                  have HR : Hid (u = IntKind.i64.wrap (AR m + RA m (k + 1))) := hide (by rw [HS.out, HNh.out, hz, Int.add_zero])
                  clear hz HNh HTBh X0 X1 HS
                  go_wp2
                  go_roundw
                  case rel => exact ⟨k + 1, u, by omega, by go_num, rfl, HR, HV3⟩
                  case measure => first | (simp [intOf]; done) | (simp [intOf]; omega)
            · by_cases e3 : k + 1 < ys.length
              · obtain ⟨y1, fy1, ey1, cy1⟩ := Y1.out e3
                have hz : TL m k = y1 - y0 := by rw [HTLh.out, if_pos ⟨by rw [e1, e2]; rfl, e3⟩, ey1]
                have z3 : (k : Int) + 1 < (ys.length : Int) := by omega
                have z4 : ((k : Int) + 1).toNat = k + 1 := by omega
                have z5 : (0 : Int) ≤ (k : Int) + 1 := by omega
                have z6 : IntKind.i64.wrap ((k : Int) + 1) = (k : Int) + 1 := wrap_id (by omega) (by omega)
                have z7 : IntKind.i64.wrap (y1 - y0) = y1 - y0 := wrap_id (by omega) (by omega)
                obtain ⟨s8, hs8⟩ : ∃ s8, IntKind.i64.wrap (u + (y1 - y0)) = s8 := ⟨_, rfl⟩
                have HS : Hid (s8 = IntKind.i64.wrap (AR m + (RA m k + TL m k))) := hide (by rw [← hs8, HU.out, wrap_add, hz, Int.add_assoc])
                replace HNh : Hid (RA m (k + 1) = (RA m k + TL m k) + TB m k) := hide (by rw [HNh.out, Int.add_assoc])
                generalize RA m k + TL m k = RT at *
                have r0 := Y0.out _ HV2.out
                have r1 := cy1 _ HV2.out
                clear hz HTLh Y0 Y1 HU cy1 ey1 fy1
                go_wp2
                go_quiet (fail)
                refine name_exit fun v8 hZ => ?_
                have HV8 : Hid (Below w5.heap.size w5 v8) := hide (by rw [hZ]; exact below_drewN HV2.out _)
                clear hZ r0 r1 HV2 z3 z4 z5 z6 z7 hs8 e1 e2
                go_wp2_with (fail)
                refine (G3.out _ HV8.out).mono ?_
                rintro e v3 ⟨rfl, hb⟩
                have HV3 := hide (HV8.out.trans (hb.mono HV8.out.size))
                clear hb HV8 G3
                rcases bool_cs du q dv p with e1 | ⟨e1, e2⟩ | ⟨e1, e2⟩
                · have hz : TB m k = 0 := by rw [HTBh.out, if_neg]; rintro ⟨h1, h2⟩; rw [e1] at h1; cases h1
                  have HR : Hid (s8 = IntKind.i64.wrap (AR m + RA m (k + 1))) := hide (by rw [HS.out, HNh.out, hz, Int.add_zero])
                  clear hz HNh HTBh X0 X1 HS
                  go_wp2
                  go_roundw
                  case rel => exact ⟨k + 1, s8, by omega, by go_num, rfl, HR, HV3⟩
                  case measure => first | (simp [intOf]; done) | (simp [intOf]; omega)
                · have hz : TB m k = 0 := by rw [HTBh.out, if_neg]; rintro ⟨h1, h2⟩; rw [e1, e2] at h1; cases h1
                  have HR : Hid (s8 = IntKind.i64.wrap (AR m + RA m (k + 1))) := hide (by rw [HS.out, HNh.out, hz, Int.add_zero])
                  clear hz HNh HTBh X0 X1 HS
                  go_wp2
                  go_roundw
                  case rel => exact ⟨k + 1, s8, by omega, by go_num, rfl, HR, HV3⟩
                  case measure => first | (simp [intOf]; done) | (simp [intOf]; omega)
                · by_cases e3 : m + 1 < xs.length
                  · obtain ⟨x1, fx1, ex1, cx1⟩ := X1.out e3
                    have hz : TB m k = x1 - x0 := by rw [HTBh.out, if_pos ⟨by rw [e1, e2]; rfl, e3⟩, ex1]
                    have z3 : (m : Int) + 1 < (xs.length : Int) := by omega
                    have z4 : ((m : Int) + 1).toNat = m + 1 := by omega
                    have z5 : (0 : Int) ≤ (m : Int) + 1 := by omega
                    have z6 : IntKind.i64.wrap ((m : Int) + 1) = (m : Int) + 1 := wrap_id (by omega) (by omega)
                    have z7 : IntKind.i64.wrap (x1 - x0) = x1 - x0 := wrap_id (by omega) (by omega)
                    obtain ⟨s9, hs9⟩ : ∃ s9, IntKind.i64.wrap (s8 + (x1 - x0)) = s9 := ⟨_, rfl⟩
                    have HR : Hid (s9 = IntKind.i64.wrap (AR m + RA m (k + 1))) := hide (by rw [← hs9, HS.out, wrap_add, HNh.out, hz, Int.add_assoc])
                    have r0 := X0.out _ HV3.out
                    have r1 := cx1 _ HV3.out
                    clear hz HNh HTBh X0 X1 HS cx1 ex1 fx1
                    go_wp2
                    go_quiet (fail)
                    refine name_exit fun v9 hZ => ?_
                    have HV9 : Hid (Below w5.heap.size w5 v9) := hide (by rw [hZ]; exact below_drewN HV3.out _)
                    clear hZ r0 r1 HV3
                    go_wp2
                    go_roundw
                    case rel => exact ⟨k + 1, s9, by omega, by go_num, rfl, HR, HV9⟩
                    case measure => first | (simp [intOf]; done) | (simp [intOf]; omega)
                  · have hz : TB m k = 0 := by rw [HTBh.out, if_neg]; rintro ⟨h1, h2⟩; exact e3 h2
                    have z3 : ¬ ((m : Int) + 1 < (xs.length : Int)) := by omega
                    have HR : Hid (s8 = IntKind.i64.wrap (AR m + RA m (k + 1))) := hide (by rw [HS.out, HNh.out, hz, Int.add_zero])
                    clear hz HNh HTBh X0 X1 HS
                    go_wp2
                    go_roundw
                    case rel => exact ⟨k + 1, s8, by omega, by go_num, rfl, HR, HV3⟩
                    case measure => first | (simp [intOf]; done) | (simp [intOf]; omega)
              · have hz : TL m k = 0 := by rw [HTLh.out, if_neg]; rintro ⟨h1, h2⟩; exact e3 h2
                have z3 : ¬ ((k : Int) + 1 < (ys.length : Int)) := by omega
                replace HNh : Hid (RA m (k + 1) = RA m k + TB m k) := hide (by rw [HNh.out, hz, Int.zero_add])
                have HS : Hid (u = IntKind.i64.wrap (AR m + RA m k)) := HU
                clear hz HTLh Y0 Y1 HU
                go_wp2_with (fail)
                refine (G3.out _ HV2.out).mono ?_
                rintro e v3 ⟨rfl, hb⟩
                have HV3 := hide (HV2.out.trans (hb.mono HV2.out.size))
                clear hb HV2 G3
                rcases bool_cs du q dv p with e1 | ⟨e1, e2⟩ | ⟨e1, e2⟩
                · have hz : TB m k = 0 := by rw [HTBh.out, if_neg]; rintro ⟨h1, h2⟩; rw [e1] at h1; cases h1
                  have HR : Hid (u = IntKind.i64.wrap (AR m + RA m (k + 1))) := hide (by rw [HS.out, HNh.out, hz, Int.add_zero])
                  clear hz HNh HTBh X0 X1 HS
                  go_wp2
                  go_roundw
                  case rel => exact ⟨k + 1, u, by omega, by go_num, rfl, HR, HV3⟩
                  case measure => first | (simp [intOf]; done) | (simp [intOf]; omega)
                · have hz : TB m k = 0 := by rw [HTBh.out, if_neg]; rintro ⟨h1, h2⟩; rw [e1, e2] at h1; cases h1
                  have HR : Hid (u = IntKind.i64.wrap (AR m + RA m (k + 1))) := hide (by rw [HS.out, HNh.out, hz, Int.add_zero])
                  clear hz HNh HTBh X0 X1 HS
                  go_wp2
                  go_roundw
                  case rel => exact ⟨k + 1, u, by omega, by go_num, rfl, HR, HV3⟩
                  case measure => first | (simp [intOf]; done) | (simp [intOf]; omega)
                · by_cases e3 : m + 1 < xs.length
                  · obtain ⟨x1, fx1, ex1, cx1⟩ := X1.out e3
                    have hz : TB m k = x1 - x0 := by rw [HTBh.out, if_pos ⟨by rw [e1, e2]; rfl, e3⟩, ex1]
                    have z3 : (m : Int) + 1 < (xs.length : Int) := by omega
                    have z4 : ((m : Int) + 1).toNat = m + 1 := by omega
                    have z5 : (0 : Int) ≤ (m : Int) + 1 := by omega
                    have z6 : IntKind.i64.wrap ((m : Int) + 1) = (m : Int) + 1 := wrap_id (by omega) (by omega)
                    have z7 : IntKind.i64.wrap (x1 - x0) = x1 - x0 := wrap_id (by omega) (by omega)
                    obtain ⟨s9, hs9⟩ : ∃ s9, IntKind.i64.wrap (u + (x1 - x0)) = s9 := ⟨_, rfl⟩
                    have HR : Hid (s9 = IntKind.i64.wrap (AR m + RA m (k + 1))) := hide (by rw [← hs9, HS.out, wrap_add, HNh.out, hz, Int.add_assoc])
                    have r0 := X0.out _ HV3.out
                    have r1 := cx1 _ HV3.out
                    clear hz HNh HTBh X0 X1 HS cx1 ex1 fx1
                    go_wp2
                    go_quiet (fail)
                    refine name_exit fun v9 hZ => ?_
                    have HV9 : Hid (Below w5.heap.size w5 v9) := hide (by rw [hZ]; exact below_drewN HV3.out _)
                    clear hZ r0 r1 HV3
                    go_wp2
                    go_roundw
                    case rel => exact ⟨k + 1, s9, by omega, by go_num, rfl, HR, HV9⟩
                    case measure => first | (simp [intOf]; done) | (simp [intOf]; omega)
                  · have hz : TB m k = 0 := by rw [HTBh.out, if_neg]; rintro ⟨h1, h2⟩; exact e3 h2
                    have z3 : ¬ ((m : Int) + 1 < (xs.length : Int)) := by omega
                    have HR : Hid (u = IntKind.i64.wrap (AR m + RA m (k + 1))) := hide (by rw [HS.out, HNh.out, hz, Int.add_zero])
                    clear hz HNh HTBh X0 X1 HS
                    go_wp2
                    go_roundw
                    case rel => exact ⟨k + 1, u, by omega, by go_num, rfl, HR, HV3⟩
                    case measure => first | (simp [intOf]; done) | (simp [intOf]; omega)
        · obtain rfl : k = ys.length := by omega
          have kz : ¬ (ys.length : Int) < (ys.length : Int) := by omega
          have HV2 : Hid (u = IntKind.i64.wrap (AR (m + 1))) := hide (by rw [HN.out]; exact HU.out)
          clear HU
          go_wp2
          go_roundw
          case rel => exact ⟨m + 1, u, by omega, by go_num, rfl, HV2, HBr⟩
          case measure => first | (simp [intOf]; done) | (simp [intOf]; omega)
    · obtain rfl : m = xs.length := by omega
      have mz : ¬ (xs.length : Int) < (xs.length : Int) := by omega
      have hv : v = TOT := by rw [HV.out, HSUM.out]; exact wrap_id (by omega) (by omega)
      subst hv
      have HBW := hide (HB5.out.trans (HBr.out.mono HB5.out.size))
      clear HV HSUM
      go_wp2
      go_ret2
      exact ⟨rfl, HBW.out⟩
end Go.Proofs.Yteojjihgmmecpaa

/- The last step from a walk to a given statement, for every law of the seat: the call returns true, and what lay in memory lies as it lay. -/
namespace Go.Proofs.Yteojjihgmmecpaa
open Go.ChangeShapes Go.WideShapes Go.ChangeAt Go.RowKit Go.Joins Go.Deep
set_option linter.unusedVariables false
set_option linter.unusedSimpArgs false

theorem own : ownKnob Try.prog.godebug = none := by kernel_rfl
theorem laidOut : laidOutB Try.prog = true := by kernel_rfl

section
variable {H : Type} {enc : TypeId × Value → H}
theorem trodAll_carry {P : Program} (hl : laidOutB P = true) {W W' : World} (hb : Below W.heap.size W W') :
    ∀ (ts : List TypeId) (vs : List Value) (ds : List (DataW H)) (ps : List MemPlace), (ts.all fun t => P.readableRec t && decide (t < P.types.size)) = true →
      DataW.TrodAll enc P W 0 (fun _ => true) true ts vs ds ps → (∀ x ∈ ps, x.block < W.heap.size) → DataW.TrodAll enc P W' 0 (fun b => decide (b < W.heap.size)) true ts vs ds ps
  | [], [], [], ps, _, h, _ => h
  | [], [], _ :: _, _, _, h, _ => h.elim
  | [], _ :: _, _, _, _, h, _ => h.elim
  | _ :: _, [], _, _, _, h, _ => h.elim
  | _ :: _, _ :: _, [], _, _, h, _ => h.elim
  | t :: ts, v :: vs, d :: ds, ps, hr, h, hlt => by
    obtain ⟨p, q, h1, h2, rfl⟩ := h
    simp only [List.all_cons, Bool.and_eq_true, decide_eq_true_eq] at hr
    refine ⟨p, q, Below.trod hl hr.1.1 hr.1.2 h1 hb (fun x hx => hlt x (by simp [hx])), trodAll_carry hl hb ts vs ds q ?_ h2 (fun x hx => hlt x (by simp [hx])), rfl⟩
    simpa using hr.2

theorem law_post {P : Program} {f : Func} {s : ChangeSpec} {W W' : World} {args : Array Value} {ds gs : List (DataW H)} {before : List MemPlace} {tb : TypeId}
    (hl : laidOutB P = true) (hr : (f.params.toList.all fun t => P.readableRec t && decide (t < P.types.size)) = true) (hres : f.resultTypes = #[tb]) (hbool : P.underlying tb = some .bool)
    (hvars : s.vars = []) (hW : DataW.Whole enc P f.params.toList s.vars false W args.toList ds gs before)
    (hsr : (s.fn H (ds ++ gs)).results = [.lit (.bool true)]) (hsa : (s.fn H (ds ++ gs)).args = ds) (hsv : (s.fn H (ds ++ gs)).vars = [])
    (hb : Below W.heap.size W W') : s.post enc P f false true false false W args (.bool true) W' := by
  have hlt : ∀ p ∈ before, p.block < W.heap.size := fun p hp => hW.lt p hp
  have hW0 := hW
  obtain ⟨p, q, hA, hV, rfl, hz, hn⟩ := hW
  refine ⟨ds, gs, p ++ q, [], p, [], hW0, ?_, ?_, ?_, hb.frame _, fun h => by cases h⟩
  · rw [hsr, hres]
    exact trodAll_mk1 (shut_bool hbool true)
  · rw [hsa]
    exact trodAll_carry hl hb _ _ _ _ hr hA (fun x hx => hlt x (by simp [hx]))
  · rw [hsv, hvars]
    rfl
end
end Go.Proofs.Yteojjihgmmecpaa

/- An argument that is a list of structs of ints, read as a list. -/
namespace Go.Proofs.Yteojjihgmmecpaa
open Go.ChangeShapes Go.WideShapes Go.ChangeAt Go.RowKit Go.Joins Go.Deep
set_option linter.unusedVariables false
set_option linter.unusedSimpArgs false

section
variable {H : Type} {enc : TypeId × Value → H} {P : Program} {w : World} {base : Nat} {spare : Nat → Bool} {held : Bool}
/-- The fields of a struct of ints: each one cell, an int. -/
theorem trod_int_fields {t : TypeId} {fs : Array Field} {n : Nat} {cs : List Value} {y : DataW H × List MemPlace} (he : P.underlying t = some (.struct fs)) (hone : oneCellFields P fs = true) (hint : ∀ (j : Nat) (f : Field), fs[j]? = some f → P.underlying f.type = some (.int .i64))
    (hl : cs.length = fs.size) (h : DataW.trod enc P w base spare held n t cs = some y) : ∀ j, j < fs.size → ∃ z : Int, cs[j]? = some (.int .i64 z) := by
  obtain ⟨ys, n', _, _, _, hyl, hf⟩ := DataW.trod_struct he h
  intro j hj
  have hjf : fs[j]? = some fs[j] := Array.getElem?_eq_getElem hj
  obtain ⟨ho, hk⟩ := hone_of hone j _ hjf
  have h1 := hf j _ hjf
  rw [ho, hk] at h1
  have hd : (cs.drop j).take 1 = [cs[j]'(by omega)] := by rw [List.drop_eq_getElem_cons (by omega)]; rfl
  rw [hd] at h1
  have hy : ys[j]? = some (ys[j]'(by omega)) := List.getElem?_eq_getElem (by omega)
  rw [hy] at h1
  obtain ⟨z, hz, _⟩ := DataW.trod_int (hint j _ hjf) h1
  have hz' : cs[j]'(by omega) = .int .i64 z := by simpa using hz
  exact ⟨z, by rw [List.getElem?_eq_getElem (by omega), hz']⟩
/-- A slice of structs of k ints: its cells. -/
theorem trod_rows {t e : TypeId} {fs : Array Field} {v : Value} {d : DataW H} {p : List MemPlace} {r : Reach} {b0 : Nat} (ht : P.underlying t = some (.slice e)) (he : P.underlying e = some (.struct fs)) (hone : oneCellFields P fs = true)
    (hint : ∀ (j : Nat) (f : Field), fs[j]? = some f → P.underlying f.type = some (.int .i64)) (hC : P.cellsOf e = fs.size) (hk : 0 < fs.size) (hv : Value.okWide P w r b0 t v) (h : DataW.Trod enc P w base spare held t v d p) :
    ∃ (A : Option Addr) (n c : Nat) (F : Nat → Nat → Int), v = .slice A n c ∧ n ≤ maxLen ∧ (0 < n → ∃ b off, A = some ⟨b, off, none⟩ ∧ b < w.heap.size ∧ ∀ i j, i < n → j < fs.size → w.cell? ⟨b, off + i * fs.size + j, none⟩ = some (.int .i64 (F i j))) := by
  obtain ⟨A, n, c, rfl⟩ := okWide_slice ht hv
  obtain ⟨fuel, hf⟩ := h
  rcases open_slice ht hf with ⟨hcs, _⟩ | ⟨a, len, cap, m, nn, D, Pl, hcs, hb, hl, hm, hmm, hx, hi⟩
  · simp [Value.cells] at hcs
    obtain ⟨rfl, rfl, rfl⟩ := hcs
    exact ⟨none, 0, 0, fun _ _ => 0, rfl, Nat.zero_le _, fun h => absurd h (Nat.lt_irrefl 0)⟩
  · simp [Value.cells] at hcs
    obtain ⟨rfl, rfl, rfl⟩ := hcs
    have hlm : n ≤ m := by rw [hmm]; split <;> omega
    have key : ∀ i, i < n → ∀ j, j < fs.size → ∃ z : Int, w.cell? (a.add (i * fs.size + j)) = some (.int .i64 z) := by
      intro i hin j hj
      obtain ⟨cs', hc, ht'⟩ := hi i (by omega)
      rw [hC] at hc
      obtain ⟨_, hcl, hat⟩ := World.cells?_some hc
      obtain ⟨z, hz⟩ := trod_int_fields he hone hint hcl ht' j hj
      have := hat j hj
      rw [← Go.Deep.add_add, this, hz]
      exact ⟨z, rfl⟩
    refine ⟨some a, n, c, fun i j => if h : i < n ∧ j < fs.size then Classical.choose (key i h.1 j h.2) else 0, rfl, by omega, fun hn => ?_⟩
    obtain ⟨z0, h0⟩ := key 0 hn 0 hk
    have hadd0 : a.add (0 * fs.size + 0) = a := by simp [Addr.add]
    rw [hadd0] at h0
    obtain ⟨b, off, sp⟩ := a
    have hsp : sp = none := by
      unfold World.cell? at h0
      cases sp with
      | none => rfl
      | some x => split at h0 <;> simp at h0
    subst hsp
    refine ⟨b, off, rfl, ?_, fun i j hin hj => ?_⟩
    · unfold World.cell? at h0
      split at h0
      · rename_i hh
        exact (Array.getElem?_eq_some_iff.1 hh).1
      · cases h0
    · have hz := Classical.choose_spec (key i hin j hj)
      have e1 : (⟨b, off, none⟩ : Addr).add (i * fs.size + j) = ⟨b, off + i * fs.size + j, none⟩ := by unfold Addr.add; split <;> simp_all [Nat.add_assoc]
      rw [← e1]
      simp only [dif_pos (And.intro hin hj)]
      exact hz
/-- .. rectangles. -/
theorem trod_rects {t e : TypeId} {fs : Array Field} {v : Value} {d : DataW H} {p : List MemPlace} {r : Reach} {b0 : Nat} (ht : P.underlying t = some (.slice e)) (he : P.underlying e = some (.struct fs)) (hone : oneCellFields P fs = true)
    (hint : ∀ (j : Nat) (f : Field), fs[j]? = some f → P.underlying f.type = some (.int .i64)) (hC : P.cellsOf e = 4) (hk : fs.size = 4) (hv : Value.okWide P w r b0 t v) (h : DataW.Trod enc P w base spare held t v d p) :
    ∃ l : List R4, RdK encR 4 w w.heap.size v l ∧ l.length ≤ maxLen := by
  obtain ⟨A, n, c, F, rfl, hn, hF⟩ := trod_rows ht he hone hint (hC.trans hk.symm) (by omega) hv h
  rw [hk] at hF
  refine ⟨(List.range n).map fun i => ⟨F i 0, F i 1, F i 2, F i 3⟩, ⟨A, c, by simp, fun hl => ?_⟩, by simpa using hn⟩
  have hn0 : 0 < n := by
    rcases Nat.eq_zero_or_pos n with h | h
    · subst h; exact absurd rfl hl
    · exact h
  obtain ⟨b, off, hA, hb, hc⟩ := hF hn0
  refine ⟨b, off, hA, hb, fun j x hj i u hu => ?_⟩
  have hjn : j < n := by have := (List.getElem?_eq_some_iff.1 hj).1; simpa using this
  rw [List.getElem?_map, List.getElem?_range hjn] at hj
  simp only [Option.map_some, Option.some.injEq] at hj
  subst hj
  have hi : i < 4 := (List.getElem?_eq_some_iff.1 hu).1
  rw [hc j i hjn hi]
  match i, hi with
  | 0, _ => exact hu
  | 1, _ => exact hu
  | 2, _ => exact hu
  | 3, _ => exact hu
end
theorem int_bd {n : Int} (h : (Lit.int .i64 n).wf = true) : -9223372036854775808 ≤ n ∧ n ≤ 9223372036854775807 := by
  simp [Lit.wf, IntKind.min, IntKind.max, IntKind.signed, IntKind.bits] at h
  omega
theorem rect_fields : ∀ (j : Nat) (f : Field), (match Try.prog.underlying 33 with | some (.struct fs) => fs | _ => #[])[j]? = some f → Try.prog.underlying f.type = some (.int .i64) := by
  rw [Try.underlying33]
  intro j f hf
  match j, hf with
  | 0, hf => simp at hf; subst hf; exact Try.underlying3
  | 1, hf => simp at hf; subst hf; exact Try.underlying3
  | 2, hf => simp at hf; subst hf; exact Try.underlying3
  | 3, hf => simp at hf; subst hf; exact Try.underlying3
  | j + 4, hf => simp at hf
end Go.Proofs.Yteojjihgmmecpaa

/- Plain law: lots, their cuts, and the lots of a lot. No Go in sight. -/
namespace Go.Proofs.Yteojjihgmmecpaa
set_option linter.unusedVariables false
set_option linter.unusedSimpArgs false

structure Lot5 where
  r : R4
  f : Int
deriving DecidableEq
structure Pl3 where
  mf : Int
  ms : Int
  ma : Int
deriving DecidableEq
namespace Lot5
def w (l : Lot5) : Int := l.r.x1 - l.r.x0
def h (l : Lot5) : Int := l.r.y1 - l.r.y0
end Lot5
/-- Has the front a side? -/
def hasS (f s : Int) : Bool := decide (f / s % 2 = 1)
def lessS (f s : Int) : Int := if hasS f s = true then f - s else f
def inR (x : Int) : Prop := -1000000 ≤ x ∧ x ≤ 1000000
instance (x : Int) : Decidable (inR x) := by unfold inR; infer_instance
def okR (r : R4) : Prop := r.x0 < r.x1 ∧ r.y0 < r.y1 ∧ inR r.x0 ∧ inR r.x1 ∧ inR r.y0 ∧ inR r.y1
instance (r : R4) : Decidable (okR r) := by unfold okR; infer_instance
def validL (l : Lot5) : Prop := okR l.r ∧ 1 ≤ l.f ∧ l.f ≤ 15
instance (l : Lot5) : Decidable (validL l) := by unfold validL; infer_instance
def longL (l : Lot5) : Int := max (if hasS l.f 1 = true ∨ hasS l.f 2 = true then l.h else 0) (if hasS l.f 4 = true ∨ hasS l.f 8 = true then l.w else 0)
def goodL (p : Pl3) (l : Lot5) : Prop := validL l ∧ p.mf ≤ longL l ∧ p.ms ≤ l.w ∧ p.ms ≤ l.h
instance (p : Pl3) (l : Lot5) : Decidable (goodL p l) := by unfold goodL; infer_instance
def wideL (l : Lot5) : Lot5 × Lot5 := (⟨⟨l.r.x0, l.r.y0, l.r.x0 + l.w / 2, l.r.y1⟩, lessS l.f 2⟩, ⟨⟨l.r.x0 + l.w / 2, l.r.y0, l.r.x1, l.r.y1⟩, lessS l.f 1⟩)
def highL (l : Lot5) : Lot5 × Lot5 := (⟨⟨l.r.x0, l.r.y0, l.r.x1, l.r.y0 + l.h / 2⟩, lessS l.f 8⟩, ⟨⟨l.r.x0, l.r.y0 + l.h / 2, l.r.x1, l.r.y1⟩, lessS l.f 4⟩)
/-- The way that is tried: wide or high. -/
def wayL (wide : Bool) (l : Lot5) : Lot5 × Lot5 := if wide = true then wideL l else highL l
def bothG (p : Pl3) (x : Lot5 × Lot5) : Bool := decide (goodL p x.1) && decide (goodL p x.2)
def cutL (p : Pl3) (l : Lot5) : Option (Lot5 × Lot5) :=
  if l.w * l.h ≤ p.ma ∨ ¬ goodL p l then none
  else if bothG p (wayL (decide (l.h ≤ l.w)) l) = true then some (wayL (decide (l.h ≤ l.w)) l)
  else if bothG p (wayL (decide (l.w < l.h)) l) = true then some (wayL (decide (l.w < l.h)) l)
  else none
def sizeL (l : Lot5) : Nat := (l.w + l.h).toNat
theorem cutL_some {p : Pl3} {l a b : Lot5} (h : cutL p l = some (a, b)) : goodL p l ∧ goodL p a ∧ goodL p b ∧ p.ma < l.w * l.h ∧ ((a, b) = wideL l ∨ (a, b) = highL l) := by
  unfold cutL at h
  by_cases h0 : l.w * l.h ≤ p.ma ∨ ¬ goodL p l
  · rw [if_pos h0] at h; cases h
  rw [if_neg h0] at h
  have hg : goodL p l := Classical.byContradiction fun x => h0 (.inr x)
  have key : ∀ d : Bool, bothG p (wayL d l) = true → some (wayL d l) = some (a, b) → goodL p a ∧ goodL p b ∧ ((a, b) = wideL l ∨ (a, b) = highL l) := fun d hd he => by
    injection he with he
    rw [he] at hd
    unfold bothG at hd
    simp only [Bool.and_eq_true, decide_eq_true_eq] at hd
    refine ⟨hd.1, hd.2, ?_⟩
    rw [← he]
    cases d
    · exact .inr rfl
    · exact .inl rfl
  have hm : p.ma < l.w * l.h := by
    have : ¬ l.w * l.h ≤ p.ma := fun x => h0 (.inl x)
    omega
  by_cases h1 : bothG p (wayL (decide (l.h ≤ l.w)) l) = true
  · rw [if_pos h1] at h
    obtain ⟨k1, k2, k3⟩ := key _ h1 h
    exact ⟨hg, k1, k2, hm, k3⟩
  rw [if_neg h1] at h
  by_cases h2 : bothG p (wayL (decide (l.w < l.h)) l) = true
  · rw [if_pos h2] at h
    obtain ⟨k1, k2, k3⟩ := key _ h2 h
    exact ⟨hg, k1, k2, hm, k3⟩
  · rw [if_neg h2] at h; cases h
theorem valid_pos {l : Lot5} (h : validL l) : 0 < l.w ∧ 0 < l.h ∧ l.w ≤ 2000000 ∧ l.h ≤ 2000000 := by
  obtain ⟨⟨h1, h2, h3, h4, h5, h6⟩, _⟩ := h
  unfold inR at h3 h4 h5 h6
  unfold Lot5.w Lot5.h
  omega
/-- Each part is smaller. -/
theorem cutL_lt {p : Pl3} {l a b : Lot5} (h : cutL p l = some (a, b)) : sizeL a < sizeL l ∧ sizeL b < sizeL l := by
  obtain ⟨h1, h2, h3, _, h4⟩ := cutL_some h
  have q1 := valid_pos h1.1
  have q2 := valid_pos h2.1
  have q3 := valid_pos h3.1
  unfold sizeL
  rcases h4 with h4 | h4 <;>
  · simp only [wideL, highL, Prod.mk.injEq] at h4
    obtain ⟨rfl, rfl⟩ := h4
    simp only [Lot5.w, Lot5.h] at q1 q2 q3 ⊢
    omega
/-- The lots of a lot, as far as the fuel goes. -/
def leavesN (p : Pl3) : Nat → Lot5 → List Lot5
  | 0, l => [l]
  | n + 1, l => match cutL p l with
    | none => [l]
    | some (a, b) => leavesN p n a ++ leavesN p n b
def nodesN (p : Pl3) : Nat → Lot5 → Nat
  | 0, _ => 1
  | n + 1, l => match cutL p l with
    | none => 1
    | some (a, b) => 1 + nodesN p n a + nodesN p n b
theorem leavesN_more (p : Pl3) : ∀ (n m : Nat) (l : Lot5), sizeL l ≤ n → sizeL l ≤ m → leavesN p n l = leavesN p m l
  | 0, m, l, h, _ => by
    cases m with
    | zero => rfl
    | succ m =>
      cases hc : cutL p l with
      | none => simp [leavesN, hc]
      | some x => obtain ⟨a, b⟩ := x; have := cutL_lt hc; omega
  | n + 1, 0, l, _, h => by
    cases hc : cutL p l with
    | none => simp [leavesN, hc]
    | some x => obtain ⟨a, b⟩ := x; have := cutL_lt hc; omega
  | n + 1, m + 1, l, h1, h2 => by
    cases hc : cutL p l with
    | none => simp [leavesN, hc]
    | some x =>
      obtain ⟨a, b⟩ := x
      have := cutL_lt hc
      simp only [leavesN, hc]
      rw [leavesN_more p n m a (by omega) (by omega), leavesN_more p n m b (by omega) (by omega)]
theorem nodesN_more (p : Pl3) : ∀ (n m : Nat) (l : Lot5), sizeL l ≤ n → sizeL l ≤ m → nodesN p n l = nodesN p m l
  | 0, m, l, h, _ => by
    cases m with
    | zero => rfl
    | succ m =>
      cases hc : cutL p l with
      | none => simp [nodesN, hc]
      | some x => obtain ⟨a, b⟩ := x; have := cutL_lt hc; omega
  | n + 1, 0, l, _, h => by
    cases hc : cutL p l with
    | none => simp [nodesN, hc]
    | some x => obtain ⟨a, b⟩ := x; have := cutL_lt hc; omega
  | n + 1, m + 1, l, h1, h2 => by
    cases hc : cutL p l with
    | none => simp [nodesN, hc]
    | some x =>
      obtain ⟨a, b⟩ := x
      have := cutL_lt hc
      simp only [nodesN, hc]
      rw [nodesN_more p n m a (by omega) (by omega), nodesN_more p n m b (by omega) (by omega)]
def leaves (p : Pl3) (l : Lot5) : List Lot5 := leavesN p (sizeL l) l
def nodes (p : Pl3) (l : Lot5) : Nat := nodesN p (sizeL l) l
theorem leaves_none {p : Pl3} {l : Lot5} (h : cutL p l = none) : leaves p l = [l] := by
  unfold leaves
  rw [leavesN_more p (sizeL l) (sizeL l + 1) l (by omega) (by omega)]
  simp [leavesN, h]
theorem leaves_some {p : Pl3} {l a b : Lot5} (h : cutL p l = some (a, b)) : leaves p l = leaves p a ++ leaves p b := by
  have := cutL_lt h
  unfold leaves
  rw [leavesN_more p (sizeL l) (sizeL l + 1) l (by omega) (by omega)]
  simp only [leavesN, h]
  rw [leavesN_more p (sizeL l) (sizeL a) a (by omega) (by omega), leavesN_more p (sizeL l) (sizeL b) b (by omega) (by omega)]
theorem nodes_none {p : Pl3} {l : Lot5} (h : cutL p l = none) : nodes p l = 1 := by
  unfold nodes
  rw [nodesN_more p (sizeL l) (sizeL l + 1) l (by omega) (by omega)]
  simp [nodesN, h]
theorem nodes_some {p : Pl3} {l a b : Lot5} (h : cutL p l = some (a, b)) : nodes p l = 1 + nodes p a + nodes p b := by
  have := cutL_lt h
  unfold nodes
  rw [nodesN_more p (sizeL l) (sizeL l + 1) l (by omega) (by omega)]
  simp only [nodesN, h]
  rw [nodesN_more p (sizeL l) (sizeL a) a (by omega) (by omega), nodesN_more p (sizeL l) (sizeL b) b (by omega) (by omega)]
/-- Induction along the cuts. -/
theorem cut_ind {p : Pl3} {P : Lot5 → Prop} (h0 : ∀ l, cutL p l = none → P l) (h1 : ∀ l a b, cutL p l = some (a, b) → P a → P b → P l) : ∀ l, P l := by
  have key : ∀ n l, sizeL l ≤ n → P l := by
    intro n
    induction n with
    | zero =>
      intro l hl
      cases hc : cutL p l with
      | none => exact h0 l hc
      | some x => obtain ⟨a, b⟩ := x; have := cutL_lt hc; omega
    | succ n ih =>
      intro l hl
      cases hc : cutL p l with
      | none => exact h0 l hc
      | some x =>
        obtain ⟨a, b⟩ := x
        have := cutL_lt hc
        exact h1 l a b hc (ih a (by omega)) (ih b (by omega))
  exact fun l => key _ l (Nat.le_refl _)
theorem leaves_ne (p : Pl3) : ∀ l, 1 ≤ (leaves p l).length := cut_ind (p := p) (fun l h => by rw [leaves_none h]; simp) (fun l a b h ha hb => by rw [leaves_some h, List.length_append]; omega)
/-- Lots cut no more. -/
theorem leaves_end (p : Pl3) : ∀ l, ∀ x ∈ leaves p l, cutL p x = none := cut_ind (p := p) (fun l h => by rw [leaves_none h]; intro x hx; rw [List.mem_singleton] at hx; subst hx; exact h)
  (fun l a b h ha hb => by rw [leaves_some h]; intro x hx; rcases List.mem_append.1 hx with hx | hx; exact ha x hx; exact hb x hx)
/-- A lot with parts is good, and so are its lots. -/
theorem leaves_good (p : Pl3) : ∀ l, ∀ x ∈ leaves p l, x = l ∨ goodL p x := cut_ind (p := p) (fun l h => by rw [leaves_none h]; intro x hx; rw [List.mem_singleton] at hx; exact .inl hx)
  (fun l a b h ha hb => by
    obtain ⟨_, h2, h3, _⟩ := cutL_some h
    rw [leaves_some h]
    intro x hx
    rcases List.mem_append.1 hx with hx | hx
    · rcases ha x hx with rfl | hx
      · exact .inr h2
      · exact .inr hx
    · rcases hb x hx with rfl | hx
      · exact .inr h3
      · exact .inr hx)
theorem leaves_valid {p : Pl3} {l : Lot5} (hv : validL l) : ∀ x ∈ leaves p l, validL x := fun x hx => by
  rcases leaves_good p l x hx with rfl | h
  · exact hv
  · exact h.1
/-- The lots have the lot's points. -/
theorem leaves_cover (p : Pl3) (x y : Int) : ∀ l, pmem ((leaves p l).map Lot5.r) x y ↔ rin l.r x y := cut_ind (p := p)
  (fun l h => by rw [leaves_none h]; simp [pmem])
  (fun l a b h ha hb => by
    rw [leaves_some h, List.map_append, pmem_append, ha, hb]
    obtain ⟨h1, h2, h3, _, h4⟩ := cutL_some h
    have q1 := h1.1.1
    have q2 := h2.1.1
    have q3 := h3.1.1
    rcases h4 with h4 | h4 <;>
    · simp only [wideL, highL, Prod.mk.injEq] at h4
      obtain ⟨rfl, rfl⟩ := h4
      simp only [rin, okR] at q1 q2 q3 ⊢
      generalize l.w / 2 = t at *
      generalize l.h / 2 = t2 at *
      omega)
def areaL (l : Lot5) : Int := l.w * l.h
theorem leaves_area (p : Pl3) : ∀ l, ((leaves p l).map areaL).sum = areaL l := cut_ind (p := p)
  (fun l h => by rw [leaves_none h]; simp)
  (fun l a b h ha hb => by
    rw [leaves_some h, List.map_append, List.sum_append, ha, hb]
    obtain ⟨_, _, _, _, h4⟩ := cutL_some h
    rcases h4 with h4 | h4
    · simp only [wideL, Prod.mk.injEq] at h4
      obtain ⟨rfl, rfl⟩ := h4
      simp only [areaL, Lot5.w, Lot5.h]
      rw [← Int.add_mul]
      congr 1
      omega
    · simp only [highL, Prod.mk.injEq] at h4
      obtain ⟨rfl, rfl⟩ := h4
      simp only [areaL, Lot5.w, Lot5.h]
      rw [← Int.mul_add]
      congr 1
      omega)
/-- The lots lie within the lot. -/
theorem leaves_in (p : Pl3) : ∀ l, validL l → ∀ x ∈ leaves p l, l.r.x0 ≤ x.r.x0 ∧ l.r.y0 ≤ x.r.y0 ∧ x.r.x1 ≤ l.r.x1 ∧ x.r.y1 ≤ l.r.y1 := cut_ind (p := p)
  (fun l h _ => by rw [leaves_none h]; intro x hx; rw [List.mem_singleton] at hx; subst hx; omega)
  (fun l a b h ha hb hv => by
    obtain ⟨_, h2, h3, _, h4⟩ := cutL_some h
    have q1 := hv.1
    have q2 := h2.1.1
    have q3 := h3.1.1
    rw [leaves_some h]
    intro x hx
    have e : a.r.x0 = l.r.x0 ∧ a.r.y0 = l.r.y0 ∧ a.r.x1 ≤ l.r.x1 ∧ a.r.y1 ≤ l.r.y1 ∧ l.r.x0 ≤ b.r.x0 ∧ l.r.y0 ≤ b.r.y0 ∧ b.r.x1 = l.r.x1 ∧ b.r.y1 = l.r.y1 := by
      rcases h4 with h4 | h4 <;>
      · simp only [wideL, highL, Prod.mk.injEq] at h4
        obtain ⟨rfl, rfl⟩ := h4
        simp only [okR] at q1 q2 q3
        dsimp only
        generalize l.w / 2 = t at *
        generalize l.h / 2 = t2 at *
        omega
    rcases List.mem_append.1 hx with hx | hx
    · have := ha h2.1 x hx; omega
    · have := hb h3.1 x hx; omega)
end Go.Proofs.Yteojjihgmmecpaa
