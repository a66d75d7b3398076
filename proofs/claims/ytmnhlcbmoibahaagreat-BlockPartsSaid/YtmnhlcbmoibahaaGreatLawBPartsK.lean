/- BlockParts' walk: parts and loops of networks that are moved or grow. -/
import Derived.Test.YtmnhlcbmoibahaaGreatPk13
import Derived.Test.YtmnhlcbmoibahaaGreatPk5
namespace Go.Proofs.YtmnhlcbmoibahaaGreat
open Go.RowKit
set_option linter.unusedVariables false
set_option linter.unusedSimpArgs false

set_option maxRecDepth 100000 in
set_option maxHeartbeats 8000000 in
theorem bparts_main {w : World} {b0 o0 c : Nat} {l : List Sg} (hr : RdK encSg 4 w w.heap.size (.slice (some ⟨b0, o0, none⟩) l.length c) l) (hcap : l.length ≤ c) (x y : Int) (hv : val35 l = true) (hne : l.length ≠ 0) (hx : -100 ≤ x ∧ x ≤ 100) (hy : -100 ≤ y ∧ y ≤ 100) :
    Calls Tryz.prog 7 #[.slice (some ⟨b0, o0, none⟩) l.length c, .int .i64 x, .int .i64 y] w fun e w' => e = .returned (.bool true) ∧ Below w.heap.size w w' := by
  have nl : l.length ≤ maxLen := by have := (val35_ok hv).2; unfold maxLen; omega
  have HL := hide hr
  have HV := hide (valid35_any hr nl)
  obtain ⟨A1, c1, hsl, hc⟩ := hr
  injection hsl with e1 _ e3
  subst e1
  subst e3
  have HRC := hide hc
  have HL12 := hide (val35_ok hv).2
  have HNR := hide (val35_ok hv).1
  clear hc
  rw [hv] at HV
  have hlz : ((l.length : Int) == 0) = false := by simpa using hne
  have z1 : decide (x < -100) = false := decide_eq_false (by omega)
  have z2 : decide (100 < x) = false := decide_eq_false (by omega)
  have z3 : decide (y < -100) = false := decide_eq_false (by omega)
  have z4 : decide (100 < y) = false := decide_eq_false (by omega)
  have hl12 := HL12.out
  obtain ⟨i2, fi, fz0, fz1, fz2⟩ := info_parts infoSg
  go_enter Tryz.func7, Tryz.ntmps7
  go_wp2_with (fail)
  refine HV.out.mono ?_
  rintro e w1 ⟨rfl, hb1⟩
  have HB1 := hide hb1
  clear hb1 hv nl
  go_wp2
  go_loopw [7, 8] (fun o i wr => ∃ (m : Nat) (Ao : Option Addr) (co : Nat), m ≤ l.length ∧ i = .int .i64 (m : Int) ∧ o = .slice Ao m co ∧ Hid (Below w.heap.size w wr) ∧ Hid (wr.ownsRow w.heap.size 59 4 (.slice Ao m co) m ((firstSg (mvSg x y) l m).flatMap encSg))) (fun _ i _ => l.length - (intOf i).toNat)
  case atStart => exact ⟨0, none, 0, Nat.zero_le _, rfl, rfl, HB1, hide (World.ownsRow_nil _ _ _ _)⟩
  case round =>
    clear HB1
    obtain ⟨m, Ao, co, hm, rfl, rfl, HB, HO⟩ := hrel
    by_cases hlt : m < l.length
    · have mz : (m : Int) < (l.length : Int) := by omega
      obtain ⟨s, hs⟩ : ∃ p, l[m]? = some p := ⟨_, List.getElem?_eq_getElem hlt⟩
      obtain ⟨b, o, hA, hbl, k⟩ := HRC.out (by intro e; rw [e] at hlt; simp at hlt)
      injection hA with hA
      injection hA with eb eo
      subst eb
      subst eo
      have hb := HB.out
      have d0 : wr.cell? ⟨b0, o0 + m * 4, none⟩ = some (.int .i64 s.ax) := (hb.cell (p := ⟨b0, _, none⟩) hbl).trans (k m _ hs 0 _ rfl)
      have d1 : wr.cell? ⟨b0, o0 + m * 4 + 1, none⟩ = some (.int .i64 s.ay) := (hb.cell (p := ⟨b0, _, none⟩) hbl).trans (k m _ hs 1 _ rfl)
      have d2 : wr.cell? ⟨b0, o0 + m * 4 + 2, none⟩ = some (.int .i64 s.cx) := (hb.cell (p := ⟨b0, _, none⟩) hbl).trans (k m _ hs 2 _ rfl)
      have d3 : wr.cell? ⟨b0, o0 + m * 4 + 3, none⟩ = some (.int .i64 s.cy) := (hb.cell (p := ⟨b0, _, none⟩) hbl).trans (k m _ hs 3 _ rfl)
      have hbw : b0 < wr.heap.size := Nat.lt_of_lt_of_le hbl hb.size
      have HS := hide hs
      have HNS := hide (HNR.out s (List.mem_of_getElem? hs))
      have hl12 := HL12.out
      clear k hs hb
      go_upto_region 7 with fail
      go_cut [9, 10] (fun s9 s10 wx => ∃ g h, s9 = .pointer (some ⟨g, 0, none⟩) ∧ s10 = .pointer (some ⟨h, 0, none⟩) ∧ Hid (Below wr.heap.size wr wx) ∧ Hid ((wx.cell? ⟨g, 0, none⟩ = some (.int .i64 s.ax) ∧ wx.cell? ⟨g, 1, none⟩ = some (.int .i64 s.ay)) ∧ (wx.cell? ⟨h, 0, none⟩ = some (.int .i64 s.cx) ∧ wx.cell? ⟨h, 1, none⟩ = some (.int .i64 s.cy)) ∧ g < wx.heap.size ∧ h < wx.heap.size))
      case first =>
        go_region_held3 (fun w' => (w'.cell? ⟨b0, o0 + m * 4, none⟩ = some (.int .i64 s.ax) ∧ w'.cell? ⟨b0, o0 + m * 4 + 1, none⟩ = some (.int .i64 s.ay)) ∧ (w'.cell? ⟨b0, o0 + m * 4 + 2, none⟩ = some (.int .i64 s.cx) ∧ w'.cell? ⟨b0, o0 + m * 4 + 3, none⟩ = some (.int .i64 s.cy))) (go_keep) (fail)
        all_goals (go_wp2_with (fail); go_meet)
        all_goals
          refine ⟨_, _, rfl, rfl, hide ?_, hide ⟨⟨by simp [go_sem], by simp [go_sem]⟩, ⟨by simp [go_sem], by simp [go_sem]⟩, by simp <;> omega, by simp <;> omega⟩⟩
          repeat (first | with_reducible exact Below.refl _ _ | with_reducible refine Below.drew ?_ | with_reducible refine Below.setCell ?_ (by first | (simp; done) | (simp; omega)) _ | with_reducible refine Below.alloc ?_ (by first | omega | (simp; omega) | simp) _)
      case rest =>
        obtain ⟨g, h, rfl, rfl, HBC, HC⟩ := hcut
        obtain ⟨⟨p0, p1⟩, ⟨p2, p3⟩, hg, hh⟩ := HC.out
        obtain ⟨-, ⟨q0, q1⟩, ⟨q2, q3⟩, ⟨q4, q5⟩, q6, q7⟩ := HNS.out
        have HB2 := hide (HB.out.trans (HBC.out.mono HB.out.size))
        have HO2 := hide (HO.out.kept (below_grow HBC.out) own_none_or)
        have hwz : w.heap.size ≤ wc.heap.size := HB2.out.size
        clear HBC HC HB HO d0 d1 d2 d3 hbw hbl
        go_wp2_with (at_builtin; go_loud (refine wpList_append_lies _ rfl (.tmp 69) (.tmp 89) 60 rfl w.heap.size 59 i2 (.agg #[.int .i64 0, .int .i64 0, .int .i64 0, .int .i64 0]) 4 32 Tryz.underlying60 fi fz0 fz1 fz2 rfl (by decide) _ m _ rfl (World.ownsRow.alloc HO2.out _) ⟨wc.heap.size, 0, none⟩ 1 1 [.int .i64 (s.ax + x), .int .i64 (s.ay + y), .int .i64 (s.cx + x), .int .i64 (s.cy + y)] rfl rfl (news_new wc _ _ _ (by simp)) (ints_one rfl) (by omega) (by unfold maxLen; omega) (by omega) (by simp; omega) _ rfl ?_))
        intro g9 cap9 w9 hown9 hgrow9 hor9 hlt9
        have hal : Below wc.heap.size wc (wc.alloc (.cells #[.int .i64 (s.ax + x), .int .i64 (s.ay + y), .int .i64 (s.cx + x), .int .i64 (s.cy + y)] 59)) := (Below.refl _ _).alloc (Nat.le_refl _) _
        have ho' : ∀ q, (Value.slice Ao m co).ownBlock = some q → w.heap.size ≤ q := fun q hq => (HO2.out.lt q hq).1
        have HB9 : Hid (Below w.heap.size w w9) := hide ((HB2.out.trans (hal.mono HB2.out.size)).grown hgrow9 (by have := HB2.out.size; simp; omega) (fun q hq => ho' q hq))
        have hx9 : (firstSg (mvSg x y) l m).flatMap encSg ++ [.int .i64 (s.ax + x), .int .i64 (s.ay + y), .int .i64 (s.cx + x), .int .i64 (s.cy + y)] = (firstSg (mvSg x y) l (m + 1)).flatMap encSg := by
          rw [firstSg_succ HS.out, List.flatMap_append]
          simp [encSg, mvSg]
        rw [hx9] at hown9
        have HO9 := hide hown9
        clear hown9 hgrow9 hor9 hlt9 hal ho' hx9 p0 p1 p2 p3 hg hh HB2 HO2
        go_wp2
        go_roundw
        case rel => exact ⟨m + 1, _, cap9, by omega, by go_num, rfl, HB9, HO9⟩
        case measure => simp [intOf]; omega
    · obtain rfl : m = l.length := by omega
      have mz : ¬ (l.length : Int) < (l.length : Int) := by omega
      obtain ⟨s, t, rfl⟩ : ∃ s t, l = s :: t := by
        cases l with
        | nil => exact absurd rfl hne
        | cons s t => exact ⟨s, t, rfl⟩
      have HOK := hide (near_ok HNR.out)
      have HMO : Hid (∀ q ∈ (s :: t).map (mvSg x y), okSg q) := hide (fun q hq => by
        obtain ⟨r, hr, rfl⟩ := List.mem_map.1 hq
        exact near_mv (HNR.out r hr) hx hy)
      have HTO : Hid (∀ q ∈ t, okSg q) := hide (fun q hq => HOK.out q (by simp [hq]))
      have HMV := hide (show RdK encSg 4 wr wr.heap.size (.slice Ao (s :: t).length co) ((s :: t).map (mvSg x y)) from by
        have h := HO.out
        rw [firstSg_all] at h
        have e : ((s :: t).map (mvSg x y)).length = (s :: t).length := List.length_map _
        rw [← e] at h ⊢
        exact own_rd h (fun _ => rfl))
      have HLL := hide ((HL.out.below HB.out).mono HB.out.size)
      have htl : t.length ≤ 12 := by have := HL12.out; simp only [List.length_cons] at this; omega
      have hml : ((s :: t).map (mvSg x y)).length ≤ 12 := by rw [List.length_map]; exact HL12.out
      have HTL := hide (And.intro htl hml)
      have HPM := hide (parts_more (HOK.out s (by simp)) HTO.out)
      have HPV := hide (parts_mv HOK.out HMO.out)
      have HLV := hide (lop_mv HOK.out HMO.out)
      have HPG := hide (parts_ge HOK.out)
      have HLN := hide (lop_nn (s :: t))
      have HCB : Hid (partsN t ≤ 168) := hide (Nat.le_trans (parts_bd _ _).2 (few35 HTO.out htl))
      have HAB : Hid (partsN (s :: t) ≤ 168) := hide (Nat.le_trans (parts_bd _ _).2 (few35 HOK.out HL12.out))
      have hcs : t.length + 1 ≤ c := by simpa using hcap
      simp only [List.length_cons] at HMV HLL hlz hl12 ⊢
      clear HO HL htl hml hne hlt HRC HNR hcap hl12 hm mz
      go_wp2_with (fail)
      refine (make35_any HLL.out HOK.out HL12.out).mono ?_
      rintro e v1 ⟨⟨n1, e1, rfl, hn, he⟩, hb⟩
      replace HB := hide (HB.out.trans (hb.mono HB.out.size))
      replace HMV := hide ((HMV.out.below hb).mono hb.size)
      replace HLL := hide ((HLL.out.below hb).mono hb.size)
      have HN1 := hide hn
      have HE1 := hide he
      obtain ⟨An1, cn1, rfl, -⟩ := hn
      obtain ⟨Ae1, ce1, rfl, -⟩ := he
      clear hb
      go_wp2_with (fail)
      refine calls_nm fun v2 hZ => ?_
      have hbz : Below v1.heap.size v1 v2 := by
        rw [hZ]
        exact (Below.refl _ _).alloc (Nat.le_refl _) _
      have X1 : Hid (NetAt v1.heap.size (.slice An1 (nodesF (s :: t)).length cn1) (.slice Ae1 (edI (edgesF (s :: t))).length ce1) v2) := hide (by rw [hZ]; exact ⟨by simp, by simp [go_sem], by simp [go_sem]⟩)
      obtain ⟨g1, hg1⟩ : ∃ g, v1.heap.size = g := ⟨_, rfl⟩
      rw [hg1] at X1 ⊢
      replace HB := hide (HB.out.trans (hbz.mono HB.out.size))
      replace HMV := hide ((HMV.out.below hbz).mono hbz.size)
      replace HLL := hide ((HLL.out.below hbz).mono hbz.size)
      replace HN1 := hide ((HN1.out.below hbz).mono hbz.size)
      replace HE1 := hide ((HE1.out.below hbz).mono hbz.size)
      clear hZ hbz hg1
      refine (make35_any HMV.out HMO.out HTL.out.2).mono ?_
      rintro e v3 ⟨⟨n2, e2, rfl, hn, he⟩, hb⟩
      replace HB := hide (HB.out.trans (hb.mono HB.out.size))
      replace HMV := hide ((HMV.out.below hb).mono hb.size)
      replace HLL := hide ((HLL.out.below hb).mono hb.size)
      replace HN1 := hide ((HN1.out.below hb).mono hb.size)
      replace HE1 := hide ((HE1.out.below hb).mono hb.size)
      replace X1 := hide (X1.out.keep hb)
      have HN2 := hide hn
      have HE2 := hide he
      obtain ⟨An2, cn2, rfl, -⟩ := hn
      obtain ⟨Ae2, ce2, rfl, -⟩ := he
      clear hb
      by_cases hc1 : c = 1
      · subst hc1
        obtain rfl : t = [] := List.eq_nil_of_length_eq_zero (by omega)
        have HT3 := hide (show RdK encSg 4 v3 v3.heap.size (.slice (some ⟨b0, o0, none⟩) 0 0) ([] : List Sg) from RdK.nil _ _)
        go_wp2_with (fail)
        refine calls_nm fun v4 hZ => ?_
        have hbz : Below v3.heap.size v3 v4 := by
          rw [hZ]
          exact (Below.refl _ _).alloc (Nat.le_refl _) _
        have X2 : Hid (NetAt v3.heap.size (.slice An2 (nodesF ((s :: ([] : List Sg)).map (mvSg x y))).length cn2) (.slice Ae2 (edI (edgesF ((s :: ([] : List Sg)).map (mvSg x y)))).length ce2) v4) := hide (by rw [hZ]; exact ⟨by simp, by simp [go_sem], by simp [go_sem]⟩)
        obtain ⟨g2, hg2⟩ : ∃ g, v3.heap.size = g := ⟨_, rfl⟩
        rw [hg2] at X2 ⊢
        replace HB := hide (HB.out.trans (hbz.mono HB.out.size))
        replace HMV := hide ((HMV.out.below hbz).mono hbz.size)
        replace HLL := hide ((HLL.out.below hbz).mono hbz.size)
        replace HN1 := hide ((HN1.out.below hbz).mono hbz.size)
        replace HE1 := hide ((HE1.out.below hbz).mono hbz.size)
        replace HN2 := hide ((HN2.out.below hbz).mono hbz.size)
        replace HE2 := hide ((HE2.out.below hbz).mono hbz.size)
        replace HT3 := hide ((HT3.out.below hbz).mono hbz.size)
        replace X1 := hide (X1.out.keep hbz)
        clear hZ hbz hg2
        refine (make35_any HT3.out HTO.out HTL.out.1).mono ?_
        rintro e v5 ⟨⟨n3, e3, rfl, hn, he⟩, hb⟩
        replace HB := hide (HB.out.trans (hb.mono HB.out.size))
        replace HMV := hide ((HMV.out.below hb).mono hb.size)
        replace HLL := hide ((HLL.out.below hb).mono hb.size)
        replace HN1 := hide ((HN1.out.below hb).mono hb.size)
        replace HE1 := hide ((HE1.out.below hb).mono hb.size)
        replace HN2 := hide ((HN2.out.below hb).mono hb.size)
        replace HE2 := hide ((HE2.out.below hb).mono hb.size)
        replace HT3 := hide ((HT3.out.below hb).mono hb.size)
        replace X1 := hide (X1.out.keep hb)
        replace X2 := hide (X2.out.keep hb)
        have HN3 := hide hn
        have HE3 := hide he
        obtain ⟨An3, cn3, rfl, -⟩ := hn
        obtain ⟨Ae3, ce3, rfl, -⟩ := he
        clear hb
        obtain ⟨l1, f1, k1⟩ := X1.out
        obtain ⟨l2, f2, k2⟩ := X2.out
        go_wp2_with (fail)
        refine calls_nm fun v6 hZ => ?_
        have hbz : Below v5.heap.size v5 v6 := by
          rw [hZ]
          exact (Below.refl _ _).alloc (Nat.le_refl _) _
        have X3 : Hid (NetAt v5.heap.size (.slice An3 (nodesF ([] : List Sg)).length cn3) (.slice Ae3 (edI (edgesF ([] : List Sg))).length ce3) v6) := hide (by rw [hZ]; exact ⟨by simp, by simp [go_sem], by simp [go_sem]⟩)
        obtain ⟨g3, hg3⟩ : ∃ g, v5.heap.size = g := ⟨_, rfl⟩
        rw [hg3] at X3 ⊢
        clear l1 f1 k1 l2 f2 k2
        replace HB := hide (HB.out.trans (hbz.mono HB.out.size))
        replace HMV := hide ((HMV.out.below hbz).mono hbz.size)
        replace HLL := hide ((HLL.out.below hbz).mono hbz.size)
        replace HN1 := hide ((HN1.out.below hbz).mono hbz.size)
        replace HE1 := hide ((HE1.out.below hbz).mono hbz.size)
        replace HN2 := hide ((HN2.out.below hbz).mono hbz.size)
        replace HE2 := hide ((HE2.out.below hbz).mono hbz.size)
        replace HT3 := hide ((HT3.out.below hbz).mono hbz.size)
        replace HN3 := hide ((HN3.out.below hbz).mono hbz.size)
        replace HE3 := hide ((HE3.out.below hbz).mono hbz.size)
        replace X1 := hide (X1.out.keep hbz)
        replace X2 := hide (X2.out.keep hbz)
        clear hZ hbz hg3
        clear HMV HLL HT3
        have G := parts_made HOK.out HL12.out HN1.out HE1.out
        refine G.mono ?_
        rintro e v7 ⟨rfl, hb⟩
        clear G
        replace HB := hide (HB.out.trans (hb.mono HB.out.size))
        replace HN1 := hide ((HN1.out.below hb).mono hb.size)
        replace HE1 := hide ((HE1.out.below hb).mono hb.size)
        replace HN2 := hide ((HN2.out.below hb).mono hb.size)
        replace HE2 := hide ((HE2.out.below hb).mono hb.size)
        replace HN3 := hide ((HN3.out.below hb).mono hb.size)
        replace HE3 := hide ((HE3.out.below hb).mono hb.size)
        replace X1 := hide (X1.out.keep hb)
        replace X2 := hide (X2.out.keep hb)
        replace X3 := hide (X3.out.keep hb)
        clear hb
        have G := parts_made HMO.out HTL.out.2 HN2.out HE2.out
        rw [HPV.out] at G
        obtain ⟨l1, f1, k1⟩ := X1.out
        obtain ⟨l2, f2, k2⟩ := X2.out
        obtain ⟨l3, f3, k3⟩ := X3.out
        go_wp2_with (fail)
        refine G.mono ?_
        rintro e v8 ⟨rfl, hb⟩
        clear G
        clear l1 f1 k1 l2 f2 k2 l3 f3 k3
        replace HB := hide (HB.out.trans (hb.mono HB.out.size))
        replace HN1 := hide ((HN1.out.below hb).mono hb.size)
        replace HE1 := hide ((HE1.out.below hb).mono hb.size)
        replace HN2 := hide ((HN2.out.below hb).mono hb.size)
        replace HE2 := hide ((HE2.out.below hb).mono hb.size)
        replace HN3 := hide ((HN3.out.below hb).mono hb.size)
        replace HE3 := hide ((HE3.out.below hb).mono hb.size)
        replace X1 := hide (X1.out.keep hb)
        replace X2 := hide (X2.out.keep hb)
        replace X3 := hide (X3.out.keep hb)
        clear hb
        have G := parts_made HTO.out HTL.out.1 HN3.out HE3.out
        obtain ⟨l1, f1, k1⟩ := X1.out
        obtain ⟨l2, f2, k2⟩ := X2.out
        obtain ⟨l3, f3, k3⟩ := X3.out
        go_wp2_with (fail)
        refine G.mono ?_
        rintro e v9 ⟨rfl, hb⟩
        clear G
        clear l1 f1 k1 l2 f2 k2 l3 f3 k3
        replace HB := hide (HB.out.trans (hb.mono HB.out.size))
        replace HN1 := hide ((HN1.out.below hb).mono hb.size)
        replace HE1 := hide ((HE1.out.below hb).mono hb.size)
        replace HN2 := hide ((HN2.out.below hb).mono hb.size)
        replace HE2 := hide ((HE2.out.below hb).mono hb.size)
        replace HN3 := hide ((HN3.out.below hb).mono hb.size)
        replace HE3 := hide ((HE3.out.below hb).mono hb.size)
        replace X1 := hide (X1.out.keep hb)
        replace X2 := hide (X2.out.keep hb)
        replace X3 := hide (X3.out.keep hb)
        clear hb
        have G := loops_made HOK.out HL12.out HN1.out HE1.out
        obtain ⟨l1, f1, k1⟩ := X1.out
        obtain ⟨l2, f2, k2⟩ := X2.out
        obtain ⟨l3, f3, k3⟩ := X3.out
        go_wp2_with (fail)
        refine G.mono ?_
        rintro e v10 ⟨rfl, hb⟩
        clear G
        clear l1 f1 k1 l2 f2 k2 l3 f3 k3
        replace HB := hide (HB.out.trans (hb.mono HB.out.size))
        replace HN1 := hide ((HN1.out.below hb).mono hb.size)
        replace HE1 := hide ((HE1.out.below hb).mono hb.size)
        replace HN2 := hide ((HN2.out.below hb).mono hb.size)
        replace HE2 := hide ((HE2.out.below hb).mono hb.size)
        replace HN3 := hide ((HN3.out.below hb).mono hb.size)
        replace HE3 := hide ((HE3.out.below hb).mono hb.size)
        replace X1 := hide (X1.out.keep hb)
        replace X2 := hide (X2.out.keep hb)
        replace X3 := hide (X3.out.keep hb)
        clear hb
        have G := loops_made HMO.out HTL.out.2 HN2.out HE2.out
        rw [HLV.out] at G
        obtain ⟨l1, f1, k1⟩ := X1.out
        obtain ⟨l2, f2, k2⟩ := X2.out
        obtain ⟨l3, f3, k3⟩ := X3.out
        go_wp2_with (fail)
        refine G.mono ?_
        rintro e v11 ⟨rfl, hb⟩
        clear G
        clear l1 f1 k1 l2 f2 k2 l3 f3 k3
        replace HB := hide (HB.out.trans (hb.mono HB.out.size))
        replace HN1 := hide ((HN1.out.below hb).mono hb.size)
        replace HE1 := hide ((HE1.out.below hb).mono hb.size)
        replace HN2 := hide ((HN2.out.below hb).mono hb.size)
        replace HE2 := hide ((HE2.out.below hb).mono hb.size)
        replace HN3 := hide ((HN3.out.below hb).mono hb.size)
        replace HE3 := hide ((HE3.out.below hb).mono hb.size)
        replace X1 := hide (X1.out.keep hb)
        replace X2 := hide (X2.out.keep hb)
        replace X3 := hide (X3.out.keep hb)
        clear hb
        have hpm := HPM.out
        have hpg := HPG.out
        have hln := HLN.out
        have hcb := HCB.out
        have hab := HAB.out
        clear HPM HPV HLV HPG HLN HCB HAB HN1 HE1 HN2 HE2 HN3 HE3 X1 X2 X3
        generalize partsN (s :: ([] : List Sg)) = pa at *
        generalize partsN ([] : List Sg) = pc at *
        generalize lopN (s :: ([] : List Sg)) = lp at *
        have y1 : decide ((pa : Int) ≤ (pc : Int) + 1) = true := decide_eq_true (by omega)
        have y2 : decide ((1 : Int) ≤ (pa : Int)) = true := decide_eq_true (by omega)
        have y3 : decide (0 ≤ lp) = true := decide_eq_true hln
        go_wp2_with (fail)
        refine (alive35_any _).mono ?_
        rintro e v12 ⟨rfl, hb⟩
        replace HB := hide (HB.out.trans (hb.mono HB.out.size))
        clear hb
        go_wp2_with (fail)
        go_ret
        exact ⟨rfl, HB.out⟩
      · have HT3 := hide (rd_tail (c' := c - 1) HLL.out)
        go_wp2_with (fail)
        refine calls_nm fun v4 hZ => ?_
        have hbz : Below v3.heap.size v3 v4 := by
          rw [hZ]
          exact (Below.refl _ _).alloc (Nat.le_refl _) _
        have X2 : Hid (NetAt v3.heap.size (.slice An2 (nodesF ((s :: t).map (mvSg x y))).length cn2) (.slice Ae2 (edI (edgesF ((s :: t).map (mvSg x y)))).length ce2) v4) := hide (by rw [hZ]; exact ⟨by simp, by simp [go_sem], by simp [go_sem]⟩)
        obtain ⟨g2, hg2⟩ : ∃ g, v3.heap.size = g := ⟨_, rfl⟩
        rw [hg2] at X2 ⊢
        replace HB := hide (HB.out.trans (hbz.mono HB.out.size))
        replace HMV := hide ((HMV.out.below hbz).mono hbz.size)
        replace HLL := hide ((HLL.out.below hbz).mono hbz.size)
        replace HN1 := hide ((HN1.out.below hbz).mono hbz.size)
        replace HE1 := hide ((HE1.out.below hbz).mono hbz.size)
        replace HN2 := hide ((HN2.out.below hbz).mono hbz.size)
        replace HE2 := hide ((HE2.out.below hbz).mono hbz.size)
        replace HT3 := hide ((HT3.out.below hbz).mono hbz.size)
        replace X1 := hide (X1.out.keep hbz)
        clear hZ hbz hg2
        refine (make35_any HT3.out HTO.out HTL.out.1).mono ?_
        rintro e v5 ⟨⟨n3, e3, rfl, hn, he⟩, hb⟩
        replace HB := hide (HB.out.trans (hb.mono HB.out.size))
        replace HMV := hide ((HMV.out.below hb).mono hb.size)
        replace HLL := hide ((HLL.out.below hb).mono hb.size)
        replace HN1 := hide ((HN1.out.below hb).mono hb.size)
        replace HE1 := hide ((HE1.out.below hb).mono hb.size)
        replace HN2 := hide ((HN2.out.below hb).mono hb.size)
        replace HE2 := hide ((HE2.out.below hb).mono hb.size)
        replace HT3 := hide ((HT3.out.below hb).mono hb.size)
        replace X1 := hide (X1.out.keep hb)
        replace X2 := hide (X2.out.keep hb)
        have HN3 := hide hn
        have HE3 := hide he
        obtain ⟨An3, cn3, rfl, -⟩ := hn
        obtain ⟨Ae3, ce3, rfl, -⟩ := he
        clear hb
        obtain ⟨l1, f1, k1⟩ := X1.out
        obtain ⟨l2, f2, k2⟩ := X2.out
        go_wp2_with (fail)
        refine calls_nm fun v6 hZ => ?_
        have hbz : Below v5.heap.size v5 v6 := by
          rw [hZ]
          exact (Below.refl _ _).alloc (Nat.le_refl _) _
        have X3 : Hid (NetAt v5.heap.size (.slice An3 (nodesF t).length cn3) (.slice Ae3 (edI (edgesF t)).length ce3) v6) := hide (by rw [hZ]; exact ⟨by simp, by simp [go_sem], by simp [go_sem]⟩)
        obtain ⟨g3, hg3⟩ : ∃ g, v5.heap.size = g := ⟨_, rfl⟩
        rw [hg3] at X3 ⊢
        clear l1 f1 k1 l2 f2 k2
        replace HB := hide (HB.out.trans (hbz.mono HB.out.size))
        replace HMV := hide ((HMV.out.below hbz).mono hbz.size)
        replace HLL := hide ((HLL.out.below hbz).mono hbz.size)
        replace HN1 := hide ((HN1.out.below hbz).mono hbz.size)
        replace HE1 := hide ((HE1.out.below hbz).mono hbz.size)
        replace HN2 := hide ((HN2.out.below hbz).mono hbz.size)
        replace HE2 := hide ((HE2.out.below hbz).mono hbz.size)
        replace HT3 := hide ((HT3.out.below hbz).mono hbz.size)
        replace HN3 := hide ((HN3.out.below hbz).mono hbz.size)
        replace HE3 := hide ((HE3.out.below hbz).mono hbz.size)
        replace X1 := hide (X1.out.keep hbz)
        replace X2 := hide (X2.out.keep hbz)
        clear hZ hbz hg3
        clear HMV HLL HT3
        have G := parts_made HOK.out HL12.out HN1.out HE1.out
        refine G.mono ?_
        rintro e v7 ⟨rfl, hb⟩
        clear G
        replace HB := hide (HB.out.trans (hb.mono HB.out.size))
        replace HN1 := hide ((HN1.out.below hb).mono hb.size)
        replace HE1 := hide ((HE1.out.below hb).mono hb.size)
        replace HN2 := hide ((HN2.out.below hb).mono hb.size)
        replace HE2 := hide ((HE2.out.below hb).mono hb.size)
        replace HN3 := hide ((HN3.out.below hb).mono hb.size)
        replace HE3 := hide ((HE3.out.below hb).mono hb.size)
        replace X1 := hide (X1.out.keep hb)
        replace X2 := hide (X2.out.keep hb)
        replace X3 := hide (X3.out.keep hb)
        clear hb
        have G := parts_made HMO.out HTL.out.2 HN2.out HE2.out
        rw [HPV.out] at G
        obtain ⟨l1, f1, k1⟩ := X1.out
        obtain ⟨l2, f2, k2⟩ := X2.out
        obtain ⟨l3, f3, k3⟩ := X3.out
        go_wp2_with (fail)
        refine G.mono ?_
        rintro e v8 ⟨rfl, hb⟩
        clear G
        clear l1 f1 k1 l2 f2 k2 l3 f3 k3
        replace HB := hide (HB.out.trans (hb.mono HB.out.size))
        replace HN1 := hide ((HN1.out.below hb).mono hb.size)
        replace HE1 := hide ((HE1.out.below hb).mono hb.size)
        replace HN2 := hide ((HN2.out.below hb).mono hb.size)
        replace HE2 := hide ((HE2.out.below hb).mono hb.size)
        replace HN3 := hide ((HN3.out.below hb).mono hb.size)
        replace HE3 := hide ((HE3.out.below hb).mono hb.size)
        replace X1 := hide (X1.out.keep hb)
        replace X2 := hide (X2.out.keep hb)
        replace X3 := hide (X3.out.keep hb)
        clear hb
        have G := parts_made HTO.out HTL.out.1 HN3.out HE3.out
        obtain ⟨l1, f1, k1⟩ := X1.out
        obtain ⟨l2, f2, k2⟩ := X2.out
        obtain ⟨l3, f3, k3⟩ := X3.out
        go_wp2_with (fail)
        refine G.mono ?_
        rintro e v9 ⟨rfl, hb⟩
        clear G
        clear l1 f1 k1 l2 f2 k2 l3 f3 k3
        replace HB := hide (HB.out.trans (hb.mono HB.out.size))
        replace HN1 := hide ((HN1.out.below hb).mono hb.size)
        replace HE1 := hide ((HE1.out.below hb).mono hb.size)
        replace HN2 := hide ((HN2.out.below hb).mono hb.size)
        replace HE2 := hide ((HE2.out.below hb).mono hb.size)
        replace HN3 := hide ((HN3.out.below hb).mono hb.size)
        replace HE3 := hide ((HE3.out.below hb).mono hb.size)
        replace X1 := hide (X1.out.keep hb)
        replace X2 := hide (X2.out.keep hb)
        replace X3 := hide (X3.out.keep hb)
        clear hb
        have G := loops_made HOK.out HL12.out HN1.out HE1.out
        obtain ⟨l1, f1, k1⟩ := X1.out
        obtain ⟨l2, f2, k2⟩ := X2.out
        obtain ⟨l3, f3, k3⟩ := X3.out
        go_wp2_with (fail)
        refine G.mono ?_
        rintro e v10 ⟨rfl, hb⟩
        clear G
        clear l1 f1 k1 l2 f2 k2 l3 f3 k3
        replace HB := hide (HB.out.trans (hb.mono HB.out.size))
        replace HN1 := hide ((HN1.out.below hb).mono hb.size)
        replace HE1 := hide ((HE1.out.below hb).mono hb.size)
        replace HN2 := hide ((HN2.out.below hb).mono hb.size)
        replace HE2 := hide ((HE2.out.below hb).mono hb.size)
        replace HN3 := hide ((HN3.out.below hb).mono hb.size)
        replace HE3 := hide ((HE3.out.below hb).mono hb.size)
        replace X1 := hide (X1.out.keep hb)
        replace X2 := hide (X2.out.keep hb)
        replace X3 := hide (X3.out.keep hb)
        clear hb
        have G := loops_made HMO.out HTL.out.2 HN2.out HE2.out
        rw [HLV.out] at G
        obtain ⟨l1, f1, k1⟩ := X1.out
        obtain ⟨l2, f2, k2⟩ := X2.out
        obtain ⟨l3, f3, k3⟩ := X3.out
        go_wp2_with (fail)
        refine G.mono ?_
        rintro e v11 ⟨rfl, hb⟩
        clear G
        clear l1 f1 k1 l2 f2 k2 l3 f3 k3
        replace HB := hide (HB.out.trans (hb.mono HB.out.size))
        replace HN1 := hide ((HN1.out.below hb).mono hb.size)
        replace HE1 := hide ((HE1.out.below hb).mono hb.size)
        replace HN2 := hide ((HN2.out.below hb).mono hb.size)
        replace HE2 := hide ((HE2.out.below hb).mono hb.size)
        replace HN3 := hide ((HN3.out.below hb).mono hb.size)
        replace HE3 := hide ((HE3.out.below hb).mono hb.size)
        replace X1 := hide (X1.out.keep hb)
        replace X2 := hide (X2.out.keep hb)
        replace X3 := hide (X3.out.keep hb)
        clear hb
        have hpm := HPM.out
        have hpg := HPG.out
        have hln := HLN.out
        have hcb := HCB.out
        have hab := HAB.out
        clear HPM HPV HLV HPG HLN HCB HAB HN1 HE1 HN2 HE2 HN3 HE3 X1 X2 X3
        generalize partsN (s :: t) = pa at *
        generalize partsN t = pc at *
        generalize lopN (s :: t) = lp at *
        have y1 : decide ((pa : Int) ≤ (pc : Int) + 1) = true := decide_eq_true (by omega)
        have y2 : decide ((1 : Int) ≤ (pa : Int)) = true := decide_eq_true (by omega)
        have y3 : decide (0 ≤ lp) = true := decide_eq_true hln
        go_wp2_with (fail)
        refine (alive35_any _).mono ?_
        rintro e v12 ⟨rfl, hb⟩
        replace HB := hide (HB.out.trans (hb.mono HB.out.size))
        clear hb
        go_wp2_with (fail)
        go_ret
        exact ⟨rfl, HB.out⟩
set_option maxRecDepth 100000 in
set_option maxHeartbeats 8000000 in
theorem bparts_walk {w : World} {v : Value} {l : List Sg} (hr : RdK encSg 4 w w.heap.size v l) (nl : l.length ≤ maxLen) (hcap : ∀ A n c, v = .slice A n c → n ≤ c) (x y : Int) :
    Calls Tryz.prog 7 #[v, .int .i64 x, .int .i64 y] w fun e w' => e = .returned (.bool true) ∧ Below w.heap.size w w' := by
  have HV := hide (valid35_any hr nl)
  have HR := hide hr
  obtain ⟨A, c, rfl, hc⟩ := hr
  have hcc := hcap _ _ _ rfl
  unfold maxLen at nl
  cases hv : val35 l with
  | false =>
    rw [hv] at HV
    clear hv hc hcap
    go_enter Tryz.func7, Tryz.ntmps7
    go_wp2_with (fail)
    refine HV.out.mono ?_
    rintro e w1 ⟨rfl, hb⟩
    have HB := hide hb
    clear hb
    go_wp2_with (fail)
    refine (alive35_any _).mono ?_
    rintro e w2 ⟨rfl, hb⟩
    have HB2 := hide (HB.out.trans (hb.mono HB.out.size))
    clear hb HB
    go_wp2_with (fail)
    go_ret
    exact ⟨rfl, HB2.out⟩
  | true =>
    by_cases hne : l.length = 0
    · have hlz : ((l.length : Int) == 0) = true := by simpa using hne
      rw [hv] at HV
      clear hv hc hcap hne
      go_enter Tryz.func7, Tryz.ntmps7
      go_wp2_with (fail)
      refine HV.out.mono ?_
      rintro e w1 ⟨rfl, hb⟩
      have HB := hide hb
      clear hb
      go_wp2_with (fail)
      refine (alive35_any _).mono ?_
      rintro e w2 ⟨rfl, hb⟩
      have HB2 := hide (HB.out.trans (hb.mono HB.out.size))
      clear hb HB
      go_wp2_with (fail)
      go_ret
      exact ⟨rfl, HB2.out⟩
    have hlz : ((l.length : Int) == 0) = false := by simpa using hne
    by_cases h1 : x < -100
    · have z1 : decide (x < -100) = true := decide_eq_true h1
      rw [hv] at HV
      clear hv hc hcap hne
      go_enter Tryz.func7, Tryz.ntmps7
      go_wp2_with (fail)
      refine HV.out.mono ?_
      rintro e w1 ⟨rfl, hb⟩
      have HB := hide hb
      clear hb
      go_wp2_with (fail)
      refine (alive35_any _).mono ?_
      rintro e w2 ⟨rfl, hb⟩
      have HB2 := hide (HB.out.trans (hb.mono HB.out.size))
      clear hb HB
      go_wp2_with (fail)
      go_ret
      exact ⟨rfl, HB2.out⟩
    have z1 : decide (x < -100) = false := decide_eq_false h1
    by_cases h2 : 100 < x
    · have z2 : decide (100 < x) = true := decide_eq_true h2
      rw [hv] at HV
      clear hv hc hcap hne
      go_enter Tryz.func7, Tryz.ntmps7
      go_wp2_with (fail)
      refine HV.out.mono ?_
      rintro e w1 ⟨rfl, hb⟩
      have HB := hide hb
      clear hb
      go_wp2_with (fail)
      refine (alive35_any _).mono ?_
      rintro e w2 ⟨rfl, hb⟩
      have HB2 := hide (HB.out.trans (hb.mono HB.out.size))
      clear hb HB
      go_wp2_with (fail)
      go_ret
      exact ⟨rfl, HB2.out⟩
    have z2 : decide (100 < x) = false := decide_eq_false h2
    by_cases h3 : y < -100
    · have z3 : decide (y < -100) = true := decide_eq_true h3
      rw [hv] at HV
      clear hv hc hcap hne
      go_enter Tryz.func7, Tryz.ntmps7
      go_wp2_with (fail)
      refine HV.out.mono ?_
      rintro e w1 ⟨rfl, hb⟩
      have HB := hide hb
      clear hb
      go_wp2_with (fail)
      refine (alive35_any _).mono ?_
      rintro e w2 ⟨rfl, hb⟩
      have HB2 := hide (HB.out.trans (hb.mono HB.out.size))
      clear hb HB
      go_wp2_with (fail)
      go_ret
      exact ⟨rfl, HB2.out⟩
    have z3 : decide (y < -100) = false := decide_eq_false h3
    by_cases h4 : 100 < y
    · have z4 : decide (100 < y) = true := decide_eq_true h4
      rw [hv] at HV
      clear hv hc hcap hne
      go_enter Tryz.func7, Tryz.ntmps7
      go_wp2_with (fail)
      refine HV.out.mono ?_
      rintro e w1 ⟨rfl, hb⟩
      have HB := hide hb
      clear hb
      go_wp2_with (fail)
      refine (alive35_any _).mono ?_
      rintro e w2 ⟨rfl, hb⟩
      have HB2 := hide (HB.out.trans (hb.mono HB.out.size))
      clear hb HB
      go_wp2_with (fail)
      go_ret
      exact ⟨rfl, HB2.out⟩
    obtain ⟨b0, o0, rfl, hb0, k⟩ := hc (fun e => hne (by rw [e]; rfl))
    exact bparts_main HR.out hcc x y hv hne (by omega) (by omega)
end Go.Proofs.YtmnhlcbmoibahaaGreat
