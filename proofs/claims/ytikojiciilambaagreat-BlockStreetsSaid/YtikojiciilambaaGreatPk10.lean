/- Texts laid together: GraCT, GraCF, StrF, StrG, SortP. Lemmas for the statements of this seat; no condition. -/
import Derived.Test.YtikojiciilambaaGreatPk9
import Derived.Test.YtikojiciilambaaGreatPk7
import Derived.DeepKeys4
import Derived.Test.YtikojiciilambaaGreatShelf

/- The reference's networks: lines, along x. -/
namespace Go.Proofs.YtikojiciilambaaGreat
open Go.RowKit
set_option linter.unusedVariables false
set_option linter.unusedSimpArgs false
set_option maxRecDepth 100000 in
set_option maxHeartbeats 8000000 in
theorem rlinesT_any {w : World} {v : Value} {l : List Sg} (hr : RdK encSg 4 w w.heap.size v l) (hv : ∀ s ∈ l, okSg s) (hl : l.length ≤ 1000) :
  Calls Tryz.prog 167 #[v, .bool true] w fun e w' => ∃ vo, e = .returned vo ∧ LnI w vo (linesF l true) w' := by
 obtain ⟨A, c, rfl, hc⟩ := hr
 have HRC := hide hc
 have HV := hide hv
 obtain ⟨i1, gi, gz0, gz1, gz2⟩ := info_parts infoInt
 obtain ⟨i2, fi, fz0, fz1, fz2⟩ := info_parts infoSp
 obtain ⟨i3, ki, kz0, kz1, kz2⟩ := info_parts infoLn
 clear hc hv
 go_enter Tryz.func167, Tryz.ntmps167
 go_wp2
 go_loopw [5, 6] (fun o i wr => ∃ (m : Nat) (Ao : Option Addr) (co : Nat), m ≤ l.length ∧ i = .int .i64 (m : Int) ∧ o = .slice Ao (atsF (l.take m) true).length co ∧ Hid (Below w.heap.size w wr) ∧ Hid (wr.ownsRow w.heap.size 3 1 (.slice Ao (atsF (l.take m) true).length co) (atsF (l.take m) true).length ((atsF (l.take m) true).map iv))) (fun _ i _ => l.length - (intOf i).toNat)
 case atStart => exact ⟨0, none, 0, Nat.zero_le _, rfl, rfl, hide (Below.refl _ _), hide (World.ownsRow_nil _ _ _ _)⟩
 case round =>
  obtain ⟨m, Ao, co, hm, rfl, rfl, HB, HO⟩ := hrel
  have hal := Nat.le_trans (ats_len (l.take m) true) (show (l.take m).length ≤ l.length by simp; omega)
  by_cases hlt : m < l.length
  ·have mz : (m : Int) < (l.length : Int) := by omega
   obtain ⟨s, hs⟩ : ∃ p, l[m]? = some p := ⟨_, List.getElem?_eq_getElem hlt⟩
   obtain ⟨b0, o0, rfl, hbl, k⟩ := HRC.out (by intro e; rw [e] at hlt; simp at hlt)
   obtain ⟨d0, d1, d2, d3⟩ := sg_cells k HB.out hbl hs
   have hbw : b0 < wr.heap.size := Nat.lt_of_lt_of_le hbl HB.out.size
   have HIN := hide (ats_in (al := true) hs)
   have HOUT := hide (ats_out (al := true) hs)
   clear k hs
   obtain ⟨X, hX⟩ : ∃ X, atsF (l.take m) true = X := ⟨_, rfl⟩
   rw [hX] at HIN HOUT HO hal
   rw [hX]
   clear hX
   by_cases hd : s.ay = s.cy
   ·have y1 : (s.ay == s.cy) = true := by simpa using hd
    have HE := hide (HIN.out (by simp [hd]))
    clear HIN HOUT hd
    go_upto_region 5 with fail
    go_quiet (fail)
    refine name_exit fun W hW => ?_
    have HB2 : Hid (Below w.heap.size w W) := hide (by rw [hW]; exact below_drewN HB.out _)
    have HO2 : Hid (W.ownsRow w.heap.size 3 1 (.slice Ao X.length co) X.length (X.map iv)) := hide (own_below HO.out (show Below wr.heap.size wr W by rw [hW]; exact below_drewN (Below.refl _ _) _))
    have e0 : W.cell? ⟨b0, o0 + m * 4 + 1, none⟩ = some (.int .i64 s.ay) := by rw [hW]; exact ((below_drewN (Below.refl wr.heap.size wr) _).cell (p := ⟨b0, _, none⟩) hbw).trans d1
    have hbW : b0 < W.heap.size := Nat.lt_of_lt_of_le hbl HB2.out.size
    have hs2 := HB2.out.size
    clear hW HB HO d0 d1 d2 d3 y1
    go_wp2_with (at_builtin; go_loud (refine wpList_append_lies _ rfl (.tmp 34) (.tmp 41) 133 rfl w.heap.size 3 i1 (.int .i64 0) 1 8 Tryz.underlying133 gi gz0 gz1 gz2 rfl (by decide) _ X.length _ rfl (World.ownsRow.alloc HO2.out _) ⟨W.heap.size, 0, none⟩ 1 1 [.int .i64 s.ay] rfl rfl (news_new W _ _ _ rfl) (ints_one rfl) (by omega) (by unfold maxLen; omega) (by omega) (by simp; omega) _ rfl ?_))
    intro g9 cap9 w9 hown9 hgrow9 _ _
    have HB9 := hide ((HB2.out.alloc hs2 _).grown hgrow9 (by simp; omega) (fun q hq => (HO2.out.lt q hq).1))
    have HO9 : Hid (w9.ownsRow w.heap.size 3 1 (.slice (some ⟨g9, 0, none⟩) (X ++ [s.ay]).length cap9) (X ++ [s.ay]).length ((X ++ [s.ay]).map iv)) := hide (by rw [List.length_append, List.map_append]; exact hown9)
    clear hown9 hgrow9
    go_wp2
    go_roundw
    case rel =>
     refine ⟨m + 1, some ⟨g9, 0, none⟩, cap9, by omega, by go_num, ?_, HB9, ?_⟩
     ·rw [HE.out]; simp
     ·rw [HE.out]; exact HO9
    case measure => simp [intOf]; omega
   ·have y1 : (s.ay == s.cy) = false := by simpa using hd
    have HE := hide (HOUT.out (by simp [hd]))
    clear HIN HOUT hd
    go_upto_region 5 with fail
    go_quiet (fail)
    refine name_exit fun W hW => ?_
    have HB2 : Hid (Below w.heap.size w W) := hide (by rw [hW]; exact below_drewN HB.out _)
    have HO2 : Hid (W.ownsRow w.heap.size 3 1 (.slice Ao X.length co) X.length (X.map iv)) := hide (own_below HO.out (show Below wr.heap.size wr W by rw [hW]; exact below_drewN (Below.refl _ _) _))
    clear hW HB HO d0 d1 d2 d3 y1
    go_wp2
    go_roundw
    case rel =>
     refine ⟨m + 1, Ao, co, by omega, by go_num, ?_, HB2, ?_⟩
     ·rw [HE.out]
     ·rw [HE.out]; exact HO2
    case measure => simp [intOf]; omega
  ·have mz : ¬ (m : Int) < (l.length : Int) := by omega
   obtain rfl : m = l.length := by omega
   have et : l.take l.length = l := List.take_length
   rw [et] at HO hal
   have hsz := HB.out.size
   have HSR := hide (rSorted_any (own_rdI HO.out) (Nat.le_refl _) (by omega))
   clear et
   go_wp2_with (fail)
   refine HSR.out.mono ?_
   rintro e w3 ⟨vo, rfl, ho3, hb3⟩
   obtain ⟨At, ct, rfl⟩ := own_form ho3
   have HB3 := hide (HB.out.trans (hb3.mono hsz))
   have HAT := hide (own_rdI ho3)
   have hkl := Nat.le_trans (srt_ln (atsF l true)) (ats_len l true)
   have HLT := hide (fun (j : Nat) (x y : Int) => @srt_lt (atsF l true) j x y)
   have HLL : Hid ((linesF l true).length = (srt (atsF l true)).length) := hide (by unfold linesF; rw [List.length_map])
   have HTK := hide (fun (m : Nat) (a : Int) => @lines_take l true m a)
   clear ho3 hb3 HSR HB HO hsz hal
   generalize srt (atsF l true) = K at *
   go_wp2
   go_loopw [7, 8] (fun o i wr => ∃ (m : Nat) (Ao : Option Addr) (co : Nat), m ≤ K.length ∧ i = .int .i64 (m : Int) ∧ o = .slice Ao m co ∧ Hid (LnI w3 (.slice Ao m co) ((linesF l true).take m) wr)) (fun _ i _ => K.length - (intOf i).toNat)
   case atStart => exact ⟨0, none, 0, Nat.zero_le _, rfl, rfl, hide ⟨Below.refl _ _, [], World.ownsRow_nil _ _ _ _, fun i r h => by simp at h⟩⟩
   case round =>
    obtain ⟨m, Ao, co, hm, rfl, rfl, HI⟩ := hrel
    by_cases hlt : m < K.length
    ·have mz : (m : Int) < (K.length : Int) := by omega
     obtain ⟨a, ha⟩ : ∃ p, K[m]? = some p := ⟨_, List.getElem?_eq_getElem hlt⟩
     obtain ⟨b1, o1, rfl, hb1, k1⟩ := rdI_get HAT.out ha
     have a0 := (HI.out.low.cell (p := ⟨b1, _, none⟩) hb1).trans (k1 m a ha)
     have HT := hide (HTK.out m a ha)
     have hbw1 : b1 < wr.heap.size := Nat.lt_of_lt_of_le hb1 HI.out.low.size
     have m0 : (0 : Int) ≤ (m : Int) := by omega
     have HK1 := hide k1
     have HA := hide ha
     obtain ⟨wo, hwo⟩ : ∃ wo : World, wo = wr := ⟨_, rfl⟩
     subst hwo
     have hm14 : (m = 0 ∧ decide (0 < m) = false) ∨ (0 < m ∧ decide (0 < m) = true) := by
      rcases Nat.eq_zero_or_pos m with h | h
      ·exact .inl ⟨h, by simp [h]⟩
      ·exact .inr ⟨h, by simp [h]⟩
     clear k1 ha hlt
     go_upto_region 14 with fail
     go_cut [73] (fun s73 wx => s73 = .bool false ∧ Hid (Below wo.heap.size wo wx))
     case first =>
      rcases hm14 with ⟨he0, z0⟩ | ⟨hp0, z0⟩
      ·clear he0
       go_quiet (fail)
       refine name_exit fun W0 hW0 => ?_
       have HBX : Hid (Below wo.heap.size wo W0) := hide (by rw [hW0]; exact below_drewN (Below.refl _ _) _)
       clear hW0
       go_wp2_with (fail)
       go_meet
       exact ⟨rfl, HBX⟩
      ·obtain ⟨j, hj⟩ : ∃ j, m = j + 1 := ⟨m - 1, by omega⟩
       obtain ⟨x, hx⟩ : ∃ p, K[j]? = some p := ⟨_, List.getElem?_eq_getElem (by omega)⟩
       have x0 := (HI.out.low.cell (p := ⟨b1, _, none⟩) hb1).trans (HK1.out j x hx)
       have hxa := HLT.out j x a hx (by rw [← hj]; exact HA.out)
       have hne : (a == x) = false := by simp; omega
       have q3 : IntKind.i64.wrap ((m : Int) - 1) = (j : Int) := by rw [show (m : Int) - 1 = (j : Int) by omega]; exact IntWalk.i64_in _ (by omega)
       have q4 : (0 : Int) ≤ (j : Int) := by omega
       have q5 : (j : Int) < (K.length : Int) := by omega
       clear hx hxa hp0 hj
       go_quiet (fail)
       refine name_exit fun W0 hW0 => ?_
       have HBX : Hid (Below wo.heap.size wo W0) := hide (by rw [hW0]; exact below_drewN (Below.refl _ _) _)
       clear hW0
       go_wp2_with (fail)
       go_meet
       exact ⟨rfl, HBX⟩
     case rest =>
      obtain ⟨rfl, HBX⟩ := hcut
      obtain ⟨W0, hW0⟩ : ∃ W0 : World, W0 = wc := ⟨_, rfl⟩
      subst hW0
      have HIW := hide (HI.out.below HBX.out)
      clear HI a0 m0 hbw1 hm14 HBX
      have HWB := hide HIW.out.low
      have hk6 := HIW.out.low.size
      go_upto_region 17 with fail
      go_loopw [9, 10] (fun o i wr => ∃ (k : Nat) (Ai : Option Addr) (ci : Nat), k ≤ l.length ∧ i = .int .i64 (k : Int) ∧ o = .slice Ai (ownF (l.take k) true a).length ci ∧ Hid (Below W0.heap.size W0 wr) ∧ Hid (wr.ownsRow W0.heap.size 141 2 (.slice Ai (ownF (l.take k) true a).length ci) (ownF (l.take k) true a).length ((ownF (l.take k) true a).flatMap encS))) (fun _ i _ => l.length - (intOf i).toNat)
      case atStart => exact ⟨0, none, 0, Nat.zero_le _, rfl, by rw [show (ownF (l.take 0) true a) = [] from rfl]; rfl, hide (Below.refl _ _), hide (World.ownsRow_nil _ _ _ _)⟩
      case round =>
       obtain ⟨k, Ai, ci, hk, rfl, rfl, HB5, HO5⟩ := hrel
       have hol := Nat.le_trans (ownF_len (l.take k) true a) (show (l.take k).length ≤ l.length by simp; omega)
       by_cases hlk : k < l.length
       ·have kz : (k : Int) < (l.length : Int) := by omega
        obtain ⟨s, hs⟩ : ∃ p, l[k]? = some p := ⟨_, List.getElem?_eq_getElem hlk⟩
        obtain ⟨b0, o0, rfl, hbl, kk⟩ := HRC.out (by intro e; rw [e] at hlk; simp at hlk)
        have HB4 := hide (HB3.out.trans ((HWB.out.trans (HB5.out.mono HWB.out.size)).mono HB3.out.size))
        obtain ⟨d0, d1, d2, d3⟩ := sg_cells kk HB4.out hbl hs
        have hbr : b0 < wr.heap.size := Nat.lt_of_lt_of_le hbl HB4.out.size
        have hb0W : b0 < W0.heap.size := Nat.lt_of_lt_of_le hbl (Nat.le_trans HB3.out.size hk6)
        have HSK : Hid (∀ w', Below W0.heap.size W0 w' → Below W0.heap.size W0 w' ∧ (w'.cell? ⟨b0, o0 + k * 4, none⟩ = some (.int .i64 s.ax) ∧ w'.cell? ⟨b0, o0 + k * 4 + 1, none⟩ = some (.int .i64 s.ay)) ∧ w'.cell? ⟨b0, o0 + k * 4 + 2, none⟩ = some (.int .i64 s.cx) ∧ w'.cell? ⟨b0, o0 + k * 4 + 3, none⟩ = some (.int .i64 s.cy)) := hide (fun w' hW => by
         obtain ⟨y0, y1, y2, y3⟩ := sg_cells kk (HB3.out.trans ((HWB.out.trans (hW.mono HWB.out.size)).mono HB3.out.size)) hbl hs
         exact ⟨hW, ⟨y0, y1⟩, y2, y3⟩)
        have c0 := (HB5.out.cell (p := ⟨b1, _, none⟩) (Nat.lt_of_lt_of_le hb1 hk6)).trans ((HWB.out.cell (p := ⟨b1, _, none⟩) hb1).trans (HK1.out _ a HA.out))
        have hb1r : b1 < wr.heap.size := Nat.lt_of_lt_of_le (Nat.lt_of_lt_of_le hb1 hk6) HB5.out.size
        have mm0 : (0 : Int) ≤ (m : Int) := by omega
        clear kk HB4 hbl
        by_cases h1 : s.ay = a
        ·have y1 : (s.ay == a) = true := by simpa using h1
         by_cases h2 : s.cy = a
         ·have y2 : (s.cy == a) = true := by simpa using h2
          obtain ⟨X, hX⟩ : ∃ X, ownF (l.take k) true a = X := ⟨_, rfl⟩
          have HE := hide (own_in_row hs h1 h2)
          rw [hX] at HE HO5 hol
          rw [hX]
          clear hX hs h1 h2
          go_upto_region 19 with fail
          go_quiet (fail)
          refine name_exit fun W1 hW1 => ?_
          have hb1W : Below wr.heap.size wr W1 := by rw [hW1]; exact below_drewN (Below.refl _ _) _
          have HB6 := hide (HB5.out.trans (hb1W.mono HB5.out.size))
          have HO6 := hide (own_below HO5.out hb1W)
          obtain ⟨u0, u1, u2, u3⟩ : W1.cell? ⟨b0, o0 + k * 4, none⟩ = some (.int .i64 s.ax) ∧ W1.cell? ⟨b0, o0 + k * 4 + 1, none⟩ = some (.int .i64 s.ay) ∧ W1.cell? ⟨b0, o0 + k * 4 + 2, none⟩ = some (.int .i64 s.cx) ∧ W1.cell? ⟨b0, o0 + k * 4 + 3, none⟩ = some (.int .i64 s.cy) := ⟨(hb1W.cell (p := ⟨b0, _, none⟩) hbr).trans d0, (hb1W.cell (p := ⟨b0, _, none⟩) hbr).trans d1, (hb1W.cell (p := ⟨b0, _, none⟩) hbr).trans d2, (hb1W.cell (p := ⟨b0, _, none⟩) hbr).trans d3⟩
          have t0 := (hb1W.cell (p := ⟨b1, _, none⟩) hb1r).trans c0
          have hbW : b0 < W1.heap.size := Nat.lt_of_lt_of_le hbr hb1W.size
          have hb1V : b1 < W1.heap.size := Nat.lt_of_lt_of_le hb1r hb1W.size
          clear hW1 hb1W d0 d1 d2 d3 c0 HB5 HO5 hbr hb1r
          go_upto_region 20 with fail
          have HBK : Hid (Below W1.heap.size W1 W1.drew) := hide (Below.refl _ _).drew
          clear u0 u1 u2 u3
          refine wp_region_mix [0, 1, 2, 3, 4, 5, 6, 7, 8, 9, 10, 11, 12, 13, 14, 15, 16, 17, 18, 19, 20, 21, 22, 23, 24, 25, 26, 27] [28, 29, 30] (fun w' => Below W0.heap.size W0 w' ∧ (w'.cell? ⟨b0, o0 + k * 4, none⟩ = some (.int .i64 s.ax) ∧ w'.cell? ⟨b0, o0 + k * 4 + 1, none⟩ = some (.int .i64 s.ay)) ∧ w'.cell? ⟨b0, o0 + k * 4 + 2, none⟩ = some (.int .i64 s.cx) ∧ w'.cell? ⟨b0, o0 + k * 4 + 3, none⟩ = some (.int .i64 s.cy)) (by kernel_rfl) (by kernel_rfl) (HSK.out _ (HB6.out.trans (HBK.out.mono HB6.out.size))) ?_
          simp only [List.map_cons, List.map_nil, opAt, List.getElem?_cons_succ, List.getElem?_cons_zero, Option.getD_some]
          generalize W1.drew = wk at *
          iterate 28
           refine ⟨?_, Or.inl ⟨by rfl, ?_⟩, ?_⟩
           rotate_left 1
           ·intro w' hSw
            obtain ⟨hS0, ⟨y0, y1⟩, y2, y3⟩ := hSw
            have hbq : b0 < w'.heap.size := Nat.lt_of_lt_of_le hb0W hS0.size
            clear hS0
            go_simp
            first | done | with_reducible rfl
           simp only [Act.put, List.setIfInBounds_toArray, List.set_cons_zero, List.set_cons_succ]
          simp only [wpReads]
          have HB8 := hide (HB6.out.trans (HBK.out.mono HB6.out.size))
          have HO8 := hide (own_below HO6.out HBK.out)
          intro K0 hK
          simp only [Act.put, List.setIfInBounds_toArray, List.set_cons_zero, List.set_cons_succ] at hK ⊢
          go_simp
          refine hK _ _ (fun _ => HSK.out _ (HB8.out.alloc HB8.out.size _)) ?_
          clear hK K0
          intro K0 hK
          simp only [Act.put, List.setIfInBounds_toArray, List.set_cons_zero, List.set_cons_succ] at hK ⊢
          rw [if_pos (by rfl)]
          refine wp_app_rd _ (enc := encS) (k := 2) (l := [((min s.ax s.cx, max s.ax s.cx) : Sp)]) (fun _ => rfl) one_encS (.tmp 108) (.tmp 136) 136 rfl W0.heap.size 141 i2 (.agg #[.int .i64 0, .int .i64 0]) 16 Tryz.underlying136 fi fz0 fz1 fz2 rfl (by decide) _ X.length _ rfl (World.ownsRow.alloc HO8.out _) _ (PairAt.rd (World.alloc_heap_new _ _)) (by simp only [List.length_cons, List.length_nil]; unfold maxLen; omega) (by simp only [List.length_cons, List.length_nil]; omega) (by have := HB8.out.size; simp; omega) ?_
          intro v9 w9 ho9 hg9
          have hs8 := HB8.out.size
          have HB9 : Hid (Below W0.heap.size W0 w9) := hide ((HB8.out.alloc hs8 _).grown hg9 (by simp; omega) (fun q hq => (HO8.out.lt q hq).1))
          obtain ⟨A9, c9, rfl⟩ := own_form ho9
          have HO9 : Hid (w9.ownsRow W0.heap.size 141 2 (.slice A9 (X ++ [((min s.ax s.cx, max s.ax s.cx) : Sp)]).length c9) (X ++ [((min s.ax s.cx, max s.ax s.cx) : Sp)]).length ((X ++ [((min s.ax s.cx, max s.ax s.cx) : Sp)]).flatMap encS)) := hide (by rw [List.length_append, List.flatMap_append]; exact ho9)
          refine hK _ _ (fun _ => HSK.out _ HB9.out) ?_
          clear hK K0 ho9 hg9
          intro K0 hK
          simp only [Act.put, List.setIfInBounds_toArray, List.set_cons_zero, List.set_cons_succ] at hK ⊢
          go_simp
          refine hK _ _ (fun h => absurd rfl h) ?_
          clear hK K0
          refine NoPanic.normal ?_
          go_wp2
          go_roundw
          case rel =>
           refine ⟨k + 1, A9, c9, by omega, by go_num, ?_, HB9, ?_⟩
           ·rw [HE.out]; simp
           ·rw [HE.out]; exact HO9
          case measure => simp [intOf]; omega
         ·have y2 : (s.cy == a) = false := by simpa using h2
          have HE := hide (own_out_row hs (fun h => h2 h.2))
          clear h1 h2
          clear hs
          go_upto_region 19 with fail
          go_quiet (fail)
          refine name_exit fun W1 hW1 => ?_
          have hb1W : Below wr.heap.size wr W1 := by rw [hW1]; exact below_drewN (Below.refl _ _) _
          have HB6 := hide (HB5.out.trans (hb1W.mono HB5.out.size))
          have HO6 := hide (own_below HO5.out hb1W)
          obtain ⟨u0, u1, u2, u3⟩ : W1.cell? ⟨b0, o0 + k * 4, none⟩ = some (.int .i64 s.ax) ∧ W1.cell? ⟨b0, o0 + k * 4 + 1, none⟩ = some (.int .i64 s.ay) ∧ W1.cell? ⟨b0, o0 + k * 4 + 2, none⟩ = some (.int .i64 s.cx) ∧ W1.cell? ⟨b0, o0 + k * 4 + 3, none⟩ = some (.int .i64 s.cy) := ⟨(hb1W.cell (p := ⟨b0, _, none⟩) hbr).trans d0, (hb1W.cell (p := ⟨b0, _, none⟩) hbr).trans d1, (hb1W.cell (p := ⟨b0, _, none⟩) hbr).trans d2, (hb1W.cell (p := ⟨b0, _, none⟩) hbr).trans d3⟩
          have t0 := (hb1W.cell (p := ⟨b1, _, none⟩) hb1r).trans c0
          have hbW : b0 < W1.heap.size := Nat.lt_of_lt_of_le hbr hb1W.size
          have hb1V : b1 < W1.heap.size := Nat.lt_of_lt_of_le hb1r hb1W.size
          clear hW1 hb1W d0 d1 d2 d3 c0 HB5 HO5 hbr hb1r
          go_upto_region 21 with fail
          go_quiet (fail)
          refine name_exit fun W2 hW2 => ?_
          have hb2W : Below W1.heap.size W1 W2 := by rw [hW2]; exact below_drewN (Below.refl _ _) _
          have HB7 := hide (HB6.out.trans (hb2W.mono HB6.out.size))
          have HO7 := hide (own_below HO6.out hb2W)
          clear hW2 hb2W u0 u1 u2 u3 t0 HB6 HO6
          go_wp2
          go_roundw
          case rel =>
           refine ⟨k + 1, Ai, ci, by omega, by go_num, ?_, HB7, ?_⟩
           ·rw [HE.out]
           ·rw [HE.out]; exact HO7
          case measure => simp [intOf]; omega
        ·have y1 : (s.ay == a) = false := by simpa using h1
         have HE := hide (own_out_row hs (fun h => h1 h.1))
         clear h1
         clear hs
         go_upto_region 19 with fail
         go_quiet (fail)
         refine name_exit fun W1 hW1 => ?_
         have hb1W : Below wr.heap.size wr W1 := by rw [hW1]; exact below_drewN (Below.refl _ _) _
         have HB6 := hide (HB5.out.trans (hb1W.mono HB5.out.size))
         have HO6 := hide (own_below HO5.out hb1W)
         obtain ⟨u0, u1, u2, u3⟩ : W1.cell? ⟨b0, o0 + k * 4, none⟩ = some (.int .i64 s.ax) ∧ W1.cell? ⟨b0, o0 + k * 4 + 1, none⟩ = some (.int .i64 s.ay) ∧ W1.cell? ⟨b0, o0 + k * 4 + 2, none⟩ = some (.int .i64 s.cx) ∧ W1.cell? ⟨b0, o0 + k * 4 + 3, none⟩ = some (.int .i64 s.cy) := ⟨(hb1W.cell (p := ⟨b0, _, none⟩) hbr).trans d0, (hb1W.cell (p := ⟨b0, _, none⟩) hbr).trans d1, (hb1W.cell (p := ⟨b0, _, none⟩) hbr).trans d2, (hb1W.cell (p := ⟨b0, _, none⟩) hbr).trans d3⟩
         have t0 := (hb1W.cell (p := ⟨b1, _, none⟩) hb1r).trans c0
         have hbW : b0 < W1.heap.size := Nat.lt_of_lt_of_le hbr hb1W.size
         have hb1V : b1 < W1.heap.size := Nat.lt_of_lt_of_le hb1r hb1W.size
         clear hW1 hb1W d0 d1 d2 d3 c0 HB5 HO5 hbr hb1r
         go_upto_region 21 with fail
         go_quiet (fail)
         refine name_exit fun W2 hW2 => ?_
         have hb2W : Below W1.heap.size W1 W2 := by rw [hW2]; exact below_drewN (Below.refl _ _) _
         have HB7 := hide (HB6.out.trans (hb2W.mono HB6.out.size))
         have HO7 := hide (own_below HO6.out hb2W)
         clear hW2 hb2W u0 u1 u2 u3 t0 HB6 HO6
         go_wp2
         go_roundw
         case rel =>
          refine ⟨k + 1, Ai, ci, by omega, by go_num, ?_, HB7, ?_⟩
          ·rw [HE.out]
          ·rw [HE.out]; exact HO7
         case measure => simp [intOf]; omega
       ·have kz : ¬ (k : Int) < (l.length : Int) := by omega
        obtain rfl : k = l.length := by omega
        have et : l.take l.length = l := List.take_length
        rw [et] at HO5 hol
        have HUN := hide (runited_any (own_rd (l := ownF l true a) HO5.out (fun _ => rfl)) (by omega))
        have hul := Nat.le_trans (unitF_len (ownF l true a)) hol
        clear et
        go_wp2_with (fail)
        refine HUN.out.mono ?_
        rintro e w7 ⟨⟨vu, rfl, hou⟩, hbu⟩
        obtain ⟨Au, cu, rfl⟩ := own_form hou
        have HB7 := hide (HB5.out.trans (hbu.mono HB5.out.size))
        have hs5 := HB5.out.size
        have HI7 := hide (HIW.out.below HB7.out)
        have HOU := hide (own_base hou (Nat.le_trans hk6 hs5))
        have c0 := (HB7.out.cell (p := ⟨b1, _, none⟩) (Nat.lt_of_lt_of_le hb1 hk6)).trans ((HWB.out.cell (p := ⟨b1, _, none⟩) hb1).trans (HK1.out _ a HA.out))
        have hb1r : b1 < w7.heap.size := Nat.lt_of_lt_of_le (Nat.lt_of_lt_of_le hb1 hk6) HB7.out.size
        have mm0 : (0 : Int) ≤ (m : Int) := by omega
        obtain ⟨vs, hvs1, hvs2⟩ := HI7.out.o
        have HVS1 := hide hvs1
        have HVS2 := hide hvs2
        have hl7 := HI7.out.low.size
        have e7 : ((linesF l true).take (m)).length = m := by rw [List.length_take, HLL.out]; omega
        rw [e7] at HVS1
        clear hou hbu HUN HB5 HO5 hvs1 hvs2
        generalize unitF (ownF l true a) = U at *
        go_wp2_with (at_builtin; go_loud (refine wpList_append_lies _ rfl (.tmp 199) (.tmp 206) 228 rfl w3.heap.size 265 i3 (.agg #[.int .i64 0, .slice none 0 0]) 2 32 Tryz.underlying228 ki kz0 kz1 kz2 rfl (by decide) _ (m) _ rfl (World.ownsRow.alloc HVS1.out _) ⟨w7.heap.size, 0, none⟩ 1 1 [.int .i64 a, .slice Au U.length cu] rfl rfl (news_new w7 _ _ _ rfl) (by intro u hu; simp only [List.mem_cons, List.not_mem_nil, or_false] at hu; rcases hu with rfl | rfl <;> rfl) (by omega) (by unfold maxLen; omega) (by omega) (by simp; omega) _ rfl ?_))
        intro g9 cap9 w9 hown9 hgrow9 _ _
        have hpush := LnI.push (w := w3) (L := (linesF l true).take (m)) (q := (a, U)) (HI7.out.low.alloc hl7 _) (by rw [e7]; exact World.ownsRow.alloc HVS1.out _) (fun i r hi => by
         obtain ⟨q0, v, q1, q2⟩ := HVS2.out i r hi
         exact ⟨q0, v, q1, World.ownsRow.alloc q2 _⟩) (World.ownsRow.alloc HOU.out _) hgrow9 (by rw [e7]; exact hown9)
        rw [← HT.out] at hpush
        have HP9 := hide hpush
        clear hown9 hgrow9 hpush
        go_wp2
        go_roundw
        case rel => exact ⟨m + 1, _, cap9, by omega, by go_num, rfl, HP9⟩
        case measure => simp [intOf]; omega
    ·have mz : ¬ (m : Int) < (K.length : Int) := by omega
     obtain rfl : m = K.length := by omega
     have HF : Hid (LnI w (.slice Ao K.length co) (linesF l true) wr) := hide (by
      have h := HI.out
      rw [List.take_of_length_le (by rw [HLL.out]; omega)] at h
      obtain ⟨vs, h1, h2⟩ := h.o
      refine ⟨HB3.out.trans (h.low.mono HB3.out.size), vs, own_base h1 HB3.out.size, fun i q hq => ?_⟩
      obtain ⟨g0, v, g1, g2⟩ := h2 i q hq
      exact ⟨g0, v, g1, own_base g2 HB3.out.size⟩)
     go_wp2
     go_ret
     exact ⟨_, rfl, HF.out⟩
end Go.Proofs.YtikojiciilambaaGreat

/- The reference's networks: lines, along y. -/
namespace Go.Proofs.YtikojiciilambaaGreat
open Go.RowKit
set_option linter.unusedVariables false
set_option linter.unusedSimpArgs false
set_option maxRecDepth 100000 in
set_option maxHeartbeats 8000000 in
theorem rlinesF_any {w : World} {v : Value} {l : List Sg} (hr : RdK encSg 4 w w.heap.size v l) (hv : ∀ s ∈ l, okSg s) (hl : l.length ≤ 1000) :
  Calls Tryz.prog 167 #[v, .bool false] w fun e w' => ∃ vo, e = .returned vo ∧ LnI w vo (linesF l false) w' := by
 obtain ⟨A, c, rfl, hc⟩ := hr
 have HRC := hide hc
 have HV := hide hv
 obtain ⟨i1, gi, gz0, gz1, gz2⟩ := info_parts infoInt
 obtain ⟨i2, fi, fz0, fz1, fz2⟩ := info_parts infoSp
 obtain ⟨i3, ki, kz0, kz1, kz2⟩ := info_parts infoLn
 clear hc hv
 go_enter Tryz.func167, Tryz.ntmps167
 go_wp2
 go_loopw [5, 6] (fun o i wr => ∃ (m : Nat) (Ao : Option Addr) (co : Nat), m ≤ l.length ∧ i = .int .i64 (m : Int) ∧ o = .slice Ao (atsF (l.take m) false).length co ∧ Hid (Below w.heap.size w wr) ∧ Hid (wr.ownsRow w.heap.size 3 1 (.slice Ao (atsF (l.take m) false).length co) (atsF (l.take m) false).length ((atsF (l.take m) false).map iv))) (fun _ i _ => l.length - (intOf i).toNat)
 case atStart => exact ⟨0, none, 0, Nat.zero_le _, rfl, rfl, hide (Below.refl _ _), hide (World.ownsRow_nil _ _ _ _)⟩
 case round =>
  obtain ⟨m, Ao, co, hm, rfl, rfl, HB, HO⟩ := hrel
  have hal := Nat.le_trans (ats_len (l.take m) false) (show (l.take m).length ≤ l.length by simp; omega)
  by_cases hlt : m < l.length
  ·have mz : (m : Int) < (l.length : Int) := by omega
   obtain ⟨s, hs⟩ : ∃ p, l[m]? = some p := ⟨_, List.getElem?_eq_getElem hlt⟩
   obtain ⟨b0, o0, rfl, hbl, k⟩ := HRC.out (by intro e; rw [e] at hlt; simp at hlt)
   obtain ⟨d0, d1, d2, d3⟩ := sg_cells k HB.out hbl hs
   have hbw : b0 < wr.heap.size := Nat.lt_of_lt_of_le hbl HB.out.size
   have HIN := hide (ats_in (al := false) hs)
   have HOUT := hide (ats_out (al := false) hs)
   clear k hs
   obtain ⟨X, hX⟩ : ∃ X, atsF (l.take m) false = X := ⟨_, rfl⟩
   rw [hX] at HIN HOUT HO hal
   rw [hX]
   clear hX
   by_cases hd : s.ay = s.cy
   ·have y1 : (s.ay == s.cy) = true := by simpa using hd
    have HE := hide (HOUT.out (by simp [hd]))
    clear HIN HOUT hd
    go_upto_region 5 with fail
    go_quiet (fail)
    refine name_exit fun W hW => ?_
    have HB2 : Hid (Below w.heap.size w W) := hide (by rw [hW]; exact below_drewN HB.out _)
    have HO2 : Hid (W.ownsRow w.heap.size 3 1 (.slice Ao X.length co) X.length (X.map iv)) := hide (own_below HO.out (show Below wr.heap.size wr W by rw [hW]; exact below_drewN (Below.refl _ _) _))
    clear hW HB HO d0 d1 d2 d3 y1
    go_wp2
    go_roundw
    case rel =>
     refine ⟨m + 1, Ao, co, by omega, by go_num, ?_, HB2, ?_⟩
     ·rw [HE.out]
     ·rw [HE.out]; exact HO2
    case measure => simp [intOf]; omega
   ·have y1 : (s.ay == s.cy) = false := by simpa using hd
    have HE := hide (HIN.out (by simp [hd]))
    clear HIN HOUT hd
    go_upto_region 5 with fail
    go_quiet (fail)
    refine name_exit fun W hW => ?_
    have HB2 : Hid (Below w.heap.size w W) := hide (by rw [hW]; exact below_drewN HB.out _)
    have HO2 : Hid (W.ownsRow w.heap.size 3 1 (.slice Ao X.length co) X.length (X.map iv)) := hide (own_below HO.out (show Below wr.heap.size wr W by rw [hW]; exact below_drewN (Below.refl _ _) _))
    have e0 : W.cell? ⟨b0, o0 + m * 4, none⟩ = some (.int .i64 s.ax) := by rw [hW]; exact ((below_drewN (Below.refl wr.heap.size wr) _).cell (p := ⟨b0, _, none⟩) hbw).trans d0
    have hbW : b0 < W.heap.size := Nat.lt_of_lt_of_le hbl HB2.out.size
    have hs2 := HB2.out.size
    clear hW HB HO d0 d1 d2 d3 y1
    go_wp2_with (at_builtin; go_loud (refine wpList_append_lies _ rfl (.tmp 43) (.tmp 50) 133 rfl w.heap.size 3 i1 (.int .i64 0) 1 8 Tryz.underlying133 gi gz0 gz1 gz2 rfl (by decide) _ X.length _ rfl (World.ownsRow.alloc HO2.out _) ⟨W.heap.size, 0, none⟩ 1 1 [.int .i64 s.ax] rfl rfl (news_new W _ _ _ rfl) (ints_one rfl) (by omega) (by unfold maxLen; omega) (by omega) (by simp; omega) _ rfl ?_))
    intro g9 cap9 w9 hown9 hgrow9 _ _
    have HB9 := hide ((HB2.out.alloc hs2 _).grown hgrow9 (by simp; omega) (fun q hq => (HO2.out.lt q hq).1))
    have HO9 : Hid (w9.ownsRow w.heap.size 3 1 (.slice (some ⟨g9, 0, none⟩) (X ++ [s.ax]).length cap9) (X ++ [s.ax]).length ((X ++ [s.ax]).map iv)) := hide (by rw [List.length_append, List.map_append]; exact hown9)
    clear hown9 hgrow9
    go_wp2
    go_roundw
    case rel =>
     refine ⟨m + 1, some ⟨g9, 0, none⟩, cap9, by omega, by go_num, ?_, HB9, ?_⟩
     ·rw [HE.out]; simp
     ·rw [HE.out]; exact HO9
    case measure => simp [intOf]; omega
  ·have mz : ¬ (m : Int) < (l.length : Int) := by omega
   obtain rfl : m = l.length := by omega
   have et : l.take l.length = l := List.take_length
   rw [et] at HO hal
   have hsz := HB.out.size
   have HSR := hide (rSorted_any (own_rdI HO.out) (Nat.le_refl _) (by omega))
   clear et
   go_wp2_with (fail)
   refine HSR.out.mono ?_
   rintro e w3 ⟨vo, rfl, ho3, hb3⟩
   obtain ⟨At, ct, rfl⟩ := own_form ho3
   have HB3 := hide (HB.out.trans (hb3.mono hsz))
   have HAT := hide (own_rdI ho3)
   have hkl := Nat.le_trans (srt_ln (atsF l false)) (ats_len l false)
   have HLT := hide (fun (j : Nat) (x y : Int) => @srt_lt (atsF l false) j x y)
   have HLL : Hid ((linesF l false).length = (srt (atsF l false)).length) := hide (by unfold linesF; rw [List.length_map])
   have HTK := hide (fun (m : Nat) (a : Int) => @lines_take l false m a)
   clear ho3 hb3 HSR HB HO hsz hal
   generalize srt (atsF l false) = K at *
   go_wp2
   go_loopw [7, 8] (fun o i wr => ∃ (m : Nat) (Ao : Option Addr) (co : Nat), m ≤ K.length ∧ i = .int .i64 (m : Int) ∧ o = .slice Ao m co ∧ Hid (LnI w3 (.slice Ao m co) ((linesF l false).take m) wr)) (fun _ i _ => K.length - (intOf i).toNat)
   case atStart => exact ⟨0, none, 0, Nat.zero_le _, rfl, rfl, hide ⟨Below.refl _ _, [], World.ownsRow_nil _ _ _ _, fun i r h => by simp at h⟩⟩
   case round =>
    obtain ⟨m, Ao, co, hm, rfl, rfl, HI⟩ := hrel
    by_cases hlt : m < K.length
    ·have mz : (m : Int) < (K.length : Int) := by omega
     obtain ⟨a, ha⟩ : ∃ p, K[m]? = some p := ⟨_, List.getElem?_eq_getElem hlt⟩
     obtain ⟨b1, o1, rfl, hb1, k1⟩ := rdI_get HAT.out ha
     have a0 := (HI.out.low.cell (p := ⟨b1, _, none⟩) hb1).trans (k1 m a ha)
     have HT := hide (HTK.out m a ha)
     have hbw1 : b1 < wr.heap.size := Nat.lt_of_lt_of_le hb1 HI.out.low.size
     have m0 : (0 : Int) ≤ (m : Int) := by omega
     have HK1 := hide k1
     have HA := hide ha
     obtain ⟨wo, hwo⟩ : ∃ wo : World, wo = wr := ⟨_, rfl⟩
     subst hwo
     have hm14 : (m = 0 ∧ decide (0 < m) = false) ∨ (0 < m ∧ decide (0 < m) = true) := by
      rcases Nat.eq_zero_or_pos m with h | h
      ·exact .inl ⟨h, by simp [h]⟩
      ·exact .inr ⟨h, by simp [h]⟩
     clear k1 ha hlt
     go_upto_region 14 with fail
     go_cut [73] (fun s73 wx => s73 = .bool false ∧ Hid (Below wo.heap.size wo wx))
     case first =>
      rcases hm14 with ⟨he0, z0⟩ | ⟨hp0, z0⟩
      ·clear he0
       go_quiet (fail)
       refine name_exit fun W0 hW0 => ?_
       have HBX : Hid (Below wo.heap.size wo W0) := hide (by rw [hW0]; exact below_drewN (Below.refl _ _) _)
       clear hW0
       go_wp2_with (fail)
       go_meet
       exact ⟨rfl, HBX⟩
      ·obtain ⟨j, hj⟩ : ∃ j, m = j + 1 := ⟨m - 1, by omega⟩
       obtain ⟨x, hx⟩ : ∃ p, K[j]? = some p := ⟨_, List.getElem?_eq_getElem (by omega)⟩
       have x0 := (HI.out.low.cell (p := ⟨b1, _, none⟩) hb1).trans (HK1.out j x hx)
       have hxa := HLT.out j x a hx (by rw [← hj]; exact HA.out)
       have hne : (a == x) = false := by simp; omega
       have q3 : IntKind.i64.wrap ((m : Int) - 1) = (j : Int) := by rw [show (m : Int) - 1 = (j : Int) by omega]; exact IntWalk.i64_in _ (by omega)
       have q4 : (0 : Int) ≤ (j : Int) := by omega
       have q5 : (j : Int) < (K.length : Int) := by omega
       clear hx hxa hp0 hj
       go_quiet (fail)
       refine name_exit fun W0 hW0 => ?_
       have HBX : Hid (Below wo.heap.size wo W0) := hide (by rw [hW0]; exact below_drewN (Below.refl _ _) _)
       clear hW0
       go_wp2_with (fail)
       go_meet
       exact ⟨rfl, HBX⟩
     case rest =>
      obtain ⟨rfl, HBX⟩ := hcut
      obtain ⟨W0, hW0⟩ : ∃ W0 : World, W0 = wc := ⟨_, rfl⟩
      subst hW0
      have HIW := hide (HI.out.below HBX.out)
      clear HI a0 m0 hbw1 hm14 HBX
      have HWB := hide HIW.out.low
      have hk6 := HIW.out.low.size
      go_upto_region 17 with fail
      go_loopw [9, 10] (fun o i wr => ∃ (k : Nat) (Ai : Option Addr) (ci : Nat), k ≤ l.length ∧ i = .int .i64 (k : Int) ∧ o = .slice Ai (ownF (l.take k) false a).length ci ∧ Hid (Below W0.heap.size W0 wr) ∧ Hid (wr.ownsRow W0.heap.size 141 2 (.slice Ai (ownF (l.take k) false a).length ci) (ownF (l.take k) false a).length ((ownF (l.take k) false a).flatMap encS))) (fun _ i _ => l.length - (intOf i).toNat)
      case atStart => exact ⟨0, none, 0, Nat.zero_le _, rfl, by rw [show (ownF (l.take 0) false a) = [] from rfl]; rfl, hide (Below.refl _ _), hide (World.ownsRow_nil _ _ _ _)⟩
      case round =>
       obtain ⟨k, Ai, ci, hk, rfl, rfl, HB5, HO5⟩ := hrel
       have hol := Nat.le_trans (ownF_len (l.take k) false a) (show (l.take k).length ≤ l.length by simp; omega)
       by_cases hlk : k < l.length
       ·have kz : (k : Int) < (l.length : Int) := by omega
        obtain ⟨s, hs⟩ : ∃ p, l[k]? = some p := ⟨_, List.getElem?_eq_getElem hlk⟩
        obtain ⟨b0, o0, rfl, hbl, kk⟩ := HRC.out (by intro e; rw [e] at hlk; simp at hlk)
        have HB4 := hide (HB3.out.trans ((HWB.out.trans (HB5.out.mono HWB.out.size)).mono HB3.out.size))
        obtain ⟨d0, d1, d2, d3⟩ := sg_cells kk HB4.out hbl hs
        have hbr : b0 < wr.heap.size := Nat.lt_of_lt_of_le hbl HB4.out.size
        have hb0W : b0 < W0.heap.size := Nat.lt_of_lt_of_le hbl (Nat.le_trans HB3.out.size hk6)
        have HSK : Hid (∀ w', Below W0.heap.size W0 w' → Below W0.heap.size W0 w' ∧ (w'.cell? ⟨b0, o0 + k * 4, none⟩ = some (.int .i64 s.ax) ∧ w'.cell? ⟨b0, o0 + k * 4 + 1, none⟩ = some (.int .i64 s.ay)) ∧ w'.cell? ⟨b0, o0 + k * 4 + 2, none⟩ = some (.int .i64 s.cx) ∧ w'.cell? ⟨b0, o0 + k * 4 + 3, none⟩ = some (.int .i64 s.cy)) := hide (fun w' hW => by
         obtain ⟨y0, y1, y2, y3⟩ := sg_cells kk (HB3.out.trans ((HWB.out.trans (hW.mono HWB.out.size)).mono HB3.out.size)) hbl hs
         exact ⟨hW, ⟨y0, y1⟩, y2, y3⟩)
        have c0 := (HB5.out.cell (p := ⟨b1, _, none⟩) (Nat.lt_of_lt_of_le hb1 hk6)).trans ((HWB.out.cell (p := ⟨b1, _, none⟩) hb1).trans (HK1.out _ a HA.out))
        have hb1r : b1 < wr.heap.size := Nat.lt_of_lt_of_le (Nat.lt_of_lt_of_le hb1 hk6) HB5.out.size
        have mm0 : (0 : Int) ≤ (m : Int) := by omega
        clear kk HB4 hbl
        by_cases h1 : s.ax = a
        ·have y1 : (s.ax == a) = true := by simpa using h1
         by_cases h2 : s.cx = a
         ·have y2 : (s.cx == a) = true := by simpa using h2
          obtain ⟨X, hX⟩ : ∃ X, ownF (l.take k) false a = X := ⟨_, rfl⟩
          have HE := hide (own_in_col (HV.out s (List.mem_of_getElem? hs)) hs h1 h2)
          rw [hX] at HE HO5 hol
          rw [hX]
          clear hX hs h1 h2
          go_upto_region 19 with fail
          go_quiet (fail)
          refine name_exit fun W1 hW1 => ?_
          have hb1W : Below wr.heap.size wr W1 := by rw [hW1]; exact below_drewN (Below.refl _ _) _
          have HB6 := hide (HB5.out.trans (hb1W.mono HB5.out.size))
          have HO6 := hide (own_below HO5.out hb1W)
          obtain ⟨u0, u1, u2, u3⟩ : W1.cell? ⟨b0, o0 + k * 4, none⟩ = some (.int .i64 s.ax) ∧ W1.cell? ⟨b0, o0 + k * 4 + 1, none⟩ = some (.int .i64 s.ay) ∧ W1.cell? ⟨b0, o0 + k * 4 + 2, none⟩ = some (.int .i64 s.cx) ∧ W1.cell? ⟨b0, o0 + k * 4 + 3, none⟩ = some (.int .i64 s.cy) := ⟨(hb1W.cell (p := ⟨b0, _, none⟩) hbr).trans d0, (hb1W.cell (p := ⟨b0, _, none⟩) hbr).trans d1, (hb1W.cell (p := ⟨b0, _, none⟩) hbr).trans d2, (hb1W.cell (p := ⟨b0, _, none⟩) hbr).trans d3⟩
          have t0 := (hb1W.cell (p := ⟨b1, _, none⟩) hb1r).trans c0
          have hbW : b0 < W1.heap.size := Nat.lt_of_lt_of_le hbr hb1W.size
          have hb1V : b1 < W1.heap.size := Nat.lt_of_lt_of_le hb1r hb1W.size
          clear hW1 hb1W d0 d1 d2 d3 c0 HB5 HO5 hbr hb1r
          go_upto_region 21 with fail
          go_quiet (fail)
          refine name_exit fun W2 hW2 => ?_
          have hb2W : Below W1.heap.size W1 W2 := by rw [hW2]; exact below_drewN (Below.refl _ _) _
          have HB7 := hide (HB6.out.trans (hb2W.mono HB6.out.size))
          have HO7 := hide (own_below HO6.out hb2W)
          obtain ⟨s0, s1, s2, s3⟩ : W2.cell? ⟨b0, o0 + k * 4, none⟩ = some (.int .i64 s.ax) ∧ W2.cell? ⟨b0, o0 + k * 4 + 1, none⟩ = some (.int .i64 s.ay) ∧ W2.cell? ⟨b0, o0 + k * 4 + 2, none⟩ = some (.int .i64 s.cx) ∧ W2.cell? ⟨b0, o0 + k * 4 + 3, none⟩ = some (.int .i64 s.cy) := ⟨(hb2W.cell (p := ⟨b0, _, none⟩) hbW).trans u0, (hb2W.cell (p := ⟨b0, _, none⟩) hbW).trans u1, (hb2W.cell (p := ⟨b0, _, none⟩) hbW).trans u2, (hb2W.cell (p := ⟨b0, _, none⟩) hbW).trans u3⟩
          have hbX : b0 < W2.heap.size := Nat.lt_of_lt_of_le hbW hb2W.size
          clear hW2 hb2W u0 u1 u2 u3 t0 HB6 HO6
          go_upto_region 22 with fail
          have HBK : Hid (Below W2.heap.size W2 W2.drew) := hide (Below.refl _ _).drew
          clear s0 s1 s2 s3
          refine wp_region_mix [0, 1, 2, 3, 4, 5, 6, 7, 8, 9, 10, 11, 12, 13, 14, 15, 16, 17, 18, 19, 20, 21, 22, 23, 24, 25, 26, 27] [28, 29, 30] (fun w' => Below W0.heap.size W0 w' ∧ (w'.cell? ⟨b0, o0 + k * 4, none⟩ = some (.int .i64 s.ax) ∧ w'.cell? ⟨b0, o0 + k * 4 + 1, none⟩ = some (.int .i64 s.ay)) ∧ w'.cell? ⟨b0, o0 + k * 4 + 2, none⟩ = some (.int .i64 s.cx) ∧ w'.cell? ⟨b0, o0 + k * 4 + 3, none⟩ = some (.int .i64 s.cy)) (by kernel_rfl) (by kernel_rfl) (HSK.out _ (HB7.out.trans (HBK.out.mono HB7.out.size))) ?_
          simp only [List.map_cons, List.map_nil, opAt, List.getElem?_cons_succ, List.getElem?_cons_zero, Option.getD_some]
          generalize W2.drew = wk at *
          iterate 28
           refine ⟨?_, Or.inl ⟨by rfl, ?_⟩, ?_⟩
           rotate_left 1
           ·intro w' hSw
            obtain ⟨hS0, ⟨y0, y1⟩, y2, y3⟩ := hSw
            have hbq : b0 < w'.heap.size := Nat.lt_of_lt_of_le hb0W hS0.size
            clear hS0
            go_simp
            first | done | with_reducible rfl
           simp only [Act.put, List.setIfInBounds_toArray, List.set_cons_zero, List.set_cons_succ]
          simp only [wpReads]
          have HB8 := hide (HB7.out.trans (HBK.out.mono HB7.out.size))
          have HO8 := hide (own_below HO7.out HBK.out)
          intro K0 hK
          simp only [Act.put, List.setIfInBounds_toArray, List.set_cons_zero, List.set_cons_succ] at hK ⊢
          go_simp
          refine hK _ _ (fun _ => HSK.out _ (HB8.out.alloc HB8.out.size _)) ?_
          clear hK K0
          intro K0 hK
          simp only [Act.put, List.setIfInBounds_toArray, List.set_cons_zero, List.set_cons_succ] at hK ⊢
          rw [if_pos (by rfl)]
          refine wp_app_rd _ (enc := encS) (k := 2) (l := [((min s.ay s.cy, max s.ay s.cy) : Sp)]) (fun _ => rfl) one_encS (.tmp 167) (.tmp 195) 136 rfl W0.heap.size 141 i2 (.agg #[.int .i64 0, .int .i64 0]) 16 Tryz.underlying136 fi fz0 fz1 fz2 rfl (by decide) _ X.length _ rfl (World.ownsRow.alloc HO8.out _) _ (PairAt.rd (World.alloc_heap_new _ _)) (by simp only [List.length_cons, List.length_nil]; unfold maxLen; omega) (by simp only [List.length_cons, List.length_nil]; omega) (by have := HB8.out.size; simp; omega) ?_
          intro v9 w9 ho9 hg9
          have hs8 := HB8.out.size
          have HB9 : Hid (Below W0.heap.size W0 w9) := hide ((HB8.out.alloc hs8 _).grown hg9 (by simp; omega) (fun q hq => (HO8.out.lt q hq).1))
          obtain ⟨A9, c9, rfl⟩ := own_form ho9
          have HO9 : Hid (w9.ownsRow W0.heap.size 141 2 (.slice A9 (X ++ [((min s.ay s.cy, max s.ay s.cy) : Sp)]).length c9) (X ++ [((min s.ay s.cy, max s.ay s.cy) : Sp)]).length ((X ++ [((min s.ay s.cy, max s.ay s.cy) : Sp)]).flatMap encS)) := hide (by rw [List.length_append, List.flatMap_append]; exact ho9)
          refine hK _ _ (fun _ => HSK.out _ HB9.out) ?_
          clear hK K0 ho9 hg9
          intro K0 hK
          simp only [Act.put, List.setIfInBounds_toArray, List.set_cons_zero, List.set_cons_succ] at hK ⊢
          go_simp
          refine hK _ _ (fun h => absurd rfl h) ?_
          clear hK K0
          refine NoPanic.normal ?_
          go_wp2
          go_roundw
          case rel =>
           refine ⟨k + 1, A9, c9, by omega, by go_num, ?_, HB9, ?_⟩
           ·rw [HE.out]; simp
           ·rw [HE.out]; exact HO9
          case measure => simp [intOf]; omega
         ·have y2 : (s.cx == a) = false := by simpa using h2
          have HE := hide (own_out_col (HV.out s (List.mem_of_getElem? hs)) hs (fun h => h2 h.2))
          clear h1 h2
          clear hs
          go_upto_region 19 with fail
          go_quiet (fail)
          refine name_exit fun W1 hW1 => ?_
          have hb1W : Below wr.heap.size wr W1 := by rw [hW1]; exact below_drewN (Below.refl _ _) _
          have HB6 := hide (HB5.out.trans (hb1W.mono HB5.out.size))
          have HO6 := hide (own_below HO5.out hb1W)
          obtain ⟨u0, u1, u2, u3⟩ : W1.cell? ⟨b0, o0 + k * 4, none⟩ = some (.int .i64 s.ax) ∧ W1.cell? ⟨b0, o0 + k * 4 + 1, none⟩ = some (.int .i64 s.ay) ∧ W1.cell? ⟨b0, o0 + k * 4 + 2, none⟩ = some (.int .i64 s.cx) ∧ W1.cell? ⟨b0, o0 + k * 4 + 3, none⟩ = some (.int .i64 s.cy) := ⟨(hb1W.cell (p := ⟨b0, _, none⟩) hbr).trans d0, (hb1W.cell (p := ⟨b0, _, none⟩) hbr).trans d1, (hb1W.cell (p := ⟨b0, _, none⟩) hbr).trans d2, (hb1W.cell (p := ⟨b0, _, none⟩) hbr).trans d3⟩
          have t0 := (hb1W.cell (p := ⟨b1, _, none⟩) hb1r).trans c0
          have hbW : b0 < W1.heap.size := Nat.lt_of_lt_of_le hbr hb1W.size
          have hb1V : b1 < W1.heap.size := Nat.lt_of_lt_of_le hb1r hb1W.size
          clear hW1 hb1W d0 d1 d2 d3 c0 HB5 HO5 hbr hb1r
          go_upto_region 21 with fail
          go_quiet (fail)
          refine name_exit fun W2 hW2 => ?_
          have hb2W : Below W1.heap.size W1 W2 := by rw [hW2]; exact below_drewN (Below.refl _ _) _
          have HB7 := hide (HB6.out.trans (hb2W.mono HB6.out.size))
          have HO7 := hide (own_below HO6.out hb2W)
          clear hW2 hb2W u0 u1 u2 u3 t0 HB6 HO6
          go_wp2
          go_roundw
          case rel =>
           refine ⟨k + 1, Ai, ci, by omega, by go_num, ?_, HB7, ?_⟩
           ·rw [HE.out]
           ·rw [HE.out]; exact HO7
          case measure => simp [intOf]; omega
        ·have y1 : (s.ax == a) = false := by simpa using h1
         have HE := hide (own_out_col (HV.out s (List.mem_of_getElem? hs)) hs (fun h => h1 h.1))
         clear h1
         clear hs
         go_upto_region 19 with fail
         go_quiet (fail)
         refine name_exit fun W1 hW1 => ?_
         have hb1W : Below wr.heap.size wr W1 := by rw [hW1]; exact below_drewN (Below.refl _ _) _
         have HB6 := hide (HB5.out.trans (hb1W.mono HB5.out.size))
         have HO6 := hide (own_below HO5.out hb1W)
         obtain ⟨u0, u1, u2, u3⟩ : W1.cell? ⟨b0, o0 + k * 4, none⟩ = some (.int .i64 s.ax) ∧ W1.cell? ⟨b0, o0 + k * 4 + 1, none⟩ = some (.int .i64 s.ay) ∧ W1.cell? ⟨b0, o0 + k * 4 + 2, none⟩ = some (.int .i64 s.cx) ∧ W1.cell? ⟨b0, o0 + k * 4 + 3, none⟩ = some (.int .i64 s.cy) := ⟨(hb1W.cell (p := ⟨b0, _, none⟩) hbr).trans d0, (hb1W.cell (p := ⟨b0, _, none⟩) hbr).trans d1, (hb1W.cell (p := ⟨b0, _, none⟩) hbr).trans d2, (hb1W.cell (p := ⟨b0, _, none⟩) hbr).trans d3⟩
         have t0 := (hb1W.cell (p := ⟨b1, _, none⟩) hb1r).trans c0
         have hbW : b0 < W1.heap.size := Nat.lt_of_lt_of_le hbr hb1W.size
         have hb1V : b1 < W1.heap.size := Nat.lt_of_lt_of_le hb1r hb1W.size
         clear hW1 hb1W d0 d1 d2 d3 c0 HB5 HO5 hbr hb1r
         go_upto_region 21 with fail
         go_quiet (fail)
         refine name_exit fun W2 hW2 => ?_
         have hb2W : Below W1.heap.size W1 W2 := by rw [hW2]; exact below_drewN (Below.refl _ _) _
         have HB7 := hide (HB6.out.trans (hb2W.mono HB6.out.size))
         have HO7 := hide (own_below HO6.out hb2W)
         clear hW2 hb2W u0 u1 u2 u3 t0 HB6 HO6
         go_wp2
         go_roundw
         case rel =>
          refine ⟨k + 1, Ai, ci, by omega, by go_num, ?_, HB7, ?_⟩
          ·rw [HE.out]
          ·rw [HE.out]; exact HO7
         case measure => simp [intOf]; omega
       ·have kz : ¬ (k : Int) < (l.length : Int) := by omega
        obtain rfl : k = l.length := by omega
        have et : l.take l.length = l := List.take_length
        rw [et] at HO5 hol
        have HUN := hide (runited_any (own_rd (l := ownF l false a) HO5.out (fun _ => rfl)) (by omega))
        have hul := Nat.le_trans (unitF_len (ownF l false a)) hol
        clear et
        go_wp2_with (fail)
        refine HUN.out.mono ?_
        rintro e w7 ⟨⟨vu, rfl, hou⟩, hbu⟩
        obtain ⟨Au, cu, rfl⟩ := own_form hou
        have HB7 := hide (HB5.out.trans (hbu.mono HB5.out.size))
        have hs5 := HB5.out.size
        have HI7 := hide (HIW.out.below HB7.out)
        have HOU := hide (own_base hou (Nat.le_trans hk6 hs5))
        have c0 := (HB7.out.cell (p := ⟨b1, _, none⟩) (Nat.lt_of_lt_of_le hb1 hk6)).trans ((HWB.out.cell (p := ⟨b1, _, none⟩) hb1).trans (HK1.out _ a HA.out))
        have hb1r : b1 < w7.heap.size := Nat.lt_of_lt_of_le (Nat.lt_of_lt_of_le hb1 hk6) HB7.out.size
        have mm0 : (0 : Int) ≤ (m : Int) := by omega
        obtain ⟨vs, hvs1, hvs2⟩ := HI7.out.o
        have HVS1 := hide hvs1
        have HVS2 := hide hvs2
        have hl7 := HI7.out.low.size
        have e7 : ((linesF l false).take (m)).length = m := by rw [List.length_take, HLL.out]; omega
        rw [e7] at HVS1
        clear hou hbu HUN HB5 HO5 hvs1 hvs2
        generalize unitF (ownF l false a) = U at *
        go_wp2_with (at_builtin; go_loud (refine wpList_append_lies _ rfl (.tmp 199) (.tmp 206) 228 rfl w3.heap.size 265 i3 (.agg #[.int .i64 0, .slice none 0 0]) 2 32 Tryz.underlying228 ki kz0 kz1 kz2 rfl (by decide) _ (m) _ rfl (World.ownsRow.alloc HVS1.out _) ⟨w7.heap.size, 0, none⟩ 1 1 [.int .i64 a, .slice Au U.length cu] rfl rfl (news_new w7 _ _ _ rfl) (by intro u hu; simp only [List.mem_cons, List.not_mem_nil, or_false] at hu; rcases hu with rfl | rfl <;> rfl) (by omega) (by unfold maxLen; omega) (by omega) (by simp; omega) _ rfl ?_))
        intro g9 cap9 w9 hown9 hgrow9 _ _
        have hpush := LnI.push (w := w3) (L := (linesF l false).take (m)) (q := (a, U)) (HI7.out.low.alloc hl7 _) (by rw [e7]; exact World.ownsRow.alloc HVS1.out _) (fun i r hi => by
         obtain ⟨q0, v, q1, q2⟩ := HVS2.out i r hi
         exact ⟨q0, v, q1, World.ownsRow.alloc q2 _⟩) (World.ownsRow.alloc HOU.out _) hgrow9 (by rw [e7]; exact hown9)
        rw [← HT.out] at hpush
        have HP9 := hide hpush
        clear hown9 hgrow9 hpush
        go_wp2
        go_roundw
        case rel => exact ⟨m + 1, _, cap9, by omega, by go_num, rfl, HP9⟩
        case measure => simp [intOf]; omega
    ·have mz : ¬ (m : Int) < (K.length : Int) := by omega
     obtain rfl : m = K.length := by omega
     have HF : Hid (LnI w (.slice Ao K.length co) (linesF l false) wr) := hide (by
      have h := HI.out
      rw [List.take_of_length_le (by rw [HLL.out]; omega)] at h
      obtain ⟨vs, h1, h2⟩ := h.o
      refine ⟨HB3.out.trans (h.low.mono HB3.out.size), vs, own_base h1 HB3.out.size, fun i q hq => ?_⟩
      obtain ⟨g0, v, g1, g2⟩ := h2 i q hq
      exact ⟨g0, v, g1, own_base g2 HB3.out.size⟩)
     go_wp2
     go_ret
     exact ⟨_, rfl, HF.out⟩
end Go.Proofs.YtikojiciilambaaGreat

/- A set of points as a map from points to true: what lies in it, store, length, the range over it. -/
namespace Go.Proofs.YtikojiciilambaaGreat
open Go.RowKit Go.Maps
open Go.ChangeMaps (setBlock heap_setBlock_same heap_setBlock_other)
set_option linter.unusedVariables false
set_option linter.unusedSimpArgs false
theorem laidOutS : laidOutB Tryz.prog = true := by kernel_rfl
theorem rowPt : 53 < Tryz.prog.types.size := of_decide_eq_true (by kernel_rfl)
theorem lawPtT : WideMaps.KeyLaw Tryz.prog 53 := deep_law_laid laidOutS (m := 2) (by omega) rowPt (by kernel_rfl) (by rw [Tryz.underlying53])
theorem lawPt : Keyed Tryz.prog 53 := Keyed.of_law lawPtT
def vP (p : Pt) : Value := .agg #[.int .i64 p.1, .int .i64 p.2]
def kP (p : Pt) : Lit := .string (keyBytes [.int .i64 p.1, .int .i64 p.2])
theorem keyLits_pt {p : Pt} (h : bigP p) (d : Nat) : Tryz.prog.keyLits (d + 2) 53 [.int .i64 p.1, .int .i64 p.2] = some [.int .i64 p.1, .int .i64 p.2] := by
 obtain ⟨⟨h1, h2⟩, h3, h4⟩ := h
 have w1 : (Lit.int .i64 p.1).wf = true := WalkArith.wf_i64 (by omega)
 have w2 : (Lit.int .i64 p.2).wf = true := WalkArith.wf_i64 (by omega)
 have c1 : Tryz.prog.cellsOf 53 = 2 := by kernel_rfl
 have c2 : Tryz.prog.cellsOf 3 = 1 := by kernel_rfl
 simp [Program.keyLits, Tryz.underlying53, Tryz.underlying3, c1, c2, w1, w2]
theorem keyOf_pt {p : Pt} (h : bigP p) : keyOf Tryz.prog 53 (vP p) = some (kP p) := by
 have h1 : Tryz.prog.keyType 53 = true := by kernel_rfl
 have c1 : Tryz.prog.cellsOf 53 = 2 := by kernel_rfl
 obtain ⟨d, hd⟩ : ∃ d, Tryz.prog.types.size + 1 = d + 2 := by
  have := Nat.lt_of_le_of_lt (Nat.zero_le _) rowPt
  exact ⟨Tryz.prog.types.size - 1, by omega⟩
 have h2 := keyLits_pt h d
 unfold keyOf vP
 rw [Tryz.underlying53, hd]
 have h3 : (Value.agg #[.int .i64 p.1, .int .i64 p.2]).formed Tryz.prog 53 = true := by simp [Value.formed, Tryz.underlying53, c1]
 have h4 : (Value.agg #[.int .i64 p.1, .int .i64 p.2]).cells.toList = [.int .i64 p.1, .int .i64 p.2] := rfl
 simp only [h1, h3, h4, h2, Bool.and_true, if_true, Option.map_some]
 rfl
theorem kP_inj {a b : Pt} (ha : bigP a) (hb : bigP b) (h : kP a = kP b) : a = b := by
 have h1 := keyOf_pt ha
 have h2 := keyOf_pt hb
 rw [h] at h1
 have := lawPt.inj h1 h2
 unfold vP at this
 simp only [Value.agg.injEq, Array.mk.injEq, List.cons.injEq, Value.int.injEq, true_and, and_true] at this
 exact Prod.ext this.1 this.2
abbrev ownsF (b n : Nat) (D : DataW Unit) (w : World) : Prop := w.ownsMap Tryz.prog 53 (plainElem Tryz.prog 4) b n D
def addP (K : List Pt) (k : Pt) : List Pt := if k ∈ K then K else K ++ [k]
theorem mem_addP {K : List Pt} {k k' : Pt} : k' ∈ addP K k ↔ k' = k ∨ k' ∈ K := by
 unfold addP
 split
 ·rename_i hm
  constructor
  ·exact .inr
  ·rintro (rfl | h1)
   ·exact hm
   ·exact h1
 ·rw [List.mem_append, List.mem_singleton]
  exact Or.comm
theorem addP_nd {K : List Pt} (h : K.Nodup) (k : Pt) : (addP K k).Nodup := by
 unfold addP
 split
 ·exact h
 ·rename_i hm
  rw [List.nodup_append]
  refine ⟨h, by simp, fun a ha b hb e => ?_⟩
  rw [List.mem_singleton] at hb
  subst hb; subst e
  exact hm ha
structure FD (K : List Pt) (D : DataW Unit) : Prop where
 size : Maps.size D = K.length
 has : ∀ l, Maps.has D l = true ↔ ∃ k ∈ K, l = kP k
structure Fs (bF : Nat) (K : List Pt) (w : World) : Prop where
 map : ∃ D, ownsF bF K.length D w ∧ FD K D
 rng : ∀ k ∈ K, bigP k
 nd : K.Nodup
structure Fr (bF r : Nat) (K : List Pt) (left : Lit → Bool) (cnt : Nat) (w : World) : Prop where
 map : ∃ D, w.ranges Tryz.prog 53 (plainElem Tryz.prog 4) bF r K.length D left cnt ∧ FD K D
 rng : ∀ k ∈ K, bigP k
 nd : K.Nodup
theorem Fs.made (w : World) : Fs w.heap.size [] (w.alloc (.map #[] 0)) :=
 ⟨⟨.map [], World.ownsMap_made w _ _ _, rfl, fun l => by rw [has_eq]; simp⟩, fun k h => (List.not_mem_nil h).elim, by simp⟩
theorem Fs.grown {bF : Nat} {K : List Pt} {w w' : World} (h : Fs bF K w) {row : Option Nat} (hg : w.grownBy w' row) (h1 : some bF ≠ row) : Fs bF K w' := by
 obtain ⟨D, d1, d2⟩ := h.map
 exact ⟨⟨D, d1.kept hg h1, d2⟩, h.rng, h.nd⟩
theorem Fs.below {bF : Nat} {K : List Pt} {w w' : World} (h : Fs bF K w) (hb : Below w.heap.size w w') : Fs bF K w' := h.grown (below_grow hb) (by simp)
theorem Fr.grown {bF r : Nat} {K : List Pt} {left : Lit → Bool} {cnt : Nat} {w w' : World} (h : Fr bF r K left cnt w) {row : Option Nat} (hg : w.grownBy w' row) (h1 : some bF ≠ row) (h2 : some r ≠ row) : Fr bF r K left cnt w' := by
 obtain ⟨D, d1, d2⟩ := h.map
 exact ⟨⟨D, d1.kept hg h1 h2, d2⟩, h.rng, h.nd⟩
theorem Fr.fs {bF r : Nat} {K : List Pt} {left : Lit → Bool} {cnt : Nat} {w : World} (h : Fr bF r K left cnt w) : Fs bF K w := by
 obtain ⟨D, d1, d2⟩ := h.map
 exact ⟨⟨D, d1.owns, d2⟩, h.rng, h.nd⟩
theorem Fs.lt {bF : Nat} {K : List Pt} {w : World} (h : Fs bF K w) : bF < w.heap.size := by
 obtain ⟨D, d1, _⟩ := h.map
 exact d1.lt
theorem FD.has_iff {K : List Pt} {D : DataW Unit} (h : FD K D) (hr : ∀ k ∈ K, bigP k) {k : Pt} (hk : bigP k) : Maps.has D (kP k) = true ↔ k ∈ K := by
 rw [h.has]
 constructor
 ·rintro ⟨k', hk', e⟩
  rw [kP_inj hk (hr k' hk') e]
  exact hk'
 ·intro hm; exact ⟨k, hm, rfl⟩
theorem Fs.store {bF : Nat} {K : List Pt} {w : World} (h : Fs bF K w) {k : Pt} (hk : bigP k) (hn : K.length < maxLen) :
  ∃ w', (Instr.mapUpdate 258 (.map (some bF)) (vP k) (.bool true)).run Tryz.prog w = .ok () w' ∧ w.grownBy w' (some bF) ∧ Fs bF (addP K k) w' := by
 obtain ⟨D, d1, d2⟩ := h.map
 obtain ⟨w', hrun, o3, g3⟩ := d1.update lawPt Tryz.underlying258 hn (keyOf_pt hk) (plainElem_bool Tryz.underlying4 true)
 have hd : FD (addP K k) (D.put (kP k) (.lit (.bool true))) := by
  refine ⟨?_, fun l => ?_⟩
  ·rw [size_put (d1.tidy lawPt)]
   unfold addP
   by_cases hm : k ∈ K
   ·rw [if_pos ((d2.has_iff h.rng hk).2 hm), if_pos hm, d2.size]
   ·rw [if_neg (fun e => hm ((d2.has_iff h.rng hk).1 e)), if_neg hm, d2.size]; simp
  ·by_cases e : l = kP k
   ·subst e
    rw [has_put_same d1.isMap (lawPt.key (keyOf_pt hk))]
    exact ⟨fun _ => ⟨k, mem_addP.2 (.inl rfl), rfl⟩, fun _ => rfl⟩
   ·rw [has_put_other e, d2.has]
    constructor
    ·rintro ⟨k', h1, h2⟩; exact ⟨k', mem_addP.2 (.inr h1), h2⟩
    ·rintro ⟨k', h1, h2⟩
     rcases mem_addP.1 h1 with h3 | h3
     ·subst h3; exact absurd h2 e
     ·exact ⟨k', h3, h2⟩
 refine ⟨w', hrun, g3, ⟨D.put (kP k) (.lit (.bool true)), ?_, hd⟩, fun k' hk' => ?_, addP_nd h.nd k⟩
 ·have hsz := hd.size
  obtain ⟨es, clock, hb, F, hs, hD⟩ := o3
  refine ⟨es, clock, hb, F, ?_, hD⟩
  rw [← hsz, hD, Maps.size_eq, length_sorted]
  simp
 ·rcases mem_addP.1 hk' with rfl | h1
  ·exact hk
  ·exact h.rng k' h1
theorem Fs.len {bF : Nat} {K : List Pt} {w : World} (h : Fs bF K w) (ty : TypeId) : (Builtin.len_ #[258] ty #[.map (some bF)]).run Tryz.prog w = .ok (.int .i64 K.length) w := by
 obtain ⟨D, d1, d2⟩ := h.map
 rw [d1.len Tryz.underlying258 ty, d2.size]
theorem bool_inv {v : Value} {y : DataW Unit × List MemPlace} (h : plainElem (H := Unit) Tryz.prog 4 v = some y) : ∃ c, v = .bool c := by
 cases v <;> simp [plainElem, Tryz.underlying4] at h
 exact ⟨_, rfl⟩
theorem pt_inv {K : List Pt} {D : DataW Unit} (hd : FD K D) (hr : ∀ k ∈ K, bigP k) {key : Value} {kl : Lit} (hk : keyOf Tryz.prog 53 key = some kl) (hh : Maps.has D kl = true) : ∃ p ∈ K, key = vP p ∧ kl = kP p := by
 obtain ⟨p, hp, e⟩ := (hd.has kl).1 hh
 refine ⟨p, hp, ?_, e⟩
 exact lawPt.inj hk (by rw [e]; exact keyOf_pt (hr p hp))
theorem wpList_next_fs {w : World} {ops : Array Oper} {rest : List Oper} {o : Oper} {a : Act} {Q : Exit → Act → World → Prop} (hg : o.guard = none) (it : Operand) (hop : o.op = Op.next it false) {bF r : Nat} {K : List Pt} {left : Lit → Bool} {cnt : Nat}
  (hit : a.eval it = .pointer (some ⟨r, 0, none⟩)) (h : Fr bF r K left cnt w)
  (hDone : cnt = 0 → (∀ kl, left kl = false) → wpList Tryz.prog ops Q rest (a.put o.dst (.tuple #[.bool false])) w)
  (hMore : ∀ (x : Pt) (c : Value) (w' : World) (cnt' : Nat), x ∈ K → left (kP x) = true → Fr bF r K (fun z => left z && !z.sameKey (kP x)) cnt' w' → cnt' < cnt → w.grownBy w' (some r) → w'.heap.size = w.heap.size → (Instr.entry (.pointer (some ⟨r, 0, none⟩))).run Tryz.prog w' = .ok (.tuple #[vP x, c]) w' →
   wpList Tryz.prog ops Q rest (a.put o.dst (.tuple #[.bool true, vP x, c])) w') : wpList Tryz.prog ops Q (o :: rest) a w := by
 obtain ⟨D, d1, d2⟩ := h.map
 refine wpList_next_ranges w hg it hop 53 lawPt (plainElem Tryz.prog 4) id Value.bool (fun key kl hkey => ⟨key, rfl⟩) (fun v y hv => bool_inv hv) bF r K.length D left cnt hit d1 hDone ?_
 intro key c kl y w' cnt' hkey hlk hR hat hrg hlt hgr hsz hen
 have hh : Maps.has D kl = true := by
  cases hh : Maps.has D kl
  ·have e1 := hat (.map [])
   have e2 := hat .nil
   rw [atKey_of_not_has hh] at e1 e2
   rw [← e2] at e1
   cases e1
  ·rfl
 obtain ⟨p, hp, rfl, rfl⟩ := pt_inv d2 h.rng (key := key) hkey hh
 exact hMore p (.bool c) w' cnt' hp hlk ⟨⟨D, hrg, d2⟩, h.rng, h.nd⟩ hlt hgr hsz hen
theorem wpList_range_fs {w : World} {ops : Array Oper} {rest : List Oper} {o : Oper} {a : Act} {Q : Exit → Act → World → Prop} (hg : o.guard = none) (m : Operand) (hop : o.op = Op.range 258 m) {bF : Nat} {K : List Pt} (hm : a.eval m = .map (some bF)) (h : Fs bF K w)
  (hK : ∀ w' left, Fr bF w.heap.size K left K.length w' → (∀ x ∈ K, left (kP x) = true) → w.grownBy w' none → w'.heap.size = w.heap.size + 1 → wpList Tryz.prog ops Q rest (a.put o.dst (.pointer (some ⟨w.heap.size, 0, none⟩))) w') : wpList Tryz.prog ops Q (o :: rest) a w := by
 obtain ⟨D, d1, d2⟩ := h.map
 refine wpList_range_own w hg m _ hop 53 _ lawPt Tryz.underlying258 (plainElem Tryz.prog 4) bF K.length D hm d1 fun w' hr hgr hs => ?_
 exact hK w' _ ⟨⟨D, (d2.size ▸ hr), d2⟩, h.rng, h.nd⟩ (fun x hx => (d2.has_iff h.rng (h.rng x hx)).2 hx) hgr hs
theorem kP_same {a b : Pt} (ha : bigP a) (hb : bigP b) : (kP a).sameKey (kP b) = decide (a = b) := by
 by_cases e : a = b
 ·subst e
  rw [decide_eq_true rfl]
  exact WideAt.sameKey_self (lawPt.key (keyOf_pt ha))
 ·rw [decide_eq_false e]
  exact Maps.sameKey_ne (fun h => e (kP_inj ha hb h))
end Go.Proofs.YtikojiciilambaaGreat

/- street.roads.nodes: the closure that tries a point; what holds while the lines are gone through. -/
namespace Go.Proofs.YtikojiciilambaaGreat
open Go.RowKit Go.Maps
set_option linter.unusedVariables false
set_option linter.unusedSimpArgs false
set_option maxRecDepth 100000 in
set_option maxHeartbeats 4000000 in
theorem try_any {w : World} {B b1 b2 gR gF bF : Nat} {l : List Sg} {K : List Pt} (h : Roads B l (.agg #[.map (some b1), .map (some b2)]) w) (hv : ∀ s ∈ l, okSg s) (hl : l.length ≤ 800) {x y : Int} (hp : bigP (x, y))
  (c0 : w.cell? ⟨gR, 0, none⟩ = some (.map (some b1))) (c1 : w.cell? ⟨gR, 1, none⟩ = some (.map (some b2))) (c2 : w.cell? ⟨gF, 0, none⟩ = some (.map (some bF))) (hf : Fs bF K w) (hn : K.length < maxLen) :
  Calls Tryz.prog 199 #[.agg #[.int .i64 x, .int .i64 y], .pointer (some ⟨gR, 0, none⟩), .pointer (some ⟨gF, 0, none⟩)] w fun e w' => e = .returned (.tuple #[]) ∧ w.grownBy w' (some bF) ∧ Fs bF (if nodeG (htB l) (vtB l) (x, y) = true then addP K (x, y) else K) w' := by
 have HA := hide (fun (W : World) (hb : Below w.heap.size w W) => node_any (h.below hb) hv hl hp)
 have HF := hide hf
 have HP := hide hp
 have lR := lt_of_cell c0
 have lF := lt_of_cell c2
 have nR : gR ≠ w.heap.size := by omega
 have nF : gF ≠ w.heap.size := by omega
 have hb0 : ∀ o, Below w.heap.size w (w.alloc o) := fun o => (Below.refl _ _).alloc (Nat.le_refl _) _
 have HB := hide hb0
 clear h hv hf hp hb0
 cases hnode : nodeG (htB l) (vtB l) (x, y)
 ·rw [hnode] at HA
  clear hnode
  go_enter Tryz.func199, Tryz.ntmps199
  go_wp2_with (fail)
  refine (HA.out _ (HB.out _)).mono ?_
  rintro e w1 ⟨rfl, hb⟩
  have HB1 := hide ((HB.out (.cells #[.int .i64 x, .int .i64 y] 53)).trans (hb.mono (by simp)))
  clear hb
  go_wp2_with (fail)
  go_end0
  refine ⟨rfl, (below_grow HB1.out).but _, ?_⟩
  exact HF.out.below HB1.out
 ·rw [hnode] at HA
  clear hnode
  go_enter Tryz.func199, Tryz.ntmps199
  go_wp2_with (fail)
  refine (HA.out _ (HB.out _)).mono ?_
  rintro e w1 ⟨rfl, hb⟩
  have hz : w.heap.size < w1.heap.size := by have := hb.size; simp at this; omega
  have d0 : w1.cell? ⟨w.heap.size, 0, none⟩ = some (.int .i64 x) := (hb.cell (p := ⟨w.heap.size, 0, none⟩) (by simp)).trans (by simp [go_sem])
  have d1 : w1.cell? ⟨w.heap.size, 1, none⟩ = some (.int .i64 y) := (hb.cell (p := ⟨w.heap.size, 1, none⟩) (by simp)).trans (by simp [go_sem])
  have HB1 := hide ((HB.out (.cells #[.int .i64 x, .int .i64 y] 53)).trans (hb.mono (by simp)))
  have c2' := (HB1.out.cell (p := ⟨gF, 0, none⟩) lF).trans c2
  obtain ⟨w2, hrun, hg2, hf2⟩ := (HF.out.below HB1.out).store HP.out hn
  have hrun' : (Instr.mapUpdate 258 (.map (some bF)) (.agg #[.int .i64 x, .int .i64 y]) (.bool true)).run Tryz.prog w1 = .ok () w2 := hrun
  have HF2 := hide hf2
  have HG2 := hide hg2
  clear hb c0 c1 c2 hrun hf2 hg2
  go_wp2_with (fail)
  go_end0
  refine ⟨rfl, ?_, ?_⟩
  ·exact ((below_grow HB1.out).but (some bF)).andThen HG2.out (fun j hj => .inr hj)
  ·exact HF2.out
structure Fix (h0 B b1 b2 : Nat) (K1 K2 : List Int) (v1 v2 : Int → Value) : Prop where
 g1 : b1 < h0
 g2 : b2 < h0
 r1 : ∀ k ∈ K1, ∀ q, (v1 k).ownBlock = some q → q < h0
 r2 : ∀ k ∈ K2, ∀ q, (v2 k).ownBlock = some q → q < h0
structure Nst (w0 wr : World) (h0 B b1 b2 : Nat) (K1 K2 : List Int) (v1 v2 : Int → Value) (l : List Sg) (K : List Pt) : Prop where
 c0 : wr.cell? ⟨h0, 0, none⟩ = some (.map (some b1))
 c1 : wr.cell? ⟨h0, 1, none⟩ = some (.map (some b2))
 c2 : wr.cell? ⟨h0 + 1 + 1, 0, none⟩ = some (.map (some (h0 + 1)))
 fs : Fs (h0 + 1) K wr
 m1 : Ms B b1 K1 (rowC l) v1 wr
 m2 : Ms B b2 K2 (colC l) v2 wr
 low : Below h0 w0 wr
 sz : h0 + 3 ≤ wr.heap.size
 nd : ∀ k ∈ K, nodeG (htB l) (vtB l) k = true
section
variable {w0 wr w' : World} {h0 B b1 b2 : Nat} {K1 K2 : List Int} {v1 v2 : Int → Value} {l : List Sg} {K : List Pt}
theorem fix_row {vals : Int → Value} {Ks : List Int} (hr : ∀ k ∈ Ks, ∀ q, (vals k).ownBlock = some q → q < h0) {row : Option Nat} (n : ∀ q, row = some q → h0 ≤ q) : ∀ k ∈ Ks, (vals k).ownBlock = none ∨ (vals k).ownBlock ≠ row := fun k hk => by
 rcases hb : (vals k).ownBlock with _ | q
 ·exact .inl rfl
 ·right
  intro e
  have := hr k hk q hb
  have := n q e.symm
  omega
theorem Nst.grown (h : Nst w0 wr h0 B b1 b2 K1 K2 v1 v2 l K) (F : Fix h0 B b1 b2 K1 K2 v1 v2) {row : Option Nat} (hg : wr.grownBy w' row) (n : ∀ q, row = some q → h0 + 3 ≤ q) : Nst w0 w' h0 B b1 b2 K1 K2 v1 v2 l K := by
 have hsz := h.sz
 have g1 := F.g1
 have g2 := F.g2
 have hne : ∀ b, b < h0 + 3 → some b ≠ row := fun b hb e => by have := n b e.symm; omega
 exact ⟨(cell_grow hg (by omega) (hne _ (by omega))).trans h.c0, (cell_grow hg (by omega) (hne _ (by omega))).trans h.c1, (cell_grow hg (by omega) (hne _ (by omega))).trans h.c2, h.fs.grown hg (hne _ (by omega)),
  h.m1.grown hg (hne _ (by omega)) (fix_row F.r1 fun q hq => by have := n q hq; omega), h.m2.grown hg (hne _ (by omega)) (fix_row F.r2 fun q hq => by have := n q hq; omega), h.low.grown hg (by omega) (fun q hq => by have := n q hq; omega), Nat.le_trans hsz hg.size, h.nd⟩
theorem Nst.below (h : Nst w0 wr h0 B b1 b2 K1 K2 v1 v2 l K) (F : Fix h0 B b1 b2 K1 K2 v1 v2) (hb : Below wr.heap.size wr w') : Nst w0 w' h0 B b1 b2 K1 K2 v1 v2 l K := h.grown F (below_grow hb) (fun q hq => by cases hq)
theorem Nst.found (h : Nst w0 wr h0 B b1 b2 K1 K2 v1 v2 l K) (F : Fix h0 B b1 b2 K1 K2 v1 v2) (hg : wr.grownBy w' (some (h0 + 1))) {K' : List Pt} (hf : Fs (h0 + 1) K' w') (hn : ∀ k ∈ K', nodeG (htB l) (vtB l) k = true) : Nst w0 w' h0 B b1 b2 K1 K2 v1 v2 l K' := by
 have hsz := h.sz
 have g1 := F.g1
 have g2 := F.g2
 exact ⟨(cell_grow hg (by omega) (fun e => by injection e with e; omega)).trans h.c0, (cell_grow hg (by omega) (fun e => by injection e with e; omega)).trans h.c1, (cell_grow hg (by omega) (fun e => by injection e with e; omega)).trans h.c2, hf,
  h.m1.grown hg (fun e => by injection e with e; omega) (fix_row F.r1 fun q hq => by injection hq with hq; omega), h.m2.grown hg (fun e => by injection e with e; omega) (fix_row F.r2 fun q hq => by injection hq with hq; omega), h.low.grown hg (by omega) (fun q hq => by injection hq with hq; omega), Nat.le_trans hsz hg.size, hn⟩
theorem Nst.roads (h : Nst w0 wr h0 B b1 b2 K1 K2 v1 v2 l K) (k1 : KeysUp K1 (rowSp l)) (k2 : KeysUp K2 (colSp l)) (e1 : B ≤ b1) (e2 : B ≤ b2) : Roads B l (.agg #[.map (some b1), .map (some b2)]) wr := ⟨b1, b2, K1, K2, v1, v2, rfl, h.m1, h.m2, k1, k2, e1, e2⟩
theorem Mr.keep {b r cnt : Nat} {Ks : List Int} {p : Int → List Sp} {vals : Int → Value} {left : Lit → Bool} (h : Mr B b r Ks p vals left cnt wr) (hb : b < h0) (hr : ∀ k ∈ Ks, ∀ q, (vals k).ownBlock = some q → q < h0) {row : Option Nat} (hg : wr.grownBy w' row) (n : ∀ q, row = some q → h0 ≤ q ∧ q ≠ r) : Mr B b r Ks p vals left cnt w' :=
 h.grown hg (fun e => by have := (n b e.symm).1; omega) (fun e => (n r e.symm).2 rfl) (fix_row hr fun q hq => (n q hq).1)
end
def DoneS (l : List Sg) (y : Int) (s : Sp) (K : List Pt) : Prop := (nodeG (htB l) (vtB l) (s.1, y) = true → (s.1, y) ∈ K) ∧ (nodeG (htB l) (vtB l) (s.2, y) = true → (s.2, y) ∈ K) ∧ ∀ x, s.1 < x → x < s.2 → (vtB l x y = true ∨ vtB l x (y - 1) = true) → (x, y) ∈ K
def DoneC (l : List Sg) (x : Int) (s : Sp) (K : List Pt) : Prop := (nodeG (htB l) (vtB l) (x, s.1) = true → (x, s.1) ∈ K) ∧ (nodeG (htB l) (vtB l) (x, s.2) = true → (x, s.2) ∈ K)
theorem DoneS.mono {l : List Sg} {y : Int} {s : Sp} {K K' : List Pt} (h : DoneS l y s K) (hk : ∀ p ∈ K, p ∈ K') : DoneS l y s K' := ⟨fun e => hk _ (h.1 e), fun e => hk _ (h.2.1 e), fun x a b c => hk _ (h.2.2 x a b c)⟩
theorem DoneC.mono {l : List Sg} {x : Int} {s : Sp} {K K' : List Pt} (h : DoneC l x s K) (hk : ∀ p ∈ K, p ∈ K') : DoneC l x s K' := ⟨fun e => hk _ (h.1 e), fun e => hk _ (h.2 e)⟩
theorem all_found {l : List Sg} (hv : ∀ s ∈ l, okSg s) {K : List Pt} (h1 : ∀ y, ∀ s ∈ rowC l y, DoneS l y s K) (h2 : ∀ x, ∀ s ∈ colC l x, DoneC l x s K) (p : Pt) (hp : nodeG (htB l) (vtB l) p = true) : p ∈ K := by
 obtain ⟨x, y⟩ := p
 rcases (found_iff (rowC_ok hv) (x, y)).2 hp with ⟨⟨s, hs, e⟩, hn⟩ | ⟨s, hs, a, b, c⟩ | ⟨⟨s, hs, e⟩, hn⟩
 ·rcases e with e | e
  ·simp only at e
   subst e
   exact (h1 y s hs).1 hn
  ·simp only at e
   subst e
   exact (h1 y s hs).2.1 hn
 ·exact (h1 y s hs).2.2 x a b c
 ·rcases e with e | e
  ·simp only at e
   subst e
   exact (h2 x s hs).1 hn
  ·simp only at e
   subst e
   exact (h2 x s hs).2 hn
theorem found_len {l : List Sg} (hv : ∀ s ∈ l, okSg s) {K : List Pt} (hn : K.Nodup) (hk : ∀ k ∈ K, nodeG (htB l) (vtB l) k = true) : K.length ≤ (nodesF l).length := nodup_len hn fun x hx => ((nodesF_ok hv).2 x).2 (hk x hx)
end Go.Proofs.YtikojiciilambaaGreat

/- slices.SortFunc at api.Point by street.compare, and at api.Edge by the closure of street.network. -/
namespace Go.Proofs.YtikojiciilambaaGreat
open Go.RowKit Go.Sort
set_option linter.unusedVariables false
set_option linter.unusedSimpArgs false
abbrev BPt := { p : Pt // bigP p }
instance : Inhabited BPt := ⟨⟨(0, 0), by unfold bigP; decide⟩⟩
def encBp (e : BPt) : List Value := encS e.1
def cfP (x y : BPt) : Int := if x.1.1 = y.1.1 then x.1.2 - y.1.2 else x.1.1 - y.1.1
theorem lift_bp : ∀ (E : List Pt), (∀ e ∈ E, bigP e) → ∃ L : List BPt, L.map (·.1) = E
 | [], _ => ⟨[], rfl⟩
 | e :: E, h => by
  obtain ⟨L, hL⟩ := lift_bp E fun x hx => h x (by simp [hx])
  exact ⟨⟨e, h e (by simp)⟩ :: L, by simp [hL]⟩
theorem flat_bp (L : List BPt) : L.flatMap encBp = (L.map (·.1)).flatMap encS := by
 rw [List.flatMap_map]; rfl
theorem cfP_lt (x y : BPt) : ltOf cfP x y = decide (ptLt x.1 y.1) := by
 unfold ltOf cfP
 rw [decide_eq_decide]
 unfold ptLt
 split <;> omega
theorem swoP : SWO (ltOf cfP) where
 irrefl x := by rw [cfP_lt]; exact decide_eq_false (ptLt_irrefl _)
 trans x y z h1 h2 := by
  rw [cfP_lt] at *
  exact decide_eq_true (ptLt_trans (of_decide_eq_true h1) (of_decide_eq_true h2))
 ntrans x y z h1 h2 := by
  rw [cfP_lt] at *
  have a := of_decide_eq_false h1
  have b := of_decide_eq_false h2
  refine decide_eq_false ?_
  unfold ptLt at *
  omega
set_option maxHeartbeats 1000000 in
theorem compare_any (a b c d : Int) (h1 : bigP (a, b)) (h2 : bigP (c, d)) (W : World) : Calls Tryz.prog 165 #[.agg #[.int .i64 a, .int .i64 b], .agg #[.int .i64 c, .int .i64 d]] W fun r w' => r = .returned (.int .i64 (if a = c then b - d else a - c)) ∧ ∃ os', w' = grow W os' := by
 obtain ⟨⟨x1, x2⟩, x3, x4⟩ := h1
 obtain ⟨⟨y1, y2⟩, y3, y4⟩ := h2
 simp only at x1 x2 x3 x4 y1 y2 y3 y4
 by_cases e : a = c
 ·rw [if_pos e]
  have hq : (a != c) = false := by simp [e]
  clear e
  go_enter Tryz.func165, Tryz.ntmps165
  go_wp2
  go_ret
  exact ⟨rfl, _, by rw [alloc_eq_grow, alloc_eq_grow, grow_grow]⟩
 ·rw [if_neg e]
  have hq : (a != c) = true := by simp [e]
  clear e
  go_enter Tryz.func165, Tryz.ntmps165
  go_wp2
  go_ret
  exact ⟨rfl, _, by rw [alloc_eq_grow, alloc_eq_grow, grow_grow]⟩
theorem cmpPt_any (x y : BPt) (W : World) : Calls Tryz.prog 165 #[.agg (encBp x).toArray, .agg (encBp y).toArray] W fun e w' => e = .returned (.int .i64 (cfP x y)) ∧ ∃ q os', w' = grow (W.drewN q) os' := by
 obtain ⟨⟨a, b⟩, hx⟩ := x
 obtain ⟨⟨c, d⟩, hy⟩ := y
 refine (compare_any a b c d hx hy W).mono ?_
 rintro e w' ⟨rfl, os, rfl⟩
 exact ⟨rfl, 0, os, rfl⟩
set_option maxHeartbeats 1000000 in
theorem cmpEd_any (x y : BPt) (W : World) : Calls Tryz.prog 164 #[.agg (encBp x).toArray, .agg (encBp y).toArray] W fun e w' => e = .returned (.int .i64 (cfP x y)) ∧ ∃ q os', w' = grow (W.drewN q) os' := by
 obtain ⟨⟨a, b⟩, hx⟩ := x
 obtain ⟨⟨c, d⟩, hy⟩ := y
 have HC := hide (compare_any a b c d hx hy)
 show Calls Tryz.prog 164 #[.agg #[.int .i64 a, .int .i64 b], .agg #[.int .i64 c, .int .i64 d]] W fun r w' => r = .returned (.int .i64 (if a = c then b - d else a - c)) ∧ ∃ q os', w' = grow (W.drewN q) os'
 clear hx hy
 generalize (if a = c then b - d else a - c) = R at *
 go_enter Tryz.func164, Tryz.ntmps164
 go_wp2_with (fail)
 refine (HC.out _).mono ?_
 rintro e w1 ⟨rfl, os, rfl⟩
 go_wp2_with (fail)
 go_ret
 exact ⟨rfl, 0, _, by rw [alloc_eq_grow, alloc_eq_grow, grow_grow, grow_grow]; rfl⟩
theorem sortPt_any (base : Nat) (v : Value) (E : List Pt) (hB : ∀ e ∈ E, bigP e) (w : World) (hown : w.ownsRow base 53 2 v E.length (E.flatMap encS)) (hsz : E.length < 4611686018427387904) :
  Calls Tryz.prog 202 #[v, .func (.func 165) #[] #[]] w fun e w' => e = .returned (.tuple #[]) ∧
   ∃ E' : List Pt, E'.Perm E ∧ E'.Pairwise (fun a b => ¬ ptLt b a) ∧ w'.ownsRow base 53 2 v E'.length (E'.flatMap encS) ∧ w.grownBy w' v.ownBlock := by
 by_cases h0 : E = []
 ·subst h0
  obtain ⟨p, cap, hv⟩ : ∃ p cap, v = .slice p 0 cap := by
   rcases hown.2 with ⟨rfl, _⟩ | ⟨g, cap, cur, rfl, _⟩
   ·exact ⟨_, _, rfl⟩
   ·exact ⟨_, _, rfl⟩
  subst hv
  have h := AnyF.slices_SortFunc_none Tryz.sortPt p cap (.func (.func 165) #[] #[]) w
  change Calls Tryz.prog 202 _ _ _ at h
  refine h.mono ?_
  rintro e w' ⟨rfl, rfl⟩
  exact ⟨rfl, [], .refl _, .nil, hown, ⟨rfl, rfl, rfl, Nat.le_refl _, fun _ _ _ => rfl⟩⟩
 ·obtain ⟨L, hL⟩ := lift_bp E hB
  have hlen : L.length = E.length := by rw [← hL]; simp
  have hown0 := hown
  rw [← hL, ← flat_bp, List.length_map] at hown
  obtain ⟨g, cap, rfl, hbg, hg⟩ := hown.form (by rw [hlen]; exact List.length_pos_iff.2 h0)
  have hk : ∀ x : BPt, (encBp x).length = 2 := fun _ => rfl
  have hcon := AnyQ.slices_SortFunc Tryz.sortPt 2 Tryz.isAgg53 Tryz.sizeOf53 encBp hk (fun x v hv => by simp [encBp, encS] at hv; rcases hv with rfl | rfl <;> rfl) cfP swoP 165 #[] g 0 cap L.toArray w
   (enters_of Tryz.func165 (by kernel_rfl) rfl) (fun _ _ _ _ x y => cmpPt_any x y _) (own_holds hk hown) hg (by simpa [hlen] using hsz)
  change Calls Tryz.prog 202 _ _ _ at hcon
  rw [List.size_toArray] at hcon
  refine hcon.mono ?_
  rintro e w' ⟨rfl, d', n, os, hp, hs, rfl⟩
  obtain ⟨hp1, _, hp3⟩ := hp
  have hsz' : d'.toList.length = L.length := by simpa using hp1
  have hperm : d'.toList.Perm L := by
   have e1 : (d'.extract 0 L.length).toList = d'.toList := by
    rw [Array.toList_extract, List.extract_eq_take_drop, List.drop_zero, Nat.sub_zero, ← hsz', List.take_length]
   have e2 : (L.toArray.extract 0 L.length).toList = L := by
    simp [List.extract]
   rw [e1, e2] at hp3
   exact hp3
  obtain ⟨o1, o2⟩ := own_sorted (n := n) (l' := d'.toList) hk os hown hsz'
  have eW : d'.toList.toArray = d' := by simp
  rw [eW] at o1 o2
  refine ⟨rfl, d'.toList.map (·.1), ?_, ?_, ?_, o2⟩
  ·rw [← hL]; exact hperm.map _
  ·rw [List.pairwise_map, List.pairwise_iff_getElem]
   intro i j hi hj hij
   have := hs i j (Nat.zero_le _) hij (by rw [← hsz']; exact hj)
   have hi' : i < d'.size := by simpa using hi
   have hj' : j < d'.size := by simpa using hj
   rw [getElem!_pos d' i hi', getElem!_pos d' j hj', cfP_lt] at this
   have := of_decide_eq_false this
   rw [Array.getElem_toList, Array.getElem_toList]
   exact this
  ·rw [List.length_map, ← flat_bp, ← hsz']
   rw [hsz'] at o1 ⊢
   exact o1
theorem sortEd_any (base : Nat) (v : Value) (E : List Pt) (hB : ∀ e ∈ E, bigP e) (w : World) (hown : w.ownsRow base 120 2 v E.length (E.flatMap encS)) (hsz : E.length < 4611686018427387904) :
  Calls Tryz.prog 163 #[v, .func (.func 164) #[] #[]] w fun e w' => e = .returned (.tuple #[]) ∧
   ∃ E' : List Pt, E'.Perm E ∧ E'.Pairwise (fun a b => ¬ ptLt b a) ∧ w'.ownsRow base 120 2 v E'.length (E'.flatMap encS) ∧ w.grownBy w' v.ownBlock := by
 by_cases h0 : E = []
 ·subst h0
  obtain ⟨p, cap, hv⟩ : ∃ p cap, v = .slice p 0 cap := by
   rcases hown.2 with ⟨rfl, _⟩ | ⟨g, cap, cur, rfl, _⟩
   ·exact ⟨_, _, rfl⟩
   ·exact ⟨_, _, rfl⟩
  subst hv
  have h := AnyF.slices_SortFunc_none Tryz.sortEd p cap (.func (.func 164) #[] #[]) w
  change Calls Tryz.prog 163 _ _ _ at h
  refine h.mono ?_
  rintro e w' ⟨rfl, rfl⟩
  exact ⟨rfl, [], .refl _, .nil, hown, ⟨rfl, rfl, rfl, Nat.le_refl _, fun _ _ _ => rfl⟩⟩
 ·obtain ⟨L, hL⟩ := lift_bp E hB
  have hlen : L.length = E.length := by rw [← hL]; simp
  have hown0 := hown
  rw [← hL, ← flat_bp, List.length_map] at hown
  obtain ⟨g, cap, rfl, hbg, hg⟩ := hown.form (by rw [hlen]; exact List.length_pos_iff.2 h0)
  have hk : ∀ x : BPt, (encBp x).length = 2 := fun _ => rfl
  have hcon := AnyQ.slices_SortFunc Tryz.sortEd 2 Tryz.isAgg120 Tryz.sizeOf120 encBp hk (fun x v hv => by simp [encBp, encS] at hv; rcases hv with rfl | rfl <;> rfl) cfP swoP 164 #[] g 0 cap L.toArray w
   (enters_of Tryz.func164 (by kernel_rfl) rfl) (fun _ _ _ _ x y => cmpEd_any x y _) (own_holds hk hown) hg (by simpa [hlen] using hsz)
  change Calls Tryz.prog 163 _ _ _ at hcon
  rw [List.size_toArray] at hcon
  refine hcon.mono ?_
  rintro e w' ⟨rfl, d', n, os, hp, hs, rfl⟩
  obtain ⟨hp1, _, hp3⟩ := hp
  have hsz' : d'.toList.length = L.length := by simpa using hp1
  have hperm : d'.toList.Perm L := by
   have e1 : (d'.extract 0 L.length).toList = d'.toList := by
    rw [Array.toList_extract, List.extract_eq_take_drop, List.drop_zero, Nat.sub_zero, ← hsz', List.take_length]
   have e2 : (L.toArray.extract 0 L.length).toList = L := by
    simp [List.extract]
   rw [e1, e2] at hp3
   exact hp3
  obtain ⟨o1, o2⟩ := own_sorted (n := n) (l' := d'.toList) hk os hown hsz'
  have eW : d'.toList.toArray = d' := by simp
  rw [eW] at o1 o2
  refine ⟨rfl, d'.toList.map (·.1), ?_, ?_, ?_, o2⟩
  ·rw [← hL]; exact hperm.map _
  ·rw [List.pairwise_map, List.pairwise_iff_getElem]
   intro i j hi hj hij
   have := hs i j (Nat.zero_le _) hij (by rw [← hsz']; exact hj)
   have hi' : i < d'.size := by simpa using hi
   have hj' : j < d'.size := by simpa using hj
   rw [getElem!_pos d' i hi', getElem!_pos d' j hj', cfP_lt] at this
   have := of_decide_eq_false this
   rw [Array.getElem_toList, Array.getElem_toList]
   exact this
  ·rw [List.length_map, ← flat_bp, ← hsz']
   rw [hsz'] at o1 ⊢
   exact o1
theorem strict_of {E E' : List Pt} (hp : E'.Perm E) (hn : E.Nodup) (hs : E'.Pairwise (fun a b => ¬ ptLt b a)) : E'.Pairwise ptLt := by
 have hn' : E'.Nodup := hp.nodup_iff.2 hn
 have h2 := hs.and hn'
 exact h2.imp fun {a b} h => by
  rcases ptLt_tri a b with h1 | h1 | h1
  ·exact h1
  ·exact absurd h1 h.2
  ·exact absurd h1 h.1
end Go.Proofs.YtikojiciilambaaGreat
