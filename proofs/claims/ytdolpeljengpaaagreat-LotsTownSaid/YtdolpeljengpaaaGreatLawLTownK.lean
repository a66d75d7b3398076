/- LotsTown's walk: parcels and streets fill the land. -/
import Derived.Test.YtdolpeljengpaaaGreatPk8
import Derived.Test.YtdolpeljengpaaaGreatPk7
import Derived.Test.YtdolpeljengpaaaGreatPk13
import Derived.Test.YtdolpeljengpaaaGreatPk12
namespace Go.Proofs.YtdolpeljengpaaaGreat
open Go.RowKit
set_option linter.unusedVariables false
set_option linter.unusedSimpArgs false

/-- The box of the wishes. -/
def PlatAt (b : Nat) (p : Pl3) (W : World) : Prop := W.cell? ⟨b, 0, none⟩ = some (.int .i64 p.mf) ∧ W.cell? ⟨b, 1, none⟩ = some (.int .i64 p.ms) ∧ W.cell? ⟨b, 2, none⟩ = some (.int .i64 p.ma) ∧ b < W.heap.size
theorem PlatAt.keep {b : Nat} {p : Pl3} {W W' : World} (h : PlatAt b p W) (hb : Below W.heap.size W W') : PlatAt b p W' := ⟨(hb.cell (p := ⟨b, 0, none⟩) h.2.2.2).trans h.1, (hb.cell (p := ⟨b, 1, none⟩) h.2.2.2).trans h.2.1, (hb.cell (p := ⟨b, 2, none⟩) h.2.2.2).trans h.2.2.1, Nat.lt_of_lt_of_le h.2.2.2 hb.size⟩
theorem PlatAt.made (w : World) (p : Pl3) (t : TypeId) : PlatAt w.heap.size p (w.alloc (.cells #[.int .i64 p.mf, .int .i64 p.ms, .int .i64 p.ma] t)) := ⟨by simp [go_sem], by simp [go_sem], by simp [go_sem], by simp⟩
theorem nilRR (W : World) : RdRR W W.heap.size (.slice none 0 0) [] := ⟨none, 0, rfl, fun h => absurd rfl h⟩
/-- The parcels' areas add up. -/
def sumT (A : Int) (L : List Par6) (m : Nat) : Int := A + ((L.take m).map fun x => arQ x.l.r).sum
theorem sumT_zero (A : Int) (L : List Par6) : sumT A L 0 = A := by simp [sumT]
theorem sumT_succ {A : Int} {L : List Par6} {m : Nat} {x : Par6} (h : L[m]? = some x) : sumT A L (m + 1) = sumT A L m + arQ x.l.r := by
  unfold sumT
  rw [List.take_add_one, h]
  simp
  omega
theorem sumT_bd {A : Int} {L : List Par6} (hA : 0 ≤ A) (hL : ∀ x ∈ L, 0 ≤ arQ x.l.r) (m : Nat) : 0 ≤ sumT A L m ∧ sumT A L m ≤ sumT A L L.length := by
  have hs : ∀ l : List Par6, (∀ x ∈ l, 0 ≤ arQ x.l.r) → 0 ≤ (l.map fun x => arQ x.l.r).sum := fun l => by
    induction l with
    | nil => intro _; simp
    | cons a l ih =>
      intro h
      have h1 := h a (by simp)
      have h2 := ih fun x hx => h x (by simp [hx])
      simp only [List.map_cons, List.sum_cons]
      omega
  have h1 := hs (L.take m) fun x hx => hL x (List.mem_of_mem_take hx)
  have h2 := hs (L.drop m) fun x hx => hL x (List.mem_of_mem_drop hx)
  have h3 : (L.map fun x => arQ x.l.r).sum = ((L.take m).map fun x => arQ x.l.r).sum + ((L.drop m).map fun x => arQ x.l.r).sum := by
    rw [← List.sum_append, ← List.map_append, List.take_append_drop]
  unfold sumT
  rw [List.take_length]
  omega
set_option maxRecDepth 100000 in
set_option maxHeartbeats 8000000 in
theorem town_walk {w : World} {vl : Value} {l : List Sg} (hl : RdK encSg 4 w w.heap.size vl l) (p : Pl3) (nl : l.length ≤ maxLen) (hcap : ∀ A n c, vl = .slice A n c → n ≤ c) (d : Int) :
    Calls Tryz.prog 5 #[vl, .int .i64 d, .agg (encP p).toArray] w fun e w' => e = .returned (.bool true) ∧ Below w.heap.size w w' := by
  clear hcap
  unfold maxLen at nl
  have HL0 := hide hl
  obtain ⟨Al, cl, rfl, hc⟩ := hl
  have HRC := hide hc
  clear hc
  have hW : Below w.heap.size w (w.alloc (.cells #[.int .i64 p.mf, .int .i64 p.ms, .int .i64 p.ma] 58)) := (Below.refl _ _).alloc (Nat.le_refl _) _
  have HB := hide hW
  have HX := hide (PlatAt.made w p 58)
  have HV := hide (fun (W : World) => valid36_any (nilRR W) (RdK.nil (enc := encR) (k := 4) (w := W) (B := W.heap.size) none 0) p (by unfold maxLen; simp) (by unfold maxLen; simp) (by simp))
  clear hW
  show Calls Tryz.prog _ #[.slice Al l.length cl, .int .i64 d, .agg #[.int .i64 p.mf, .int .i64 p.ms, .int .i64 p.ma]] w _
  by_cases h1 : 8 < l.length
  · have z1 : decide ((8 : Int) < (l.length : Int)) = true := decide_eq_true (by omega)
    have y1 : (8 : Int) < (l.length : Int) := by omega
    obtain ⟨b0, b1, b2, hb0⟩ := HX.out
    go_enter Tryz.func5, Tryz.ntmps5
    go_wp2_with (fail)
    refine (alive36_any _).mono ?_
    rintro e wz ⟨rfl, hb⟩
    have HBZ := hide (HB.out.trans (hb.mono HB.out.size))
    clear hb
    go_wp2_with (fail)
    go_ret
    exact ⟨rfl, HBZ.out⟩
  have z1 : decide ((8 : Int) < (l.length : Int)) = false := decide_eq_false (by omega)
  have y1 : ¬ (8 : Int) < (l.length : Int) := by omega
  by_cases h2 : d < 1
  · have z2 : decide (d < 1) = true := decide_eq_true h2
    obtain ⟨b0, b1, b2, hb0⟩ := HX.out
    go_enter Tryz.func5, Tryz.ntmps5
    go_wp2_with (fail)
    refine (alive36_any _).mono ?_
    rintro e wz ⟨rfl, hb⟩
    have HBZ := hide (HB.out.trans (hb.mono HB.out.size))
    clear hb
    go_wp2_with (fail)
    go_ret
    exact ⟨rfl, HBZ.out⟩
  have z2 : decide (d < 1) = false := decide_eq_false h2
  by_cases h3 : 3 < d
  · have z3 : decide (3 < d) = true := decide_eq_true h3
    obtain ⟨b0, b1, b2, hb0⟩ := HX.out
    go_enter Tryz.func5, Tryz.ntmps5
    go_wp2_with (fail)
    refine (alive36_any _).mono ?_
    rintro e wz ⟨rfl, hb⟩
    have HBZ := hide (HB.out.trans (hb.mono HB.out.size))
    clear hb
    go_wp2_with (fail)
    go_ret
    exact ⟨rfl, HBZ.out⟩
  have z3 : decide (3 < d) = false := decide_eq_false h3
  by_cases h4 : p.ma < 20
  · have z4 : decide (p.ma < 20) = true := decide_eq_true h4
    obtain ⟨b0, b1, b2, hb0⟩ := HX.out
    go_enter Tryz.func5, Tryz.ntmps5
    go_wp2_with (fail)
    refine (alive36_any _).mono ?_
    rintro e wz ⟨rfl, hb⟩
    have HBZ := hide (HB.out.trans (hb.mono HB.out.size))
    clear hb
    go_wp2_with (fail)
    go_ret
    exact ⟨rfl, HBZ.out⟩
  have z4 : decide (p.ma < 20) = false := decide_eq_false h4
  obtain ⟨b0, b1, b2, hb0⟩ := HX.out
  go_enter Tryz.func5, Tryz.ntmps5
  go_wp2_with (fail)
  refine (HV.out _).mono ?_
  rintro e w1 ⟨⟨gd, rfl, hg⟩, hb⟩
  replace HB := hide (HB.out.trans (hb.mono HB.out.size))
  replace HX := hide (HX.out.keep hb)
  clear hb b0 b1 b2 hb0 HV
  cases gd with
  | false =>
    go_wp2_with (fail)
    refine (alive36_any _).mono ?_
    rintro e wz ⟨rfl, hb⟩
    have HBZ := hide (HB.out.trans (hb.mono HB.out.size))
    clear hb
    go_wp2_with (fail)
    go_ret
    exact ⟨rfl, HBZ.out⟩
  | true =>
    have HOK := hide (hg rfl).ok
    have HD := hide (And.intro h1 (And.intro h2 h3))
    clear hg h2 h3 h4
    go_wp2_with (fail)
    go_loopw [7] (fun i wr => ∃ m : Nat, m ≤ l.length ∧ i = .int .i64 m ∧ Hid (Below w.heap.size w wr) ∧ Hid (PlatAt w.heap.size p wr) ∧ Hid (∀ s ∈ l.take m, near20 s)) (fun i _ => l.length - (intOf i).toNat)
    case atStart => exact ⟨0, Nat.zero_le _, rfl, HB, HX, hide (by simp)⟩
    case round =>
      clear HB HX
      obtain ⟨m, hm, rfl, HB, HX, HN⟩ := hrel
      by_cases hlt : m < l.length
      · have mz : (m : Int) < (l.length : Int) := by omega
        obtain ⟨s, hs⟩ : ∃ p, l[m]? = some p := ⟨_, List.getElem?_eq_getElem hlt⟩
        obtain ⟨b, o, rfl, hbl, k⟩ := HRC.out (by intro e; rw [e] at hlt; simp at hlt)
        have hb := HB.out
        have d0 : wr.cell? ⟨b, o + m * 4, none⟩ = some (.int .i64 s.ax) := (hb.cell (p := ⟨b, _, none⟩) hbl).trans (k m _ hs 0 _ rfl)
        have d1 : wr.cell? ⟨b, o + m * 4 + 1, none⟩ = some (.int .i64 s.ay) := (hb.cell (p := ⟨b, _, none⟩) hbl).trans (k m _ hs 1 _ rfl)
        have d2 : wr.cell? ⟨b, o + m * 4 + 2, none⟩ = some (.int .i64 s.cx) := (hb.cell (p := ⟨b, _, none⟩) hbl).trans (k m _ hs 2 _ rfl)
        have d3 : wr.cell? ⟨b, o + m * 4 + 3, none⟩ = some (.int .i64 s.cy) := (hb.cell (p := ⟨b, _, none⟩) hbl).trans (k m _ hs 3 _ rfl)
        have HS := hide hs
        have HFR : Hid (far8 s = max s.ax (max (IntKind.i64.wrap (-s.ax)) (max s.ay (max (IntKind.i64.wrap (-s.ay)) (max s.cx (max (IntKind.i64.wrap (-s.cx)) (max s.cy (IntKind.i64.wrap (-s.cy))))))))) := hide (by unfold far8; simp only [Int.max_assoc])
        have hmax := @run_max8 Tryz.prog
        clear k hs hb
        go_upto_region 6 with fail
        refine wp_region_mix [0, 1, 2, 3, 4, 5, 6, 7, 8, 9, 10, 11, 12, 13, 14, 15, 16, 17, 18, 19, 20, 21, 22, 23, 24, 25, 26, 27, 28, 29, 30, 31, 32, 33, 34, 35, 36, 37, 38, 39, 40, 41, 42, 43, 44, 45, 46, 47, 48, 49, 50, 51] [52, 53] (fun w' => (w'.cell? ⟨b, o + m * 4, none⟩ = some (.int .i64 s.ax) ∧ w'.cell? ⟨b, o + m * 4 + 1, none⟩ = some (.int .i64 s.ay)) ∧ (w'.cell? ⟨b, o + m * 4 + 2, none⟩ = some (.int .i64 s.cx) ∧ w'.cell? ⟨b, o + m * 4 + 3, none⟩ = some (.int .i64 s.cy))) (by kernel_rfl) (by kernel_rfl) ⟨⟨d0, d1⟩, d2, d3⟩ ?_
        simp only [List.map_cons, List.map_nil, opAt, List.getElem?_cons_succ, List.getElem?_cons_zero, Option.getD_some]
        iterate 52
          refine ⟨?_, Or.inl ⟨by rfl, ?_⟩, ?_⟩
          rotate_left 1
          · intro w' hSw
            obtain ⟨⟨y0, y1⟩, y2, y3⟩ := hSw
            go_simp
            first | done | with_reducible rfl
          simp only [Act.put, List.setIfInBounds_toArray, List.set_cons_zero, List.set_cons_succ]
        simp only [wpReads]
        intro K hK
        simp only [Act.put, List.setIfInBounds_toArray, List.set_cons_zero, List.set_cons_succ] at hK ⊢
        go_simp
        refine hK _ _ (fun _ => ⟨⟨d0, d1⟩, d2, d3⟩) ?_
        clear hK K
        intro K hK
        simp only [Act.put, List.setIfInBounds_toArray, List.set_cons_zero, List.set_cons_succ] at hK ⊢
        go_simp
        refine hK _ _ (fun h => absurd rfl h) ?_
        clear hK K hmax
        refine NoPanic.normal ?_
        rw [← HFR.out]
        have hb2 : Below w.heap.size w wr.drew := HB.out.drew
        have hx2 : PlatAt w.heap.size p wr.drew := HX.out
        replace HB := hide hb2
        replace HX := hide hx2
        have d0' : wr.drew.cell? ⟨b, o + m * 4, none⟩ = some (.int .i64 s.ax) := d0
        have d1' : wr.drew.cell? ⟨b, o + m * 4 + 1, none⟩ = some (.int .i64 s.ay) := d1
        have d2' : wr.drew.cell? ⟨b, o + m * 4 + 2, none⟩ = some (.int .i64 s.cx) := d2
        have d3' : wr.drew.cell? ⟨b, o + m * 4 + 3, none⟩ = some (.int .i64 s.cy) := d3
        clear HFR hb2 hx2 d0 d1 d2 d3
        have HVL := hide (fun W => rSegValid_any s W)
        have HF := hide (far8_20 (s := s))
        generalize far8 s = F at *
        generalize wr.drew = wd at *
        by_cases hok : okSg s
        · have hd : decide (okSg s) = true := decide_eq_true hok
          rw [hd] at HVL
          go_wp2_with (fail)
          refine (HVL.out _).mono ?_
          rintro e w2 ⟨rfl, hb2⟩
          have HB2 := hide (HB.out.trans (hb2.mono HB.out.size))
          have HX2 := hide (HX.out.keep hb2)
          clear hb2 d0' d1' d2' d3' hd HB HX
          by_cases hf : F ≤ 20
          · have fz : decide (20 < F) = false := decide_eq_false (by omega)
            have HN2 : Hid (∀ s ∈ l.take (m + 1), near20 s) := hide (by
              rw [List.take_add_one, HS.out]
              intro q hq
              rcases List.mem_append.1 hq with hq | hq
              · exact HN.out q hq
              · simp at hq
                subst hq
                exact (HF.out hok).1 hf)
            clear hf hok
            go_wp2
            go_roundw
            case rel => exact ⟨m + 1, by omega, by go_num, HB2, HX2, HN2⟩
            case measure => simp [intOf]; omega
          · have fz : decide (20 < F) = true := decide_eq_true (by omega)
            have HB := HB2
            clear hf hok HB2
            go_wp2_with (fail)
            refine (alive36_any _).mono ?_
            rintro e wz ⟨rfl, hb⟩
            have HBZ := hide (HB.out.trans (hb.mono HB.out.size))
            clear hb
            go_wp2_with (fail)
            go_ret
            exact ⟨rfl, HBZ.out⟩
        · have hd : decide (okSg s) = false := decide_eq_false hok
          rw [hd] at HVL
          clear hok
          go_wp2_with (fail)
          refine (HVL.out _).mono ?_
          rintro e w2 ⟨rfl, hb2⟩
          have HB2 := hide (HB.out.trans (hb2.mono HB.out.size))
          clear hb2 d0' d1' d2' d3' hd HB
          have HB := HB2
          clear HB2
          go_wp2_with (fail)
          refine (alive36_any _).mono ?_
          rintro e wz ⟨rfl, hb⟩
          have HBZ := hide (HB.out.trans (hb.mono HB.out.size))
          clear hb
          go_wp2_with (fail)
          go_ret
          exact ⟨rfl, HBZ.out⟩
      · obtain rfl : m = l.length := by omega
        have mz : ¬ (l.length : Int) < (l.length : Int) := by omega
        have hN := HN.out
        rw [List.take_length] at hN
        obtain ⟨q1, q2, q3⟩ := HD.out
        have h35 : ∀ s ∈ l, near35 s := fun s hs => near20_35 (hN s hs)
        obtain ⟨S, eS, kS, hS⟩ := str_made h35 (by omega) (d := d) (by omega) (by omega)
        obtain ⟨R, eR, kR, hAR, hRS⟩ := town_rest (by omega) hN (by omega) (by omega) kS hS
        have H12 := hide (show l.length ≤ 12 by omega)
        have HOG := hide (near_ok h35)
        have HST := hide (fun (W : World) (nv ev : Value) (hn : RdK encS 2 W W.heap.size nv (nodesF l)) (he : RdK encS 2 W W.heap.size ev (edI (edgesF l))) => by have := streets_any (d := d) hn he; rwa [eS] at this)
        have hpa : partsE R = (partsF R, 0) := if_pos kR
        have HBL := hide (fun (W : World) (nv ev va : Value) (hn : RdK encS 2 W W.heap.size nv (nodesF l)) (he : RdK encS 2 W W.heap.size ev (edI (edgesF l))) (ha : RdK encR 4 W W.heap.size va land30) => by
          have h := blocks_any (d := d) hn he ha (by simp [land30])
          rwa [show blkF (nodesF l) (edI (edgesF l)) d land30 = (partsF R, 0) by unfold blkF; rw [eS]; simp only; rw [eR]; simp only [hpa]; rfl] at h)
        have kB : ∀ b ∈ partsF R, checkF b = 0 := fun b hb => by
          rw [ids_parts] at hb
          obtain ⟨q, _, rfl⟩ := List.mem_map.1 hb
          exact partJ_check kR q
        have hlen : (partsF R).length ≤ R.length := by rw [← partsP_all]; exact partsP_len R R.length
        have hrl := (checkF_ok kR).1
        have hsl := (checkF_ok kS).1
        have HLT := hide (fun (W : World) (vb v : Value) (hb : RdRR W W.heap.size vb (partsF R)) (hs : RdK encR 4 W W.heap.size v S) => lots_any hb hs p (by omega) (fun b hb => by have := (checkF_ok (kB b hb)).1; omega) (by omega))
        have hlo : LotsOk (partsF R) S p := ⟨kS, by omega, badF_zero kB, HOK.out⟩
        have HAS := hide (fun (W : World) (v : Value) (h : RdK encR 4 W W.heap.size v S) => by have := area_any h (by omega); rwa [show areaF S = (areaS S, 0) by unfold areaF; rw [if_pos kS]] at this)
        have hON := fun (x : Par6) (hx : fewF S p (partsF R) = true ∧ x ∈ pcA S p 0 (partsF R)) => town_off kS kR hRS HOK.out hx.1 hx.2
        have hSUM : fewF S p (partsF R) = true → sumT (areaS S) (pcA S p 0 (partsF R)) (pcA S p 0 (partsF R)).length = 3600 := fun hf => by
          unfold sumT
          rw [List.take_length, pcA_area HOK.out 0 kB hf, parts_area kR]
          exact hAR
        have hcase : lotsF (partsF R) S p = ([], 4) ∨ ∃ L, lotsF (partsF R) S p = (L, 0) ∧ L.length ≤ 600 ∧ (∀ x ∈ L, okR x.l.r ∧ onF x.l.r S = 0) ∧ sumT (areaS S) L L.length = 3600 := by
          rw [hlo.eq]
          by_cases hf : fewF S p (partsF R) = true ∧ (pcA S p 0 (partsF R)).length ≤ 600
          · rw [if_pos hf]
            exact .inr ⟨_, rfl, hf.2, fun x hx => hON x ⟨hf.1, hx⟩, hSUM hf.1⟩
          · rw [if_neg hf]
            exact .inl rfl
        have HCS := hide hcase
        have HKS := hide kS
        have HA0 := hide (area_le kS).1
        have HLL := hide ((HL0.out.below HB.out).mono HB.out.size)
        clear eS eR hpa kB hlen hrl hlo hON hSUM hcase hS hRS hAR h35 hN HN HD q1 q2 q3 HL0 kS kR
        generalize partsF R = B at *
        go_wp2_with (fail)
        refine (make35_any HLL.out HOG.out H12.out).mono ?_
        rintro e w2 ⟨⟨n1, e1, rfl, hn, he⟩, hb⟩
        replace HB := hide (HB.out.trans (hb.mono HB.out.size))
        replace HX := hide (HX.out.keep hb)
        have HN1 := hide hn
        have HE1 := hide he
        obtain ⟨An, cn, rfl, -⟩ := hn
        obtain ⟨Ae, ce, rfl, -⟩ := he
        clear hb HLL
        go_wp2_with (fail)
        refine calls_nm fun w3 hZ => ?_
        have hbz : Below w2.heap.size w2 w3 := by
          rw [hZ]
          exact (Below.refl _ _).alloc (Nat.le_refl _) _
        have X1 : Hid (NetAt w2.heap.size (.slice An (nodesF l).length cn) (.slice Ae (edI (edgesF l)).length ce) w3) := hide (by rw [hZ]; exact ⟨by simp, by simp [go_sem], by simp [go_sem]⟩)
        obtain ⟨g1, hg1⟩ : ∃ g, w2.heap.size = g := ⟨_, rfl⟩
        rw [hg1] at X1 ⊢
        replace HB := hide (HB.out.trans (hbz.mono HB.out.size))
        replace HX := hide (HX.out.keep hbz)
        replace HN1 := hide ((HN1.out.below hbz).mono hbz.size)
        replace HE1 := hide ((HE1.out.below hbz).mono hbz.size)
        clear hZ hbz hg1
        refine (HST.out _ _ _ HN1.out HE1.out).mono ?_
        rintro e w4 ⟨⟨As, cs, rfl, ho⟩, hb⟩
        replace HB := hide (HB.out.trans (hb.mono HB.out.size))
        replace HX := hide (HX.out.keep hb)
        replace HN1 := hide ((HN1.out.below hb).mono hb.size)
        replace HE1 := hide ((HE1.out.below hb).mono hb.size)
        replace X1 := hide (X1.out.keep hb)
        have HS := hide (own_rd (l := S) ho (fun _ => rfl))
        clear hb ho HST
        obtain ⟨x1, x2, x3⟩ := X1.out
        go_upto_region 11 with fail
        refine wp_region_two [0, 1] [2, 3, 4] [5, 6] [7, 8] (fun w' => w'.cell? ⟨g1, 0, none⟩ = some (.slice An (nodesF l).length cn) ∧ w'.cell? ⟨g1, 1, none⟩ = some (.slice Ae (edI (edgesF l)).length ce)) (by kernel_rfl) (by kernel_rfl) ⟨x2, x3⟩ ?_
        simp only [List.map_cons, List.map_nil, opAt, List.getElem?_cons_succ, List.getElem?_cons_zero, Option.getD_some]
        iterate 2
          refine ⟨?_, Or.inl ⟨by rfl, ?_⟩, ?_⟩
          rotate_left 1
          · intro w' hSw
            obtain ⟨z1, z2⟩ := hSw
            go_simp
            first | done | with_reducible rfl
          simp only [Act.put, List.setIfInBounds_toArray, List.set_cons_zero, List.set_cons_succ]
        simp only [wpReads, wpChain]
        intro K hK
        simp only [Act.put, List.setIfInBounds_toArray, List.set_cons_zero, List.set_cons_succ] at hK ⊢
        go_simp
        refine (box36_any (-30) (-30) 30 30 _).mono ?_
        rintro e wa ⟨⟨A7, c7, rfl, hr7⟩, hb⟩
        have hs0 : Below w4.heap.size w4 w4.drew := (Below.refl _ _).drew
        have HBA : Hid (Below w4.heap.size w4 wa) := hide (hs0.trans (hb.mono hs0.size))
        have HR7 := hide (show RdK encR 4 wa wa.heap.size (.slice A7 1 c7) land30 from hr7)
        clear hb hr7
        refine hK _ _ (X1.out.keep HBA.out).2 ?_
        clear hK K
        intro K hK
        simp only [Act.put, List.setIfInBounds_toArray, List.set_cons_zero, List.set_cons_succ] at hK ⊢
        go_simp
        refine (HBL.out _ _ _ _ ((HN1.out.below HBA.out).mono HBA.out.size) ((HE1.out.below HBA.out).mono HBA.out.size) HR7.out).mono ?_
        rintro e wb ⟨hrg, hb⟩
        obtain ⟨Ab, cb, rfl, hrr⟩ := hrg.rd
        have HBC : Hid (Below w4.heap.size w4 wb) := hide (HBA.out.trans (hb.mono HBA.out.size))
        have HR := hide hrr
        clear hb hrr hrg HR7 HBA HBL
        refine hK _ _ (X1.out.keep HBC.out).2 ?_
        clear hK K
        intro K hK
        simp only [Act.put, List.setIfInBounds_toArray, List.set_cons_zero, List.set_cons_succ] at hK ⊢
        go_simp
        refine hK _ _ (X1.out.keep HBC.out).2 ?_
        clear hK K
        iterate 2
          refine ⟨?_, Or.inl ⟨by rfl, ?_⟩, ?_⟩
          rotate_left 1
          · intro w' hSw
            obtain ⟨z1, z2⟩ := hSw
            go_simp
            first | done | with_reducible rfl
          try simp only [Act.put, List.setIfInBounds_toArray, List.set_cons_zero, List.set_cons_succ]
        intro K hK
        simp only [Act.put, List.setIfInBounds_toArray, List.set_cons_zero, List.set_cons_succ] at hK ⊢
        go_simp
        refine hK _ _ (fun _ => (X1.out.keep HBC.out).2) ?_
        clear hK K
        intro K hK
        simp only [Act.put, List.setIfInBounds_toArray, List.set_cons_zero, List.set_cons_succ] at hK ⊢
        go_simp
        refine hK _ _ (fun h => absurd rfl h) ?_
        clear hK K hs0
        refine NoPanic.normal ?_
        replace HB := hide (HB.out.trans (HBC.out.mono HB.out.size))
        replace HX := hide (HX.out.keep HBC.out)
        replace HS := hide ((HS.out.below HBC.out).mono HBC.out.size)
        clear HBC x1 x2 x3 X1 HN1 HE1
        obtain ⟨b0, b1, b2, hb0⟩ := HX.out
        go_wp2_with (fail)
        have hlc := HLT.out _ _ _ HR.out HS.out
        rcases HCS.out with hE | ⟨L, hE, hL6, hLx, hLs⟩
        · rw [hE] at hlc
          refine hlc.mono ?_
          rintro e w5 ⟨⟨A5, c5, rfl, _⟩, hb⟩
          replace HB := hide (HB.out.trans (hb.mono HB.out.size))
          clear hb b0 b1 b2 hb0 hE hlc HCS HLT
          go_wp2_with (fail)
          refine (alive36_any _).mono ?_
          rintro e wz ⟨rfl, hb⟩
          have HBZ := hide (HB.out.trans (hb.mono HB.out.size))
          clear hb
          go_wp2_with (fail)
          go_ret
          exact ⟨rfl, HBZ.out⟩
        · rw [hE] at hlc
          refine hlc.mono ?_
          rintro e w5 ⟨⟨A5, c5, rfl, ho⟩, hb⟩
          replace HB := hide (HB.out.trans (hb.mono HB.out.size))
          replace HS := hide ((HS.out.below hb).mono hb.size)
          have HO := hide (own_rd (enc := encQ) (k := 6) (l := L) ho (fun _ => rfl))
          have HLX := hide hLx
          have HLS := hide hLs
          have hA0 := HA0.out
          have HBD := hide (sumT_bd (A := areaS S) (L := L) hA0 (fun x hx => by
            have := (hLx x hx).1
            unfold okR at this
            unfold arQ
            exact Int.mul_nonneg (by omega) (by omega)))
          clear hb ho b0 b1 b2 hb0 hE hlc HCS HLT hLx hLs hA0 HX
          simp only at HO ⊢
          go_wp2_with (fail)
          refine (HAS.out _ _ HS.out).mono ?_
          rintro e w6 ⟨rfl, hb⟩
          replace HB := hide (HB.out.trans (hb.mono HB.out.size))
          replace HS := hide ((HS.out.below hb).mono hb.size)
          replace HO := hide ((HO.out.below hb).mono hb.size)
          clear hb HAS
          have H0 := hide (sumT_zero (areaS S) L)
          have HSC := hide (fun (m : Nat) (x : Par6) (h : L[m]? = some x) => sumT_succ (A := areaS S) h)
          obtain ⟨PS, hPS⟩ : ∃ f, f = sumT (areaS S) L := ⟨_, rfl⟩
          rw [← hPS] at H0 HSC HLS HBD
          have h0 := H0.out
          generalize areaS S = AS at *
          subst h0
          have HONN := hide (fun (x : Par6) (h : okR x.l.r ∧ onF x.l.r S = 0) (W : World) (v : Value) (hs : RdK encR 4 W W.heap.size v S) => by have := rOn_any x.l.r (ok_mid h.1) ⟨h.1.1, h.1.2.1⟩ hs HKS.out; rwa [h.2] at this)
          have HARQ := hide (fun (x : Par6) (h : okR x.l.r ∧ onF x.l.r S = 0) (W : World) => rArea_mid x.l.r (ok_mid h.1) ⟨h.1.1, h.1.2.1⟩ W)
          clear hPS H0
          go_wp2_with (fail)
          go_loopw [17, 19] (fun s i wr => ∃ m : Nat, m ≤ L.length ∧ i = .int .i64 m ∧ s = .int .i64 (PS m) ∧ Hid (Below w.heap.size w wr) ∧ Hid (RdK encR 4 wr wr.heap.size (.slice As S.length cs) S) ∧ Hid (RdK encQ 6 wr wr.heap.size (.slice A5 L.length c5) L)) (fun _ i _ => L.length - (intOf i).toNat)
          case atStart => exact ⟨0, Nat.zero_le _, rfl, rfl, HB, HS, HO⟩
          case round =>
            clear HB HS HO
            obtain ⟨m, hm, rfl, rfl, HB, HS, HO⟩ := hrel
            by_cases hlt : m < L.length
            · have mz : (m : Int) < (L.length : Int) := by omega
              obtain ⟨x, hx⟩ : ∃ p, L[m]? = some p := ⟨_, List.getElem?_eq_getElem hlt⟩
              obtain ⟨A9, c9, e9, hk⟩ := HO.out
              injection e9 with eA _ eC
              subst eA
              subst eC
              obtain ⟨b, o, rfl, hbl, k⟩ := hk (by intro e; rw [e] at hlt; simp at hlt)
              have HQ := hide (fun i u (h : (encQ x)[i]? = some u) => k m x hx i u h)
              have hxo := HLX.out x (List.mem_of_getElem? hx)
              have HO1 := hide (HONN.out x hxo)
              have HA1 := hide (HARQ.out x hxo)
              have HP1 := hide (HSC.out m x hx)
              have hpb := HBD.out (m + 1)
              rw [HLS.out, HP1.out] at hpb
              have hpm := HBD.out m
              rw [HLS.out] at hpm
              have d1 : wr.cell? ⟨b, o + m * 6 + 1, none⟩ = some (.int .i64 x.l.r.x0) := HQ.out 1 _ rfl
              have d2 : wr.cell? ⟨b, o + m * 6 + 2, none⟩ = some (.int .i64 x.l.r.y0) := HQ.out 2 _ rfl
              have d3 : wr.cell? ⟨b, o + m * 6 + 3, none⟩ = some (.int .i64 x.l.r.x1) := HQ.out 3 _ rfl
              have d4 : wr.cell? ⟨b, o + m * 6 + 4, none⟩ = some (.int .i64 x.l.r.y1) := HQ.out 4 _ rfl
              obtain ⟨ar, har⟩ : ∃ a, arQ x.l.r = a := ⟨_, rfl⟩
              rw [har] at HA1 HP1 hpb
              have HH := hide (And.intro hx hxo)
              clear k hk hx hxo har
              go_wp2_with (fail)
              refine (HO1.out _ _ HS.out).mono ?_
              rintro e w7 ⟨rfl, hb⟩
              replace HB := hide (HB.out.trans (hb.mono HB.out.size))
              replace HS := hide ((HS.out.below hb).mono hb.size)
              replace HO := hide ((HO.out.below hb).mono hb.size)
              replace d1 := (hb.cell (p := ⟨b, _, none⟩) hbl).trans d1
              replace d2 := (hb.cell (p := ⟨b, _, none⟩) hbl).trans d2
              replace d3 := (hb.cell (p := ⟨b, _, none⟩) hbl).trans d3
              replace d4 := (hb.cell (p := ⟨b, _, none⟩) hbl).trans d4
              clear hb HO1 HQ
              go_wp2_with (fail)
              refine (HA1.out _).mono ?_
              rintro e w8 ⟨rfl, hb⟩
              replace HB := hide (HB.out.trans (hb.mono HB.out.size))
              replace HS := hide ((HS.out.below hb).mono hb.size)
              replace HO := hide ((HO.out.below hb).mono hb.size)
              clear hb HA1 d1 d2 d3 d4
              go_wp2
              go_roundw
              case rel => exact ⟨m + 1, by omega, by go_num, by rw [HP1.out], HB, HS, HO⟩
              case measure => simp [intOf]; omega
            · obtain rfl : m = L.length := by omega
              have mz : ¬ (L.length : Int) < (L.length : Int) := by omega
              have hz : (PS L.length == 3600) = true := by rw [HLS.out]; rfl
              clear HLX HLS HBD HSC HONN HARQ
              go_wp2_with (fail)
              refine (alive36_any _).mono ?_
              rintro e wz ⟨rfl, hb⟩
              have HBZ := hide (HB.out.trans (hb.mono HB.out.size))
              clear hb
              go_wp2_with (fail)
              go_ret
              exact ⟨rfl, HBZ.out⟩
end Go.Proofs.YtdolpeljengpaaaGreat
