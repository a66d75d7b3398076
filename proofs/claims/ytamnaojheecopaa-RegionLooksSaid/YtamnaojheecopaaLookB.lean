/- The reference's Cross, Move, Flip. -/
import Derived.Test.YtamnaojheecopaaMLook
namespace Go.Proofs.Ytamnaojheecopaa
open Go.RowKit
set_option linter.unusedVariables false
set_option linter.unusedSimpArgs false

set_option maxRecDepth 100000 in
set_option maxHeartbeats 4000000 in
theorem rCross_any {w : World} {v : Value} {l : List R4} (hr : RdK encR 4 w w.heap.size v l) (hl : l.length ≤ 100000000) (x : Int) :
    Calls Try.prog 23 #[v, .int .i64 x] w fun e w' => SpnRet w.heap.size (crossF l x) e w' ∧ Below w.heap.size w w' := by
  obtain ⟨i1, gi, gz0, gz1, gz2⟩ := info_parts infoRc
  obtain ⟨i2, fi, fz0, fz1, fz2⟩ := info_parts infoB
  have hck := fun (W : World) (hW : Below w.heap.size w W) => rCheck_any (w := W) ((hr.below hW).mono hW.size) hl
  obtain ⟨A, c, hv, hc⟩ := id hr
  subst hv
  have HR := hide hr
  have HCK := hide hck
  have HRC := hide hc
  clear hck hr hc
  by_cases h0 : checkF l = 0
  · obtain ⟨k1, k2, _⟩ := checkF_ok h0
    rw [h0] at HCK
    have HV := hide k2
    have H0 := hide h0
    clear k2 h0
    go_enter Try.func23, Try.ntmps23
    go_wp2_with (fail)
    refine (HCK.out _ (Below.refl _ _)).mono ?_
    rintro e w1 ⟨rfl, hb1⟩
    have hY := rYs_any (w := w1) ((HR.out.below hb1).mono hb1.size) (RdK.nil (α := R4) none 0) (Nat.le_refl _) (by omega) (by simp)
    have hys := srt_ok (cutsY l ++ cutsY [])
    have hyl : (srt (cutsY l ++ cutsY [])).length ≤ 1000 := by have := srt_len (cutsY l ++ cutsY []); rw [List.length_append, cutsY_len, cutsY_len] at this; simp at this; omega
    have hcan := ref_cross (check_rcan H0.out) x hys.1 (fun c hc => (hys.2 c).2 (by simp [hc]))
    generalize srt (cutsY l ++ cutsY []) = ys at *
    have HY := hide hY
    have HCAN := hide hcan
    have HB1 := hide hb1
    clear hY hcan hys hb1
    go_wp2_with (go_at_call 50; refine HY.out.mono ?_; rintro e w2 ⟨vy, rfl, oy, hb2⟩; have OY := hide (own_base (base := w.heap.size) oy HB1.out.size); have HB2 := hide (HB1.out.trans (hb2.mono HB1.out.size)); clear oy hb2; obtain ⟨Ay, cy, hvy⟩ := own_form OY.out; subst hvy)
    go_loopw [7, 8] (fun v q wr => ∃ j : Nat, j ≤ ys.length ∧ q = .int .i64 j ∧ ∃ Ai ni ci, v = .slice Ai ni ci ∧ Hid (wr.ownsRow w.heap.size 4 1 v ni (((ys.take j).map (fun y => decide (pmem l x y))).map Value.bool)) ∧ Hid (wr.ownsRow w.heap.size 3 1 (.slice Ay ys.length cy) ys.length (ys.map iv)) ∧ Hid (Below w.heap.size w wr)) (fun _ q _ => ys.length - (intOf q).toNat)
    case atStart => exact ⟨0, Nat.zero_le _, rfl, none, 0, 0, rfl, hide (World.ownsRow_nil _ _ _ _), OY, HB2⟩
    case round =>
      clear OY HB2
      obtain ⟨j, hj, rfl, Ai, ni, ci, rfl, HIN, HOY, HB⟩ := hrel
      have hsz := HB.out.size
      by_cases hjl : j < ys.length
      · obtain ⟨y, hy⟩ : ∃ y, ys[j]? = some y := ⟨_, List.getElem?_eq_getElem hjl⟩
        have jz : (j : Int) < (ys.length : Int) := by omega
        obtain ⟨gy, cpy, hvy, hBy, hgy⟩ := HOY.out.form (by omega)
        injection hvy with e1 _ e3
        subst e1; subst e3
        have y0 : wr.cell? ⟨gy, j, none⟩ = some (.int .i64 y) := by
          have := (HOY.out.cells (g := gy) rfl) j (iv y) (by simp [hy])
          rwa [addr_add] at this
        have HT : Hid ((ys.take (j + 1)).map (fun y => decide (pmem l x y)) = (ys.take j).map (fun y => decide (pmem l x y)) ++ [decide (pmem l x y)]) := hide (map_take _ hy)
        have hni : ni ≤ 1000 := by
          have := HIN.out.1
          simp at this; omega
        clear hy
        have hh := rHas_any (w := wr) ((HR.out.below HB.out).mono hsz) (by omega) x y
        generalize decide (pmem l x y) = pc at *
        generalize (ys.take j).map (fun y => decide (pmem l x y)) = bs at *
        have HH := hide hh
        clear hh
        go_wp2_with (first
          | (go_at_call 18; refine HH.out.mono ?_; rintro e wp ⟨rfl, rfl⟩)
          | (at_builtin; go_loud (refine wpList_append_lies _ rfl (.tmp 22) (.tmp 30) 79 rfl w.heap.size 4 i2 (.bool false) 1 1 Try.underlying79 fi fz0 fz1 fz2 rfl (by decide) _ ni _ rfl (World.ownsRow.alloc HIN.out _) ⟨wr.heap.size, 0, none⟩ 1 1 [.bool pc] rfl rfl (news_new wr _ _ _ rfl) (by intro u hu; rw [List.mem_singleton] at hu; subst hu; rfl) (by omega) (by unfold maxLen; omega) (by omega) (by simp; omega) _ rfl ?_)))
        intro g9 cap9 w9 hown9 hgrow9 _ _
        have hx9 : bs.map Value.bool ++ [.bool pc] = (bs ++ [pc]).map Value.bool := by simp
        rw [hx9, ← HT.out] at hown9
        have HB9 := hide ((HB.out.alloc hsz _).grown hgrow9 (by simp; omega) (fun q hq => (HIN.out.lt q hq).1))
        have key : ∀ ob, (wr.alloc ob).grownBy w9 (Value.slice Ai ni ci).ownBlock → w9.ownsRow w.heap.size 3 1 (.slice (some ⟨gy, 0, none⟩) ys.length cy) ys.length (ys.map iv) := fun ob hg => (World.ownsRow.alloc HOY.out ob).kept hg (own_apart (World.ownsRow.alloc HOY.out ob) (World.ownsRow.alloc HIN.out ob) (by decide))
        have HOY9 := hide (key _ hgrow9)
        have HO9 := hide hown9
        clear hown9 hgrow9 hx9 key
        go_wp2
        go_roundw
        case rel => exact ⟨j + 1, by omega, by go_num, _, _, cap9, rfl, HO9, HOY9, HB9⟩
        case measure => simp [intOf]; omega
      · have jz : ¬ (j : Int) < (ys.length : Int) := by omega
        have ht : ys.take j = ys := List.take_of_length_le (by omega)
        rw [ht] at HIN
        have hni : ni = (ys.map (fun y => decide (pmem l x y))).length := by have := HIN.out.1; simpa using this.symm
        have hcn := rCanon_any (w := wr) (own_rdI HOY.out) (own_rdB (own_n HIN.out hni)) (Nat.le_refl _) (by omega) (by simp)
        rw [HCAN.out] at hcn
        have HCN := hide hcn
        have HF : Hid (crossF l x = (crossL l x, 0)) := hide (if_pos H0.out)
        clear ht hcn hni
        go_wp2_with (go_at_call 51; refine HCN.out.mono ?_; rintro e w3 ⟨vs, rfl, os, hb3⟩; obtain ⟨As, cs, hvs⟩ := own_form os; subst hvs; have HOS := hide os; have HB3 := hide hb3; clear os hb3)
        go_ret2
        exact ⟨⟨As, cs, by rw [HF.out]; rfl, by rw [HF.out]; exact own_base HOS.out hsz⟩, HB.out.trans (HB3.out.mono hsz)⟩
  · have HF : Hid (crossF l x = ([], checkF l)) := hide (if_neg h0)
    generalize checkF l = ck at *
    have hne : (ck != 0) = true := by simpa using h0
    clear h0
    go_enter Try.func23, Try.ntmps23
    go_wp2_with (fail)
    refine (HCK.out _ (Below.refl _ _)).mono ?_
    rintro e w1 ⟨rfl, hb1⟩
    have HB1 := hide hb1
    clear hb1
    go_wp2_with (fail)
    refine (HCK.out _ HB1.out).mono ?_
    rintro e w2 ⟨rfl, hb2⟩
    go_wp2_with (fail)
    go_ret2
    exact ⟨⟨none, 0, by rw [HF.out]; rfl, by rw [HF.out]; exact World.ownsRow_nil _ _ _ _⟩, HB1.out.trans (hb2.mono HB1.out.size)⟩

set_option maxRecDepth 100000 in
set_option maxHeartbeats 4000000 in
theorem rFlip_any {w : World} {v : Value} {l : List R4} (hr : RdK encR 4 w w.heap.size v l) (hl : l.length ≤ 100000000) :
    Calls Try.prog 27 #[v] w fun e w' => RegRet w.heap.size (flipF l) e w' ∧ Below w.heap.size w w' := by
  obtain ⟨i1, gi, gz0, gz1, gz2⟩ := info_parts infoRc
  obtain ⟨i2, fi, fz0, fz1, fz2⟩ := info_parts infoB
  have hck := fun (W : World) (hW : Below w.heap.size w W) => rCheck_any (w := W) ((hr.below hW).mono hW.size) hl
  obtain ⟨A, c, hv, hc⟩ := id hr
  subst hv
  have HR := hide hr
  have HCK := hide hck
  have HRC := hide hc
  clear hck hr hc
  by_cases h0 : checkF l = 0
  · obtain ⟨k1, k2, _⟩ := checkF_ok h0
    rw [h0] at HCK
    have HV := hide k2
    have H0 := hide h0
    clear k2 h0
    go_enter Try.func27, Try.ntmps27
    go_wp2_with (fail)
    refine (HCK.out _ (Below.refl _ _)).mono ?_
    rintro e w1 ⟨rfl, hb1⟩
    go_wp2_with (fail)
    go_loopw [4, 5] (fun v i wr => ∃ m : Nat, m ≤ l.length ∧ i = .int .i64 m ∧ ∃ Av nv cv, v = .slice Av nv cv ∧ Hid (nv = ((l.take m).map flip4).length) ∧ Hid (wr.ownsRow w.heap.size 43 4 v nv (((l.take m).map flip4).flatMap encR)) ∧ Hid (Below w.heap.size w wr)) (fun _ i _ => l.length - (intOf i).toNat)
    case atStart => exact ⟨0, Nat.zero_le _, rfl, none, 0, 0, rfl, hide rfl, hide (World.ownsRow_nil _ _ _ _), hide hb1⟩
    case round =>
      clear hb1
      obtain ⟨m, hm, rfl, Av, nv, cv, rfl, HN, HO, HB⟩ := hrel
      by_cases hlt : m < l.length
      · obtain ⟨⟨x0, y0, x1, y1⟩, hp⟩ : ∃ p, l[m]? = some p := ⟨_, List.getElem?_eq_getElem hlt⟩
        obtain ⟨b, o, rfl, hbl, k⟩ := HRC.out (by intro e; rw [e] at hlt; simp at hlt)
        have d0 : wr.cell? ⟨b, o + m * 4, none⟩ = some (.int .i64 x0) := (HB.out.cell (p := ⟨b, _, none⟩) hbl).trans (k m _ hp 0 _ rfl)
        have d1 : wr.cell? ⟨b, o + m * 4 + 1, none⟩ = some (.int .i64 y0) := (HB.out.cell (p := ⟨b, _, none⟩) hbl).trans (k m _ hp 1 _ rfl)
        have d2 : wr.cell? ⟨b, o + m * 4 + 2, none⟩ = some (.int .i64 x1) := (HB.out.cell (p := ⟨b, _, none⟩) hbl).trans (k m _ hp 2 _ rfl)
        have d3 : wr.cell? ⟨b, o + m * 4 + 3, none⟩ = some (.int .i64 y1) := (HB.out.cell (p := ⟨b, _, none⟩) hbl).trans (k m _ hp 3 _ rfl)
        have mz : (m : Int) < (l.length : Int) := by omega
        have HP := hide hp
        clear k hp
        have HT := hide (map_take flip4 HP.out)
        have hnv : nv ≤ 400 := by have := HN.out; rw [List.length_map, List.length_take] at this; omega
        have hsz := HB.out.size
        have hbw : b < wr.heap.size := by omega
        have r6 : (0 : Int) ≤ (m : Int) := by omega
        generalize (l.take m).map flip4 = E0 at *
        go_wp2
        refine wp_region_mix [0, 1, 2, 3, 4, 5, 6, 7, 8, 9, 10, 11, 12, 13, 14, 15, 16, 17, 18, 19, 20, 21] [22, 23, 24] (fun w' => w'.cell? ⟨b, o + m * 4, none⟩ = some (.int .i64 x0) ∧ w'.cell? ⟨b, o + m * 4 + 1, none⟩ = some (.int .i64 y0) ∧ w'.cell? ⟨b, o + m * 4 + 2, none⟩ = some (.int .i64 x1) ∧ w'.cell? ⟨b, o + m * 4 + 3, none⟩ = some (.int .i64 y1)) (by kernel_rfl) (by kernel_rfl) ⟨d0, d1, d2, d3⟩ ?_
        simp only [List.map_cons, List.map_nil, opAt, List.getElem?_cons_succ, List.getElem?_cons_zero, Option.getD_some]
        iterate 22
          refine ⟨?_, Or.inl ⟨by rfl, ?_⟩, ?_⟩
          rotate_left 1
          · intro w' hSw
            obtain ⟨z0, z1, z2, z3⟩ := hSw
            go_simp
            first | done | with_reducible rfl
          simp only [Act.put, List.setIfInBounds_toArray, List.set_cons_zero, List.set_cons_succ]
        clear r6
        simp only [wpReads]
        intro K hK
        simp only [Act.put, List.setIfInBounds_toArray, List.set_cons_zero, List.set_cons_succ] at hK ⊢
        go_simp
        refine hK _ _ (fun _ => ⟨by go_keep, by go_keep, by go_keep, by go_keep⟩) ?_
        clear hK K
        intro K hK
        refine step_append_lies _ rfl (.tmp 17) (.tmp 39) 22 rfl w.heap.size 43 i1 (.agg #[.int .i64 0, .int .i64 0, .int .i64 0, .int .i64 0]) 4 32 Try.underlying22 gi gz0 gz1 gz2 rfl (by decide) _ nv _ rfl (own_drew (World.ownsRow.alloc (w := wr) HO.out _)) ⟨wr.heap.size, 0, none⟩ 1 1 [.int .i64 y0, .int .i64 x0, .int .i64 y1, .int .i64 x1] rfl rfl (news_drew wr _ _ _ rfl) (ints_one rfl) (by omega) (by unfold maxLen; omega) (by omega) (by simp; omega) _ rfl ?_
        intro g9 cap9 w9 hown9 hgrow9 _ _
        have hx9 : E0.flatMap encR ++ [.int .i64 y0, .int .i64 x0, .int .i64 y1, .int .i64 x1] = (E0 ++ [flip4 ⟨x0, y0, x1, y1⟩]).flatMap encR := by simp [encR, flip4]
        rw [hx9, ← HT.out] at hown9
        have hb9 := ((HB.out.alloc hsz _).drew).grown hgrow9 (by simp; omega) (fun q hq => (HO.out.lt q hq).1)
        have hkk : ∀ q, w9.cell? ⟨b, q, none⟩ = wr.cell? ⟨b, q, none⟩ := fun q => (hb9.cell (p := ⟨b, q, none⟩) hbl).trans (HB.out.cell (p := ⟨b, q, none⟩) hbl).symm
        have HKK := hide hkk
        have HB9 := hide hb9
        have HN9 := hide (own_len (k := 4) hown9 (fun _ => rfl) (by omega))
        have HO9 := hide hown9
        clear hown9 hgrow9 hx9 hb9 hkk
        refine hK _ _ (fun _ => ⟨(HKK.out _).trans d0, (HKK.out _).trans d1, (HKK.out _).trans d2, (HKK.out _).trans d3⟩) ?_
        clear hK K
        intro K hK
        simp only [Act.put, List.setIfInBounds_toArray, List.set_cons_zero, List.set_cons_succ] at hK ⊢
        go_simp
        refine hK _ _ (fun h => absurd rfl h) ?_
        clear hK K
        refine NoPanic.normal ?_
        go_wp2
        go_roundw
        case rel => exact ⟨m + 1, by omega, by go_num, _, _, cap9, rfl, HN9, HO9, HB9⟩
        case measure => simp [intOf]; omega
      · have mz : ¬ (m : Int) < (l.length : Int) := by omega
        have ht : l.take m = l := List.take_of_length_le (by omega)
        rw [ht] at HN HO
        have hmd := rMake_any (w := wr) (own_rd (own_n HO.out HN.out) (fun _ => rfl)) (by simp; omega)
        rw [flip_make H0.out] at hmd
        have HMD := hide hmd
        have hsz := HB.out.size
        clear ht hmd
        go_wp2_with (go_at_call 11; refine HMD.out.mono ?_; rintro e w2 ⟨⟨A2, c2, rfl, ho2⟩, hb2⟩; have HO2 := hide ho2; clear ho2)
        go_ret2
        exact ⟨⟨A2, c2, rfl, own_base HO2.out hsz⟩, HB.out.trans (hb2.mono hsz)⟩
  · have HF : Hid (flipF l = ([], checkF l)) := hide (if_neg h0)
    generalize checkF l = ck at *
    have hne : (ck != 0) = true := by simpa using h0
    clear h0
    go_enter Try.func27, Try.ntmps27
    go_wp2_with (fail)
    refine (HCK.out _ (Below.refl _ _)).mono ?_
    rintro e w1 ⟨rfl, hb1⟩
    have HB1 := hide hb1
    clear hb1
    go_wp2_with (fail)
    refine (HCK.out _ HB1.out).mono ?_
    rintro e w2 ⟨rfl, hb2⟩
    go_wp2_with (fail)
    go_ret2
    exact ⟨⟨none, 0, by rw [HF.out]; rfl, by rw [HF.out]; exact World.ownsRow_nil _ _ _ _⟩, HB1.out.trans (hb2.mono HB1.out.size)⟩

theorem fine_half (x : Int) : fineP (x.tdiv 2) ↔ -2000001 ≤ x ∧ x ≤ 2000001 := by
  unfold fineP
  rcases Int.lt_or_le x 0 with h | h
  · have h2 : x.tdiv 2 = -((-x) / 2) := by
      have := Int.neg_tdiv (a := -x) (b := 2)
      rw [Int.neg_neg] at this
      rw [this, Int.tdiv_eq_ediv_of_nonneg (by omega)]
    rw [h2]; omega
  · rw [Int.tdiv_eq_ediv_of_nonneg h]; omega
theorem half_wrap (x : Int) (h1 : -9223372036854775808 ≤ x) (h2 : x ≤ 9223372036854775807) : IntKind.i64.wrap (x.tdiv 2) = x.tdiv 2 := by
  have h3 : -9223372036854775808 ≤ x.tdiv 2 ∧ x.tdiv 2 ≤ 9223372036854775807 := by
    rcases Int.lt_or_le x 0 with h | h
    · have h2 : x.tdiv 2 = -((-x) / 2) := by
        have := Int.neg_tdiv (a := -x) (b := 2)
        rw [Int.neg_neg] at this
        rw [this, Int.tdiv_eq_ediv_of_nonneg (by omega)]
      rw [h2]; omega
    · rw [Int.tdiv_eq_ediv_of_nonneg h]; omega
  generalize x.tdiv 2 = q at *
  simp [IntKind.wrap, IntKind.bits, IntKind.signed]; omega

set_option maxRecDepth 100000 in
set_option maxHeartbeats 4000000 in
theorem rMove_any {w : World} {v : Value} {l : List R4} (hr : RdK encR 4 w w.heap.size v l) (hl : l.length ≤ 100000000) (x y : Int) (hx : -9223372036854775808 ≤ x ∧ x ≤ 9223372036854775807) (hy : -9223372036854775808 ≤ y ∧ y ≤ 9223372036854775807) :
    Calls Try.prog 25 #[v, .int .i64 x, .int .i64 y] w fun e w' => RegRet w.heap.size (moveF l x y) e w' ∧ Below w.heap.size w w' := by
  obtain ⟨i1, gi, gz0, gz1, gz2⟩ := info_parts infoRc
  obtain ⟨i2, fi, fz0, fz1, fz2⟩ := info_parts infoB
  have hck := fun (W : World) (hW : Below w.heap.size w W) => rCheck_any (w := W) ((hr.below hW).mono hW.size) hl
  obtain ⟨A, c, hv, hc⟩ := id hr
  subst hv
  have HR := hide hr
  have HCK := hide hck
  have HRC := hide hc
  clear hck hr hc
  by_cases h0 : checkF l = 0
  · obtain ⟨k1, k2, _⟩ := checkF_ok h0
    rw [h0] at HCK
    have HV := hide k2
    have H0 := hide h0
    clear k2 h0
    have HMF : Hid (moveF l x y = if l = [] ∨ (inMv x ∧ inMv y ∧ ∀ r ∈ l, valid4 (mv x y r)) then (l.map (mv x y), 0) else ([], 16)) := hide (if_pos H0.out)
    have HIX := hide (fun W => rIn_any (x.tdiv 2) W)
    have HIY := hide (fun W => rIn_any (y.tdiv 2) W)
    have hqx := half_wrap x hx.1 hx.2
    have hqy := half_wrap y hy.1 hy.2
    have HFX := hide (fine_half x)
    have HFY := hide (fine_half y)
    clear hx hy
    go_enter Try.func25, Try.ntmps25
    go_wp2_with (fail)
    refine (HCK.out _ (Below.refl _ _)).mono ?_
    rintro e w1 ⟨rfl, hb1⟩
    go_wp2_with (fail)
    go_loopw [8, 9] (fun v i wr => ∃ m : Nat, m ≤ l.length ∧ i = .int .i64 m ∧ ∃ Av nv cv, v = .slice Av nv cv ∧ Hid (nv = ((l.take m).map (mv x y)).length) ∧ Hid (wr.ownsRow w.heap.size 43 4 v nv (((l.take m).map (mv x y)).flatMap encR)) ∧ Hid (Below w.heap.size w wr) ∧ Hid (∀ r ∈ l.take m, valid4 (mv x y r))) (fun _ i _ => l.length - (intOf i).toNat)
    case atStart => exact ⟨0, Nat.zero_le _, rfl, none, 0, 0, rfl, hide rfl, hide (World.ownsRow_nil _ _ _ _), hide hb1, hide (by simp)⟩
    case round =>
      clear hb1
      obtain ⟨m, hm, rfl, Av, nv, cv, rfl, HN, HO, HB, HVM⟩ := hrel
      by_cases hlt : m < l.length
      · obtain ⟨⟨x0, y0, x1, y1⟩, hp⟩ : ∃ p, l[m]? = some p := ⟨_, List.getElem?_eq_getElem hlt⟩
        obtain ⟨b, o, rfl, hbl, k⟩ := HRC.out (by intro e; rw [e] at hlt; simp at hlt)
        have d0 : wr.cell? ⟨b, o + m * 4, none⟩ = some (.int .i64 x0) := (HB.out.cell (p := ⟨b, _, none⟩) hbl).trans (k m _ hp 0 _ rfl)
        have d1 : wr.cell? ⟨b, o + m * 4 + 1, none⟩ = some (.int .i64 y0) := (HB.out.cell (p := ⟨b, _, none⟩) hbl).trans (k m _ hp 1 _ rfl)
        have d2 : wr.cell? ⟨b, o + m * 4 + 2, none⟩ = some (.int .i64 x1) := (HB.out.cell (p := ⟨b, _, none⟩) hbl).trans (k m _ hp 2 _ rfl)
        have d3 : wr.cell? ⟨b, o + m * 4 + 3, none⟩ = some (.int .i64 y1) := (HB.out.cell (p := ⟨b, _, none⟩) hbl).trans (k m _ hp 3 _ rfl)
        have mz : (m : Int) < (l.length : Int) := by omega
        have HP := hide hp
        clear k hp
        have HT := hide (map_take (mv x y) HP.out)
        have hnv : nv ≤ 400 := by have := HN.out; rw [List.length_map, List.length_take] at this; omega
        have hsz := HB.out.size
        have hbw : b < wr.heap.size := by omega
        by_cases fx : fineP (x.tdiv 2)
        rotate_left 1
        · have HX : Hid (decide (fineP (x.tdiv 2)) = false) := hide (decide_eq_false fx)
          have HF : Hid (moveF l x y = ([], 16)) := hide (by
            rw [HMF.out, if_neg]
            rintro (h | ⟨h1, h2, _⟩)
            · rw [h] at hlt; simp at hlt
            · exact fx (HFX.out.2 (by unfold inMv at h1; omega)))
          clear fx
          go_wp2_with (fail)
          refine (HIX.out _).mono ?_
          rintro e wp ⟨rfl, rfl⟩
          rw [HX.out]
          go_wp2_with (fail)
          go_ret2
          exact ⟨⟨none, 0, by rw [HF.out]; rfl, by rw [HF.out]; exact World.ownsRow_nil _ _ _ _⟩, HB.out⟩
        have HX : Hid (decide (fineP (x.tdiv 2)) = true) := hide (decide_eq_true fx)
        by_cases fy : fineP (y.tdiv 2)
        rotate_left 1
        · have HY : Hid (decide (fineP (y.tdiv 2)) = false) := hide (decide_eq_false fy)
          have HF : Hid (moveF l x y = ([], 16)) := hide (by
            rw [HMF.out, if_neg]
            rintro (h | ⟨h1, h2, _⟩)
            · rw [h] at hlt; simp at hlt
            · exact fy (HFY.out.2 (by unfold inMv at h2; omega)))
          clear fx fy
          go_wp2_with (fail)
          refine (HIX.out _).mono ?_
          rintro e wp ⟨rfl, rfl⟩
          rw [HX.out]
          go_wp2_with (fail)
          refine (HIY.out _).mono ?_
          rintro e wp ⟨rfl, rfl⟩
          rw [HY.out]
          go_wp2_with (fail)
          go_ret2
          exact ⟨⟨none, 0, by rw [HF.out]; rfl, by rw [HF.out]; exact World.ownsRow_nil _ _ _ _⟩, HB.out⟩
        have HY : Hid (decide (fineP (y.tdiv 2)) = true) := hide (decide_eq_true fy)
        obtain ⟨x2, x3⟩ := HFX.out.1 fx
        obtain ⟨y2, y3⟩ := HFY.out.1 fy
        clear fx fy
        obtain ⟨v1, v2, ⟨v3, v4⟩, ⟨v5, v6⟩, ⟨v7, v8⟩, ⟨v9, v10⟩⟩ := HV.out _ (List.mem_of_getElem? HP.out)
        simp only at v1 v2 v3 v4 v5 v6 v7 v8 v9 v10
        have hva : ∀ W, Calls Try.prog 43 #[.agg #[.int .i64 (x0 + x), .int .i64 (y0 + y), .int .i64 (x1 + x), .int .i64 (y1 + y)]] W fun e w' => e = .returned (.bool (decide (valid4 ⟨x0 + x, y0 + y, x1 + x, y1 + y⟩))) ∧ Below W.heap.size W w' := fun W => rValid_any ⟨x0 + x, y0 + y, x1 + x, y1 + y⟩ W
        have HVA := hide hva
        have r6 : (0 : Int) ≤ (m : Int) := by omega
        have t0 : IntKind.i64.wrap (x0 + x) = x0 + x := by simp [IntKind.wrap, IntKind.bits, IntKind.signed]; omega
        have t1 : IntKind.i64.wrap (y0 + y) = y0 + y := by simp [IntKind.wrap, IntKind.bits, IntKind.signed]; omega
        have t2 : IntKind.i64.wrap (x1 + x) = x1 + x := by simp [IntKind.wrap, IntKind.bits, IntKind.signed]; omega
        have t3 : IntKind.i64.wrap (y1 + y) = y1 + y := by simp [IntKind.wrap, IntKind.bits, IntKind.signed]; omega
        generalize (l.take m).map (mv x y) = E0 at *
        clear hva
        go_wp2_with (fail)
        refine (HIX.out _).mono ?_
        rintro e wp ⟨rfl, rfl⟩
        rw [HX.out]
        go_wp2_with (fail)
        refine (HIY.out _).mono ?_
        rintro e wp ⟨rfl, rfl⟩
        rw [HY.out]
        go_wp2_with (fail)
        refine wp_region_mix [0, 1, 2, 3, 4, 5, 6, 7, 8, 9, 10, 11, 12, 13, 14, 15, 16, 17, 18, 19, 20, 21, 22, 23, 24, 25, 26, 27, 28] [29, 30] (fun w' => w'.cell? ⟨b, o + m * 4, none⟩ = some (.int .i64 x0) ∧ w'.cell? ⟨b, o + m * 4 + 1, none⟩ = some (.int .i64 y0) ∧ w'.cell? ⟨b, o + m * 4 + 2, none⟩ = some (.int .i64 x1) ∧ w'.cell? ⟨b, o + m * 4 + 3, none⟩ = some (.int .i64 y1)) (by kernel_rfl) (by kernel_rfl) ⟨d0, d1, d2, d3⟩ ?_
        simp only [List.map_cons, List.map_nil, opAt, List.getElem?_cons_succ, List.getElem?_cons_zero, Option.getD_some]
        iterate 29
          refine ⟨?_, Or.inl ⟨by rfl, ?_⟩, ?_⟩
          rotate_left 1
          · intro w' hSw
            obtain ⟨z0, z1, z2, z3⟩ := hSw
            go_simp
            first | done | with_reducible rfl
          simp only [Act.put, List.setIfInBounds_toArray, List.set_cons_zero, List.set_cons_succ]
        clear r6 t0 t1 t2 t3
        simp only [wpReads]
        intro K hK
        simp only [Act.put, List.setIfInBounds_toArray, List.set_cons_zero, List.set_cons_succ] at hK ⊢
        go_simp
        refine hK _ _ (fun _ => ⟨by go_keep, by go_keep, by go_keep, by go_keep⟩) ?_
        clear hK K
        intro K hK
        simp only [Act.put, List.setIfInBounds_toArray, List.set_cons_zero, List.set_cons_succ] at hK ⊢
        go_simp
        refine hK _ _ (fun h => absurd rfl h) ?_
        clear hK K
        refine NoPanic.normal ?_
        by_cases hq : valid4 (mv x y ⟨x0, y0, x1, y1⟩)
        · have HQ := hide hq
          have HQD : Hid (decide (valid4 ⟨x0 + x, y0 + y, x1 + x, y1 + y⟩) = true) := hide (decide_eq_true hq)
          clear hq
          go_wp2_with (first
            | (go_at_call 43; refine (HVA.out _).mono ?_; rintro e w2 ⟨rfl, hb2⟩; rw [HQD.out]; obtain ⟨hc2, hf2⟩ := bcell hb2; have hs2 := hb2.size; have HB2 := hide hb2; clear hb2; simp at hs2)
            | (at_builtin; refine wpList_append_lies _ rfl (.tmp 64) (.tmp 66) 25 rfl w.heap.size 43 i1 (.agg #[.int .i64 0, .int .i64 0, .int .i64 0, .int .i64 0]) 4 32 Try.underlying25 gi gz0 gz1 gz2 rfl (by decide) _ nv _ rfl (World.ownsRow.alloc (own_below (own_drew (World.ownsRow.alloc (w := wr) HO.out _)) HB2.out) _) ⟨w2.heap.size, 0, none⟩ 1 1 [.int .i64 (x0 + x), .int .i64 (y0 + y), .int .i64 (x1 + x), .int .i64 (y1 + y)] rfl rfl (news_new w2 _ _ _ rfl) (ints_one rfl) (by omega) (by unfold maxLen; omega) (by omega) (by simp; omega) _ rfl ?_))
          intro g9 cap9 w9 hown9 hgrow9 _ _
          have hx9 : E0.flatMap encR ++ [.int .i64 (x0 + x), .int .i64 (y0 + y), .int .i64 (x1 + x), .int .i64 (y1 + y)] = (E0 ++ [mv x y ⟨x0, y0, x1, y1⟩]).flatMap encR := by simp [encR, mv]
          rw [hx9, ← HT.out] at hown9
          have HB9 := hide (((((HB.out.alloc hsz _).drew).trans (HB2.out.mono (by simp; omega))).alloc (by omega) _).grown hgrow9 (by simp; omega) (fun q hq => (HO.out.lt q hq).1))
          have HN9 := hide (own_len (k := 4) hown9 (fun _ => rfl) (by omega))
          have HO9 := hide hown9
          have HVM2 : Hid (∀ r ∈ l.take (m + 1), valid4 (mv x y r)) := hide (by
            obtain ⟨i1, e1⟩ := List.getElem?_eq_some_iff.1 HP.out
            intro r hr
            rw [List.take_succ_eq_append_getElem i1, List.mem_append] at hr
            rcases hr with hr | hr
            · exact HVM.out r hr
            · rw [List.mem_singleton] at hr
              subst hr
              rw [e1]
              exact HQ.out)
          clear hown9 hgrow9 hx9
          go_wp2
          go_roundw
          case rel => exact ⟨m + 1, by omega, by go_num, _, _, cap9, rfl, HN9, HO9, HB9, HVM2⟩
          case measure => simp [intOf]; omega
        · have HQD : Hid (decide (valid4 ⟨x0 + x, y0 + y, x1 + x, y1 + y⟩) = false) := hide (decide_eq_false hq)
          have HF : Hid (moveF l x y = ([], 16)) := hide (by
            rw [HMF.out, if_neg]
            rintro (h | ⟨_, _, h⟩)
            · rw [h] at hlt; simp at hlt
            · exact hq (h _ (List.mem_of_getElem? HP.out)))
          clear hq
          go_wp2_with (go_at_call 43; refine (HVA.out _).mono ?_; rintro e w2 ⟨rfl, hb2⟩; rw [HQD.out])
          go_ret2
          exact ⟨⟨none, 0, by rw [HF.out]; rfl, by rw [HF.out]; exact World.ownsRow_nil _ _ _ _⟩, ((HB.out.alloc hsz _).drew).trans (hb2.mono (by simp; omega))⟩
      · have mz : ¬ (m : Int) < (l.length : Int) := by omega
        have ht : l.take m = l := List.take_of_length_le (by omega)
        rw [ht] at HN HO HVM
        have HF : Hid (moveF l x y = (l.map (mv x y), 0)) := hide (by
          rw [HMF.out, if_pos]
          cases l with
          | nil => exact .inl rfl
          | cons r l =>
            have h1 := HVM.out r (by simp)
            have h2 := mv_in (HV.out r (by simp)) h1
            exact .inr ⟨h2.1, h2.2, HVM.out⟩)
        clear ht
        go_wp2
        go_ret2
        exact ⟨⟨Av, cv, by rw [HF.out, HN.out]; rfl, by rw [HF.out]; exact own_n (HN.out ▸ HO.out) rfl⟩, HB.out⟩
  · have HF : Hid (moveF l x y = ([], checkF l)) := hide (if_neg h0)
    generalize checkF l = ck at *
    have hne : (ck != 0) = true := by simpa using h0
    clear h0
    go_enter Try.func25, Try.ntmps25
    go_wp2_with (fail)
    refine (HCK.out _ (Below.refl _ _)).mono ?_
    rintro e w1 ⟨rfl, hb1⟩
    have HB1 := hide hb1
    clear hb1
    go_wp2_with (fail)
    refine (HCK.out _ HB1.out).mono ?_
    rintro e w2 ⟨rfl, hb2⟩
    go_wp2_with (fail)
    go_ret2
    exact ⟨⟨none, 0, by rw [HF.out]; rfl, by rw [HF.out]; exact World.ownsRow_nil _ _ _ _⟩, HB1.out.trans (hb2.mono HB1.out.size)⟩
end Go.Proofs.Ytamnaojheecopaa
