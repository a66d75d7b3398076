/- Texts laid together: OffD, OffE, MOffE, LookH, OffY, OffZ. Lemmas for the statements of this seat; no condition. -/
import Derived.Test.YtdolpeljengpaaaGreatPk9
import Derived.Test.YtdolpeljengpaaaGreatPk6
import Derived.Test.YtdolpeljengpaaaGreatPk3

/- The reference of offset: made. -/
namespace Go.Proofs.YtdolpeljengpaaaGreat
open Go.RowKit
set_option linter.unusedVariables false
set_option linter.unusedSimpArgs false

/-- A column's test. -/
def pG (l : List R4) (d low high c y : Int) : Bool := decide (low ≤ cntF l c y d) && decide (cntF l c y d ≤ high)
theorem refGrid_pG (l : List R4) (d low high : Int) : refGrid l d low high = gridL (srt (arnd (srt (cutsL l ++ cutsL [])) d)) (srt (arnd (srt (cutsY l ++ cutsY [])) d)) (pG l d low high) := rfl
theorem srt_in {L : List Int} {lo hi : Int} (h : ∀ c ∈ L, lo ≤ c ∧ c ≤ hi) : ∀ c ∈ srt L, lo ≤ c ∧ c ≤ hi := fun c hc => h c (((srt_ok L).2 c).1 hc)
theorem arnd_in {L : List Int} {d : Int} (hd : 0 ≤ d ∧ d ≤ 1000000) (h : ∀ c ∈ L, -1000000 ≤ c ∧ c ≤ 1000000) : ∀ c ∈ arnd L d, -2000000 ≤ c ∧ c ≤ 2000000 := fun c hc => by
  unfold arnd at hc
  obtain ⟨a, ha, hc⟩ := List.mem_flatMap.1 hc
  have := h a ha
  simp only [List.mem_cons, List.not_mem_nil, or_false] at hc
  omega
theorem cuts_in {l : List R4} (hv : ∀ r ∈ l, valid4 r) : (∀ c ∈ cutsL l ++ cutsL [], -1000000 ≤ c ∧ c ≤ 1000000) ∧ ∀ c ∈ cutsY l ++ cutsY [], -1000000 ≤ c ∧ c ≤ 1000000 := by
  have e1 : cutsL ([] : List R4) = [] := rfl
  have e2 : cutsY ([] : List R4) = [] := rfl
  rw [e1, e2, List.append_nil, List.append_nil]
  constructor
  · intro c hc
    unfold cutsL at hc
    obtain ⟨r, hr, hc⟩ := List.mem_flatMap.1 hc
    obtain ⟨v1, v2, ⟨v3, v4⟩, ⟨v5, v6⟩, ⟨v7, v8⟩, ⟨v9, v10⟩⟩ := hv r hr
    simp only [List.mem_cons, List.not_mem_nil, or_false] at hc
    omega
  · intro c hc
    unfold cutsY at hc
    obtain ⟨r, hr, hc⟩ := List.mem_flatMap.1 hc
    obtain ⟨v1, v2, ⟨v3, v4⟩, ⟨v5, v6⟩, ⟨v7, v8⟩, ⟨v9, v10⟩⟩ := hv r hr
    simp only [List.mem_cons, List.not_mem_nil, or_false] at hc
    omega
set_option maxRecDepth 100000 in
set_option maxHeartbeats 8000000 in
theorem rMadeD_any {w : World} {v : Value} {l : List R4} (hr : RdK encR 4 w w.heap.size v l) (hl : l.length ≤ 400) (hv : ∀ r ∈ l, valid4 r) (d low high : Int) (hd : 0 ≤ d ∧ d ≤ 1000000) (hwf : ∀ r ∈ refGrid l d low high, wf4 r) :
    Calls Tryz.prog 133 #[v, .int .i64 d, .int .i64 low, .int .i64 high] w fun e w' => ∃ vo, e = .returned vo ∧ w'.ownsRow w.heap.size 69 4 vo (rjoin hFst (refGrid l d low high) []).length ((rjoin hFst (refGrid l d low high) []).flatMap encR) ∧ Below w.heap.size w w' := by
  obtain ⟨i1, gi, gz0, gz1, gz2⟩ := info_parts infoRc
  obtain ⟨i2, fi, fz0, fz1, fz2⟩ := info_parts infoB
  have hX := fun (W : World) (hW : Below w.heap.size w W) => rXs_any (w := W) (hr.below hW) (RdK.nil (enc := encR) (k := 4) (w := W) (B := w.heap.size) none 0) hW.size (by omega) (by simp)
  have hY := fun (W : World) (hW : Below w.heap.size w W) => rYs_any (w := W) (hr.below hW) (RdK.nil (enc := encR) (k := 4) (w := W) (B := w.heap.size) none 0) hW.size (by omega) (by simp)
  obtain ⟨cx, cy⟩ := cuts_in hv
  have bx := srt_in cx
  have byy := srt_in cy
  have lx : (srt (cutsL l ++ cutsL [])).length ≤ 800 := by have := srt_len (cutsL l ++ cutsL []); rw [List.length_append, cutsL_len, cutsL_len] at this; simp at this; omega
  have ly : (srt (cutsY l ++ cutsY [])).length ≤ 800 := by have := srt_len (cutsY l ++ cutsY []); rw [List.length_append, cutsY_len, cutsY_len] at this; simp at this; omega
  have hXD := fun (W : World) (v : Value) (B : Nat) (h : RdK encI 1 W B v (srt (cutsL l ++ cutsL []))) (hB : B ≤ W.heap.size) => rAround_any h hB (by omega) d (by omega) (fun c hc => by have := bx c hc; omega)
  have hYD := fun (W : World) (v : Value) (B : Nat) (h : RdK encI 1 W B v (srt (cutsY l ++ cutsY []))) (hB : B ≤ W.heap.size) => rAround_any h hB (by omega) d (by omega) (fun c hc => by have := byy c hc; omega)
  have bx2 := srt_in (arnd_in hd bx)
  have by2 := srt_in (arnd_in hd byy)
  have hxl : (srt (arnd (srt (cutsL l ++ cutsL [])) d)).length ≤ 1600 := by have := srt_len (arnd (srt (cutsL l ++ cutsL [])) d); rw [arnd_len] at this; omega
  have hyl : (srt (arnd (srt (cutsY l ++ cutsY [])) d)).length ≤ 1600 := by have := srt_len (arnd (srt (cutsY l ++ cutsY [])) d); rw [arnd_len] at this; omega
  have sx := (srt_ok (arnd (srt (cutsL l ++ cutsL [])) d)).1
  have sy := (srt_ok (arnd (srt (cutsY l ++ cutsY [])) d)).1
  rw [refGrid_pG] at hwf ⊢
  clear cx cy bx byy lx ly
  generalize srt (arnd (srt (cutsL l ++ cutsL [])) d) = xs at *
  generalize srt (arnd (srt (cutsY l ++ cutsY [])) d) = ys at *
  generalize srt (cutsL l ++ cutsL []) = xs0 at *
  generalize srt (cutsY l ++ cutsY []) = ys0 at *
  have hjo : ∀ (W : World) (v1 : Value), RdK encR 4 W W.heap.size v1 (gridL xs ys (pG l d low high)) → Calls Tryz.prog 72 #[.int .i64 2, v1, .slice none 0 0] W fun e w' => ∃ vo, e = .returned vo ∧ w'.ownsRow W.heap.size 69 4 vo (rjoin hFst (gridL xs ys (pG l d low high)) []).length ((rjoin hFst (gridL xs ys (pG l d low high)) []).flatMap encR) ∧ Below W.heap.size W w' := fun W v1 h1 => by
    obtain ⟨g1, g2⟩ := grid_cutlen sx sy (pG l d low high)
    have g3 := grid_take_len ys (pG l d low high) 1600 hyl (prs xs)
    have g4 := prs_len xs
    have g5 := Nat.mul_le_mul_right 1600 (show (prs xs).length ≤ 1600 by omega)
    have := rJoinedC_any 2 (.inr (.inl rfl)) h1 (RdK.nil (enc := encR) (k := 4) (w := W) (B := W.heap.size) none 0) (Nat.le_refl _) (by unfold gridL; omega) (by simp) (by omega) (by omega)
    rw [ref_join (h := hk 2) rfl hwf (by simp), rjoin_or hwf] at this
    exact this
  obtain ⟨A1, c1, hva, _⟩ := id hr
  subst hva
  have HCN : Hid (∀ (x y : Int) (W : World), Below w.heap.size w W → (-2000000 ≤ x ∧ x ≤ 2000000) → (-2000000 ≤ y ∧ y ≤ 2000000) → Calls Tryz.prog 177 #[.slice A1 l.length c1, .int .i64 x, .int .i64 y, .int .i64 d] W fun e w' => e = .returned (.int .i64 (cntF l x y d)) ∧ Below W.heap.size W w') := hide (fun x y W hW h1 h2 => rCount_any (hr.below hW) hW.size hl hv x y d (by omega) (by omega) (by omega))
  have HJO := hide hjo
  have HX := hide hX
  have HY := hide hY
  have HXD := hide hXD
  have HYD := hide hYD
  have BX := hide bx2
  have BY := hide by2
  have HGT := hide (grid_take_len ys (pG l d low high) 1600 hyl)
  obtain ⟨d1, d2⟩ := hd
  clear hjo hX hY hXD hYD hr hv hwf bx2 by2 sx sy
  go_enter Tryz.func133, Tryz.ntmps133
  go_wp2_with (fail)
  refine (HX.out _ (Below.refl _ _)).mono ?_
  rintro e w1 ⟨vx, rfl, ox, hb1⟩
  have OX := hide ox
  have HB1 := hide hb1
  clear ox hb1
  go_wp2_with (fail)
  refine (HXD.out _ _ _ (own_rdI OX.out) (Nat.le_refl _)).mono ?_
  rintro e w2 ⟨vx2, rfl, ox2, hb2⟩
  have OX2 := hide (own_base ox2 HB1.out.size)
  have HB2 := hide (HB1.out.trans (hb2.mono HB1.out.size))
  clear ox2 hb2 OX HB1
  go_wp2_with (fail)
  refine (HY.out _ HB2.out).mono ?_
  rintro e w3 ⟨vy, rfl, oy, hb3⟩
  have OY := hide oy
  have OX3 := hide (own_below OX2.out hb3)
  have HB3 := hide (HB2.out.trans (hb3.mono HB2.out.size))
  clear oy hb3 OX2 HB2
  go_wp2_with (fail)
  refine (HYD.out _ _ _ (own_rdI OY.out) (Nat.le_refl _)).mono ?_
  rintro e w4 ⟨vy2, rfl, oy2, hb4⟩
  obtain ⟨Ax, cx, hvx⟩ := own_form OX3.out
  subst hvx
  obtain ⟨Ay, cy, hvy⟩ := own_form oy2
  subst hvy
  have HJ0 := hide (show RJ w (.slice Ax xs.length cx) (.slice Ay ys.length cy) (.slice none 0 0) (.slice none 0 0) xs ys [] [] w4 from ⟨HB3.out.trans (hb4.mono HB3.out.size), own_below OX3.out hb4, own_base oy2 HB3.out.size, World.ownsRow_nil _ _ _ _, World.ownsRow_nil _ _ _ _⟩)
  clear oy2 hb4 OY OX3 HB3 HX HY HXD HYD
  go_wp2_with (fail)
  go_loopw [11, 12] (fun ov iv wr => ∃ (i no : Nat) (Ao : Option Addr) (co : Nat), (i = 0 ∨ i < xs.length) ∧ iv = .int .i64 i ∧ ov = .slice Ao no co ∧ Hid (no = (((prs xs).take i).flatMap (colG ys (pG l d low high))).length) ∧ Hid (RJ w (.slice Ax xs.length cx) (.slice Ay ys.length cy) (.slice Ao no co) (.slice none 0 0) xs ys (((prs xs).take i).flatMap (colG ys (pG l d low high))) [] wr)) (fun _ iv _ => xs.length - (intOf iv).toNat)
  case atStart => exact ⟨0, 0, none, 0, .inl rfl, rfl, rfl, hide rfl, HJ0⟩
  case round =>
    clear HJ0
    obtain ⟨i, no, Ao, co, hi, rfl, rfl, HN, HJ⟩ := hrel
    have hno : no ≤ 2560000 := by
      have h1 := HN.out
      have h2 := HGT.out ((prs xs).take i)
      have h3 : ((prs xs).take i).length ≤ 1600 := by have := prs_len xs; rw [List.length_take]; omega
      have h4 := Nat.mul_le_mul_right 1600 h3
      omega
    by_cases hlt : i + 1 < xs.length
    · obtain ⟨c, hc⟩ : ∃ c, xs[i]? = some c := ⟨_, List.getElem?_eq_getElem (by omega)⟩
      obtain ⟨e, he⟩ : ∃ d, xs[i + 1]? = some d := ⟨_, List.getElem?_eq_getElem hlt⟩
      have mz : (i : Int) + 1 < (xs.length : Int) := by omega
      have mz2 : (i : Int) < (xs.length : Int) := by omega
      obtain ⟨gx, cpx, hvx, hBx, hgx⟩ := HJ.out.x.form (by omega)
      injection hvx with e1 _ e3
      subst e1; subst e3
      have HQ := hide (colG_at ys (pG l d low high) (prs_get xs i c e hc he))
      have hcb := BX.out c (List.mem_of_getElem? hc)
      have HC := hide hc
      have HD := hide he
      clear hc he
      go_wp2_with (fail)
      go_loopw [13, 14] (fun v q wr => ∃ j : Nat, j ≤ ys.length ∧ q = .int .i64 j ∧ ∃ Ai ni ci, v = .slice Ai ni ci ∧ Hid (wr.ownsRow w.heap.size 4 1 v ni (((ys.take j).map (pG l d low high c)).map Value.bool)) ∧ Hid (RJ w (.slice (some ⟨gx, 0, none⟩) xs.length cx) (.slice Ay ys.length cy) (.slice Ao no co) (.slice none 0 0) xs ys (((prs xs).take i).flatMap (colG ys (pG l d low high))) [] wr)) (fun _ q _ => ys.length - (intOf q).toNat)
      case atStart => exact ⟨0, Nat.zero_le _, rfl, none, 0, 0, rfl, hide (World.ownsRow_nil _ _ _ _), HJ⟩
      case round =>
        clear HJ
        obtain ⟨j, hj, rfl, Ai, ni, ci, rfl, HIN, HJ⟩ := hrel
        by_cases hjl : j < ys.length
        · obtain ⟨y, hy⟩ : ∃ y, ys[j]? = some y := ⟨_, List.getElem?_eq_getElem hjl⟩
          have jz : (j : Int) < (ys.length : Int) := by omega
          obtain ⟨gy, cpy, hvy, hBy, hgy⟩ := HJ.out.y.form (by omega)
          injection hvy with e1 _ e3
          subst e1; subst e3
          obtain ⟨x0, _⟩ := HJ.out.xcells HC.out HD.out
          have y0 : wr.cell? ⟨gy, j, none⟩ = some (.int .i64 y) := by
            have := (HJ.out.y.cells (g := gy) rfl) j (iv y) (by simp [hy])
            rwa [addr_add] at this
          have HT : Hid ((ys.take (j + 1)).map (pG l d low high c) = (ys.take j).map (pG l d low high c) ++ [pG l d low high c y]) := hide (by
            obtain ⟨h1, h2⟩ := List.getElem?_eq_some_iff.1 hy
            rw [List.take_succ_eq_append_getElem h1, List.map_append, h2]; rfl)
          have hyb := BY.out y (List.mem_of_getElem? hy)
          have HPG : Hid (pG l d low high c y = (decide (low ≤ cntF l c y d) && decide (cntF l c y d ≤ high))) := hide rfl
          have hni : ni ≤ 1600 := by
            have := HIN.out.1
            simp at this; omega
          have HCC : Hid (∀ x : Above wr, Calls Tryz.prog 177 #[.slice A1 l.length c1, .int .i64 c, .int .i64 y, .int .i64 d] x.get fun e w' => e = .returned (.int .i64 (cntF l c y d)) ∧ Below x.get.heap.size x.get w') := hide (fun x => HCN.out c y _ (HJ.out.low.trans (x.keeps.mono HJ.out.low.size)) hcb hyb)
          have hgxw : gx < wr.heap.size := (HJ.out.x.lt gx rfl).2
          have hgyw : gy < wr.heap.size := (HJ.out.y.lt gy rfl).2
          clear hy hBx hBy hgx hgy
          generalize (ys.take j).map (pG l d low high c) = bs at *
          generalize pG l d low high c y = pc at *
          have hP : pc = (decide (low ≤ cntF l c y d) && decide (cntF l c y d ≤ high)) := HPG.out
          have HP := hide hP
          clear HPG hP
          generalize cntF l c y d = n at *
          have r6 : (0 : Int) ≤ (i : Int) := by omega
          have r7 : (0 : Int) ≤ (j : Int) := by omega
          go_wp2_with (fail)
          refine wp_hab fun hab => ?_
          refine wp_region_above (by kernel_rfl) (by kernel_rfl) ?_
          repeat (go_big_quiet_step ((go_at_call 177; exact above_of (HCC.out _))))
          refine wpQuiet_nil ?_
          refine above_ends fun w5 hb5 => ?_
          clear hab r6 r7
          have hsz := HJ.out.low.size
          have HJ5 := hide (HJ.out.below hb5)
          have HIN5 := hide (own_below HIN.out hb5)
          have hsz5 := HJ5.out.low.size
          clear hb5 HJ HIN x0 y0 HCC hgxw hgyw
          by_cases t1 : low ≤ n
          · by_cases t2 : n ≤ high
            · have HE : Hid (pc = true) := hide (by rw [HP.out, decide_eq_true t1, decide_eq_true t2]; rfl)
              go_wp2_with (at_builtin; refine wpList_append_lies _ rfl (.tmp 50) (.tmp 59) 111 rfl w.heap.size 4 i2 (.bool false) 1 1 Tryz.underlying111 fi fz0 fz1 fz2 rfl (by decide) _ ni _ rfl (HIN5.out.alloc _) ⟨w5.heap.size, 0, none⟩ 1 1 [.bool true] rfl rfl (news_new w5 _ _ _ rfl) (by intro u hu; rw [List.mem_singleton] at hu; subst hu; rfl) (by omega) (by unfold maxLen; omega) (by omega) (by simp; omega) _ rfl ?_)
              intro g9 cap9 w9 hown9 hgrow9 _ _
              have hx9 : bs.map Value.bool ++ [.bool true] = (bs ++ [pc]).map Value.bool := by rw [HE.out]; simp
              rw [hx9, ← HT.out] at hown9
              have HJ9 := hide ((HJ5.out.below ((Below.refl _ _).alloc (Nat.le_refl _) _)).other (HIN5.out.alloc _) (Nat.le_refl _) hgrow9)
              have HO9 := hide hown9
              clear hown9 hgrow9 hx9
              go_wp2_with (fail)
              go_roundw
              case rel => exact ⟨j + 1, by omega, by go_num, _, _, cap9, rfl, HO9, HJ9⟩
              case measure => simp [intOf]; omega
            · have HE : Hid (pc = false) := hide (by rw [HP.out, decide_eq_true t1, decide_eq_false t2]; rfl)
              go_wp2_with (at_builtin; refine wpList_append_lies _ rfl (.tmp 50) (.tmp 59) 111 rfl w.heap.size 4 i2 (.bool false) 1 1 Tryz.underlying111 fi fz0 fz1 fz2 rfl (by decide) _ ni _ rfl (HIN5.out.alloc _) ⟨w5.heap.size, 0, none⟩ 1 1 [.bool false] rfl rfl (news_new w5 _ _ _ rfl) (by intro u hu; rw [List.mem_singleton] at hu; subst hu; rfl) (by omega) (by unfold maxLen; omega) (by omega) (by simp; omega) _ rfl ?_)
              intro g9 cap9 w9 hown9 hgrow9 _ _
              have hx9 : bs.map Value.bool ++ [.bool false] = (bs ++ [pc]).map Value.bool := by rw [HE.out]; simp
              rw [hx9, ← HT.out] at hown9
              have HJ9 := hide ((HJ5.out.below ((Below.refl _ _).alloc (Nat.le_refl _) _)).other (HIN5.out.alloc _) (Nat.le_refl _) hgrow9)
              have HO9 := hide hown9
              clear hown9 hgrow9 hx9
              go_wp2_with (fail)
              go_roundw
              case rel => exact ⟨j + 1, by omega, by go_num, _, _, cap9, rfl, HO9, HJ9⟩
              case measure => simp [intOf]; omega
          · have HE : Hid (pc = false) := hide (by rw [HP.out, decide_eq_false t1]; rfl)
            go_wp2_with (at_builtin; refine wpList_append_lies _ rfl (.tmp 50) (.tmp 59) 111 rfl w.heap.size 4 i2 (.bool false) 1 1 Tryz.underlying111 fi fz0 fz1 fz2 rfl (by decide) _ ni _ rfl (HIN5.out.alloc _) ⟨w5.heap.size, 0, none⟩ 1 1 [.bool false] rfl rfl (news_new w5 _ _ _ rfl) (by intro u hu; rw [List.mem_singleton] at hu; subst hu; rfl) (by omega) (by unfold maxLen; omega) (by omega) (by simp; omega) _ rfl ?_)
            intro g9 cap9 w9 hown9 hgrow9 _ _
            have hx9 : bs.map Value.bool ++ [.bool false] = (bs ++ [pc]).map Value.bool := by rw [HE.out]; simp
            rw [hx9, ← HT.out] at hown9
            have HJ9 := hide ((HJ5.out.below ((Below.refl _ _).alloc (Nat.le_refl _) _)).other (HIN5.out.alloc _) (Nat.le_refl _) hgrow9)
            have HO9 := hide hown9
            clear hown9 hgrow9 hx9
            go_wp2_with (fail)
            go_roundw
            case rel => exact ⟨j + 1, by omega, by go_num, _, _, cap9, rfl, HO9, HJ9⟩
            case measure => simp [intOf]; omega
        · have jz : ¬ (j : Int) < (ys.length : Int) := by omega
          have ht : ys.take j = ys := List.take_of_length_le (by omega)
          rw [ht] at HIN
          have hni : ni = (ys.map (pG l d low high c)).length := by have := HIN.out.1; simpa using this.symm
          have hcan := rCanon_any (w := wr) (own_rdI HJ.out.y) (own_rdB (own_n HIN.out hni)) (Nat.le_refl _) (by omega) (by simp)
          have hsl : (canF ys (ys.map (pG l d low high c))).length ≤ 1600 := Nat.le_trans (canF_len _ _) hyl
          have HCG : Hid (colG ys (pG l d low high) (c, e) = (canF ys (ys.map (pG l d low high c))).map fun s => ⟨c, s.1, e, s.2⟩) := hide rfl
          have HCAN := hide hcan
          clear hcan ht hni HIN jz
          generalize canF ys (ys.map (pG l d low high c)) = s at *
          have hwsz := HJ.out.low.size
          have HJA := HJ
          go_wp2_with (fail)
          refine HCAN.out.mono ?_
          rintro e0 w6 ⟨vs, rfl, os, hb6⟩
          obtain ⟨As, cs, hvs⟩ := own_form os
          subst hvs
          have HJS := hide ((HJA.out.below hb6).last (own_base os hwsz))
          clear os hb6 HCAN HJA HJ hwsz
          go_wp2_with (fail)
          go_loopw [11, 17] (fun v q wr => ∃ m : Nat, m ≤ s.length ∧ q = .int .i64 m ∧ ∃ Ao n9 co, v = .slice Ao n9 co ∧ Hid (n9 ≤ no + m) ∧ Hid (n9 = (((prs xs).take i).flatMap (colG ys (pG l d low high)) ++ (s.take m).map (fun p : Sp => (⟨c, p.1, e, p.2⟩ : R4))).length) ∧ Hid (RJ w (.slice (some ⟨gx, 0, none⟩) xs.length cx) (.slice Ay ys.length cy) v (.slice As s.length cs) xs ys (((prs xs).take i).flatMap (colG ys (pG l d low high)) ++ (s.take m).map (fun p : Sp => (⟨c, p.1, e, p.2⟩ : R4))) s wr)) (fun _ q _ => s.length - (intOf q).toNat)
          case atStart => exact ⟨0, Nat.zero_le _, rfl, Ao, no, co, rfl, hide (by omega), hide (by rw [List.take_zero, List.map_nil, List.append_nil]; exact HN.out), hide (by rw [List.take_zero, List.map_nil, List.append_nil]; exact HJS.out)⟩
          case round =>
            clear HJS
            obtain ⟨m, hm, rfl, Ao, n9, co, rfl, HN9, HNL, HJ⟩ := hrel
            by_cases hlt : m < s.length
            · have hmz : (m : Int) < (s.length : Int) := by omega
              obtain ⟨g2, cap2, hvs, hB2, hg2⟩ := HJ.out.l.form (by omega)
              injection hvs with e1 _ e3
              subst e1; subst e3
              obtain ⟨⟨p1, p2⟩, hp⟩ : ∃ p, s[m]? = some p := ⟨_, List.getElem?_eq_getElem hlt⟩
              have x0 : wr.cell? ⟨g2, m * 2, none⟩ = some (.int .i64 p1) := by
                have := (HJ.out.l.cells (g := g2) rfl) _ _ (flat_get (k := 2) (fun _ => rfl) _ m _ 0 _ hp rfl)
                rwa [addr_add] at this
              have x1 : wr.cell? ⟨g2, m * 2 + 1, none⟩ = some (.int .i64 p2) := by
                have := (HJ.out.l.cells (g := g2) rfl) _ _ (flat_get (k := 2) (fun _ => rfl) _ m _ 1 _ hp rfl)
                rwa [addr_add] at this
              obtain ⟨y0, y1⟩ := HJ.out.xcells HC.out HD.out
              generalize ((prs xs).take i).flatMap (colG ys (pG l d low high)) = L0 at *
              have HT : Hid (L0 ++ (s.take (m + 1)).map (fun p : Sp => (⟨c, p.1, e, p.2⟩ : R4)) = (L0 ++ (s.take m).map (fun p : Sp => (⟨c, p.1, e, p.2⟩ : R4))) ++ [⟨c, p1, e, p2⟩]) := hide (by
                obtain ⟨hk, hpe⟩ := List.getElem?_eq_some_iff.1 hp
                rw [List.take_succ_eq_append_getElem hk, List.map_append, hpe, ← List.append_assoc]; rfl)
              have hn9 : n9 ≤ 2600000 := by have := HN9.out; omega
              have HPP := hide hp
              clear hp
              generalize L0 ++ (s.take m).map (fun p : Sp => (⟨c, p.1, e, p.2⟩ : R4)) = L at *
              go_wp2_with (fail)
              have r1 : IntKind.i64.wrap ((i : Int) + 1) = (i : Int) + 1 := by simp [IntKind.wrap, IntKind.bits, IntKind.signed]; omega
              have r2 : (0 : Int) ≤ (i : Int) + 1 := by omega
              have r4 : ((i : Int) + 1).toNat = i + 1 := by omega
              have r6 : (0 : Int) ≤ (i : Int) := by omega
              have r7 : (0 : Int) ≤ (m : Int) := by omega
              have hsz := HJ.out.low.size
              have hgxw : gx < wr.heap.size := (HJ.out.x.lt gx rfl).2
              refine wp_region_mix [0, 1, 2, 3, 4, 5, 6, 7, 8, 9, 10, 11, 12, 13, 14, 15, 16, 17, 18, 19, 20] [21, 22, 23] (fun w' => (w'.cell? ⟨g2, m * 2, none⟩ = some (.int .i64 p1) ∧ w'.cell? ⟨g2, m * 2 + 1, none⟩ = some (.int .i64 p2)) ∧ w'.cell? ⟨gx, i, none⟩ = some (.int .i64 c) ∧ w'.cell? ⟨gx, i + 1, none⟩ = some (.int .i64 e)) (by kernel_rfl) (by kernel_rfl) ⟨⟨x0, x1⟩, y0, y1⟩ ?_
              simp only [List.map_cons, List.map_nil, opAt, List.getElem?_cons_succ, List.getElem?_cons_zero, Option.getD_some]
              iterate 21
                refine ⟨?_, Or.inl ⟨by rfl, ?_⟩, ?_⟩
                rotate_left 1
                · intro w' hSw
                  obtain ⟨⟨z1, z2⟩, z3, z4⟩ := hSw
                  go_simp
                  first | done | with_reducible rfl
                simp only [Act.put, List.setIfInBounds_toArray, List.set_cons_zero, List.set_cons_succ]
              clear r1 r2 r4 r6 r7
              simp only [wpReads]
              intro K hK
              go_simp
              refine hK _ _ (fun _ => ⟨⟨by go_keep, by go_keep⟩, by go_keep, by go_keep⟩) ?_
              clear hK K
              intro K hK
              refine step_append_lies _ rfl (.tmp 70) (.tmp 91) 26 rfl w.heap.size 69 i1 (.agg #[.int .i64 0, .int .i64 0, .int .i64 0, .int .i64 0]) 4 32 Tryz.underlying26 gi gz0 gz1 gz2 rfl (by decide) _ n9 _ rfl (own_drew (World.ownsRow.alloc (w := wr) (own_n HJ.out.o HNL.out.symm) _)) ⟨wr.heap.size, 0, none⟩ 1 1 [.int .i64 c, .int .i64 p1, .int .i64 e, .int .i64 p2] rfl rfl (news_drew wr _ _ _ rfl) (ints_one rfl) (by omega) (by unfold maxLen; omega) (by omega) (by simp; omega) _ rfl ?_
              intro g9 cap9 w9 hown9 hgrow9 _ _
              have hx9 : L.flatMap encR ++ [.int .i64 c, .int .i64 p1, .int .i64 e, .int .i64 p2] = (L ++ [(⟨c, p1, e, p2⟩ : R4)]).flatMap encR := by simp [encR]
              rw [hx9, ← HT.out] at hown9
              have hj9 := (HJ.out.below ((Below.refl _ _).alloc (Nat.le_refl _) _).drew).pushed hgrow9 hown9
              have hc9 := hj9.xcells HC.out HD.out
              have hs0 : w9.cell? ⟨g2, m * 2, none⟩ = some (.int .i64 p1) := by
                have := (hj9.l.cells (g := g2) rfl) _ _ (flat_get (k := 2) (fun _ => rfl) _ m _ 0 _ HPP.out rfl)
                rwa [addr_add] at this
              have hs1 : w9.cell? ⟨g2, m * 2 + 1, none⟩ = some (.int .i64 p2) := by
                have := (hj9.l.cells (g := g2) rfl) _ _ (flat_get (k := 2) (fun _ => rfl) _ m _ 1 _ HPP.out rfl)
                rwa [addr_add] at this
              have HJ9 := hide hj9
              have HNL9 := hide (own_len (k := 4) hown9 (fun _ => rfl) (by omega))
              clear hown9 hgrow9 hx9 hj9
              refine hK _ _ (fun _ => ⟨⟨hs0, hs1⟩, hc9⟩) ?_
              clear hK K
              intro K hK
              simp only [Act.put, List.setIfInBounds_toArray, List.set_cons_zero, List.set_cons_succ] at hK ⊢
              go_simp
              refine hK _ _ (fun h => absurd rfl h) ?_
              clear hK K
              refine NoPanic.normal ?_
              go_wp2_with (fail)
              go_roundw
              case rel => exact ⟨m + 1, by omega, by go_num, _, _, cap9, rfl, hide (by have := HN9.out; omega), HNL9, HJ9⟩
              case measure => simp [intOf]; omega
            · obtain rfl : m = s.length := by omega
              have hmz : ¬ (s.length : Int) < (s.length : Int) := by omega
              rw [List.take_length, ← HCG.out, ← HQ.out] at HNL HJ
              have HJ2 : Hid (RJ w (.slice (some ⟨gx, 0, none⟩) xs.length cx) (.slice Ay ys.length cy) (.slice Ao n9 co) (.slice none 0 0) xs ys (((prs xs).take (i + 1)).flatMap (colG ys (pG l d low high))) [] wr) := hide ⟨HJ.out.low, HJ.out.x, HJ.out.y, HJ.out.o, World.ownsRow_nil _ _ _ _⟩
              clear HJ
              go_wp2_with (fail)
              go_roundw
              case rel => exact ⟨i + 1, n9, Ao, co, .inr (by omega), by go_num, rfl, HNL, HJ2⟩
              case measure => simp [intOf]; omega
    · have mz : ¬ (i : Int) + 1 < (xs.length : Int) := by omega
      have ht : (prs xs).take i = prs xs := List.take_of_length_le (by have := prs_len xs; omega)
      rw [ht] at HN HJ
      have hib : (i : Int) + 1 ≤ 100000 := by omega
      have hrd := own_rd (own_n HJ.out.o rfl) (fun _ => rfl)
      have hn9 := HN.out
      have HRD : Hid (RdK encR 4 wr wr.heap.size (.slice Ao no co) (gridL xs ys (pG l d low high))) := hide hrd
      have HJL := hide HJ.out.low
      have hsz := HJ.out.low.size
      clear ht hrd hn9 HJ
      go_wp2_with (fail)
      refine (HJO.out _ _ HRD.out).mono ?_
      rintro e0 w7 ⟨vo, rfl, ho, hb7⟩
      have HO := hide (own_base ho hsz)
      have HB7 := hide (HJL.out.trans (hb7.mono hsz))
      clear ho hb7
      go_wp2_with (fail)
      go_ret
      exact ⟨vo, rfl, HO.out, HB7.out⟩
end Go.Proofs.YtdolpeljengpaaaGreat

/- The reference of offset: Check, Area, Grow, Shrink, Depth. -/
namespace Go.Proofs.YtdolpeljengpaaaGreat
open Go.RowKit
set_option linter.unusedVariables false
set_option linter.unusedSimpArgs false

/-- Grown out of range. -/
def farR (d : Int) (r : R4) : Bool := decide (r.x0 - d < -1000000) || decide (r.y0 - d < -1000000) || decide (1000000 < r.x1 + d) || decide (1000000 < r.y1 + d)
def growF (l : List R4) (d : Int) : List R4 × Int := if chkD l d = 0 then (if l.any (farR d) then ([], 16) else carveF (l.map (growR d)) []) else ([], chkD l d)
def shrF (l : List R4) (d : Int) : List R4 × Int := if chkD l d = 0 then (if 400 < (shrR l d).length then ([], 4) else (shrR l d, 0)) else ([], chkD l d)
def depF (l : List R4) (x y : Int) : Int × Int := if checkF l = 0 then (if pmem l x y then (depP (hullL l) (missL (hullL l) none l) x y, 0) else (-1, 0)) else (0, checkF l)
theorem chkD_ok {l : List R4} {d : Int} (h : chkD l d = 0) : checkF l = 0 ∧ 0 ≤ d ∧ d ≤ 1000000 := by
  unfold chkD at h
  by_cases h0 : checkF l = 0
  · rw [if_pos h0] at h
    by_cases h1 : d < 0 ∨ 1000000 < d
    · rw [if_pos h1] at h; omega
    · exact ⟨h0, by omega, by omega⟩
  · rw [if_neg h0] at h; exact absurd h h0
theorem areaD_bd {d : Int} (h : 0 ≤ d ∧ d ≤ 2000000) : 0 ≤ areaD d ∧ areaD d ≤ 16000008000001 := by
  unfold areaD
  refine ⟨Int.mul_nonneg (by omega) (by omega), ?_⟩
  exact Int.le_trans (Int.mul_le_mul (a := 2 * d + 1) (b := 2 * d + 1) (c := 4000001) (d := 4000001) (by omega) (by omega) (by omega) (by omega)) (by decide)
set_option maxHeartbeats 1000000 in
theorem rArea14_any (d : Int) (hd : 0 ≤ d ∧ d ≤ 2000000) (w : World) : Calls Tryz.prog 134 #[.int .i64 d] w fun e w' => e = .returned (.int .i64 (areaD d)) ∧ w = w' := by
  obtain ⟨a1, a2⟩ := areaD_bd hd
  obtain ⟨d1, d2⟩ := hd
  have hz : IntKind.i64.wrap ((2 * d + 1) * (2 * d + 1)) = areaD d := IntWalk.i64_in _ (by unfold areaD at a1 a2; omega)
  go_enter Tryz.func134, Tryz.ntmps134
  go_wp2
  go_ret
  exact ⟨rfl, rfl⟩
set_option maxHeartbeats 1000000 in
theorem rCheckD_any {w : World} {v : Value} {l : List R4} (hr : RdK encR 4 w w.heap.size v l) (hl : l.length ≤ 100000000) (d : Int) :
    Calls Tryz.prog 132 #[v, .int .i64 d] w fun e w' => e = .returned (.int .i64 (chkD l d)) ∧ Below w.heap.size w w' := by
  have hck := fun (W : World) (hW : Below w.heap.size w W) => rCheck_any (w := W) ((hr.below hW).mono hW.size) hl
  obtain ⟨A, c, hv, _⟩ := id hr
  subst hv
  clear hr
  by_cases h0 : checkF l = 0
  · have hF : chkD l d = if d < 0 ∨ 1000000 < d then 2 else 0 := if_pos h0
    rw [h0] at hck
    have HC := hide (hck w (Below.refl _ _))
    clear hck h0
    by_cases h1 : d < 0
    · have HF : Hid (chkD l d = 2) := hide (by rw [hF, if_pos (.inl h1)])
      clear hF
      go_enter Tryz.func132, Tryz.ntmps132
      go_wp2_with (go_at_call 53; refine HC.out.mono ?_; rintro e w1 ⟨rfl, hb1⟩)
      go_ret
      exact ⟨ret_eq (int_eq HF.out.symm), hb1⟩
    · by_cases h2 : 1000000 < d
      · have HF : Hid (chkD l d = 2) := hide (by rw [hF, if_pos (.inr h2)])
        clear hF
        go_enter Tryz.func132, Tryz.ntmps132
        go_wp2_with (go_at_call 53; refine HC.out.mono ?_; rintro e w1 ⟨rfl, hb1⟩)
        go_ret
        exact ⟨ret_eq (int_eq HF.out.symm), hb1⟩
      · have HF : Hid (chkD l d = 0) := hide (by rw [hF, if_neg (by omega)])
        clear hF
        go_enter Tryz.func132, Tryz.ntmps132
        go_wp2_with (go_at_call 53; refine HC.out.mono ?_; rintro e w1 ⟨rfl, hb1⟩)
        go_ret
        exact ⟨ret_eq (int_eq HF.out.symm), hb1⟩
  · have HF : Hid (chkD l d = checkF l) := hide (if_neg h0)
    have hz : (checkF l != 0) = true := by simpa using h0
    have HC := hide hck
    clear hck h0
    generalize checkF l = k at *
    go_enter Tryz.func132, Tryz.ntmps132
    go_wp2_with (fail)
    refine (HC.out _ (Below.refl _ _)).mono ?_
    rintro e w1 ⟨rfl, hb1⟩
    have HB1 := hide hb1
    clear hb1
    go_wp2_with (fail)
    refine (HC.out _ HB1.out).mono ?_
    rintro e w2 ⟨rfl, hb2⟩
    have HB2 := hide (HB1.out.trans (hb2.mono HB1.out.size))
    clear hb2
    go_wp2_with (fail)
    go_ret
    exact ⟨ret_eq (int_eq HF.out.symm), HB2.out⟩
set_option maxRecDepth 100000 in
set_option maxHeartbeats 4000000 in
theorem rShrink_any {w : World} {v : Value} {l : List R4} (hr : RdK encR 4 w w.heap.size v l) (hl : l.length ≤ 100000000) (d : Int) :
    Calls Tryz.prog 84 #[v, .int .i64 d] w fun e w' => RegRet w.heap.size (shrF l d) e w' ∧ Below w.heap.size w w' := by
  have hck := fun (W : World) (hW : Below w.heap.size w W) => rCheckD_any (w := W) ((hr.below hW).mono hW.size) hl d
  by_cases h0 : chkD l d = 0
  · obtain ⟨hc, d1, d2⟩ := chkD_ok h0
    obtain ⟨l4, lv, _⟩ := checkF_ok hc
    have hrc := check_rcan hc
    obtain ⟨g1, g2⟩ := refShrink_ok hrc d1
    have hF : shrF l d = if 400 < (shrR l d).length then ([], 4) else (shrR l d, 0) := if_pos h0
    have hmd := fun (W : World) (hW : Below w.heap.size w W) => rMadeD_any (w := W) ((hr.below hW).mono hW.size) l4 lv d (areaD d) (areaD d) ⟨d1, d2⟩ g1
    rw [g2] at hmd
    have har := fun W => rArea14_any d ⟨d1, by omega⟩ W
    rw [h0] at hck
    obtain ⟨A, c, hv, hcc⟩ := id hr
    subst hv
    have HC := hide hck
    have HF := hide hF
    have HMD := hide hmd
    have HAR := hide har
    clear hck hcc hF hmd har lv hc hrc g1 g2 hr h0
    generalize areaD d = AD at *
    generalize shrR l d = G at *
    go_enter Tryz.func84, Tryz.ntmps84
    go_wp2_with (fail)
    refine (HC.out _ (Below.refl _ _)).mono ?_
    rintro e w1 ⟨rfl, hb1⟩
    have HB := hide hb1
    clear hb1
    go_wp2_with (fail)
    refine (HAR.out _).mono ?_
    rintro e w2 ⟨rfl, rfl⟩
    go_wp2_with (fail)
    refine (HAR.out _).mono ?_
    rintro e w2 ⟨rfl, rfl⟩
    go_wp2_with (fail)
    refine (HMD.out _ HB.out).mono ?_
    rintro e w3 ⟨vo, rfl, ho, hb3⟩
    obtain ⟨Ao, co, hvo⟩ := own_form ho
    subst hvo
    have HO := hide (own_base ho HB.out.size)
    have HB3 := hide (HB.out.trans (hb3.mono HB.out.size))
    clear ho hb3
    by_cases h4 : 400 < G.length
    · have hz : (400 : Int) < (G.length : Int) := by omega
      have HG2 : Hid (shrF l d = ([], 4)) := hide (by rw [HF.out, if_pos h4])
      go_wp2_with (fail)
      go_ret2
      exact ⟨⟨none, 0, by rw [HG2.out]; rfl, by rw [HG2.out]; exact World.ownsRow_nil _ _ _ _⟩, HB3.out⟩
    · have hz : (G.length : Int) ≤ 400 := by omega
      have HG2 : Hid (shrF l d = (G, 0)) := hide (by rw [HF.out, if_neg h4])
      go_wp2_with (fail)
      go_ret2
      exact ⟨⟨Ao, co, by rw [HG2.out]; rfl, by rw [HG2.out]; exact HO.out⟩, HB3.out⟩
  · have HF : Hid (shrF l d = ([], chkD l d)) := hide (if_neg h0)
    have hz : (chkD l d != 0) = true := by simpa using h0
    obtain ⟨A, c, hv, hcc⟩ := id hr
    subst hv
    have HC := hide hck
    clear hck h0 hr hcc
    generalize chkD l d = k at *
    go_enter Tryz.func84, Tryz.ntmps84
    go_wp2_with (fail)
    refine (HC.out _ (Below.refl _ _)).mono ?_
    rintro e w1 ⟨rfl, hb1⟩
    have HB1 := hide hb1
    clear hb1
    go_wp2_with (fail)
    refine (HC.out _ HB1.out).mono ?_
    rintro e w2 ⟨rfl, hb2⟩
    have HB2 := hide (HB1.out.trans (hb2.mono HB1.out.size))
    clear hb2
    go_wp2_with (fail)
    go_ret2
    exact ⟨⟨none, 0, by rw [HF.out]; rfl, by rw [HF.out]; exact World.ownsRow_nil _ _ _ _⟩, HB2.out⟩
/-- The last depth at which all points of the square belong to the region. -/
theorem dep_between {l : List R4} (hc : RCan l) {x y : Int} (hp : pmem l x y) {n : Int} (hn : 0 ≤ n) (h1 : full l n x y) (h2 : ¬ full l (n + 1) x y) : depP (hullL l) (missL (hullL l) none l) x y = n := by
  have hne : l ≠ [] := fun e => by subst e; exact pmem_nil hp
  have k1 := (dep_iff hc hne hn x y).2 h1
  have k2 : ¬ n + 1 ≤ depP (hullL l) (missL (hullL l) none l) x y := fun h => h2 ((dep_iff hc hne (by omega) x y).1 h)
  omega
end Go.Proofs.YtdolpeljengpaaaGreat

/- Plain: the missing rectangles, one place behind the other. -/
namespace Go.Proofs.YtdolpeljengpaaaGreat
set_option linter.unusedVariables false
set_option linter.unusedSimpArgs false

/-- What place i gives; p stands ahead of the list. -/
def mAtP (h : R4) (p : Option R4) (l : List R4) (i : Nat) : List R4 :=
  match l[i]? with
  | none => []
  | some x => missAt h (match i with | 0 => p | j + 1 => l[j]?) x l[i + 1]?
theorem mAtP_succ (h : R4) (p : Option R4) (x : R4) (r : List R4) (i : Nat) : mAtP h p (x :: r) (i + 1) = mAtP h (some x) r i := by
  unfold mAtP
  simp only [List.getElem?_cons_succ]
  cases r[i]? with
  | none => rfl
  | some y =>
    simp only
    cases i with
    | zero => simp
    | succ j => simp
theorem missL_flat (h : R4) : ∀ (l : List R4) (p : Option R4), missL h p l = (List.range l.length).flatMap (mAtP h p l)
  | [], p => rfl
  | x :: r, p => by
    have h1 := missL_flat h r (some x)
    rw [List.length_cons, List.range_succ_eq_map, List.flatMap_cons, List.flatMap_map]
    have e : (fun a => mAtP h p (x :: r) (Nat.succ a)) = mAtP h (some x) r := funext fun i => mAtP_succ h p x r i
    rw [e, ← h1]
    show missAt h p x r.head? ++ _ = mAtP h p (x :: r) 0 ++ _
    congr 1
    unfold mAtP
    simp only [List.getElem?_cons_zero, List.getElem?_cons_succ]
    rw [List.head?_eq_getElem?]
def missTo (h : R4) (l : List R4) (m : Nat) : List R4 := (List.range m).flatMap (mAtP h none l)
theorem missTo_all (h : R4) (l : List R4) : missTo h l l.length = missL h none l := (missL_flat h l none).symm
theorem missTo_succ (h : R4) (l : List R4) (m : Nat) : missTo h l (m + 1) = missTo h l m ++ mAtP h none l m := by
  unfold missTo
  rw [List.range_succ, List.flatMap_append]
  simp
theorem nz_len (z : R4) : (nz z).length ≤ 1 := by
  unfold nz
  split <;> simp
theorem missAt_len (h : R4) (p : Option R4) (x : R4) (q : Option R4) : (missAt h p x q).length ≤ 3 := by
  unfold missAt
  rw [List.length_append, List.length_append]
  have h1 : (gapX h p x).length ≤ 1 := by
    cases p with
    | none => simp [gapX]
    | some p =>
      show (if p.x0 = x.x0 then [] else nz ⟨p.x1, h.y0, x.x0, h.y1⟩ : List R4).length ≤ 1
      split
      · simp
      · exact nz_len _
  have h2 := nz_len ⟨x.x0, lowY h p x, x.x1, x.y0⟩
  have h3 : (topY h x q).length ≤ 1 := by
    cases q with
    | none => exact nz_len _
    | some q =>
      show (if q.x0 = x.x0 then [] else nz ⟨x.x0, x.y1, x.x1, h.y1⟩ : List R4).length ≤ 1
      split
      · simp
      · exact nz_len _
  omega
theorem missTo_len (h : R4) (l : List R4) : ∀ m, (missTo h l m).length ≤ 3 * m
  | 0 => by simp [missTo]
  | m + 1 => by
    have h1 := missTo_len h l m
    rw [missTo_succ, List.length_append]
    have h2 : (mAtP h none l m).length ≤ 3 := by
      unfold mAtP
      split
      · simp
      · exact missAt_len _ _ _ _
    omega
theorem mAt_zero {h : R4} {l : List R4} {x : R4} (hx : l[0]? = some x) : mAtP h none l 0 = nz ⟨x.x0, h.y0, x.x1, x.y0⟩ ++ topY h x l[1]? := by
  unfold mAtP
  rw [hx]
  rfl
theorem mAt_succ {h : R4} {l : List R4} {k : Nat} {p x : R4} (hp : l[k]? = some p) (hx : l[k + 1]? = some x) : mAtP h none l (k + 1) = if p.x0 = x.x0 then nz ⟨x.x0, p.y1, x.x1, x.y0⟩ ++ topY h x l[k + 2]? else nz ⟨p.x1, h.y0, x.x0, h.y1⟩ ++ (nz ⟨x.x0, h.y0, x.x1, x.y0⟩ ++ topY h x l[k + 2]?) := by
  unfold mAtP
  rw [hx]
  simp only [hp]
  unfold missAt gapX lowY
  simp only
  split <;> simp
end Go.Proofs.YtdolpeljengpaaaGreat

/- region.Hull and the reference's Hull. -/
namespace Go.Proofs.YtdolpeljengpaaaGreat
open Go.RowKit
set_option linter.unusedVariables false
set_option linter.unusedSimpArgs false

/-- The result's box R and the hull's box H, between two rectangles. -/
structure HullR (w : World) (H : Nat) (P : R4) (wr : World) : Prop where
  low : Below w.heap.size w wr
  gt : w.heap.size < H
  lt : H < wr.heap.size
  c : wr.cell? ⟨H, 0, none⟩ = some (.int .i64 P.x0) ∧ wr.cell? ⟨H, 1, none⟩ = some (.int .i64 P.y0) ∧ wr.cell? ⟨H, 2, none⟩ = some (.int .i64 P.x1) ∧ wr.cell? ⟨H, 3, none⟩ = some (.int .i64 P.y1)
  f : ∀ j, wr.frozen? ⟨H, j, none⟩ = false
  r : wr.cell? ⟨w.heap.size, 0, none⟩ = some (.int .i64 0) ∧ wr.cell? ⟨w.heap.size, 1, none⟩ = some (.int .i64 0) ∧ wr.cell? ⟨w.heap.size, 2, none⟩ = some (.int .i64 0) ∧ wr.cell? ⟨w.heap.size, 3, none⟩ = some (.int .i64 0)
  fr : ∀ j, wr.frozen? ⟨w.heap.size, j, none⟩ = false
theorem HullR.below {w wr w2 : World} {H : Nat} {P : R4} (h : HullR w H P wr) (hb : Below wr.heap.size wr w2) : HullR w H P w2 := by
  have hl := h.lt
  have hg := h.gt
  have k1 := fun j => hb.cell (p := ⟨H, j, none⟩) hl
  have k2 := fun j => hb.frozen (p := ⟨H, j, none⟩) hl
  have k3 := fun j => hb.cell (p := ⟨w.heap.size, j, none⟩) (by show w.heap.size < _; omega)
  have k4 := fun j => hb.frozen (p := ⟨w.heap.size, j, none⟩) (by show w.heap.size < _; omega)
  exact ⟨h.low.trans (hb.mono h.low.size), hg, Nat.lt_of_lt_of_le hl hb.size, ⟨(k1 0).trans h.c.1, (k1 1).trans h.c.2.1, (k1 2).trans h.c.2.2.1, (k1 3).trans h.c.2.2.2⟩, fun j => (k2 j).trans (h.f j), ⟨(k3 0).trans h.r.1, (k3 1).trans h.r.2.1, (k3 2).trans h.r.2.2.1, (k3 3).trans h.r.2.2.2⟩, fun j => (k4 j).trans (h.fr j)⟩
theorem HullR.set {w wr : World} {H : Nat} {P : R4} (h : HullR w H P wr) (a b c d : Int) : HullR w H ⟨a, b, c, d⟩ ((((wr.setCell ⟨H, 0, none⟩ (.int .i64 a)).setCell ⟨H, 1, none⟩ (.int .i64 b)).setCell ⟨H, 2, none⟩ (.int .i64 c)).setCell ⟨H, 3, none⟩ (.int .i64 d)) := by
  have hl := h.lt
  have hg := h.gt
  obtain ⟨c0, c1, c2, c3⟩ := h.c
  obtain ⟨r0, r1, r2, r3⟩ := h.r
  have ne : w.heap.size ≠ H := by omega
  have ge : w.heap.size ≤ H := by omega
  refine ⟨(((h.low.setCell ge _).setCell ge _).setCell ge _).setCell ge _, hg, by simpa [World.setCell] using hl, ⟨by simp [go_sem, c0], by simp [go_sem, c1], by simp [go_sem, c2], by simp [go_sem, c3]⟩, fun j => ?_, ⟨by simp [go_sem, r0, ne], by simp [go_sem, r1, ne], by simp [go_sem, r2, ne], by simp [go_sem, r3, ne]⟩, fun j => ?_⟩
  · rw [World.frozen?_setCell, World.frozen?_setCell, World.frozen?_setCell, World.frozen?_setCell]; exact h.f j
  · rw [World.frozen?_setCell, World.frozen?_setCell, World.frozen?_setCell, World.frozen?_setCell]; exact h.fr j

set_option maxRecDepth 100000 in
set_option maxHeartbeats 4000000 in
theorem hull_any {w : World} {v : Value} {l : List R4} (hr : RdK encR 4 w w.heap.size v l) (hl : l.length ≤ 100000000) :
    Calls Tryz.prog 129 #[v] w fun e w' => e = .returned (.tuple #[.agg (encR (hullF l).1).toArray, .int .i64 (hullF l).2]) ∧ Below w.heap.size w w' := by
  have hck := fun (W : World) (hW : Below w.heap.size w W) => check_any (w := W) ((hr.below hW).mono hW.size) hl
  obtain ⟨A, c, hv, hc⟩ := id hr
  subst hv
  have HCK := hide hck
  have HRC := hide hc
  clear hck hr hc
  have hb0 : Below w.heap.size w (w.alloc (.cells #[.int .i64 0, .int .i64 0, .int .i64 0, .int .i64 0] 69)) := (Below.refl _ _).alloc (Nat.le_refl _) _
  have HB0 := hide hb0
  clear hb0
  have key : ∀ w1, Below (w.alloc (.cells #[.int .i64 0, .int .i64 0, .int .i64 0, .int .i64 0] 69)).heap.size (w.alloc (.cells #[.int .i64 0, .int .i64 0, .int .i64 0, .int .i64 0] 69)) w1 →
      (w1.cell? ⟨w.heap.size, 0, none⟩ = some (.int .i64 0) ∧ w1.cell? ⟨w.heap.size, 1, none⟩ = some (.int .i64 0) ∧ w1.cell? ⟨w.heap.size, 2, none⟩ = some (.int .i64 0) ∧ w1.cell? ⟨w.heap.size, 3, none⟩ = some (.int .i64 0)) ∧ ∀ j, w1.frozen? ⟨w.heap.size, j, none⟩ = false := by
    intro w1 hb
    have hc := fun j => hb.cell (p := ⟨w.heap.size, j, none⟩) (by simp)
    have hf := fun j => hb.frozen (p := ⟨w.heap.size, j, none⟩) (by simp)
    exact ⟨⟨(hc 0).trans (by simp [go_sem]), (hc 1).trans (by simp [go_sem]), (hc 2).trans (by simp [go_sem]), (hc 3).trans (by simp [go_sem])⟩, fun j => (hf j).trans (by simp [go_sem])⟩
  have KEY := hide key
  clear key
  by_cases h0 : checkF l = 0
  · obtain ⟨k1, k2, _⟩ := checkF_ok h0
    rw [h0] at HCK
    have H0 := hide h0
    clear k2 h0
    by_cases hle : l = []
    · have HF : Hid (hullF l = (⟨0, 0, 0, 0⟩, 6)) := hide (by unfold hullF; rw [if_pos H0.out, if_pos hle])
      subst hle
      go_enter Tryz.func129, Tryz.ntmps129
      go_wp2_with (fail)
      refine (HCK.out _ HB0.out).mono ?_
      rintro e w1 ⟨rfl, hb1⟩
      obtain ⟨⟨r0, r1, r2, r3⟩, hf⟩ := KEY.out w1 hb1
      have f0 := hf 0
      have f1 := hf 1
      have f2 := hf 2
      have f3 := hf 3
      have HB1 := hide hb1
      clear hb1 hf
      go_wp2_with (fail)
      refine bodyPost_ret (v := .tuple #[.agg #[.int .i64 0, .int .i64 0, .int .i64 0, .int .i64 0], .int .i64 6]) (by simp [results, Tryz.results129, go_sem, r0, r1, r2, r3]) rfl ⟨by rw [HF.out]; rfl, ?_⟩
      exact ((((HB0.out.trans (HB1.out.mono (by simp))).setCell (Nat.le_refl _) _).setCell (Nat.le_refl _) _).setCell (Nat.le_refl _) _).setCell (Nat.le_refl _) _
    · have HF : Hid (hullF l = (hullL l, 0)) := hide (by unfold hullF; rw [if_pos H0.out, if_neg hle])
      have hlp : 0 < l.length := List.length_pos_iff.2 hle
      have hlz : (0 : Int) < (l.length : Int) := by omega
      have hne0 : ((l.length : Int) == 0) = false := by simp; omega
      obtain ⟨⟨a0, b0, a1, b1⟩, hp⟩ : ∃ p, l[0]? = some p := ⟨_, List.getElem?_eq_getElem hlp⟩
      obtain ⟨b, o, rfl, hbl, k⟩ := HRC.out hle
      have HD : Hid (∀ W, Below w.heap.size w W → W.cell? ⟨b, o, none⟩ = some (.int .i64 a0) ∧ W.cell? ⟨b, o + 1, none⟩ = some (.int .i64 b0) ∧ W.cell? ⟨b, o + 2, none⟩ = some (.int .i64 a1) ∧ W.cell? ⟨b, o + 3, none⟩ = some (.int .i64 b1)) := hide fun W hW =>
        ⟨(hW.cell (p := ⟨b, _, none⟩) hbl).trans (by simpa using k 0 _ hp 0 _ rfl), (hW.cell (p := ⟨b, _, none⟩) hbl).trans (by simpa using k 0 _ hp 1 _ rfl), (hW.cell (p := ⟨b, _, none⟩) hbl).trans (by simpa using k 0 _ hp 2 _ rfl), (hW.cell (p := ⟨b, _, none⟩) hbl).trans (by simpa using k 0 _ hp 3 _ rfl)⟩
      have HH0 : Hid (hullP l 0 = ⟨a0, b0, a1, b1⟩) := hide (by
        cases l with
        | nil => exact absurd rfl hle
        | cons r l => simp at hp; subst hp; rfl)
      clear hp k hle
      go_enter Tryz.func129, Tryz.ntmps129
      go_wp2_with (fail)
      refine (HCK.out _ HB0.out).mono ?_
      rintro e w1 ⟨rfl, hb1⟩
      have hlow := HB0.out.trans (hb1.mono (by simp))
      obtain ⟨d0, d1, d2, d3⟩ := HD.out w1 hlow
      have hs1 : w.heap.size < w1.heap.size := by have := hb1.size; simp at this; omega
      have HI : Hid (HullR w w1.heap.size (hullP l 0) (w1.alloc (.cells #[.int .i64 a0, .int .i64 b0, .int .i64 a1, .int .i64 b1] 69))) := hide (by
        obtain ⟨hr4, hf4⟩ := KEY.out w1 hb1
        have kb : Below w1.heap.size w1 (w1.alloc (.cells #[.int .i64 a0, .int .i64 b0, .int .i64 a1, .int .i64 b1] 69)) := (Below.refl _ _).alloc (Nat.le_refl _) _
        have k3 := fun j => kb.cell (p := ⟨w.heap.size, j, none⟩) hs1
        have k4 := fun j => kb.frozen (p := ⟨w.heap.size, j, none⟩) hs1
        rw [HH0.out]
        exact ⟨hlow.trans (kb.mono (by omega)), hs1, by simp, ⟨by simp [go_sem], by simp [go_sem], by simp [go_sem], by simp [go_sem]⟩, fun j => by simp [go_sem], ⟨(k3 0).trans hr4.1, (k3 1).trans hr4.2.1, (k3 2).trans hr4.2.2.1, (k3 3).trans hr4.2.2.2⟩, fun j => (k4 j).trans (hf4 j)⟩)
      have HHb := hide hs1
      clear hb1 hlow
      go_wp2_with (fail)
      obtain ⟨H, hH⟩ : ∃ H, w1.heap.size = H := ⟨_, rfl⟩
      rw [hH] at HI ⊢
      clear hH d0 d1 d2 d3
      go_loopw [23] (fun i wr => ∃ m : Nat, m ≤ l.length ∧ i = .int .i64 m ∧ Hid (HullR w H (hullP l m) wr)) (fun i _ => l.length - (intOf i).toNat)
      case atStart => exact ⟨0, Nat.zero_le _, rfl, HI⟩
      case round =>
        clear HI HH0
        obtain ⟨m, hm, rfl, HI⟩ := hrel
        by_cases hlt : m < l.length
        · obtain ⟨⟨x0, y0, x1, y1⟩, hp⟩ : ∃ p, l[m]? = some p := ⟨_, List.getElem?_eq_getElem hlt⟩
          obtain ⟨b', o', hbo, hbl', k⟩ := HRC.out (by intro e; rw [e] at hlt; simp at hlt)
          injection hbo with hbo
          injection hbo with hbo1 hbo2
          subst hbo1; subst hbo2
          have d0 : wr.cell? ⟨b, o + m * 4, none⟩ = some (.int .i64 x0) := (HI.out.low.cell (p := ⟨b, _, none⟩) hbl).trans (k m _ hp 0 _ rfl)
          have d1 : wr.cell? ⟨b, o + m * 4 + 1, none⟩ = some (.int .i64 y0) := (HI.out.low.cell (p := ⟨b, _, none⟩) hbl).trans (k m _ hp 1 _ rfl)
          have d2 : wr.cell? ⟨b, o + m * 4 + 2, none⟩ = some (.int .i64 x1) := (HI.out.low.cell (p := ⟨b, _, none⟩) hbl).trans (k m _ hp 2 _ rfl)
          have d3 : wr.cell? ⟨b, o + m * 4 + 3, none⟩ = some (.int .i64 y1) := (HI.out.low.cell (p := ⟨b, _, none⟩) hbl).trans (k m _ hp 3 _ rfl)
          have mz : (m : Int) < (l.length : Int) := by omega
          have HS := hide (hullP_step hp)
          clear k hp
          generalize hullP l m = P at *
          obtain ⟨p0, p1, p2, p3⟩ := P
          obtain ⟨c0, c1, c2, c3⟩ := HI.out.c
          have f0 := HI.out.f 0
          have f1 := HI.out.f 1
          have f2 := HI.out.f 2
          have f3 := HI.out.f 3
          have hltH := HI.out.lt
          have hneH : H ≠ wr.heap.size := by omega
          have hneH2 : wr.heap.size ≠ H := by omega
          simp only at c0 c1 c2 c3
          go_wp2
          go_roundw
          case rel => exact ⟨m + 1, by omega, by go_num, hide (by rw [HS.out]; exact (HI.out.set _ _ _ _).below ((Below.refl _ _).alloc (Nat.le_refl _) _))⟩
          case measure => simp [intOf]; omega
        · have mz : ¬ (m : Int) < (l.length : Int) := by omega
          have hall := hullP_all (l := l) (m := m) (by omega)
          have HA := hide hall
          clear hall
          generalize hullP l m = P at *
          obtain ⟨p0, p1, p2, p3⟩ := P
          obtain ⟨c0, c1, c2, c3⟩ := HI.out.c
          obtain ⟨r0, r1, r2, r3⟩ := HI.out.r
          have f0 := HI.out.fr 0
          have f1 := HI.out.fr 1
          have f2 := HI.out.fr 2
          have f3 := HI.out.fr 3
          simp only at c0 c1 c2 c3
          have HF2 : Hid (hullF l = (⟨p0, p1, p2, p3⟩, 0)) := hide (by rw [HF.out, ← HA.out])
          go_wp2
          refine bodyPost_ret (v := .tuple #[.agg #[.int .i64 p0, .int .i64 p1, .int .i64 p2, .int .i64 p3], .int .i64 0]) (by simp [results, Tryz.results129, go_sem, r0, r1, r2, r3]) rfl ⟨by rw [HF2.out]; rfl, ?_⟩
          exact (((HI.out.low.setCell (Nat.le_refl _) _).setCell (Nat.le_refl _) _).setCell (Nat.le_refl _) _).setCell (Nat.le_refl _) _
  · have HF : Hid (hullF l = (⟨0, 0, 0, 0⟩, checkF l)) := hide (if_neg h0)
    generalize checkF l = ck at *
    have hne : (ck != 0) = true := by simpa using h0
    clear h0
    go_enter Tryz.func129, Tryz.ntmps129
    go_wp2_with (fail)
    refine (HCK.out _ HB0.out).mono ?_
    rintro e w1 ⟨rfl, hb1⟩
    obtain ⟨⟨r0, r1, r2, r3⟩, hf⟩ := KEY.out w1 hb1
    have f0 := hf 0
    have f1 := hf 1
    have f2 := hf 2
    have f3 := hf 3
    have HB1 := hide hb1
    clear hb1 hf
    go_wp2_with (fail)
    refine bodyPost_ret (v := .tuple #[.agg #[.int .i64 0, .int .i64 0, .int .i64 0, .int .i64 0], .int .i64 ck]) (by simp [results, Tryz.results129, go_sem, r0, r1, r2, r3]) rfl ⟨by rw [HF.out]; rfl, ?_⟩
    exact ((((HB0.out.trans (HB1.out.mono (by simp))).setCell (Nat.le_refl _) _).setCell (Nat.le_refl _) _).setCell (Nat.le_refl _) _).setCell (Nat.le_refl _) _

set_option maxRecDepth 100000 in
set_option maxHeartbeats 4000000 in
theorem rHull_any {w : World} {v : Value} {l : List R4} (hr : RdK encR 4 w w.heap.size v l) (hl : l.length ≤ 100000000) :
    Calls Tryz.prog 78 #[v] w fun e w' => e = .returned (.tuple #[.agg (encR (hullF l).1).toArray, .int .i64 (hullF l).2]) ∧ Below w.heap.size w w' := by
  have hck := fun (W : World) (hW : Below w.heap.size w W) => rCheck_any (w := W) ((hr.below hW).mono hW.size) hl
  obtain ⟨A, c, hv, hc⟩ := id hr
  subst hv
  have HCK := hide hck
  have HR := hide hr
  clear hck hr hc
  have hb0 : Below w.heap.size w (w.alloc (.cells #[.int .i64 0, .int .i64 0, .int .i64 0, .int .i64 0] 69)) := (Below.refl _ _).alloc (Nat.le_refl _) _
  have HB0 := hide hb0
  clear hb0
  have key : ∀ w1, Below (w.alloc (.cells #[.int .i64 0, .int .i64 0, .int .i64 0, .int .i64 0] 69)).heap.size (w.alloc (.cells #[.int .i64 0, .int .i64 0, .int .i64 0, .int .i64 0] 69)) w1 →
      (w1.cell? ⟨w.heap.size, 0, none⟩ = some (.int .i64 0) ∧ w1.cell? ⟨w.heap.size, 1, none⟩ = some (.int .i64 0) ∧ w1.cell? ⟨w.heap.size, 2, none⟩ = some (.int .i64 0) ∧ w1.cell? ⟨w.heap.size, 3, none⟩ = some (.int .i64 0)) ∧ ∀ j, w1.frozen? ⟨w.heap.size, j, none⟩ = false := by
    intro w1 hb
    have hc := fun j => hb.cell (p := ⟨w.heap.size, j, none⟩) (by simp)
    have hf := fun j => hb.frozen (p := ⟨w.heap.size, j, none⟩) (by simp)
    exact ⟨⟨(hc 0).trans (by simp [go_sem]), (hc 1).trans (by simp [go_sem]), (hc 2).trans (by simp [go_sem]), (hc 3).trans (by simp [go_sem])⟩, fun j => (hf j).trans (by simp [go_sem])⟩
  have KEY := hide key
  clear key
  by_cases h0 : checkF l = 0
  · obtain ⟨k1, k2, _⟩ := checkF_ok h0
    rw [h0] at HCK
    have H0 := hide h0
    clear h0
    by_cases hle : l = []
    · have HF : Hid (hullF l = (⟨0, 0, 0, 0⟩, 6)) := hide (by unfold hullF; rw [if_pos H0.out, if_pos hle])
      subst hle
      clear k2
      go_enter Tryz.func78, Tryz.ntmps78
      go_wp2_with (fail)
      refine (HCK.out _ HB0.out).mono ?_
      rintro e w1 ⟨rfl, hb1⟩
      obtain ⟨⟨r0, r1, r2, r3⟩, hf⟩ := KEY.out w1 hb1
      have f0 := hf 0
      have f1 := hf 1
      have f2 := hf 2
      have f3 := hf 3
      have HB1 := hide hb1
      clear hb1 hf
      go_wp2_with (fail)
      refine bodyPost_ret (v := .tuple #[.agg #[.int .i64 0, .int .i64 0, .int .i64 0, .int .i64 0], .int .i64 6]) (by simp [results, Tryz.results78, go_sem, r0, r1, r2, r3]) rfl ⟨by rw [HF.out]; rfl, ?_⟩
      exact ((((HB0.out.trans (HB1.out.mono (by simp))).setCell (Nat.le_refl _) _).setCell (Nat.le_refl _) _).setCell (Nat.le_refl _) _).setCell (Nat.le_refl _) _
    · have HF : Hid (hullF l = (hullL l, 0)) := hide (by unfold hullF; rw [if_pos H0.out, if_neg hle])
      have hlp : 0 < l.length := List.length_pos_iff.2 hle
      have hne0 : ((l.length : Int) == 0) = false := by simp; omega
      have hcuts := hull_cuts hle (fun r hr => ⟨(k2 r hr).1, (k2 r hr).2.1⟩)
      have hX := fun (W : World) (hW : Below w.heap.size w W) => rXs_any (w := W) ((HR.out.below hW).mono hW.size) (RdK.nil (α := R4) none 0) (Nat.le_refl _) (by omega) (by simp)
      have hY := fun (W : World) (hW : Below w.heap.size w W) => rYs_any (w := W) ((HR.out.below hW).mono hW.size) (RdK.nil (α := R4) none 0) (Nat.le_refl _) (by omega) (by simp)
      have hxl : (srt (cutsL l ++ cutsL [])).length ≤ 1000 := by have := srt_len (cutsL l ++ cutsL []); rw [List.length_append, cutsL_len, cutsL_len] at this; simp at this; omega
      have hyl : (srt (cutsY l ++ cutsY [])).length ≤ 1000 := by have := srt_len (cutsY l ++ cutsY []); rw [List.length_append, cutsY_len, cutsY_len] at this; simp at this; omega
      generalize srt (cutsL l ++ cutsL []) = xs at *
      generalize srt (cutsY l ++ cutsY []) = ys at *
      generalize hullL l = P at *
      obtain ⟨p0, p1, p2, p3⟩ := P
      obtain ⟨⟨e0, e2, lx⟩, e1, e3, ly⟩ := hcuts
      obtain ⟨nx, hnx⟩ : ∃ nx, xs.length = nx + 1 := ⟨xs.length - 1, by omega⟩
      obtain ⟨ny, hny⟩ : ∃ ny, ys.length = ny + 1 := ⟨ys.length - 1, by omega⟩
      rw [hnx, Nat.add_sub_cancel] at e2
      rw [hny, Nat.add_sub_cancel] at e3
      have hnx2 : nx ≤ 1000 := by omega
      have hny2 : ny ≤ 1000 := by omega
      have HE := hide (And.intro (And.intro e0 e2) (And.intro e1 e3))
      have HNX := hide hnx
      have HNY := hide hny
      have HX := hide hX
      have HY := hide hY
      clear hle k2 hX hY e0 e1 e2 e3 hnx hny hxl hyl lx ly
      go_enter Tryz.func78, Tryz.ntmps78
      go_wp2_with (fail)
      refine (HCK.out _ HB0.out).mono ?_
      rintro e w1 ⟨rfl, hb1⟩
      have HB1 := hide (HB0.out.trans (hb1.mono (by simp)))
      have HB1' := hide hb1
      clear hb1
      go_wp2_with (fail)
      refine (HX.out _ HB1.out).mono ?_
      rintro e w2 ⟨vx, rfl, ox, hb2⟩
      have HB2 := hide (HB1.out.trans (hb2.mono HB1.out.size))
      have HB2' := hide (HB1'.out.trans (hb2.mono HB1'.out.size))
      obtain ⟨gx, cpx, hvx, hgx0, hgx⟩ := ox.form (by rw [HNX.out]; omega)
      subst hvx
      have OX := hide ox
      clear hb2 ox
      go_wp2_with (fail)
      refine (HY.out _ HB2.out).mono ?_
      rintro e w3 ⟨vy, rfl, oy, hb3⟩
      obtain ⟨gy, cpy, hvy, hgy0, hgy⟩ := oy.form (by rw [HNY.out]; omega)
      subst hvy
      have ox3 := own_below OX.out hb3
      have x0 : w3.cell? ⟨gx, 0, none⟩ = some (.int .i64 p0) := by
        have := (ox3.cells (g := gx) rfl) 0 (iv p0) (by rw [List.getElem?_map, HE.out.1.1]; rfl)
        rwa [addr_add] at this
      have x2 : w3.cell? ⟨gx, nx, none⟩ = some (.int .i64 p2) := by
        have := (ox3.cells (g := gx) rfl) nx (iv p2) (by rw [List.getElem?_map, HE.out.1.2]; rfl)
        rwa [addr_add] at this
      have x1 : w3.cell? ⟨gy, 0, none⟩ = some (.int .i64 p1) := by
        have := (oy.cells (g := gy) rfl) 0 (iv p1) (by rw [List.getElem?_map, HE.out.2.1]; rfl)
        rwa [addr_add] at this
      have x3 : w3.cell? ⟨gy, ny, none⟩ = some (.int .i64 p3) := by
        have := (oy.cells (g := gy) rfl) ny (iv p3) (by rw [List.getElem?_map, HE.out.2.2]; rfl)
        rwa [addr_add] at this
      have HB3 := hide (HB2.out.trans (hb3.mono HB2.out.size))
      have hs1 : w.heap.size < w1.heap.size := by have := HB1'.out.size; simp at this; omega
      have hs2 := HB2'.out.size
      have hs3 := HB2.out.size
      have nx1 : gx ≠ w.heap.size := by omega
      have ny1 : gy ≠ w.heap.size := by simp at hs2; omega
      have nx2 : w.heap.size ≠ gx := fun e => nx1 e.symm
      have ny2 : w.heap.size ≠ gy := fun e => ny1 e.symm
      obtain ⟨⟨r0, r1, r2, r3⟩, hf⟩ := KEY.out w3 (HB2'.out.trans (hb3.mono HB2'.out.size))
      have f0 := hf 0
      have f1 := hf 1
      have f2 := hf 2
      have f3 := hf 3
      clear hb3 oy ox3 hf
      rw [HNX.out, HNY.out]
      have t1 : IntKind.i64.wrap (nx : Int) = nx := by simp [IntKind.wrap, IntKind.bits, IntKind.signed]; omega
      have t2 : IntKind.i64.wrap (ny : Int) = ny := by simp [IntKind.wrap, IntKind.bits, IntKind.signed]; omega
      have q1 : (0 : Int) ≤ (nx : Int) := by omega
      have q2 : (0 : Int) ≤ (ny : Int) := by omega
      have q3 : (nx : Int) < (nx : Int) + 1 := by omega
      have q4 : (ny : Int) < (ny : Int) + 1 := by omega
      have q5 : (0 : Int) < (nx : Int) + 1 := by omega
      have q6 : (0 : Int) < (ny : Int) + 1 := by omega
      go_wp2_with (fail)
      refine wp_region_mix [0, 1, 2, 3, 4, 5, 6, 7, 8, 9, 10, 11, 12, 13, 14, 15, 16, 17, 18] [19, 20] (fun w' => (w'.cell? ⟨gx, 0, none⟩ = some (.int .i64 p0) ∧ w'.cell? ⟨gx, nx, none⟩ = some (.int .i64 p2)) ∧ w'.cell? ⟨gy, 0, none⟩ = some (.int .i64 p1) ∧ w'.cell? ⟨gy, ny, none⟩ = some (.int .i64 p3)) (by kernel_rfl) (by kernel_rfl) ⟨⟨x0, x2⟩, x1, x3⟩ ?_
      simp only [List.map_cons, List.map_nil, opAt, List.getElem?_cons_succ, List.getElem?_cons_zero, Option.getD_some]
      iterate 19
        refine ⟨?_, Or.inl ⟨by rfl, ?_⟩, ?_⟩
        rotate_left 1
        · intro w' hSw
          obtain ⟨⟨z1, z2⟩, z3, z4⟩ := hSw
          go_simp
          first | done | with_reducible rfl
        simp only [Act.put, List.setIfInBounds_toArray, List.set_cons_zero, List.set_cons_succ]
      clear t1 t2 q1 q2 q3 q4 q5 q6
      simp only [wpReads]
      intro K hK
      simp only [Act.put, List.setIfInBounds_toArray, List.set_cons_zero, List.set_cons_succ] at hK ⊢
      go_simp
      refine hK _ _ (fun _ => ⟨⟨by go_keep, by go_keep⟩, by go_keep, by go_keep⟩) ?_
      clear hK K
      intro K hK
      simp only [Act.put, List.setIfInBounds_toArray, List.set_cons_zero, List.set_cons_succ] at hK ⊢
      go_simp
      refine hK _ _ (fun h => absurd rfl h) ?_
      clear hK K
      refine NoPanic.normal ?_
      go_wp2_with (fail)
      refine bodyPost_ret (v := .tuple #[.agg #[.int .i64 p0, .int .i64 p1, .int .i64 p2, .int .i64 p3], .int .i64 0]) (by simp [results, Tryz.results78, go_sem, r0, r1, r2, r3]) rfl ⟨by rw [HF.out]; rfl, ?_⟩
      exact ((((HB3.out.drew).setCell (Nat.le_refl _) _).setCell (Nat.le_refl _) _).setCell (Nat.le_refl _) _).setCell (Nat.le_refl _) _
  · have HF : Hid (hullF l = (⟨0, 0, 0, 0⟩, checkF l)) := hide (if_neg h0)
    generalize checkF l = ck at *
    have hne : (ck != 0) = true := by simpa using h0
    clear h0
    go_enter Tryz.func78, Tryz.ntmps78
    go_wp2_with (fail)
    refine (HCK.out _ HB0.out).mono ?_
    rintro e w1 ⟨rfl, hb1⟩
    have HB1 := hide (HB0.out.trans (hb1.mono (by simp)))
    have HB1' := hide hb1
    clear hb1
    go_wp2_with (fail)
    refine (HCK.out _ HB1.out).mono ?_
    rintro e w2 ⟨rfl, hb2⟩
    obtain ⟨⟨r0, r1, r2, r3⟩, hf⟩ := KEY.out w2 (HB1'.out.trans (hb2.mono HB1'.out.size))
    have f0 := hf 0
    have f1 := hf 1
    have f2 := hf 2
    have f3 := hf 3
    have HB2 := hide (HB1.out.trans (hb2.mono HB1.out.size))
    clear hb2 hf
    go_wp2_with (fail)
    refine bodyPost_ret (v := .tuple #[.agg #[.int .i64 0, .int .i64 0, .int .i64 0, .int .i64 0], .int .i64 ck]) (by simp [results, Tryz.results78, go_sem, r0, r1, r2, r3]) rfl ⟨by rw [HF.out]; rfl, ?_⟩
    exact (((HB2.out.setCell (Nat.le_refl _) _).setCell (Nat.le_refl _) _).setCell (Nat.le_refl _) _).setCell (Nat.le_refl _) _
end Go.Proofs.YtdolpeljengpaaaGreat

/- offset.missing. -/
namespace Go.Proofs.YtdolpeljengpaaaGreat
open Go.RowKit
set_option linter.unusedVariables false
set_option linter.unusedSimpArgs false

/-- In missing's loop: the result's box, the hull's box H, the list's box H + 1. -/
structure MR (w : World) (H : Nat) (h : R4) (L : List R4) (wr : World) : Prop where
  low : Below w.heap.size w wr
  gt : w.heap.size < H
  size : H + 2 ≤ wr.heap.size
  h0 : wr.cell? ⟨H, 0, none⟩ = some (.int .i64 h.x0)
  h1 : wr.cell? ⟨H, 1, none⟩ = some (.int .i64 h.y0)
  h2 : wr.cell? ⟨H, 2, none⟩ = some (.int .i64 h.x1)
  h3 : wr.cell? ⟨H, 3, none⟩ = some (.int .i64 h.y1)
  r0 : ∀ j, j < 4 → wr.cell? ⟨w.heap.size, j, none⟩ = some (.int .i64 0)
  rf : ∀ j, wr.frozen? ⟨w.heap.size, j, none⟩ = false
  out : ∃ vo, wr.cell? ⟨H + 1, 0, none⟩ = some vo ∧ wr.ownsRow (H + 2) 69 4 vo L.length (L.flatMap encR)
  fz : wr.frozen? ⟨H + 1, 0, none⟩ = false
theorem MR.below {w wr w2 : World} {H : Nat} {h : R4} {L : List R4} (m : MR w H h L wr) (hb : Below wr.heap.size wr w2) : MR w H h L w2 := by
  have hs := m.size
  have hg := m.gt
  have hc : ∀ q o, q < H + 2 → w2.cell? ⟨q, o, none⟩ = wr.cell? ⟨q, o, none⟩ := fun q o hq => hb.cell (p := ⟨q, o, none⟩) (by show q < _; omega)
  have hf : ∀ q o, q < H + 2 → w2.frozen? ⟨q, o, none⟩ = wr.frozen? ⟨q, o, none⟩ := fun q o hq => hb.frozen (p := ⟨q, o, none⟩) (by show q < _; omega)
  obtain ⟨vo, o1, o2⟩ := m.out
  exact ⟨m.low.trans (hb.mono m.low.size), hg, Nat.le_trans hs hb.size, (hc _ _ (by omega)).trans m.h0, (hc _ _ (by omega)).trans m.h1, (hc _ _ (by omega)).trans m.h2, (hc _ _ (by omega)).trans m.h3, fun j hj => (hc _ _ (by omega)).trans (m.r0 j hj), fun j => (hf _ _ (by omega)).trans (m.rf j), ⟨vo, (hc _ _ (by omega)).trans o1, own_below o2 hb⟩, (hf _ _ (by omega)).trans m.fz⟩
/-- Behind a call of the closure. -/
theorem MR.upd {w wr w2 : World} {H : Nat} {h : R4} {L L' : List R4} {vo vo' : Value} (m : MR w H h L wr) (ho : wr.ownsRow (H + 2) 69 4 vo L.length (L.flatMap encR)) (c : w2.cell? ⟨H + 1, 0, none⟩ = some vo') (f : w2.frozen? ⟨H + 1, 0, none⟩ = false) (ho' : w2.ownsRow (H + 2) 69 4 vo' L'.length (L'.flatMap encR)) (hu : Upd (H + 1) vo.ownBlock wr w2) : MR w H h L' w2 := by
  have hs := m.size
  have hg := m.gt
  have hr : ∀ k, vo.ownBlock = some k → H + 2 ≤ k := fun k hk => (ho.lt k hk).1
  have ne : ∀ q, q < H + 2 → vo.ownBlock ≠ some q := fun q hq e => by have := hr q e; omega
  have hc : ∀ q o, q < H + 1 → w2.cell? ⟨q, o, none⟩ = wr.cell? ⟨q, o, none⟩ := fun q o hq => hu.cell (by omega) (by omega) (ne q (by omega))
  have hf : ∀ q o, q < H + 1 → w2.frozen? ⟨q, o, none⟩ = wr.frozen? ⟨q, o, none⟩ := fun q o hq => hu.frozen (by omega) (by omega) (ne q (by omega))
  exact ⟨m.low.trans (hu.below (by omega) (by omega) (fun k hk => by have := hr k hk; omega)), hg, Nat.le_trans hs hu.size, (hc _ _ (by omega)).trans m.h0, (hc _ _ (by omega)).trans m.h1, (hc _ _ (by omega)).trans m.h2, (hc _ _ (by omega)).trans m.h3, fun j hj => (hc _ _ (by omega)).trans (m.r0 j hj), fun j => (hf _ _ (by omega)).trans (m.rf j), ⟨vo', c, ho'⟩, f⟩
/-- A rectangle's box, made behind the list's box; the closure leaves it. -/
structure BoxX (H B9 : Nat) (x : R4) (wr : World) : Prop where
  lo : H + 2 ≤ B9
  hi : B9 < wr.heap.size
  c0 : wr.cell? ⟨B9, 0, none⟩ = some (.int .i64 x.x0)
  c1 : wr.cell? ⟨B9, 1, none⟩ = some (.int .i64 x.y0)
  c2 : wr.cell? ⟨B9, 2, none⟩ = some (.int .i64 x.x1)
  c3 : wr.cell? ⟨B9, 3, none⟩ = some (.int .i64 x.y1)
  ne : ∀ vo, wr.cell? ⟨H + 1, 0, none⟩ = some vo → vo.ownBlock ≠ some B9
theorem BoxX.below {w wr w2 : World} {H B9 : Nat} {x h : R4} {L : List R4} (b : BoxX H B9 x wr) (m : MR w H h L wr) (hb : Below wr.heap.size wr w2) : BoxX H B9 x w2 := by
  have hs := m.size
  have hc : ∀ o, w2.cell? ⟨B9, o, none⟩ = wr.cell? ⟨B9, o, none⟩ := fun o => hb.cell (p := ⟨B9, o, none⟩) b.hi
  exact ⟨b.lo, Nat.lt_of_lt_of_le b.hi hb.size, (hc 0).trans b.c0, (hc 1).trans b.c1, (hc 2).trans b.c2, (hc 3).trans b.c3, fun vo hv => b.ne vo (((hb.cell (p := ⟨H + 1, 0, none⟩) (by show H + 1 < _; omega)).symm).trans hv)⟩
/-- What missing's closure leaves, in the loop's words. -/
theorem miss_call {w wr : World} {H B9 : Nat} {x h : R4} {L : List R4} (m : MR w H h L wr) (b : BoxX H B9 x wr) (hn : L.length ≤ 100000000) (z : R4) :
    Calls Tryz.prog 206 #[.agg #[.int .i64 z.x0, .int .i64 z.y0, .int .i64 z.x1, .int .i64 z.y1], .pointer (some ⟨H + 1, 0, none⟩)] wr fun e w' => e = .returned (.tuple #[]) ∧ MR w H h (L ++ nz z) w' ∧ BoxX H B9 x w' := by
  obtain ⟨vo, o1, o2⟩ := m.out
  have hs := m.size
  refine (missAdd_any (H + 2) (H + 1) vo L z wr o1 m.fz (by omega) hs o2 hn).mono ?_
  rintro e w' ⟨rfl, vo', c, f, ho', hu, hne⟩
  have hb9 : vo.ownBlock ≠ some B9 := b.ne vo o1
  have hlo := b.lo
  have hc : ∀ o, w'.cell? ⟨B9, o, none⟩ = wr.cell? ⟨B9, o, none⟩ := fun o => hu.cell b.hi (by omega) hb9
  refine ⟨rfl, m.upd o2 c f ho' hu, ⟨hlo, Nat.lt_of_lt_of_le b.hi hu.size, (hc 0).trans b.c0, (hc 1).trans b.c1, (hc 2).trans b.c2, (hc 3).trans b.c3, fun v hv => ?_⟩⟩
  rw [c] at hv
  injection hv with hv
  subst hv
  rcases hne with hne | hne
  · rw [hne]; exact hb9
  · intro e
    have := hne B9 e
    have := b.hi
    omega
theorem dec_eq {a b : Int} (h : a = b) : (a == b) = true := by simpa using h
theorem dec_ne {a b : Int} (h : a ≠ b) : (a == b) = false := by simpa using h
theorem dec_neq {a b : Int} (h : a ≠ b) : (a != b) = true := by simpa using h
theorem dec_neqf {a b : Int} (h : a = b) : (a != b) = false := by simpa using h
/-- What missing leaves. -/
def MissO (l : List R4) (w : World) (e : Ending) (w' : World) : Prop :=
  ∃ A c, e = .returned (.tuple #[.agg #[.int .i64 (hullL l).x0, .int .i64 (hullL l).y0, .int .i64 (hullL l).x1, .int .i64 (hullL l).y1], .slice A (missL (hullL l) none l).length c]) ∧ w'.ownsRow w.heap.size 69 4 (.slice A (missL (hullL l) none l).length c) (missL (hullL l) none l).length ((missL (hullL l) none l).flatMap encR) ∧ Below w.heap.size w w'
set_option maxRecDepth 100000 in
set_option maxHeartbeats 8000000 in
theorem omissing_any {w : World} {v : Value} {l : List R4} (hr : RdK encR 4 w w.heap.size v l) (hc0 : checkF l = 0) (hne : l ≠ []) :
    Calls Tryz.prog 171 #[v] w (MissO l w) := by
  have hl4 := (checkF_ok hc0).1
  have hH := fun (W : World) (hW : Below w.heap.size w W) => hull_any (w := W) ((hr.below hW).mono hW.size) (by omega)
  have hhF : hullF l = (hullL l, 0) := by unfold hullF; rw [if_pos hc0, if_neg hne]
  rw [hhF] at hH
  simp only [encR] at hH
  obtain ⟨A, c, hva, hcc⟩ := id hr
  subst hva
  have HMA := hide (missTo_all (hullL l) l)
  have HLN := hide (missTo_len (hullL l) l)
  have HST := hide (missTo_succ (hullL l) l)
  have HR := hide hcc
  have HH := hide hH
  have HA0 := hide (fun x (hx : l[0]? = some x) => mAt_zero (h := hullL l) hx)
  have HAS := hide (fun k p x (hp : l[k]? = some p) (hx : l[k + 1]? = some x) => mAt_succ (h := hullL l) hp hx)
  have lz : (l.length : Int) ≤ 400 := by omega
  clear hr hcc hH hhF hc0 hne
  unfold MissO
  generalize hullL l = h at *
  go_enter Tryz.func171, Tryz.ntmps171
  go_wp2_with (fail)
  obtain ⟨W0, hW0⟩ : ∃ W, W = w.alloc (.cells #[.int .i64 0, .int .i64 0, .int .i64 0, .int .i64 0] 69) := ⟨_, rfl⟩
  rw [← hW0]
  have hb0 : Below w.heap.size w W0 := by rw [hW0]; exact (Below.refl _ _).alloc (Nat.le_refl _) _
  have r0 : ∀ j, j < 4 → W0.cell? ⟨w.heap.size, j, none⟩ = some (.int .i64 0) := fun j hj => by
    rw [hW0]
    have : j = 0 ∨ j = 1 ∨ j = 2 ∨ j = 3 := by omega
    rcases this with rfl | rfl | rfl | rfl <;> simp [go_sem]
  have rf : ∀ j, W0.frozen? ⟨w.heap.size, j, none⟩ = false := fun j => by rw [hW0]; simp [go_sem]
  have hs0 : w.heap.size < W0.heap.size := by rw [hW0]; simp
  have HW0 := hide (And.intro hb0 (And.intro r0 rf))
  clear hW0 hb0 r0 rf
  refine (HH.out W0 HW0.out.1).mono ?_
  rintro e w1 ⟨rfl, hb1⟩
  have HB1 := hide hb1
  have hs1 : w.heap.size < w1.heap.size := Nat.lt_of_lt_of_le hs0 hb1.size
  clear hb1 hs0
  go_upto_region 4 with fail
  refine wp_name fun w2 hw2 => ?_
  have HM0 : Hid (MR w w1.heap.size h [] w2) := hide (by
    obtain ⟨q1, q2, q3⟩ := HW0.out
    have hb1 := HB1.out
    have hb2 : Below w1.heap.size w1 w2 := by
      rw [hw2]
      repeat (first | with_reducible exact Below.refl _ _ | with_reducible refine Below.setCell ?_ (by first | (simp; done) | (simp; omega)) _ | with_reducible refine Below.alloc ?_ (by first | omega | (simp; omega) | simp) _)
    refine ⟨(q1.trans (hb1.mono q1.size)).trans (hb2.mono (by omega)), hs1, by rw [hw2]; simp, by rw [hw2]; simp [go_sem], by rw [hw2]; simp [go_sem], by rw [hw2]; simp [go_sem], by rw [hw2]; simp [go_sem], fun j hj => ?_, fun j => ?_, ⟨.slice none 0 0, by rw [hw2]; simp [go_sem], World.ownsRow_nil _ _ _ _⟩, by rw [hw2]; simp [go_sem]⟩
    · exact (hb2.cell (p := ⟨w.heap.size, j, none⟩) hs1).trans ((hb1.cell (p := ⟨w.heap.size, j, none⟩) (lt_of_cell (q2 j hj))).trans (q2 j hj))
    · exact (hb2.frozen (p := ⟨w.heap.size, j, none⟩) hs1).trans ((hb1.frozen (p := ⟨w.heap.size, j, none⟩) (lt_of_cell (q2 0 (by omega)))).trans (q3 j)))
  generalize hHd : w1.heap.size = H at *
  clear hw2 HW0 HB1 hHd
  go_wp2_with (fail)
  go_loopw [20] (fun i wr => ∃ m : Nat, m ≤ l.length ∧ i = .int .i64 m ∧ Hid (MR w H h (missTo h l m) wr)) (fun i _ => l.length - (intOf i).toNat)
  case atStart => exact ⟨0, Nat.zero_le _, rfl, HM0⟩
  case round =>
    clear HM0
    obtain ⟨m, hm, rfl, HM⟩ := hrel
    by_cases hlt : m < l.length
    · obtain ⟨x, hx⟩ : ∃ p, l[m]? = some p := ⟨_, List.getElem?_eq_getElem hlt⟩
      obtain ⟨b, o, rfl, hbl, k9⟩ := HR.out (by intro e; rw [e] at hlt; simp at hlt)
      have HCL : Hid (∀ (W : World) (j : Nat) (y : R4), Below w.heap.size w W → l[j]? = some y → W.cell? ⟨b, o + j * 4, none⟩ = some (.int .i64 y.x0) ∧ W.cell? ⟨b, o + j * 4 + 1, none⟩ = some (.int .i64 y.y0) ∧ W.cell? ⟨b, o + j * 4 + 2, none⟩ = some (.int .i64 y.x1) ∧ W.cell? ⟨b, o + j * 4 + 3, none⟩ = some (.int .i64 y.y1)) := hide (fun W j y hW hy =>
        ⟨(hW.cell (p := ⟨b, _, none⟩) hbl).trans (k9 j _ hy 0 _ rfl), (hW.cell (p := ⟨b, _, none⟩) hbl).trans (k9 j _ hy 1 _ rfl), (hW.cell (p := ⟨b, _, none⟩) hbl).trans (k9 j _ hy 2 _ rfl), (hW.cell (p := ⟨b, _, none⟩) hbl).trans (k9 j _ hy 3 _ rfl)⟩)
      obtain ⟨d0, d1, d2, d3⟩ := HCL.out wr m x HM.out.low hx
      have hln := HLN.out m
      have HSM := hide (HST.out m)
      have HX := hide hx
      clear k9 hx
      obtain ⟨M, hM⟩ : ∃ M : Int, (m : Int) = M := ⟨_, rfl⟩
      rw [hM]
      have m1 : 0 ≤ M := by omega
      have m2 : M < (l.length : Int) := by omega
      have m3 : M.toNat = m := by omega
      have HMM := hide hM
      clear hM
      go_upto_region 7 with fail
      refine wp_name fun Z hZ => ?_
      have hbz : Below wr.heap.size wr Z := by rw [hZ]; exact (Below.refl _ _).alloc (Nat.le_refl _) _
      have HBX : Hid (BoxX H wr.heap.size x Z) := hide (by
        refine ⟨HM.out.size, by rw [hZ]; simp, by rw [hZ]; simp [go_sem], by rw [hZ]; simp [go_sem], by rw [hZ]; simp [go_sem], by rw [hZ]; simp [go_sem], fun vo hv e => ?_⟩
        obtain ⟨vo', o1, o2⟩ := HM.out.out
        have h1 := (hbz.cell (p := ⟨H + 1, 0, none⟩) (by have := HM.out.size; show H + 1 < _; omega)).trans o1
        rw [h1] at hv
        injection hv with hv
        subst hv
        have := (o2.lt _ e).2
        omega)
      have HMZ := hide (HM.out.below hbz)
      generalize hB9 : wr.heap.size = B9 at *
      clear hZ hbz d0 d1 d2 d3 HM m3 hB9
      have hlnz : (missTo h l m).length ≤ 1200 := by omega
      generalize hLL : missTo h l m = L at *
      clear hLL hln
      have hbH : b < H := by omega
      -- the three ways to the rectangle below
      have hcase : (∃ E0, Hid (M = 0) ∧ Hid (E0 = L ++ nz ⟨x.x0, h.y0, x.x1, x.y0⟩ ∧ missTo h l (m + 1) = E0 ++ topY h x l[m + 1]?)) ∨
          (∃ (k : Nat) (p : R4) (E0 : List R4), l[k]? = some p ∧ m = k + 1 ∧ p.x0 = x.x0 ∧ Hid (E0 = L ++ nz ⟨x.x0, p.y1, x.x1, x.y0⟩ ∧ missTo h l (m + 1) = E0 ++ topY h x l[m + 1]?)) ∨
          (∃ (k : Nat) (p : R4) (E0 : List R4), l[k]? = some p ∧ m = k + 1 ∧ p.x0 ≠ x.x0 ∧ Hid (E0 = (L ++ nz ⟨p.x1, h.y0, x.x0, h.y1⟩) ++ nz ⟨x.x0, h.y0, x.x1, x.y0⟩ ∧ missTo h l (m + 1) = E0 ++ topY h x l[m + 1]?)) := by
        have hx := HX.out
        cases m with
        | zero =>
          refine .inl ⟨_, hide (by have := HMM.out; omega), hide ⟨rfl, ?_⟩⟩
          rw [HSM.out, HA0.out x hx, List.append_assoc]
        | succ k =>
          obtain ⟨p, hp⟩ : ∃ p, l[k]? = some p := ⟨_, List.getElem?_eq_getElem (by omega)⟩
          by_cases he : p.x0 = x.x0
          · refine .inr (.inl ⟨k, p, _, hp, rfl, he, hide ⟨rfl, ?_⟩⟩)
            rw [HSM.out, HAS.out k p x hp hx, if_pos he, List.append_assoc]
          · refine .inr (.inr ⟨k, p, _, hp, rfl, he, hide ⟨rfl, ?_⟩⟩)
            rw [HSM.out, HAS.out k p x hp hx, if_neg he, List.append_assoc, List.append_assoc]
      clear HA0 HAS HSM HST
      rcases hcase with ⟨E0, hM0, HE⟩ | ⟨k, p, E0, hp, hk, he, HE⟩ | ⟨k, p, E0, hp, hk, he, HE⟩
      have g0 : (M == 0) = true := dec_eq hM0.out
      have g1 : ¬ (0 : Int) < M := by have := hM0.out; omega
      have e1 := HMZ.out.h1
      go_quiet (fail)
      go_upto_region 13 with fail
      refine wp_name fun Y hY => ?_
      have hby : Below Z.heap.size Z Y := by rw [hY]; exact below_drewN (Below.refl _ _) _
      have HMY := hide (HMZ.out.below hby)
      have HBY := hide (HBX.out.below HMZ.out hby)
      have hc := miss_call HMY.out HBY.out (by omega) ⟨x.x0, h.y0, x.x1, x.y0⟩
      simp only at hc
      have HC := hide hc
      have x0 := HBY.out.c0
      have x1 := HBY.out.c1
      have x2 := HBY.out.c2
      clear hY hby hc e1 g0 g1
      go_wp2_with (fail)
      refine HC.out.mono ?_
      rintro e V ⟨rfl, hmv, hbv⟩
      rw [← HE.out.1] at hmv
      have HMV := hide hmv
      have HBV := hide hbv
      clear hmv hbv HC x0 x1 x2 HMY HBY
      go_upto_region 14 with fail
      rotate_left 1
      have hMk : M = (k : Int) + 1 := by have := HMM.out; omega
      have g0 : (M == 0) = false := dec_ne (by omega)
      have g1 : (0 : Int) < M := by omega
      have i0 : 0 ≤ M - 1 := by omega
      have i1 : M - 1 < (l.length : Int) := by omega
      have i3 : (M - 1).toNat = k := by omega
      have i4 : IntKind.i64.wrap (M - 1) = M - 1 := IntWalk.i64_in _ (by omega)
      have i5 : 1 ≤ M := by omega
      have e1 := HMZ.out.h1
      obtain ⟨p0, p1, p2, p3⟩ := HCL.out Z k p HMZ.out.low hp
      have x0 := HBX.out.c0
      have hbZ : b < Z.heap.size := by have := HMZ.out.size; omega
      have HPK := hide (And.intro hp hk)
      clear hp hk hMk
      have g2 : (p.x0 != x.x0) = false := dec_neqf he
      have HEQ := hide he
      clear he
      go_quiet (fail)
      have i6 : (M - 1).toNat = k := i3
      go_upto_region 13 with fail
      refine wp_name fun Y hY => ?_
      have hby : Below Z.heap.size Z Y := by rw [hY]; exact below_drewN (Below.refl _ _) _
      have HMY := hide (HMZ.out.below hby)
      have HBY := hide (HBX.out.below HMZ.out hby)
      have hc := miss_call HMY.out HBY.out (by omega) ⟨x.x0, p.y1, x.x1, x.y0⟩
      simp only at hc
      have HC := hide hc
      have x0 := HBY.out.c0
      have x1 := HBY.out.c1
      have x2 := HBY.out.c2
      clear hY hby hc e1 g0 g1 g2 i0 i1 i3 i4 i5 i6 p0 p1 p2 p3 hbZ
      go_wp2_with (fail)
      refine HC.out.mono ?_
      rintro e V ⟨rfl, hmv, hbv⟩
      rw [← HE.out.1] at hmv
      have HMV := hide hmv
      have HBV := hide hbv
      clear hmv hbv HC x0 x1 x2 HMY HBY
      go_upto_region 14 with fail
      rotate_left 1
      have hMk : M = (k : Int) + 1 := by have := HMM.out; omega
      have g0 : (M == 0) = false := dec_ne (by omega)
      have g1 : (0 : Int) < M := by omega
      have i0 : 0 ≤ M - 1 := by omega
      have i1 : M - 1 < (l.length : Int) := by omega
      have i3 : (M - 1).toNat = k := by omega
      have i4 : IntKind.i64.wrap (M - 1) = M - 1 := IntWalk.i64_in _ (by omega)
      have i5 : 1 ≤ M := by omega
      have e1 := HMZ.out.h1
      obtain ⟨p0, p1, p2, p3⟩ := HCL.out Z k p HMZ.out.low hp
      have x0 := HBX.out.c0
      have hbZ : b < Z.heap.size := by have := HMZ.out.size; omega
      have HPK := hide (And.intro hp hk)
      clear hp hk hMk
      have g2 : (p.x0 != x.x0) = true := dec_neq he
      have HEQ := hide he
      clear he
      go_quiet (fail)
      go_upto_region 9 with fail
      refine wp_name fun Y hY => ?_
      have hby : Below Z.heap.size Z Y := by rw [hY]; exact below_drewN (Below.refl _ _) _
      have HMY := hide (HMZ.out.below hby)
      have HBY := hide (HBX.out.below HMZ.out hby)
      obtain ⟨p0, p1, p2, p3⟩ := HCL.out Y k p HMY.out.low HPK.out.1
      have x0 := HBY.out.c0
      have e1 := HMY.out.h1
      have e3 := HMY.out.h3
      have hc := fun (W : World) (hW : Below Y.heap.size Y W) => miss_call (HMY.out.below hW) (HBY.out.below HMY.out hW) (by omega) ⟨p.x1, h.y0, x.x0, h.y1⟩
      simp only at hc
      have HC := hide hc
      clear hY hby hc
      refine wp_region_tail_named 14 (by kernel_rfl) (by kernel_rfl) ?_
      rintro w' hw'
      have HW' : Hid (Below Y.heap.size Y w') := hide (by rw [hw']; exact (Below.refl _ _).drew)
      have p2 : w'.cell? ⟨b, o + k * 4 + 2, none⟩ = some (.int .i64 p.x1) := by rw [hw']; exact p2
      have e1 : w'.cell? ⟨H, 1, none⟩ = some (.int .i64 h.y0) := by rw [hw']; exact e1
      have x0 : w'.cell? ⟨B9, 0, none⟩ = some (.int .i64 x.x0) := by rw [hw']; exact x0
      have e3 : w'.cell? ⟨H, 3, none⟩ = some (.int .i64 h.y1) := by rw [hw']; exact e3
      clear hw'
      simp only [List.take_succ_cons, List.take_zero, List.drop_succ_cons, List.drop_zero]
      repeat still_step
      refine wpStill_nil ?_
      go_wp2_with (fail)
      refine (HC.out _ HW'.out).mono ?_
      rintro e U ⟨rfl, hmu, hbu⟩
      have HMU := hide hmu
      have HBU := hide hbu
      clear hmu hbu HC
      have e1 := HMU.out.h1
      clear p0 p1 p2 p3 x0 e3 HW'
      go_upto_region 13 with fail
      refine wp_name fun Y hY => ?_
      have hby : Below U.heap.size U Y := by rw [hY]; exact Below.refl _ _
      have HMY := hide (HMU.out.below hby)
      have HBY := hide (HBU.out.below HMU.out hby)
      have hc := miss_call HMY.out HBY.out (by rw [List.length_append]; have := nz_len ⟨p.x1, h.y0, x.x0, h.y1⟩; omega) ⟨x.x0, h.y0, x.x1, x.y0⟩
      simp only at hc
      have HC := hide hc
      have x0 := HBY.out.c0
      have x1 := HBY.out.c1
      have x2 := HBY.out.c2
      clear hY hby hc e1 g0 g1 g2 i0 i1 i3 i4 i5 hbZ HMU HBU
      go_wp2_with (fail)
      refine HC.out.mono ?_
      rintro e V ⟨rfl, hmv, hbv⟩
      rw [← HE.out.1] at hmv
      have HMV := hide hmv
      have HBV := hide hbv
      clear hmv hbv HC x0 x1 x2 HMY HBY
      go_upto_region 14 with fail
      rotate_left 1
      all_goals
        have hlE : E0.length ≤ 1300 := by
          have := HLN.out (m + 1)
          rw [HE.out.2, List.length_append] at this
          omega
        have f1 : IntKind.i64.wrap ((l.length : Int) - 1) = (l.length : Int) - 1 := IntWalk.i64_in _ (by omega)
        have hcase2 : (M = (l.length : Int) - 1 ∧ Hid (topY h x l[m + 1]? = nz ⟨x.x0, x.y1, x.x1, h.y1⟩)) ∨ (∃ q, l[m + 1]? = some q ∧ M ≠ (l.length : Int) - 1 ∧ q.x0 = x.x0 ∧ Hid (topY h x l[m + 1]? = [])) ∨ (∃ q, l[m + 1]? = some q ∧ M ≠ (l.length : Int) - 1 ∧ q.x0 ≠ x.x0 ∧ Hid (topY h x l[m + 1]? = nz ⟨x.x0, x.y1, x.x1, h.y1⟩)) := by
          have hM := HMM.out
          by_cases hl : m + 1 < l.length
          · obtain ⟨q, hq⟩ : ∃ p, l[m + 1]? = some p := ⟨_, List.getElem?_eq_getElem hl⟩
            by_cases he : q.x0 = x.x0
            · exact .inr (.inl ⟨q, hq, by omega, he, hide (by rw [hq]; exact if_pos he)⟩)
            · exact .inr (.inr ⟨q, hq, by omega, he, hide (by rw [hq]; exact if_neg he)⟩)
          · exact .inl ⟨by omega, hide (by rw [List.getElem?_eq_none (by omega)]; rfl)⟩
        rcases hcase2 with ⟨hl, HT⟩ | ⟨q, hq, hl, he, HT⟩ | ⟨q, hq, hl, he, HT⟩
        · have j0 : (M == (l.length : Int) - 1) = true := dec_eq hl
          clear hl
          go_quiet (fail)
          go_upto_region 15 with fail
          refine wp_name fun Y hY => ?_
          have hby : Below V.heap.size V Y := by rw [hY]; exact below_drewN (Below.refl _ _) _
          have HMY := hide (HMV.out.below hby)
          have HBY := hide (HBV.out.below HMV.out hby)
          have hc := miss_call HMY.out HBY.out (by omega) ⟨x.x0, x.y1, x.x1, h.y1⟩
          simp only at hc
          have HC := hide hc
          have x0 := HBY.out.c0
          have x2 := HBY.out.c2
          have x3 := HBY.out.c3
          have e3 := HMY.out.h3
          clear hY hby hc
          try clear j0
          try clear j1
          go_wp2_with (fail)
          refine HC.out.mono ?_
          rintro e U ⟨rfl, hmu, hbu⟩
          rw [← HT.out, ← HE.out.2] at hmu
          have HMU := hide hmu
          clear hmu hbu HC x0 x2 x3 e3 HMY HBY
          go_wp2_with (fail)
          go_roundw
          case rel => exact ⟨m + 1, by omega, int_eq (by have := HMM.out; omega), HMU⟩
          case measure => simp [intOf]; omega
        · have j0 : (M == (l.length : Int) - 1) = false := dec_ne (by omega)
          have hq1 : M + 1 < (l.length : Int) := by omega
          have q0 : 0 ≤ M + 1 := by omega
          have q3 : (M + 1).toNat = m + 1 := by have := HMM.out; omega
          have q4 : IntKind.i64.wrap (M + 1) = M + 1 := IntWalk.i64_in _ (by omega)
          obtain ⟨t0, t1, t2, t3⟩ := HCL.out V (m + 1) q HMV.out.low hq
          have x0 := HBV.out.c0
          have hbV : b < V.heap.size := by have := HMV.out.size; omega
          have HQ := hide hq
          clear hq
          have j1 : (q.x0 != x.x0) = false := dec_neqf he
          clear hl he
          go_quiet (fail)
          go_upto_region 16 with fail
          refine wp_name fun Y hY => ?_
          have hby : Below V.heap.size V Y := by rw [hY]; exact below_drewN (Below.refl _ _) _
          have hmy := HMV.out.below hby
          have h0 := HE.out.2
          rw [HT.out, List.append_nil] at h0
          rw [← h0] at hmy
          have HMY := hide hmy
          clear hY hby hmy h0 j0 j1 hq1 q0 q3 q4 t0 t1 t2 t3 x0 hbV
          go_wp2_with (fail)
          go_roundw
          case rel => exact ⟨m + 1, by omega, int_eq (by have := HMM.out; omega), HMY⟩
          case measure => simp [intOf]; omega
        · have j0 : (M == (l.length : Int) - 1) = false := dec_ne (by omega)
          have hq1 : M + 1 < (l.length : Int) := by omega
          have q0 : 0 ≤ M + 1 := by omega
          have q3 : (M + 1).toNat = m + 1 := by have := HMM.out; omega
          have q4 : IntKind.i64.wrap (M + 1) = M + 1 := IntWalk.i64_in _ (by omega)
          obtain ⟨t0, t1, t2, t3⟩ := HCL.out V (m + 1) q HMV.out.low hq
          have x0 := HBV.out.c0
          have hbV : b < V.heap.size := by have := HMV.out.size; omega
          have HQ := hide hq
          clear hq
          have j1 : (q.x0 != x.x0) = true := dec_neq he
          clear hl he
          go_quiet (fail)
          go_upto_region 15 with fail
          refine wp_name fun Y hY => ?_
          have hby : Below V.heap.size V Y := by rw [hY]; exact below_drewN (Below.refl _ _) _
          have HMY := hide (HMV.out.below hby)
          have HBY := hide (HBV.out.below HMV.out hby)
          have hc := miss_call HMY.out HBY.out (by omega) ⟨x.x0, x.y1, x.x1, h.y1⟩
          simp only at hc
          have HC := hide hc
          have x0 := HBY.out.c0
          have x2 := HBY.out.c2
          have x3 := HBY.out.c3
          have e3 := HMY.out.h3
          clear hY hby hc hq1 q0 q3 q4 t0 t1 t2 t3 hbV
          try clear j0
          try clear j1
          go_wp2_with (fail)
          refine HC.out.mono ?_
          rintro e U ⟨rfl, hmu, hbu⟩
          rw [← HT.out, ← HE.out.2] at hmu
          have HMU := hide hmu
          clear hmu hbu HC x0 x2 x3 e3 HMY HBY
          go_wp2_with (fail)
          go_roundw
          case rel => exact ⟨m + 1, by omega, int_eq (by have := HMM.out; omega), HMU⟩
          case measure => simp [intOf]; omega
    · obtain rfl : m = l.length := by omega
      have hlt2 : ¬ (l.length : Int) < (l.length : Int) := by omega
      rw [HMA.out] at HM
      go_upto_region 17 with fail
      have hln := HLN.out l.length
      rw [HMA.out] at hln
      obtain ⟨L, hLd⟩ : ∃ L, missL h none l = L := ⟨_, rfl⟩
      rw [hLd] at HM hln
      have HLD := hide hLd
      clear hLd HMA
      obtain ⟨vo, o1, o2⟩ := HM.out.out
      obtain ⟨Ao, co, hvo⟩ := own_form o2
      subst hvo
      have hg := HM.out.gt
      have hsz := HM.out.size
      have e0 := HM.out.h0
      have e1 := HM.out.h1
      have e2 := HM.out.h2
      have e3 := HM.out.h3
      have g0 := HM.out.r0 0 (by omega)
      have g1 := HM.out.r0 1 (by omega)
      have g2 := HM.out.r0 2 (by omega)
      have g3 := HM.out.r0 3 (by omega)
      have k0 := HM.out.rf 0
      have k1 := HM.out.rf 1
      have k2 := HM.out.rf 2
      have k3 := HM.out.rf 3
      have HO := hide o2
      clear o2 hlt2
      refine wp_region_mix [0, 1] [2, 3] (fun w' => (w'.cell? ⟨H, 0, none⟩ = some (.int .i64 h.x0) ∧ w'.cell? ⟨H, 1, none⟩ = some (.int .i64 h.y0) ∧ w'.cell? ⟨H, 2, none⟩ = some (.int .i64 h.x1) ∧ w'.cell? ⟨H, 3, none⟩ = some (.int .i64 h.y1)) ∧ w'.cell? ⟨H + 1, 0, none⟩ = some (.slice Ao L.length co)) (by kernel_rfl) (by kernel_rfl) ⟨⟨e0, e1, e2, e3⟩, o1⟩ ?_
      simp only [List.map_cons, List.map_nil, opAt, List.getElem?_cons_succ, List.getElem?_cons_zero, Option.getD_some]
      iterate 2
        refine ⟨?_, Or.inl ⟨by rfl, ?_⟩, ?_⟩
        rotate_left 1
        · intro w' hSw
          obtain ⟨⟨z0, z1, z2, z3⟩, z4⟩ := hSw
          go_simp
          first | done | with_reducible rfl
        simp only [Act.put, List.setIfInBounds_toArray, List.set_cons_zero, List.set_cons_succ]
      simp only [wpReads]
      intro K hK
      simp only [Act.put, List.setIfInBounds_toArray, List.set_cons_zero, List.set_cons_succ] at hK ⊢
      go_simp
      have far : ∀ q o (a b c d : Value), q ≠ w.heap.size → (((((wr.setCell ⟨w.heap.size, 0, none⟩ a).setCell ⟨w.heap.size, 1, none⟩ b).setCell ⟨w.heap.size, 2, none⟩ c).setCell ⟨w.heap.size, 3, none⟩ d).drew).cell? ⟨q, o, none⟩ = wr.cell? ⟨q, o, none⟩ := fun q o a b c d hq =>
        World.cell?_of_block (w := wr) (a := ⟨q, o, none⟩) ((Below.heap_setCell _ _ _ _ hq).trans ((Below.heap_setCell _ _ _ _ hq).trans ((Below.heap_setCell _ _ _ _ hq).trans (Below.heap_setCell _ _ _ _ hq))))
      refine hK _ _ (fun _ => ⟨⟨(far _ _ _ _ _ _ (by omega)).trans e0, (far _ _ _ _ _ _ (by omega)).trans e1, (far _ _ _ _ _ _ (by omega)).trans e2, (far _ _ _ _ _ _ (by omega)).trans e3⟩, (far _ _ _ _ _ _ (by omega)).trans o1⟩) ?_
      clear hK K far
      intro K hK
      simp only [Act.put, List.setIfInBounds_toArray, List.set_cons_zero, List.set_cons_succ] at hK ⊢
      go_simp
      refine hK _ _ (fun h => absurd rfl h) ?_
      clear hK K
      refine NoPanic.normal ?_
      have HME := hide HM.out.low
      clear HM
      go_wp2_with (fail)
      have hwl : w.heap.size < H := hg
      refine bodyPost_ret (v := .tuple #[.agg #[.int .i64 h.x0, .int .i64 h.y0, .int .i64 h.x1, .int .i64 h.y1], .slice Ao L.length co]) (by simp [results, Tryz.results171, go_sem, g0, g1, g2, g3]) rfl ?_
      rw [HLD.out]
      refine ⟨Ao, co, rfl, ?_, ?_⟩
      · have hlt : w.heap.size < H + 2 := by omega
        exact own_base (own_drew (ownsRow_setCell_below (ownsRow_setCell_below (ownsRow_setCell_below (ownsRow_setCell_below HO.out hlt _) hlt _) hlt _) hlt _)) (by omega)
      · exact (Below.setCell (Below.setCell (Below.setCell (Below.setCell HME.out (Nat.le_refl _) _) (Nat.le_refl _) _) (Nat.le_refl _) _) (Nat.le_refl _) _).drew
end Go.Proofs.YtdolpeljengpaaaGreat

/- offset.Grow. -/
namespace Go.Proofs.YtdolpeljengpaaaGreat
open Go.RowKit
set_option linter.unusedVariables false
set_option linter.unusedSimpArgs false

theorem farR_iff (d : Int) (q : R4) : farR d q = true ↔ (min (q.x0 - d) (q.y0 - d) < -1000000 ∨ 1000000 < max (q.x1 + d) (q.y1 + d)) := by
  unfold farR
  simp only [Bool.or_eq_true, decide_eq_true_eq]
  omega
end Go.Proofs.YtdolpeljengpaaaGreat
