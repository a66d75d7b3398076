/- Texts laid together: RefJ, RefE, RefK, LookA, JoinA, SlabB. Lemmas for the statements of this seat; no condition. -/
import Derived.Test.YtmnhlcbmoibahaaGreatPk8
import Derived.Test.YtmnhlcbmoibahaaGreatPk2
import Derived.Test.YtmnhlcbmoibahaaGreatPk1
import Derived.Laws.StructEq
import Derived.Deep.QuietTactic
import Derived.BigQuiet
import Derived.Test.YtmnhlcbmoibahaaGreatPk6
import Derived.Test.YtmnhlcbmoibahaaGreatPk4

/- The reference's Joined. -/
namespace Go.Proofs.YtmnhlcbmoibahaaGreat
open Go.RowKit
set_option linter.unusedVariables false
set_option linter.unusedSimpArgs false

/-- The rows of the call's own: the cuts, what is put out, and the cross-section before. -/
structure RJ (w : World) (vx vy vo vl : Value) (xs ys : List Int) (L : List R4) (last : List Sp) (wr : World) : Prop where
  low : Below w.heap.size w wr
  x : wr.ownsRow w.heap.size 3 1 vx xs.length (xs.map iv)
  y : wr.ownsRow w.heap.size 3 1 vy ys.length (ys.map iv)
  o : wr.ownsRow w.heap.size 65 4 vo L.length (L.flatMap encR)
  l : wr.ownsRow w.heap.size 143 2 vl last.length (last.flatMap encS)
section
variable {w wr w2 : World} {vx vy vo vl v2 : Value} {xs ys : List Int} {L L' : List R4} {ll : List Sp}
theorem RJ.below (h : RJ w vx vy vo vl xs ys L ll wr) (hb : Below wr.heap.size wr w2) : RJ w vx vy vo vl xs ys L ll w2 :=
  ⟨h.low.trans (hb.mono h.low.size), own_below h.x hb, own_below h.y hb, own_below h.o hb, own_below h.l hb⟩
theorem RJ.pushed (h : RJ w vx vy vo vl xs ys L ll wr) {n : Nat} (hg : wr.grownBy w2 vo.ownBlock) (ho : w2.ownsRow w.heap.size 65 4 v2 n (L'.flatMap encR)) : RJ w vx vy v2 vl xs ys L' ll w2 := by
  have hn := own_len (k := 4) ho (fun _ => rfl) (by omega)
  subst hn
  exact ⟨h.low.grown hg h.low.size (fun q hq => (h.o.lt q hq).1), h.x.kept hg (own_apart h.x h.o (by decide)), h.y.kept hg (own_apart h.y h.o (by decide)), ho, h.l.kept hg (own_apart h.l h.o (by decide))⟩
theorem RJ.other (h : RJ w vx vy vo vl xs ys L ll wr) {B size n : Nat} {v : Value} {zs : List Value} (hv : wr.ownsRow B 4 size v n zs) (hB : w.heap.size ≤ B) (hg : wr.grownBy w2 v.ownBlock) : RJ w vx vy vo vl xs ys L ll w2 :=
  ⟨h.low.grown hg h.low.size (fun q hq => by have := (hv.lt q hq).1; omega), h.x.kept hg (own_apart h.x hv (by decide)), h.y.kept hg (own_apart h.y hv (by decide)), h.o.kept hg (own_apart h.o hv (by decide)), h.l.kept hg (own_apart h.l hv (by decide))⟩
theorem RJ.last (h : RJ w vx vy vo vl xs ys L ll wr) {s : List Sp} (hs : wr.ownsRow w.heap.size 143 2 v2 s.length (s.flatMap encS)) : RJ w vx vy vo v2 xs ys L s wr := ⟨h.low, h.x, h.y, h.o, hs⟩
theorem RJ.xcells {gx cx i : Nat} {c d : Int} (h : RJ w (.slice (some ⟨gx, 0, none⟩) xs.length cx) vy vo vl xs ys L ll wr) (hc : xs[i]? = some c) (hd : xs[i + 1]? = some d) :
    wr.cell? ⟨gx, i, none⟩ = some (.int .i64 c) ∧ wr.cell? ⟨gx, i + 1, none⟩ = some (.int .i64 d) := by
  have h1 := (h.x.cells (g := gx) rfl) i (iv c) (by simp [hc])
  have h2 := (h.x.cells (g := gx) rfl) (i + 1) (iv d) (by simp [hd])
  rw [addr_add] at h1 h2
  exact ⟨h1, h2⟩
end
theorem infoB : (Tryz.prog.info? 4).map (fun i => (i.zero, i.size, i.bytes)) = some (some (.bool false), 1, 1) := by kernel_rfl
theorem own_rdB {w : World} {base : Nat} {e : TypeId} {v : Value} {l : List Bool} (h : w.ownsRow base e 1 v l.length (l.map Value.bool)) : RdK encBo 1 w w.heap.size v l :=
  own_rd (enc := encBo) (k := 1) (by rw [flat_encBo]; exact h) (fun _ => rfl)
/-- One slab of the reference: what the step leaves. -/
theorem rj_push {S : List Slab} {last s : List Sp} {first no i : Nat} {c d : Int} {xs : List Int} (hxs : xs.Pairwise (· < ·)) (hc : xs[i]? = some c) (hd : xs[i + 1]? = some d) (hinv : BInv S last first c) (hn : ¬ (s ≠ [] ∧ c = c ∧ last = s)) (hno : no = (flat S).length) :
    flat (addS S c d s) = flat S ++ s.map (fun p => ⟨c, p.1, d, p.2⟩) ∧ (∀ c', xs[i + 1]? = some c' → BInv (addS S c d s) s no c') ∧ (s = [] → no = (flat (addS S c d s)).length) := by
  have hcd : c < d := by
    obtain ⟨h1, rfl⟩ := List.getElem?_eq_some_iff.1 hc
    obtain ⟨h2, rfl⟩ := List.getElem?_eq_some_iff.1 hd
    exact List.pairwise_iff_getElem.1 hxs i (i + 1) h1 h2 (by omega)
  obtain ⟨h1, h2⟩ := BInv.push (f := c) (t := d) hinv (.inr (Int.le_refl _)) hcd hn
  subst hno
  refine ⟨h1, fun c' hc' => ?_, fun hs => ?_⟩
  · rw [hd] at hc'; injection hc' with hc'; subst hc'; exact h2
  · rw [h1, hs]; simp
theorem rj_join {S : List Slab} {last : List Sp} {first i : Nat} {c d : Int} {xs : List Int} (hxs : xs.Pairwise (· < ·)) (hc : xs[i]? = some c) (hd : xs[i + 1]? = some d) (hinv : BInv S last first c) (hf : last = [] → first = (flat S).length) :
    upTo d first (flat S).length (flat S) = flat (addS S c d last) ∧ (∀ c', xs[i + 1]? = some c' → BInv (addS S c d last) last first c') ∧ (last = [] → first = (flat (addS S c d last)).length) := by
  have hcd : c < d := by
    obtain ⟨h1, rfl⟩ := List.getElem?_eq_some_iff.1 hc
    obtain ⟨h2, rfl⟩ := List.getElem?_eq_some_iff.1 hd
    exact List.pairwise_iff_getElem.1 hxs i (i + 1) h1 h2 (by omega)
  by_cases hl : last = []
  · obtain ⟨h1, h2⟩ := BInv.push (f := c) (t := d) hinv (.inr (Int.le_refl _)) hcd (s := last) (fun h => h.1 hl)
    have e := hf hl
    subst hl
    have ha : addS S c d [] = S := by simp [addS]
    refine ⟨by rw [ha, e, upTo_start], fun c' hc' => ?_, fun _ => by rw [ha]; exact e⟩
    rw [hd] at hc'; injection hc' with hc'; subst hc'; rw [e]; exact h2
  · obtain ⟨S0, f0, h1, h2, h3, h4⟩ := BInv.join (f := c) (t := d) hinv hl rfl rfl
    refine ⟨?_, fun c' hc' => ?_, fun h => absurd h hl⟩
    · have := upTo_end S0 f0 c d last
      rw [← h2, ← h1, ← h3] at this
      exact this
    · rw [hd] at hc'; injection hc' with hc'; subst hc'; exact h4
theorem rj_first {S : List Slab} {last : List Sp} {first : Nat} {c : Int} (hinv : BInv S last first c) (hf : last = [] → first = (flat S).length) : first ≤ (flat S).length := by
  rcases hinv with ⟨h, _⟩ | ⟨_, S0, f0, h1, h2⟩
  · exact Nat.le_of_eq (hf h)
  · rw [h1, flat_append, List.length_append, h2]; omega

set_option maxRecDepth 100000 in
set_option maxHeartbeats 8000000 in
theorem rJoinedC_any (kd : Int) (hkd : kd = 1 ∨ kd = 2 ∨ kd = 3) {w : World} {va vb : Value} {a b : List R4} {B : Nat} (ha : RdK encR 4 w B va a) (hb : RdK encR 4 w B vb b) (hB : B ≤ w.heap.size) (la : a.length ≤ 10000000) (lb : b.length ≤ 10000000)
    (hxl : (srt (cutsL a ++ cutsL b)).length ≤ 10000) (hyl : (srt (cutsY a ++ cutsY b)).length ≤ 10000) :
    Calls Tryz.prog 55 #[.int .i64 kd, va, vb] w fun e w' => ∃ vo, e = .returned vo ∧ w'.ownsRow w.heap.size 65 4 vo (flat (swp (refG (hk kd) a b (srt (cutsY a ++ cutsY b))) (prs (srt (cutsL a ++ cutsL b))))).length ((flat (swp (refG (hk kd) a b (srt (cutsY a ++ cutsY b))) (prs (srt (cutsL a ++ cutsL b))))).flatMap encR) ∧ Below w.heap.size w w' := by
  obtain ⟨i1, gi, gz0, gz1, gz2⟩ := info_parts infoRc
  obtain ⟨i2, fi, fz0, fz1, fz2⟩ := info_parts infoB
  have hX := fun (W : World) (hW : Below w.heap.size w W) => rXs_any (w := W) (ha.below (hW.mono hB)) (hb.below (hW.mono hB)) (Nat.le_trans hB hW.size) (by omega) (by omega)
  have hY := fun (W : World) (hW : Below w.heap.size w W) => rYs_any (w := W) (ha.below (hW.mono hB)) (hb.below (hW.mono hB)) (Nat.le_trans hB hW.size) (by omega) (by omega)
  have hxs := (srt_ok (cutsL a ++ cutsL b)).1
  generalize srt (cutsL a ++ cutsL b) = xs at *
  generalize srt (cutsY a ++ cutsY b) = ys at *
  have hGl : ∀ x, (refG (hk kd) a b ys x).length ≤ 10000 := fun x => Nat.le_trans (refG_len _ _ _ _ _) hyl
  have HGL := hide hGl
  have HX := hide hX
  have HY := hide hY
  have HXS := hide hxs
  have HKD := hide hkd
  obtain ⟨A1, c1, hva, _⟩ := id ha
  obtain ⟨A2, c2, hvb, _⟩ := id hb
  subst hva; subst hvb
  have HA := hide ha
  have HB0 := hide hb
  clear ha hb hX hY hxs hGl hkd
  go_enter Tryz.func55, Tryz.ntmps55
  go_wp2_with (first
    | (go_at_call 88; refine (HX.out _ (Below.refl _ _)).mono ?_; rintro e w1 ⟨vx, rfl, ox, hb1⟩; have OX := hide ox; have HB1 := hide hb1; clear ox hb1)
    | (go_at_call 89; refine (HY.out _ HB1.out).mono ?_; rintro e w2 ⟨vy, rfl, oy, hb2⟩; have OY := hide oy; have HB2 := hide hb2; clear oy hb2; obtain ⟨Ax, cx, hvx⟩ := own_form OX.out; subst hvx; obtain ⟨Ay, cy, hvy⟩ := own_form OY.out; subst hvy))
  have HJ0 := hide (show RJ w (.slice Ax xs.length cx) (.slice Ay ys.length cy) (.slice none 0 0) (.slice none 0 0) xs ys [] [] w2 from ⟨HB1.out.trans (HB2.out.mono HB1.out.size), own_below OX.out HB2.out, own_base OY.out HB1.out.size, World.ownsRow_nil _ _ _ _, World.ownsRow_nil _ _ _ _⟩)
  clear OX OY HB1 HB2 HX HY
  go_loopw [9, 10, 11, 12] (fun v9 v10 v11 v12 wr => ∃ i : Nat, (i = 0 ∨ i < xs.length) ∧ v12 = .int .i64 i ∧ ∃ Ao no co, v9 = .slice Ao no co ∧ ∃ Al nl cl, v10 = .slice Al nl cl ∧ ∃ (S : List Slab) (last : List Sp) (first : Nat), Hid (nl = last.length) ∧ Hid (no = (flat S).length) ∧ v11 = .int .i64 first ∧
      Hid (swp (refG (hk kd) a b ys) ((prs xs).take i) = S) ∧ Hid ((∀ c, xs[i]? = some c → BInv S last first c) ∧ (last = [] → first = (flat S).length) ∧ (i = 0 → last = [])) ∧ Hid (RJ w (.slice Ax xs.length cx) (.slice Ay ys.length cy) (.slice Ao no co) (.slice Al nl cl) xs ys (flat S) last wr))
    (fun _ _ _ v _ => xs.length - (intOf v).toNat)
  case atStart => exact ⟨0, .inl rfl, rfl, none, 0, 0, rfl, none, 0, 0, rfl, [], [], 0, hide rfl, hide rfl, rfl, hide rfl, hide ⟨fun c _ => .inl ⟨rfl, by simp⟩, fun _ => rfl, fun _ => rfl⟩, HJ0⟩
  case round =>
    clear HJ0
    obtain ⟨i, hi, rfl, Ao, no, co, rfl, Al, nl, cl, rfl, S, last, first, HNL, HNO, rfl, HSS, HI, HJ⟩ := hrel
    by_cases hlt : i + 1 < xs.length
    · obtain ⟨c, hc⟩ : ∃ c, xs[i]? = some c := ⟨_, List.getElem?_eq_getElem (by omega)⟩
      obtain ⟨d, hd⟩ : ∃ d, xs[i + 1]? = some d := ⟨_, List.getElem?_eq_getElem hlt⟩
      have mz : (i : Int) + 1 < (xs.length : Int) := by omega
      have mz2 : (i : Int) < (xs.length : Int) := by omega
      obtain ⟨gx, cpx, hvx, hBx, hgx⟩ := HJ.out.x.form (by omega)
      injection hvx with e1 _ e3
      subst e1; subst e3
      have hflat : (flat S).length ≤ 100000000 := by
        have h1 := swp_len _ 10000 HGL.out ((prs xs).take i)
        rw [HSS.out] at h1
        have h2 : ((prs xs).take i).length ≤ 10000 := by have := prs_len xs; simp; omega
        have := Nat.mul_le_mul_right 10000 h2
        omega
      have hnoz : no ≤ 100000000 := by have := HNO.out; omega
      have hfirst : first ≤ no := by rw [HNO.out]; exact rj_first (HI.out.1 c hc) HI.out.2.1
      have HSW : Hid (swp (refG (hk kd) a b ys) ((prs xs).take (i + 1)) = addS S c d (refG (hk kd) a b ys c)) := hide (by
        have hp := prs_get xs i c d hc hd
        obtain ⟨h1, h2⟩ := List.getElem?_eq_some_iff.1 hp
        rw [List.take_succ_eq_append_getElem h1, h2, swp_snoc, HSS.out])
      have HC := hide hc
      have HD := hide hd
      clear hc hd
      go_wp2
      go_loopw [13, 14] (fun v q wr => ∃ j : Nat, j ≤ ys.length ∧ q = .int .i64 j ∧ ∃ Ai ni ci, v = .slice Ai ni ci ∧ Hid (wr.ownsRow w.heap.size 4 1 v ni (((ys.take j).map (fun y => hk kd (decide (pmem a c y)) (decide (pmem b c y)))).map Value.bool)) ∧ Hid (RJ w (.slice (some ⟨gx, 0, none⟩) xs.length cx) (.slice Ay ys.length cy) (.slice Ao no co) (.slice Al nl cl) xs ys (flat S) last wr)) (fun _ q _ => ys.length - (intOf q).toNat)
      case atStart => exact ⟨0, Nat.zero_le _, rfl, none, 0, 0, rfl, hide (World.ownsRow_nil _ _ _ _), HJ⟩
      case round =>
        clear HJ
        obtain ⟨j, hj, rfl, Ai, ni, ci, rfl, HIN, HJ⟩ := hrel
        by_cases hjl : j < ys.length
        · obtain ⟨y, hy⟩ : ∃ y, ys[j]? = some y := ⟨_, List.getElem?_eq_getElem hjl⟩
          have jz : (j : Int) < (ys.length : Int) := by omega
          obtain ⟨gy, cpy, hvy, hBy, hgy⟩ := HJ.out.y.form (by omega)
          injection hvy with e1 _ e3
          subst e1; subst e3
          obtain ⟨x0, _⟩ := HJ.out.xcells HC.out HD.out
          have y0 : wr.cell? ⟨gy, j, none⟩ = some (.int .i64 y) := by
            have := (HJ.out.y.cells (g := gy) rfl) j (iv y) (by simp [hy])
            rwa [addr_add] at this
          have HT : Hid ((ys.take (j + 1)).map (fun y => hk kd (decide (pmem a c y)) (decide (pmem b c y))) = (ys.take j).map (fun y => hk kd (decide (pmem a c y)) (decide (pmem b c y))) ++ [hk kd (decide (pmem a c y)) (decide (pmem b c y))]) := hide (by
            obtain ⟨h1, h2⟩ := List.getElem?_eq_some_iff.1 hy
            rw [List.take_succ_eq_append_getElem h1, List.map_append, h2]; rfl)
          have HYY := hide hy
          have hni : ni ≤ 10000 := by
            have := HIN.out.1
            simp at this; omega
          clear hy
          generalize (ys.take j).map (fun y => hk kd (decide (pmem a c y)) (decide (pmem b c y))) = bs at *
          go_wp2
          have hsz := HJ.out.low.size
          have hbd : Below w.heap.size w wr.drew := HJ.out.low.drew
          have hh1 := rHas_any (w := wr.drew) (HA.out.below (hbd.mono hB)) (by omega) c y
          have hh2 := rHas_any (w := wr.drew) (HB0.out.below (hbd.mono hB)) (by omega) c y
          have hh3 := rHolds_any kd HKD.out (decide (pmem a c y)) (decide (pmem b c y)) wr.drew
          have H1 := hide hh1
          have H2 := hide hh2
          have H3 := hide hh3
          clear hh1 hh2 hh3 hbd
          generalize decide (pmem a c y) = pa at *
          generalize decide (pmem b c y) = pb at *
          have r6 : (0 : Int) ≤ (i : Int) := by omega
          have r7 : (0 : Int) ≤ (j : Int) := by omega
          refine wp_region_mix [0, 1, 2, 3, 4, 5, 6, 7, 8, 9, 10, 12, 13, 14, 15, 16, 17, 18, 19, 20] [11, 21, 22, 23, 24, 25] (fun w' => w'.cell? ⟨gx, i, none⟩ = some (.int .i64 c) ∧ w'.cell? ⟨gy, j, none⟩ = some (.int .i64 y)) (by kernel_rfl) (by kernel_rfl) ⟨x0, y0⟩ ?_
          simp only [List.map_cons, List.map_nil, opAt, List.getElem?_cons_succ, List.getElem?_cons_zero, Option.getD_some]
          iterate 20
            refine ⟨?_, Or.inl ⟨by rfl, ?_⟩, ?_⟩
            rotate_left 1
            · intro w' hSw
              obtain ⟨z1, z2⟩ := hSw
              go_simp
              first | done | with_reducible rfl
            simp only [Act.put, List.setIfInBounds_toArray, List.set_cons_zero, List.set_cons_succ]
          clear r6 r7
          simp only [wpReads]
          intro K hK
          go_simp
          refine H1.out.mono ?_
          rintro e w' ⟨rfl, rfl⟩
          refine hK _ _ (fun _ => ⟨x0, y0⟩) ?_
          clear hK K
          intro K hK
          simp only [Act.put, List.setIfInBounds_toArray, List.set_cons_zero, List.set_cons_succ] at hK ⊢
          go_simp
          refine H2.out.mono ?_
          rintro e w' ⟨rfl, rfl⟩
          refine hK _ _ (fun _ => ⟨x0, y0⟩) ?_
          clear hK K
          intro K hK
          simp only [Act.put, List.setIfInBounds_toArray, List.set_cons_zero, List.set_cons_succ] at hK ⊢
          go_simp
          refine H3.out.mono ?_
          rintro e w' ⟨rfl, rfl⟩
          refine hK _ _ (fun _ => ⟨x0, y0⟩) ?_
          clear hK K H1 H2 H3
          generalize hk kd pa pb = pc at *
          have hgxw : gx < wr.heap.size := (HJ.out.x.lt gx rfl).2
          have hgyw : gy < wr.heap.size := (HJ.out.y.lt gy rfl).2
          intro K hK
          simp only [Act.put, List.setIfInBounds_toArray, List.set_cons_zero, List.set_cons_succ] at hK ⊢
          go_simp
          refine hK _ _ (fun _ => ⟨by go_keep, by go_keep⟩) ?_
          clear hK K
          intro K hK
          refine step_append_lies _ rfl (.tmp 37) (.tmp 60) 103 rfl w.heap.size 4 i2 (.bool false) 1 1 Tryz.underlying103 fi fz0 fz1 fz2 rfl (by decide) _ ni _ rfl (own_drew (World.ownsRow.alloc (w := wr) HIN.out _)) ⟨wr.heap.size, 0, none⟩ 1 1 [.bool pc] rfl rfl (news_drew wr _ _ _ rfl) (by intro u hu; rw [List.mem_singleton] at hu; subst hu; rfl) (by omega) (by unfold maxLen; omega) (by omega) (by simp; omega) _ rfl ?_
          intro g9 cap9 w9 hown9 hgrow9 _ _
          have hx9 : bs.map Value.bool ++ [.bool pc] = (bs ++ [pc]).map Value.bool := by simp
          rw [hx9, ← HT.out] at hown9
          have hj9 := (HJ.out.below ((Below.refl _ _).alloc (Nat.le_refl _) _).drew).other (own_drew (World.ownsRow.alloc (w := wr) HIN.out _)) (Nat.le_refl _) hgrow9
          have hc9 := (hj9.xcells HC.out HD.out).1
          have hy9 : w9.cell? ⟨gy, j, none⟩ = some (.int .i64 y) := by
            have := (hj9.y.cells (g := gy) rfl) j (iv y) (by simp [HYY.out])
            rwa [addr_add] at this
          have HJ9 := hide hj9
          have HO9 := hide hown9
          clear hown9 hgrow9 hx9 hj9
          refine hK _ _ (fun _ => ⟨hc9, hy9⟩) ?_
          clear hK K
          intro K hK
          simp only [Act.put, List.setIfInBounds_toArray, List.set_cons_zero, List.set_cons_succ] at hK ⊢
          go_simp
          refine hK _ _ (fun h => absurd rfl h) ?_
          clear hK K
          refine NoPanic.normal ?_
          go_wp2
          go_roundw
          case rel => exact ⟨j + 1, by omega, by go_num, _, _, cap9, rfl, HO9, HJ9⟩
          case measure => simp [intOf]; omega
        · have jz : ¬ (j : Int) < (ys.length : Int) := by omega
          have ht : ys.take j = ys := List.take_of_length_le (by omega)
          rw [ht] at HIN
          have hni : ni = (ys.map (fun y => hk kd (decide (pmem a c y)) (decide (pmem b c y)))).length := by have := HIN.out.1; simpa using this.symm
          have hcan := rCanon_any (w := wr) (own_rdI HJ.out.y) (own_rdB (own_n HIN.out hni)) (Nat.le_refl _) (by omega) (by simp)
          change Calls _ _ _ _ (fun e w' => ∃ vo, e = .returned vo ∧ w'.ownsRow wr.heap.size 143 2 vo (refG (hk kd) a b ys c).length ((refG (hk kd) a b ys c).flatMap encS) ∧ Below wr.heap.size wr w') at hcan
          have hsl : (refG (hk kd) a b ys c).length ≤ 10000 := HGL.out c
          have HCAN := hide hcan
          clear hcan ht hni HIN jz
          generalize refG (hk kd) a b ys c = s at *
          have hwsz := HJ.out.low.size
          have HJA := HJ
          by_cases hi0 : i = 0
          · have hl0 := HI.out.2.2 hi0
            have HP := hide (rj_push HXS.out HC.out HD.out (HI.out.1 c HC.out) (s := s) (fun h => h.1 (by rw [← h.2.2]; exact hl0)) HNO.out)
            have hiz : ¬ (0 : Int) < (i : Int) := by omega
            have hizn : ¬ 0 < i := by omega
            clear hi0 hl0
            go_wp2_with (go_at_call 92; refine HCAN.out.mono ?_; rintro e w3 ⟨vs, rfl, os, hb3⟩; obtain ⟨As, cs, hvs⟩ := own_form os; subst hvs; have HJS := hide ((HJA.out.below hb3).last (own_base os hwsz)); clear os hb3)
            go_wp2
            go_loopw [9, 17] (fun v q wr => ∃ m : Nat, m ≤ s.length ∧ q = .int .i64 m ∧ ∃ Ao no co, v = .slice Ao no co ∧ Hid (no = (flat S ++ (s.take m).map (fun p : Sp => (⟨c, p.1, d, p.2⟩ : R4))).length) ∧ Hid (RJ w (.slice (some ⟨gx, 0, none⟩) xs.length cx) (.slice Ay ys.length cy) v (.slice As s.length cs) xs ys (flat S ++ (s.take m).map (fun p : Sp => (⟨c, p.1, d, p.2⟩ : R4))) s wr)) (fun _ q _ => s.length - (intOf q).toNat)
            case atStart => exact ⟨0, Nat.zero_le _, rfl, Ao, no, co, rfl, hide (by rw [List.take_zero, List.map_nil, List.append_nil]; exact HNO.out), hide (by rw [List.take_zero, List.map_nil, List.append_nil]; exact HJS.out)⟩
            case round =>
              clear HJS
              have HNO0 := HNO
              obtain ⟨m, hm, rfl, Ao, no1, co, rfl, HNO, HJ⟩ := hrel
              by_cases hlt : m < s.length
              · have hmz : (m : Int) < (s.length : Int) := by omega
                obtain ⟨g2, cap2, hvs, hB2, hg2⟩ := HJ.out.l.form (by omega)
                injection hvs with e1 _ e3
                subst e1; subst e3
                obtain ⟨⟨p1, p2⟩, hp⟩ : ∃ p, s[m]? = some p := ⟨_, List.getElem?_eq_getElem hlt⟩
                have x0 : wr.cell? ⟨g2, m * 2, none⟩ = some (.int .i64 p1) := by
                  have := (HJ.out.l.cells (g := g2) rfl) _ _ (flat_get (k := 2) (fun _ => rfl) _ m _ 0 _ hp rfl)
                  rwa [addr_add] at this
                have x1 : wr.cell? ⟨g2, m * 2 + 1, none⟩ = some (.int .i64 p2) := by
                  have := (HJ.out.l.cells (g := g2) rfl) _ _ (flat_get (k := 2) (fun _ => rfl) _ m _ 1 _ hp rfl)
                  rwa [addr_add] at this
                obtain ⟨y0, y1⟩ := HJ.out.xcells HC.out HD.out
                have HT : Hid (flat S ++ (s.take (m + 1)).map (fun p : Sp => (⟨c, p.1, d, p.2⟩ : R4)) = (flat S ++ (s.take m).map (fun p : Sp => (⟨c, p.1, d, p.2⟩ : R4))) ++ [⟨c, p1, d, p2⟩]) := hide (by
                  obtain ⟨hk, hpe⟩ := List.getElem?_eq_some_iff.1 hp
                  rw [List.take_succ_eq_append_getElem hk, List.map_append, hpe, ← List.append_assoc]; rfl)
                have hno : no1 ≤ 200020000 := by
                  have := HNO.out
                  rw [List.length_append, List.length_map, List.length_take] at this
                  omega
                have HPP := hide hp
                clear hp
                generalize flat S ++ (s.take m).map (fun p : Sp => (⟨c, p.1, d, p.2⟩ : R4)) = L at *
                go_wp2
                have r1 : IntKind.i64.wrap ((i : Int) + 1) = (i : Int) + 1 := by simp [IntKind.wrap, IntKind.bits, IntKind.signed]; omega
                have r2 : (0 : Int) ≤ (i : Int) + 1 := by omega
                have r4 : ((i : Int) + 1).toNat = i + 1 := by omega
                have r6 : (0 : Int) ≤ (i : Int) := by omega
                have r7 : (0 : Int) ≤ (m : Int) := by omega
                have hsz := HJ.out.low.size
                have hgxw : gx < wr.heap.size := (HJ.out.x.lt gx rfl).2
                refine wp_region_mix [0, 1, 2, 3, 4, 5, 6, 7, 8, 9, 10, 11, 12, 13, 14, 15, 16, 17, 18, 19, 20] [21, 22, 23] (fun w' => (w'.cell? ⟨g2, m * 2, none⟩ = some (.int .i64 p1) ∧ w'.cell? ⟨g2, m * 2 + 1, none⟩ = some (.int .i64 p2)) ∧ w'.cell? ⟨gx, i, none⟩ = some (.int .i64 c) ∧ w'.cell? ⟨gx, i + 1, none⟩ = some (.int .i64 d)) (by kernel_rfl) (by kernel_rfl) ⟨⟨x0, x1⟩, y0, y1⟩ ?_
                simp only [List.map_cons, List.map_nil, opAt, List.getElem?_cons_succ, List.getElem?_cons_zero, Option.getD_some]
                iterate 21
                  refine ⟨?_, Or.inl ⟨by rfl, ?_⟩, ?_⟩
                  rotate_left 1
                  · intro w' hSw
                    obtain ⟨⟨z1, z2⟩, z3, z4⟩ := hSw
                    go_simp
                    first | done | with_reducible rfl
                  simp only [Act.put, List.setIfInBounds_toArray, List.set_cons_zero, List.set_cons_succ]
                clear r1 r2 r4 r6 r7
                simp only [wpReads]
                intro K hK
                go_simp
                refine hK _ _ (fun _ => ⟨⟨by go_keep, by go_keep⟩, by go_keep, by go_keep⟩) ?_
                clear hK K
                intro K hK
                refine step_append_lies _ rfl (.tmp 97) (.tmp 118) 27 rfl w.heap.size 65 i1 (.agg #[.int .i64 0, .int .i64 0, .int .i64 0, .int .i64 0]) 4 32 Tryz.underlying27 gi gz0 gz1 gz2 rfl (by decide) _ no1 _ rfl (own_drew (World.ownsRow.alloc (w := wr) (own_n HJ.out.o HNO.out.symm) _)) ⟨wr.heap.size, 0, none⟩ 1 1 [.int .i64 c, .int .i64 p1, .int .i64 d, .int .i64 p2] rfl rfl (news_drew wr _ _ _ rfl) (ints_one rfl) (by omega) (by unfold maxLen; omega) (by omega) (by simp; omega) _ rfl ?_
                intro g9 cap9 w9 hown9 hgrow9 _ _
                have hx9 : L.flatMap encR ++ [.int .i64 c, .int .i64 p1, .int .i64 d, .int .i64 p2] = (L ++ [(⟨c, p1, d, p2⟩ : R4)]).flatMap encR := by simp [encR]
                rw [hx9, ← HT.out] at hown9
                have hj9 := (HJ.out.below ((Below.refl _ _).alloc (Nat.le_refl _) _).drew).pushed hgrow9 hown9
                have hc9 := hj9.xcells HC.out HD.out
                have hs0 : w9.cell? ⟨g2, m * 2, none⟩ = some (.int .i64 p1) := by
                  have := (hj9.l.cells (g := g2) rfl) _ _ (flat_get (k := 2) (fun _ => rfl) _ m _ 0 _ HPP.out rfl)
                  rwa [addr_add] at this
                have hs1 : w9.cell? ⟨g2, m * 2 + 1, none⟩ = some (.int .i64 p2) := by
                  have := (hj9.l.cells (g := g2) rfl) _ _ (flat_get (k := 2) (fun _ => rfl) _ m _ 1 _ HPP.out rfl)
                  rwa [addr_add] at this
                have HJ9 := hide hj9
                have HN9 := hide (own_len (k := 4) hown9 (fun _ => rfl) (by omega))
                clear hown9 hgrow9 hx9 hj9
                refine hK _ _ (fun _ => ⟨⟨hs0, hs1⟩, hc9⟩) ?_
                clear hK K
                intro K hK
                simp only [Act.put, List.setIfInBounds_toArray, List.set_cons_zero, List.set_cons_succ] at hK ⊢
                go_simp
                refine hK _ _ (fun h => absurd rfl h) ?_
                clear hK K
                refine NoPanic.normal ?_
                go_wp2
                go_roundw
                case rel => exact ⟨m + 1, by omega, by go_num, _, _, cap9, rfl, HN9, HJ9⟩
                case measure => simp [intOf]; omega
              · obtain rfl : m = s.length := by omega
                have hmz : ¬ (s.length : Int) < (s.length : Int) := by omega
                rw [List.take_length, ← HP.out.1] at HNO HJ
                go_wp2
                go_roundw
                case rel => exact ⟨i + 1, by omega, by go_num, Ao, no1, co, rfl, As, s.length, cs, rfl, _, s, no, hide rfl, HNO, rfl, HSW, hide ⟨HP.out.2.1, HP.out.2.2, fun h => by omega⟩, HJ⟩
                case measure => simp [intOf]; omega
          · have hiz : (0 : Int) < (i : Int) := by omega
            have hizn : 0 < i := by omega
            have hsame : ∀ (W : World) (vs : Value), RJ w (.slice (some ⟨gx, 0, none⟩) xs.length cx) (.slice Ay ys.length cy) (.slice Ao no co) (.slice Al nl cl) xs ys (flat S) last W → W.ownsRow w.heap.size 143 2 vs s.length (s.flatMap encS) → _ := fun W vs h1 h2 => rSameS_any (w := W) (own_rd h2 (fun _ => rfl)) (own_rd h1.l (fun _ => rfl)) (by omega) (Nat.le_refl _) (Nat.le_refl _)
            have HSM := hide hsame
            clear hi0 hsame
            by_cases hsl2 : s = last
            · have HP : Hid (upTo d first (flat S).length (flat S) = flat (addS S c d s) ∧ (∀ c', xs[i + 1]? = some c' → BInv (addS S c d s) last first c') ∧ (last = [] → first = (flat (addS S c d s)).length)) := hide (by rw [hsl2]; exact rj_join HXS.out HC.out HD.out (HI.out.1 c HC.out) HI.out.2.1)
              have hdd : decide (s = last) = true := decide_eq_true hsl2
              have HDD := hide hdd
              clear hdd hsl2
              go_wp2_with (first
                | (go_at_call 92; refine HCAN.out.mono ?_; rintro e w3 ⟨vs, rfl, os, hb3⟩; obtain ⟨As, cs, hvs⟩ := own_form os; subst hvs; have HJL3 := hide (HJA.out.below hb3); have HOS := hide (own_base os hwsz); clear os hb3)
                | (go_at_call 93; refine (HSM.out _ _ HJL3.out HOS.out).mono ?_; rintro e w4 ⟨rfl, hb4⟩; rw [HDD.out]; have HJL := hide (HJL3.out.below hb4); clear hb4))
              go_wp2
              go_loopw [16] (fun q wr => ∃ k : Nat, first ≤ k ∧ k ≤ no ∧ q = .int .i64 k ∧ Hid (RJ w (.slice (some ⟨gx, 0, none⟩) xs.length cx) (.slice Ay ys.length cy) (.slice Ao no co) (.slice Al nl cl) xs ys (upTo d first k (flat S)) last wr)) (fun q _ => no - (intOf q).toNat)
              case atStart => exact ⟨first, Nat.le_refl _, by omega, rfl, hide (by rw [upTo_start]; exact HJL.out)⟩
              case round =>
                clear HJL
                obtain ⟨k, hk1, hk2, rfl, HJ⟩ := hrel
                by_cases hlt : k < no
                · have hkz : (k : Int) < (no : Int) := by omega
                  obtain ⟨r, hr⟩ : ∃ r, (upTo d first k (flat S))[k]? = some r := ⟨_, List.getElem?_eq_getElem (by rw [upTo_len, ← HNO.out]; exact hlt)⟩
                  have hlen : (upTo d first k (flat S)).length = no := by rw [upTo_len, HNO.out]
                  obtain ⟨g, cap, hvo, hBg, hgw⟩ := HJ.out.o.form (by rw [hlen]; omega)
                  injection hvo with e1 _ e3
                  subst e1; subst e3
                  have x1 : wr.cell? ⟨g, k * 4 + 2, none⟩ = some (.int .i64 r.x1) := by
                    have := (HJ.out.o.cells (g := g) rfl) _ _ (flat_get (k := 4) (fun _ => rfl) _ k r 2 _ hr rfl)
                    rwa [addr_add] at this
                  have f1 : wr.frozen? ⟨g, k * 4 + 2, none⟩ = false := (own_n HJ.out.o hlen).frozenAt _
                  obtain ⟨y0, y1⟩ := HJ.out.xcells HC.out HD.out
                  have hst := (own_n HJ.out.o hlen).stored (k * 4 + 2) (.int .i64 d)
                  rw [flat_set d _ k r hr, upTo_step d first k _ r hk1 hr] at hst
                  have HJ2 := hide (HJ.out.pushed hst.2 hst.1)
                  clear hr hst hlen
                  go_wp2
                  go_roundw
                  case rel => exact ⟨k + 1, by omega, by omega, by go_num, HJ2⟩
                  case measure => simp [intOf]; omega
                · obtain rfl : k = no := by omega
                  have hkz : ¬ (k : Int) < (k : Int) := by omega
                  have hend := HP.out.1
                  rw [← HNO.out] at hend
                  have hj := HJ.out
                  rw [hend] at hj
                  have HJ3 := hide hj
                  have hn3 : k = (flat (addS S c d s)).length := by rw [← hend, upTo_len]; exact HNO.out
                  have HN3 := hide hn3
                  clear hend hj hn3
                  go_wp2
                  go_roundw
                  case rel => exact ⟨i + 1, by omega, by go_num, Ao, k, co, rfl, Al, nl, cl, rfl, _, last, first, HNL, HN3, rfl, HSW, hide ⟨HP.out.2.1, HP.out.2.2, fun h => by omega⟩, HJ3⟩
                  case measure => simp [intOf]; omega
            · have HP := hide (rj_push HXS.out HC.out HD.out (HI.out.1 c HC.out) (s := s) (fun h => hsl2 h.2.2.symm) HNO.out)
              have hdd : decide (s = last) = false := decide_eq_false hsl2
              have HDD := hide hdd
              clear hdd hsl2
              go_wp2_with (first
                | (go_at_call 92; refine HCAN.out.mono ?_; rintro e w3 ⟨vs, rfl, os, hb3⟩; obtain ⟨As, cs, hvs⟩ := own_form os; subst hvs; have HJL3 := hide (HJA.out.below hb3); have HOS := hide (own_base os hwsz); clear os hb3)
                | (go_at_call 93; refine (HSM.out _ _ HJL3.out HOS.out).mono ?_; rintro e w4 ⟨rfl, hb4⟩; rw [HDD.out]; have HJS := hide ((HJL3.out.below hb4).last (own_below HOS.out hb4)); clear hb4))
              go_wp2
              go_loopw [9, 17] (fun v q wr => ∃ m : Nat, m ≤ s.length ∧ q = .int .i64 m ∧ ∃ Ao no co, v = .slice Ao no co ∧ Hid (no = (flat S ++ (s.take m).map (fun p : Sp => (⟨c, p.1, d, p.2⟩ : R4))).length) ∧ Hid (RJ w (.slice (some ⟨gx, 0, none⟩) xs.length cx) (.slice Ay ys.length cy) v (.slice As s.length cs) xs ys (flat S ++ (s.take m).map (fun p : Sp => (⟨c, p.1, d, p.2⟩ : R4))) s wr)) (fun _ q _ => s.length - (intOf q).toNat)
              case atStart => exact ⟨0, Nat.zero_le _, rfl, Ao, no, co, rfl, hide (by rw [List.take_zero, List.map_nil, List.append_nil]; exact HNO.out), hide (by rw [List.take_zero, List.map_nil, List.append_nil]; exact HJS.out)⟩
              case round =>
                clear HJS
                have HNO0 := HNO
                obtain ⟨m, hm, rfl, Ao, no1, co, rfl, HNO, HJ⟩ := hrel
                by_cases hlt : m < s.length
                · have hmz : (m : Int) < (s.length : Int) := by omega
                  obtain ⟨g2, cap2, hvs, hB2, hg2⟩ := HJ.out.l.form (by omega)
                  injection hvs with e1 _ e3
                  subst e1; subst e3
                  obtain ⟨⟨p1, p2⟩, hp⟩ : ∃ p, s[m]? = some p := ⟨_, List.getElem?_eq_getElem hlt⟩
                  have x0 : wr.cell? ⟨g2, m * 2, none⟩ = some (.int .i64 p1) := by
                    have := (HJ.out.l.cells (g := g2) rfl) _ _ (flat_get (k := 2) (fun _ => rfl) _ m _ 0 _ hp rfl)
                    rwa [addr_add] at this
                  have x1 : wr.cell? ⟨g2, m * 2 + 1, none⟩ = some (.int .i64 p2) := by
                    have := (HJ.out.l.cells (g := g2) rfl) _ _ (flat_get (k := 2) (fun _ => rfl) _ m _ 1 _ hp rfl)
                    rwa [addr_add] at this
                  obtain ⟨y0, y1⟩ := HJ.out.xcells HC.out HD.out
                  have HT : Hid (flat S ++ (s.take (m + 1)).map (fun p : Sp => (⟨c, p.1, d, p.2⟩ : R4)) = (flat S ++ (s.take m).map (fun p : Sp => (⟨c, p.1, d, p.2⟩ : R4))) ++ [⟨c, p1, d, p2⟩]) := hide (by
                    obtain ⟨hk, hpe⟩ := List.getElem?_eq_some_iff.1 hp
                    rw [List.take_succ_eq_append_getElem hk, List.map_append, hpe, ← List.append_assoc]; rfl)
                  have hno : no1 ≤ 200020000 := by
                    have := HNO.out
                    rw [List.length_append, List.length_map, List.length_take] at this
                    omega
                  have HPP := hide hp
                  clear hp
                  generalize flat S ++ (s.take m).map (fun p : Sp => (⟨c, p.1, d, p.2⟩ : R4)) = L at *
                  go_wp2
                  have r1 : IntKind.i64.wrap ((i : Int) + 1) = (i : Int) + 1 := by simp [IntKind.wrap, IntKind.bits, IntKind.signed]; omega
                  have r2 : (0 : Int) ≤ (i : Int) + 1 := by omega
                  have r4 : ((i : Int) + 1).toNat = i + 1 := by omega
                  have r6 : (0 : Int) ≤ (i : Int) := by omega
                  have r7 : (0 : Int) ≤ (m : Int) := by omega
                  have hsz := HJ.out.low.size
                  have hgxw : gx < wr.heap.size := (HJ.out.x.lt gx rfl).2
                  refine wp_region_mix [0, 1, 2, 3, 4, 5, 6, 7, 8, 9, 10, 11, 12, 13, 14, 15, 16, 17, 18, 19, 20] [21, 22, 23] (fun w' => (w'.cell? ⟨g2, m * 2, none⟩ = some (.int .i64 p1) ∧ w'.cell? ⟨g2, m * 2 + 1, none⟩ = some (.int .i64 p2)) ∧ w'.cell? ⟨gx, i, none⟩ = some (.int .i64 c) ∧ w'.cell? ⟨gx, i + 1, none⟩ = some (.int .i64 d)) (by kernel_rfl) (by kernel_rfl) ⟨⟨x0, x1⟩, y0, y1⟩ ?_
                  simp only [List.map_cons, List.map_nil, opAt, List.getElem?_cons_succ, List.getElem?_cons_zero, Option.getD_some]
                  iterate 21
                    refine ⟨?_, Or.inl ⟨by rfl, ?_⟩, ?_⟩
                    rotate_left 1
                    · intro w' hSw
                      obtain ⟨⟨z1, z2⟩, z3, z4⟩ := hSw
                      go_simp
                      first | done | with_reducible rfl
                    simp only [Act.put, List.setIfInBounds_toArray, List.set_cons_zero, List.set_cons_succ]
                  clear r1 r2 r4 r6 r7
                  simp only [wpReads]
                  intro K hK
                  go_simp
                  refine hK _ _ (fun _ => ⟨⟨by go_keep, by go_keep⟩, by go_keep, by go_keep⟩) ?_
                  clear hK K
                  intro K hK
                  refine step_append_lies _ rfl (.tmp 97) (.tmp 118) 27 rfl w.heap.size 65 i1 (.agg #[.int .i64 0, .int .i64 0, .int .i64 0, .int .i64 0]) 4 32 Tryz.underlying27 gi gz0 gz1 gz2 rfl (by decide) _ no1 _ rfl (own_drew (World.ownsRow.alloc (w := wr) (own_n HJ.out.o HNO.out.symm) _)) ⟨wr.heap.size, 0, none⟩ 1 1 [.int .i64 c, .int .i64 p1, .int .i64 d, .int .i64 p2] rfl rfl (news_drew wr _ _ _ rfl) (ints_one rfl) (by omega) (by unfold maxLen; omega) (by omega) (by simp; omega) _ rfl ?_
                  intro g9 cap9 w9 hown9 hgrow9 _ _
                  have hx9 : L.flatMap encR ++ [.int .i64 c, .int .i64 p1, .int .i64 d, .int .i64 p2] = (L ++ [(⟨c, p1, d, p2⟩ : R4)]).flatMap encR := by simp [encR]
                  rw [hx9, ← HT.out] at hown9
                  have hj9 := (HJ.out.below ((Below.refl _ _).alloc (Nat.le_refl _) _).drew).pushed hgrow9 hown9
                  have hc9 := hj9.xcells HC.out HD.out
                  have hs0 : w9.cell? ⟨g2, m * 2, none⟩ = some (.int .i64 p1) := by
                    have := (hj9.l.cells (g := g2) rfl) _ _ (flat_get (k := 2) (fun _ => rfl) _ m _ 0 _ HPP.out rfl)
                    rwa [addr_add] at this
                  have hs1 : w9.cell? ⟨g2, m * 2 + 1, none⟩ = some (.int .i64 p2) := by
                    have := (hj9.l.cells (g := g2) rfl) _ _ (flat_get (k := 2) (fun _ => rfl) _ m _ 1 _ HPP.out rfl)
                    rwa [addr_add] at this
                  have HJ9 := hide hj9
                  have HN9 := hide (own_len (k := 4) hown9 (fun _ => rfl) (by omega))
                  clear hown9 hgrow9 hx9 hj9
                  refine hK _ _ (fun _ => ⟨⟨hs0, hs1⟩, hc9⟩) ?_
                  clear hK K
                  intro K hK
                  simp only [Act.put, List.setIfInBounds_toArray, List.set_cons_zero, List.set_cons_succ] at hK ⊢
                  go_simp
                  refine hK _ _ (fun h => absurd rfl h) ?_
                  clear hK K
                  refine NoPanic.normal ?_
                  go_wp2
                  go_roundw
                  case rel => exact ⟨m + 1, by omega, by go_num, _, _, cap9, rfl, HN9, HJ9⟩
                  case measure => simp [intOf]; omega
                · obtain rfl : m = s.length := by omega
                  have hmz : ¬ (s.length : Int) < (s.length : Int) := by omega
                  rw [List.take_length, ← HP.out.1] at HNO HJ
                  go_wp2
                  go_roundw
                  case rel => exact ⟨i + 1, by omega, by go_num, Ao, no1, co, rfl, As, s.length, cs, rfl, _, s, no, hide rfl, HNO, rfl, HSW, hide ⟨HP.out.2.1, HP.out.2.2, fun h => by omega⟩, HJ⟩
                  case measure => simp [intOf]; omega
    · have mz : ¬ (i : Int) + 1 < (xs.length : Int) := by omega
      have hib : (i : Int) + 1 ≤ 100000 := by omega
      have ht : (prs xs).take i = prs xs := List.take_of_length_le (by have := prs_len xs; omega)
      rw [ht] at HSS
      clear ht
      go_wp2
      go_ret
      exact ⟨_, rfl, by rw [HSS.out]; exact HJ.out.o, HJ.out.low⟩
theorem rJoined_any (kd : Int) (hkd : kd = 1 ∨ kd = 2 ∨ kd = 3) {w : World} {va vb : Value} {a b : List R4} {B : Nat} (ha : RdK encR 4 w B va a) (hb : RdK encR 4 w B vb b) (hB : B ≤ w.heap.size) (la : a.length ≤ 2500) (lb : b.length ≤ 2500) :
    Calls Tryz.prog 55 #[.int .i64 kd, va, vb] w fun e w' => ∃ vo, e = .returned vo ∧ w'.ownsRow w.heap.size 65 4 vo (flat (swp (refG (hk kd) a b (srt (cutsY a ++ cutsY b))) (prs (srt (cutsL a ++ cutsL b))))).length ((flat (swp (refG (hk kd) a b (srt (cutsY a ++ cutsY b))) (prs (srt (cutsL a ++ cutsL b))))).flatMap encR) ∧ Below w.heap.size w w' :=
  rJoinedC_any kd hkd ha hb hB (by omega) (by omega)
    (by have := srt_len (cutsL a ++ cutsL b); rw [List.length_append, cutsL_len, cutsL_len] at this; omega)
    (by have := srt_len (cutsY a ++ cutsY b); rw [List.length_append, cutsY_len, cutsY_len] at this; omega)
end Go.Proofs.YtmnhlcbmoibahaaGreat

/- The reference's SameRects: two lists are one. -/
namespace Go.Proofs.YtmnhlcbmoibahaaGreat
open Go.RowKit
set_option linter.unusedVariables false
set_option linter.unusedSimpArgs false

set_option maxHeartbeats 4000000 in
theorem rSameRects_any {w : World} {vs vt : Value} {s t : List R4} {B C : Nat} (hs : RdK encR 4 w B vs s) (ht : RdK encR 4 w C vt t) (ns : s.length ≤ 100000000) (hB : B ≤ w.heap.size) (hC : C ≤ w.heap.size) :
    Calls Tryz.prog 20 #[vs, vt] w fun e w' => e = .returned (.bool (decide (s = t))) ∧ Below w.heap.size w w' := by
  obtain ⟨A1, c1, rfl, h1⟩ := hs
  obtain ⟨A2, c2, rfl, h2⟩ := ht
  have g : Tryz.prog.eqGuardType Tryz.prog.depth 65 = false := by kernel_rfl
  have H1 := hide h1
  have H2 := hide h2
  clear h1 h2
  go_enter Tryz.func20, Tryz.ntmps20
  by_cases hl : s.length = t.length
  · have hne : ((s.length : Int) != (t.length : Int)) = false := by rw [hl]; simp
    have HL := hide hl
    clear hl
    go_wp2
    go_loopw [5] (fun i wr => ∃ k : Nat, k ≤ s.length ∧ i = .int .i64 k ∧ Hid (s.take k = t.take k) ∧ Below w.heap.size w wr) (fun i _ => s.length - (intOf i).toNat)
    case atStart => exact ⟨0, Nat.zero_le _, rfl, hide rfl, Below.refl _ _⟩
    case round =>
      obtain ⟨k, hk, rfl, HT, hb⟩ := hrel
      by_cases hlt : k < s.length
      · obtain ⟨⟨a0, a1, a2, a3⟩, hp⟩ : ∃ p, s[k]? = some p := ⟨_, List.getElem?_eq_getElem hlt⟩
        have hlt2 : k < t.length := by rw [← HL.out]; exact hlt
        obtain ⟨⟨b0, b1, b2, b3⟩, hq⟩ : ∃ p, t[k]? = some p := ⟨_, List.getElem?_eq_getElem hlt2⟩
        obtain ⟨p1, o1, rfl, hp1, k1⟩ := H1.out (by intro e; rw [e] at hlt; simp at hlt)
        obtain ⟨p2, o2, rfl, hp2, k2⟩ := H2.out (by intro e; rw [e] at hlt2; simp at hlt2)
        have x0 : wr.cell? ⟨p1, o1 + k * 4, none⟩ = some (.int .i64 a0) := (hb.cell (p := ⟨p1, _, none⟩) (by show p1 < _; omega)).trans (k1 k _ hp 0 _ rfl)
        have y0 : wr.cell? ⟨p2, o2 + k * 4, none⟩ = some (.int .i64 b0) := (hb.cell (p := ⟨p2, _, none⟩) (by show p2 < _; omega)).trans (k2 k _ hq 0 _ rfl)
        have x1 : wr.cell? ⟨p1, o1 + k * 4 + 1, none⟩ = some (.int .i64 a1) := (hb.cell (p := ⟨p1, _, none⟩) (by show p1 < _; omega)).trans (k1 k _ hp 1 _ rfl)
        have y1 : wr.cell? ⟨p2, o2 + k * 4 + 1, none⟩ = some (.int .i64 b1) := (hb.cell (p := ⟨p2, _, none⟩) (by show p2 < _; omega)).trans (k2 k _ hq 1 _ rfl)
        have x2 : wr.cell? ⟨p1, o1 + k * 4 + 2, none⟩ = some (.int .i64 a2) := (hb.cell (p := ⟨p1, _, none⟩) (by show p1 < _; omega)).trans (k1 k _ hp 2 _ rfl)
        have y2 : wr.cell? ⟨p2, o2 + k * 4 + 2, none⟩ = some (.int .i64 b2) := (hb.cell (p := ⟨p2, _, none⟩) (by show p2 < _; omega)).trans (k2 k _ hq 2 _ rfl)
        have x3 : wr.cell? ⟨p1, o1 + k * 4 + 3, none⟩ = some (.int .i64 a3) := (hb.cell (p := ⟨p1, _, none⟩) (by show p1 < _; omega)).trans (k1 k _ hp 3 _ rfl)
        have y3 : wr.cell? ⟨p2, o2 + k * 4 + 3, none⟩ = some (.int .i64 b3) := (hb.cell (p := ⟨p2, _, none⟩) (by show p2 < _; omega)).trans (k2 k _ hq 3 _ rfl)
        have z1 : (k : Int) < (s.length : Int) := by omega
        have z2 : (k : Int) < (t.length : Int) := by omega
        have HP := hide hp
        have HQ := hide hq
        clear hp hq k1 k2
        by_cases e0 : a0 = b0
        rotate_left 1
        · have hd : decide (s = t) = false := decide_eq_false fun e => by
            subst e
            have := HP.out.symm.trans HQ.out
            simp only [Option.some.injEq, R4.mk.injEq] at this
            omega
          have HD := hide hd
          clear hd
          go_wp2
          go_region
          go_wp2
          go_ret
          exact ⟨ret_eq (bool_eq HD.out.symm), hb.drew⟩
        by_cases e1 : a1 = b1
        rotate_left 1
        · have hd : decide (s = t) = false := decide_eq_false fun e => by
            subst e
            have := HP.out.symm.trans HQ.out
            simp only [Option.some.injEq, R4.mk.injEq] at this
            omega
          have HD := hide hd
          clear hd
          subst e0
          go_wp2
          go_region
          go_wp2
          go_ret
          exact ⟨ret_eq (bool_eq HD.out.symm), hb.drew⟩
        by_cases e2 : a2 = b2
        rotate_left 1
        · have hd : decide (s = t) = false := decide_eq_false fun e => by
            subst e
            have := HP.out.symm.trans HQ.out
            simp only [Option.some.injEq, R4.mk.injEq] at this
            omega
          have HD := hide hd
          clear hd
          subst e0
          subst e1
          go_wp2
          go_region
          go_wp2
          go_ret
          exact ⟨ret_eq (bool_eq HD.out.symm), hb.drew⟩
        by_cases e3 : a3 = b3
        rotate_left 1
        · have hd : decide (s = t) = false := decide_eq_false fun e => by
            subst e
            have := HP.out.symm.trans HQ.out
            simp only [Option.some.injEq, R4.mk.injEq] at this
            omega
          have HD := hide hd
          clear hd
          subst e0
          subst e1
          subst e2
          go_wp2
          go_region
          go_wp2
          go_ret
          exact ⟨ret_eq (bool_eq HD.out.symm), hb.drew⟩
        subst e0
        subst e1
        subst e2
        subst e3
        go_wp2
        go_region
        go_wp2
        go_roundw
        case rel =>
          refine ⟨k + 1, by omega, by go_num, hide ?_, hb.drew⟩
          obtain ⟨i1, e1⟩ := List.getElem?_eq_some_iff.1 HP.out
          obtain ⟨i2, e2⟩ := List.getElem?_eq_some_iff.1 HQ.out
          rw [List.take_succ_eq_append_getElem i1, List.take_succ_eq_append_getElem i2, HT.out, e1, e2]
        case measure => simp [intOf]; omega
      · have hlz : ¬ (k : Int) < (s.length : Int) := by omega
        have hd : decide (s = t) = true := decide_eq_true (by
          have := HT.out
          rw [List.take_of_length_le (by omega), List.take_of_length_le (by rw [← HL.out]; omega)] at this
          exact this)
        have HD := hide hd
        clear hd
        go_wp2
        go_ret
        exact ⟨ret_eq (bool_eq HD.out.symm), hb⟩
  · have hne : ((s.length : Int) != (t.length : Int)) = true := by simp; omega
    have hd : decide (s = t) = false := decide_eq_false fun e => hl (by rw [e])
    rw [hd]
    clear hl hd
    go_wp2
    go_ret
    exact ⟨rfl, Below.refl _ _⟩
end Go.Proofs.YtmnhlcbmoibahaaGreat

/- The reference's Check, Make, Area. -/
namespace Go.Proofs.YtmnhlcbmoibahaaGreat
open Go.RowKit
set_option linter.unusedVariables false
set_option linter.unusedSimpArgs false

theorem rjoin_or {l : List R4} (h : ∀ r ∈ l, wf4 r) : rjoin (hk 2) l [] = rjoin hFst l [] := by
  obtain ⟨h1, h2⟩ := rjoin_ok (h := hk 2) rfl h (b := []) (by simp)
  refine rjoin_eq rfl h (by simp) h1 fun x y => ?_
  rw [h2]
  have : decide (pmem ([] : List R4) x y) = false := decide_eq_false pmem_nil
  rw [this]
  simp [hk, hFst]
theorem isortI_len : ∀ (l : List Int), (isortI l).length ≤ l.length
  | [] => Nat.le_refl _
  | c :: l => by
    have h1 := insI_len c (isortI l)
    have h2 := isortI_len l
    simp only [isortI, List.length_cons]
    omega
theorem rjoin_len (l : List R4) (hl : l.length ≤ 400) : (rjoin hFst l []).length ≤ 100000000 := by
  have h1 := swp_len (fun c => sjoin hFst (crossL l c) (crossL [] c)) 1000 (fun c => by
    have h1 := sjoin_len hFst (crossL l c) (crossL [] c)
    have h2 := crossL_len l c
    have h3 : (crossL [] c).length = 0 := rfl
    omega) (prs (isortI (cutsL l ++ cutsL [])))
  rw [swp_sweep] at h1
  have h2 := prs_len (isortI (cutsL l ++ cutsL []))
  have h3 := isortI_len (cutsL l ++ cutsL [])
  rw [List.length_append, cutsL_len, cutsL_len] at h3
  simp only [List.length_nil] at h3
  unfold rjoin
  have h4 : (prs (isortI (cutsL l ++ cutsL []))).length ≤ 1000 := by omega
  have h5 := Nat.mul_le_mul_right 1000 h4
  omega
theorem makeF_len (l : List R4) : (makeF l).1.length ≤ 400 := by
  unfold makeF
  split
  · simp
  · split
    · simp
    · unfold madeF
      split
      · simp
      · simp only; omega
theorem checkF_valid {l : List R4} (h4 : ¬ 400 < l.length) (ha : l.any (fun r => !decide (valid4 r)) = false) : checkF l = if rjoin hFst l [] = l then 0 else 8 := by
  unfold checkF
  rw [if_neg h4, ha]
  simp only [Bool.false_eq_true, if_false]
  unfold madeF
  by_cases hr : rjoin hFst l [] = l
  · rw [hr, if_neg h4, if_pos rfl, if_pos ⟨rfl, rfl⟩]
  · rw [if_neg hr]
    by_cases h5 : 400 < (rjoin hFst l []).length
    · rw [if_pos h5, if_neg (by simp)]
    · rw [if_neg h5, if_neg (fun h => hr h.2)]

set_option maxRecDepth 100000 in
set_option maxHeartbeats 2000000 in
theorem rCheck_any {w : World} {v : Value} {l : List R4} (hr : RdK encR 4 w w.heap.size v l) (hl : l.length ≤ 100000000) :
    Calls Tryz.prog 22 #[v] w fun e w' => e = .returned (.int .i64 (checkF l)) ∧ Below w.heap.size w w' := by
  obtain ⟨A, c, hv, hc⟩ := id hr
  subst hv
  have HR := hide hr
  have HRC := hide hc
  clear hr hc
  by_cases h4 : 400 < l.length
  · have hz : (400 : Int) < (l.length : Int) := by omega
    have hm : checkF l = 4 := if_pos h4
    have HM := hide hm
    clear hm
    go_enter Tryz.func22, Tryz.ntmps22
    go_wp2
    go_ret
    exact ⟨ret_eq (int_eq HM.out.symm), Below.refl _ _⟩
  · have hz : (l.length : Int) ≤ 400 := by omega
    have hck : ∀ ha : l.any (fun r => !decide (valid4 r)) = false, checkF l = if rjoin hFst l [] = l then 0 else 8 := checkF_valid h4
    have hck8 : ∀ ha : l.any (fun r => !decide (valid4 r)) = true, checkF l = 8 := fun ha => by unfold checkF; rw [if_neg h4, ha]; rfl
    have HCK := hide hck
    have HCK8 := hide hck8
    clear hck hck8
    go_enter Tryz.func22, Tryz.ntmps22
    go_wp2
    go_loopw [3] (fun i wr => ∃ m : Nat, m ≤ l.length ∧ i = .int .i64 m ∧ Hid (∀ r ∈ l.take m, valid4 r) ∧ Hid (Below w.heap.size w wr)) (fun i _ => l.length - (intOf i).toNat)
    case atStart => exact ⟨0, Nat.zero_le _, rfl, hide (by simp), hide (Below.refl _ _)⟩
    case round =>
      obtain ⟨m, hm, rfl, HV, HB⟩ := hrel
      by_cases hlt : m < l.length
      · obtain ⟨⟨x0, y0, x1, y1⟩, hp⟩ : ∃ p, l[m]? = some p := ⟨_, List.getElem?_eq_getElem hlt⟩
        obtain ⟨b, o, rfl, hbl, k⟩ := HRC.out (by intro e; rw [e] at hlt; simp at hlt)
        have d0 : wr.cell? ⟨b, o + m * 4, none⟩ = some (.int .i64 x0) := (HB.out.cell (p := ⟨b, _, none⟩) hbl).trans (k m _ hp 0 _ rfl)
        have d1 : wr.cell? ⟨b, o + m * 4 + 1, none⟩ = some (.int .i64 y0) := (HB.out.cell (p := ⟨b, _, none⟩) hbl).trans (k m _ hp 1 _ rfl)
        have d2 : wr.cell? ⟨b, o + m * 4 + 2, none⟩ = some (.int .i64 x1) := (HB.out.cell (p := ⟨b, _, none⟩) hbl).trans (k m _ hp 2 _ rfl)
        have d3 : wr.cell? ⟨b, o + m * 4 + 3, none⟩ = some (.int .i64 y1) := (HB.out.cell (p := ⟨b, _, none⟩) hbl).trans (k m _ hp 3 _ rfl)
        have mz : (m : Int) < (l.length : Int) := by omega
        have hva := rValid_any ⟨x0, y0, x1, y1⟩ wr
        have HP := hide hp
        simp only [encR] at hva
        have HVA := hide hva
        have hp' := hp
        clear k hp hva
        cases hq : decide (valid4 ⟨x0, y0, x1, y1⟩) with
        | true =>
          have HQ := hide hq
          rw [hq] at HVA
          clear hq hp'
          go_wp2_with (go_at_call 54; refine HVA.out.mono ?_; rintro e w2 ⟨rfl, hb2⟩)
          go_roundw
          case rel =>
            refine ⟨m + 1, by omega, by go_num, hide ?_, hide (HB.out.trans (hb2.mono HB.out.size))⟩
            obtain ⟨i1, e1⟩ := List.getElem?_eq_some_iff.1 HP.out
            intro r hr
            rw [List.take_succ_eq_append_getElem i1, List.mem_append] at hr
            rcases hr with hr | hr
            · exact HV.out r hr
            · rw [List.mem_singleton] at hr
              subst hr
              rw [e1]
              exact of_decide_eq_true HQ.out
          case measure => simp [intOf]; omega
        | false =>
          have hany : l.any (fun r => !decide (valid4 r)) = true := List.any_eq_true.2 ⟨_, List.mem_of_getElem? hp', by rw [hq]; rfl⟩
          have HAN := hide hany
          rw [hq] at HVA
          clear hq hany hp'
          go_wp2_with (go_at_call 54; refine HVA.out.mono ?_; rintro e w2 ⟨rfl, hb2⟩)
          go_ret
          exact ⟨ret_eq (int_eq (HCK8.out HAN.out).symm), HB.out.trans (hb2.mono HB.out.size)⟩
      · have mz : ¬ (m : Int) < (l.length : Int) := by omega
        have hva : ∀ r ∈ l, valid4 r := by have := HV.out; rwa [List.take_of_length_le (by omega)] at this
        have hany : l.any (fun r => !decide (valid4 r)) = false := by
          rw [List.any_eq_false]
          intro r hr
          simp [hva r hr]
        have HAN := hide hany
        have HW := hide (fun (r : R4) (h : r ∈ l) => (show wf4 r from ⟨(hva r h).1, (hva r h).2.1⟩))
        have hjo := rJoined_any 2 (.inr (.inl rfl)) (w := wr) (HR.out.below HB.out) (RdK.nil (α := R4) none 0) HB.out.size (by omega) (by simp)
        rw [ref_join (h := hk 2) rfl HW.out (by simp), rjoin_or HW.out] at hjo
        have hsz := HB.out.size
        have HJO := hide hjo
        clear hjo hany hva
        have HRL := hide (rjoin_len l (by omega))
        generalize rjoin hFst l [] = R at *
        have heq : ∀ (W : World) (vs : Value), Below w.heap.size w W → W.ownsRow wr.heap.size 65 4 vs R.length (R.flatMap encR) → _ := fun W vs h1 h2 => rSameRects_any (w := W) (own_rd h2 (fun _ => rfl)) ((HR.out.below h1).mono h1.size) HRL.out (Nat.le_refl _) (Nat.le_refl _)
        have HEQ := hide heq
        clear heq
        cases hd : decide (R = l) with
        | true =>
          have HD := hide hd
          clear hd
          go_wp2_with (first
            | (go_at_call 55; refine HJO.out.mono ?_; rintro e w2 ⟨vo, rfl, ho, hb2⟩; have HO := hide ho; have HB2 := hide hb2; clear ho hb2)
            | (go_at_call 20; refine (HEQ.out _ _ (HB.out.trans (HB2.out.mono hsz)) HO.out).mono ?_; rintro e w3 ⟨rfl, hb3⟩; rw [HD.out]))
          go_ret
          exact ⟨ret_eq (int_eq (by rw [HCK.out HAN.out, if_pos (of_decide_eq_true HD.out)])), (HB.out.trans (HB2.out.mono hsz)).trans (hb3.mono (Nat.le_trans hsz HB2.out.size))⟩
        | false =>
          have HD := hide hd
          clear hd
          go_wp2_with (first
            | (go_at_call 55; refine HJO.out.mono ?_; rintro e w2 ⟨vo, rfl, ho, hb2⟩; have HO := hide ho; have HB2 := hide hb2; clear ho hb2)
            | (go_at_call 20; refine (HEQ.out _ _ (HB.out.trans (HB2.out.mono hsz)) HO.out).mono ?_; rintro e w3 ⟨rfl, hb3⟩; rw [HD.out]))
          go_ret
          exact ⟨ret_eq (int_eq (by rw [HCK.out HAN.out, if_neg (of_decide_eq_false HD.out)])), (HB.out.trans (HB2.out.mono hsz)).trans (hb3.mono (Nat.le_trans hsz HB2.out.size))⟩

set_option maxRecDepth 100000 in
set_option maxHeartbeats 2000000 in
theorem rMake_any {w : World} {v : Value} {l : List R4} (hr : RdK encR 4 w w.heap.size v l) (hl : l.length ≤ 100000000) :
    Calls Tryz.prog 47 #[v] w fun e w' => RegRet w.heap.size (makeF l) e w' ∧ Below w.heap.size w w' := by
  obtain ⟨A, c, hv, hc⟩ := id hr
  subst hv
  have HR := hide hr
  have HRC := hide hc
  clear hr hc
  by_cases h4 : 400 < l.length
  · have hz : (400 : Int) < (l.length : Int) := by omega
    have hm : makeF l = ([], 4) := if_pos h4
    have HM := hide hm
    clear hm
    go_enter Tryz.func47, Tryz.ntmps47
    go_wp2
    go_ret2
    exact ⟨⟨none, 0, by rw [HM.out]; rfl, by rw [HM.out]; exact World.ownsRow_nil _ _ _ _⟩, Below.refl _ _⟩
  · have hz : (l.length : Int) ≤ 400 := by omega
    have hck : ∀ ha : l.any (fun r => !decide (valid4 r)) = false, makeF l = if 400 < (rjoin hFst l []).length then ([], 4) else (rjoin hFst l [], 0) := fun ha => by unfold makeF madeF; rw [if_neg h4, ha]; rfl
    have hck8 : ∀ ha : l.any (fun r => !decide (valid4 r)) = true, makeF l = ([], 8) := fun ha => by unfold makeF; rw [if_neg h4, ha]; rfl
    have HCK := hide hck
    have HCK8 := hide hck8
    clear hck hck8
    go_enter Tryz.func47, Tryz.ntmps47
    go_wp2
    go_loopw [4] (fun i wr => ∃ m : Nat, m ≤ l.length ∧ i = .int .i64 m ∧ Hid (∀ r ∈ l.take m, valid4 r) ∧ Hid (Below w.heap.size w wr)) (fun i _ => l.length - (intOf i).toNat)
    case atStart => exact ⟨0, Nat.zero_le _, rfl, hide (by simp), hide (Below.refl _ _)⟩
    case round =>
      obtain ⟨m, hm, rfl, HV, HB⟩ := hrel
      by_cases hlt : m < l.length
      · obtain ⟨⟨x0, y0, x1, y1⟩, hp⟩ : ∃ p, l[m]? = some p := ⟨_, List.getElem?_eq_getElem hlt⟩
        obtain ⟨b, o, rfl, hbl, k⟩ := HRC.out (by intro e; rw [e] at hlt; simp at hlt)
        have d0 : wr.cell? ⟨b, o + m * 4, none⟩ = some (.int .i64 x0) := (HB.out.cell (p := ⟨b, _, none⟩) hbl).trans (k m _ hp 0 _ rfl)
        have d1 : wr.cell? ⟨b, o + m * 4 + 1, none⟩ = some (.int .i64 y0) := (HB.out.cell (p := ⟨b, _, none⟩) hbl).trans (k m _ hp 1 _ rfl)
        have d2 : wr.cell? ⟨b, o + m * 4 + 2, none⟩ = some (.int .i64 x1) := (HB.out.cell (p := ⟨b, _, none⟩) hbl).trans (k m _ hp 2 _ rfl)
        have d3 : wr.cell? ⟨b, o + m * 4 + 3, none⟩ = some (.int .i64 y1) := (HB.out.cell (p := ⟨b, _, none⟩) hbl).trans (k m _ hp 3 _ rfl)
        have mz : (m : Int) < (l.length : Int) := by omega
        have hva := rValid_any ⟨x0, y0, x1, y1⟩ wr
        have HP := hide hp
        simp only [encR] at hva
        have HVA := hide hva
        have hp' := hp
        clear k hp hva
        cases hq : decide (valid4 ⟨x0, y0, x1, y1⟩) with
        | true =>
          have HQ := hide hq
          rw [hq] at HVA
          clear hq hp'
          go_wp2_with (go_at_call 54; refine HVA.out.mono ?_; rintro e w2 ⟨rfl, hb2⟩)
          go_roundw
          case rel =>
            refine ⟨m + 1, by omega, by go_num, hide ?_, hide (HB.out.trans (hb2.mono HB.out.size))⟩
            obtain ⟨i1, e1⟩ := List.getElem?_eq_some_iff.1 HP.out
            intro r hr
            rw [List.take_succ_eq_append_getElem i1, List.mem_append] at hr
            rcases hr with hr | hr
            · exact HV.out r hr
            · rw [List.mem_singleton] at hr
              subst hr
              rw [e1]
              exact of_decide_eq_true HQ.out
          case measure => simp [intOf]; omega
        | false =>
          have hany : l.any (fun r => !decide (valid4 r)) = true := List.any_eq_true.2 ⟨_, List.mem_of_getElem? hp', by rw [hq]; rfl⟩
          have HAN := hide hany
          rw [hq] at HVA
          clear hq hany hp'
          go_wp2_with (go_at_call 54; refine HVA.out.mono ?_; rintro e w2 ⟨rfl, hb2⟩)
          go_ret2
          exact ⟨⟨none, 0, by rw [HCK8.out HAN.out]; rfl, by rw [HCK8.out HAN.out]; exact World.ownsRow_nil _ _ _ _⟩, HB.out.trans (hb2.mono HB.out.size)⟩
      · have mz : ¬ (m : Int) < (l.length : Int) := by omega
        have hva : ∀ r ∈ l, valid4 r := by have := HV.out; rwa [List.take_of_length_le (by omega)] at this
        have hany : l.any (fun r => !decide (valid4 r)) = false := by
          rw [List.any_eq_false]
          intro r hr
          simp [hva r hr]
        have HAN := hide hany
        have HW := hide (fun (r : R4) (h : r ∈ l) => (show wf4 r from ⟨(hva r h).1, (hva r h).2.1⟩))
        have hjo := rJoined_any 2 (.inr (.inl rfl)) (w := wr) (HR.out.below HB.out) (RdK.nil (α := R4) none 0) HB.out.size (by omega) (by simp)
        rw [ref_join (h := hk 2) rfl HW.out (by simp), rjoin_or HW.out] at hjo
        have hsz := HB.out.size
        have HJO := hide hjo
        clear hjo hany hva
        have HRL := hide (rjoin_len l (by omega))
        generalize rjoin hFst l [] = R at *
        by_cases h5 : 400 < R.length
        · have h5z : (400 : Int) < (R.length : Int) := by omega
          have HM : Hid (makeF l = ([], 4)) := hide (by rw [HCK.out HAN.out, if_pos h5])
          go_wp2_with (first
            | (go_at_call 55; refine HJO.out.mono ?_; rintro e w2 ⟨vo, rfl, ho, hb2⟩; obtain ⟨Ao, co, hvo⟩ := own_form ho; subst hvo; have HO := hide ho; have HB2 := hide hb2; clear ho hb2))
          go_ret2
          exact ⟨⟨none, 0, by rw [HM.out]; rfl, by rw [HM.out]; exact World.ownsRow_nil _ _ _ _⟩, HB.out.trans (HB2.out.mono hsz)⟩
        · have h5z : (R.length : Int) ≤ 400 := by omega
          have HM : Hid (makeF l = (R, 0)) := hide (by rw [HCK.out HAN.out, if_neg h5])
          go_wp2_with (first
            | (go_at_call 55; refine HJO.out.mono ?_; rintro e w2 ⟨vo, rfl, ho, hb2⟩; obtain ⟨Ao, co, hvo⟩ := own_form ho; subst hvo; have HO := hide ho; have HB2 := hide hb2; clear ho hb2))
          go_ret2
          exact ⟨⟨Ao, co, by rw [HM.out]; rfl, by rw [HM.out]; exact own_base HO.out hsz⟩, HB.out.trans (HB2.out.mono hsz)⟩

end Go.Proofs.YtmnhlcbmoibahaaGreat

/- region.Cross, region.Move, region.Flip. -/
namespace Go.Proofs.YtmnhlcbmoibahaaGreat
open Go.RowKit
set_option linter.unusedVariables false
set_option linter.unusedSimpArgs false

/-- A list of spans and an error code come back. -/
def SpnRet (B : Nat) (x : List Sp × Int) (e : Ending) (w' : World) : Prop :=
  ∃ A c, e = .returned (.tuple #[.slice A x.1.length c, .int .i64 x.2]) ∧ w'.ownsRow B 143 2 (.slice A x.1.length c) x.1.length (x.1.flatMap encS)
def crossF (l : List R4) (x : Int) : List Sp × Int := if checkF l = 0 then (crossL l x, 0) else ([], checkF l)
def mv (x y : Int) (r : R4) : R4 := ⟨r.x0 + x, r.y0 + y, r.x1 + x, r.y1 + y⟩
def inMv (x : Int) : Prop := -2000000 ≤ x ∧ x ≤ 2000000
instance (x : Int) : Decidable (inMv x) := by unfold inMv; infer_instance
def moveF (l : List R4) (x y : Int) : List R4 × Int := if checkF l = 0 then (if l = [] ∨ (inMv x ∧ inMv y ∧ ∀ r ∈ l, valid4 (mv x y r)) then (l.map (mv x y), 0) else ([], 16)) else ([], checkF l)
def flip4 (r : R4) : R4 := ⟨r.y0, r.x0, r.y1, r.x1⟩
def flipF (l : List R4) : List R4 × Int := if checkF l = 0 then madeF (l.map flip4) else ([], checkF l)
theorem map_take {α β : Type} (f : α → β) {l : List α} {m : Nat} {r : α} (h : l[m]? = some r) : (l.take (m + 1)).map f = (l.take m).map f ++ [f r] := by
  obtain ⟨hm, hp⟩ := List.getElem?_eq_some_iff.1 h
  rw [List.take_succ_eq_append_getElem hm, hp]
  simp
theorem flip_valid {r : R4} (h : valid4 r) : valid4 (flip4 r) := ⟨h.2.1, h.1, h.2.2.2.2.1, h.2.2.2.2.2, h.2.2.1, h.2.2.2.1⟩

end Go.Proofs.YtmnhlcbmoibahaaGreat

/- span.Check at a canonical set; span.checked; span.Union, Meet, Minus; region.both and the reference's Both and Join. -/
namespace Go.Proofs.YtmnhlcbmoibahaaGreat
open Go.RowKit
set_option linter.unusedVariables false
set_option linter.unusedSimpArgs false

set_option maxRecDepth 100000 in
set_option maxHeartbeats 2000000 in
theorem spCheck_can {w : World} {v : Value} {s : List Sp} (hr : RdK encS 2 w w.heap.size v s) (hl : s.length ≤ 400) (hc : SCan s) (hv : ∀ p ∈ s, validS p) :
    Calls Tryz.prog 132 #[v] w fun e w' => e = .returned (.int .i64 0) ∧ Below w.heap.size w w' := by
  obtain ⟨A, c, rfl, hrd⟩ := hr
  have HR := hide hrd
  have HC := hide hc
  have HV := hide hv
  have lz : (s.length : Int) ≤ 400 := by omega
  clear hrd hc hv
  go_enter Tryz.func132, Tryz.ntmps132
  go_wp2
  go_loopw [10] (fun i wr => ∃ m : Nat, m ≤ s.length ∧ i = .int .i64 m ∧ Hid (Below w.heap.size w wr)) (fun i _ => s.length - (intOf i).toNat)
  case atStart => exact ⟨0, Nat.zero_le _, rfl, hide (Below.refl _ _)⟩
  case round =>
    obtain ⟨m, hm, rfl, HB⟩ := hrel
    by_cases hlt : m < s.length
    · obtain ⟨⟨x, y⟩, hp⟩ : ∃ p, s[m]? = some p := ⟨_, List.getElem?_eq_getElem hlt⟩
      obtain ⟨b, o, rfl, hbl, k⟩ := HR.out (by intro e; rw [e] at hlt; simp at hlt)
      have d0 : wr.cell? ⟨b, o + m * 2, none⟩ = some (.int .i64 x) := (HB.out.cell (p := ⟨b, _, none⟩) hbl).trans (k m _ hp 0 _ rfl)
      have d1 : wr.cell? ⟨b, o + m * 2 + 1, none⟩ = some (.int .i64 y) := (HB.out.cell (p := ⟨b, _, none⟩) hbl).trans (k m _ hp 1 _ rfl)
      have mz : (m : Int) < (s.length : Int) := by omega
      have hsz := HB.out.size
      have hbw : b < wr.heap.size := by omega
      have HVA : Hid (∀ W, Calls Tryz.prog 148 #[.agg #[.int .i64 x, .int .i64 y]] W fun e w' => e = .returned (.bool true) ∧ Below W.heap.size W w') := hide (fun W => by
        have := validS_any (x, y) W
        rw [decide_eq_true (HV.out _ (List.mem_of_getElem? hp))] at this
        exact this)
      have HP := hide hp
      clear hp
      rcases Nat.eq_zero_or_pos m with rfl | hmp
      · clear k
        simp only [Nat.zero_mul, Nat.add_zero] at d0 d1
        rw [show ((0 : Nat) : Int) = 0 from rfl] at *
        go_wp2
        refine wp_hab fun hab => ?_
        refine wp_region_above (by kernel_rfl) (by kernel_rfl) ?_
        repeat (go_big_quiet_step ((go_at_call 148; exact above_of (HVA.out _))))
        refine wpQuiet_nil ?_
        refine above_ends fun w3 hb3 => ?_
        clear hab
        have HB3 := hide ((HB.out.alloc hsz _).trans (hb3.mono (by simp; omega)))
        clear hb3
        go_wp2
        go_roundw
        case rel => exact ⟨0 + 1, by omega, by go_num, HB3⟩
        case measure => simp [intOf]; omega
      · obtain ⟨j, rfl⟩ : ∃ j, m = j + 1 := ⟨m - 1, by omega⟩
        obtain ⟨⟨p, q⟩, hq⟩ : ∃ p, s[j]? = some p := ⟨_, List.getElem?_eq_getElem (by omega)⟩
        have d2 : wr.cell? ⟨b, o + j * 2 + 1, none⟩ = some (.int .i64 q) := (HB.out.cell (p := ⟨b, _, none⟩) hbl).trans (k j _ hq 1 _ rfl)
        have hqx : q < x := by
          obtain ⟨i1, e1⟩ := List.getElem?_eq_some_iff.1 hq
          obtain ⟨i2, e2⟩ := List.getElem?_eq_some_iff.1 HP.out
          have := List.pairwise_iff_getElem.1 HC.out.2 j (j + 1) i1 i2 (by omega)
          rw [e1, e2] at this
          exact this
        have hge : decide (x ≤ q) = false := decide_eq_false (by omega)
        have q1 : (0 : Int) < (j : Int) + 1 := by omega
        have q2 : (j : Int) < (s.length : Int) := by omega
        have q3 : IntKind.i64.wrap ((j : Int) + 1 - 1) = j := by simp [IntKind.wrap, IntKind.bits, IntKind.signed]; omega
        have q5 : IntKind.i64.wrap (j : Int) = j := by simp [IntKind.wrap, IntKind.bits, IntKind.signed]; omega
        have q4 : (0 : Int) ≤ (j : Int) := by omega
        have q6 : decide ((0 : Int) < (j : Int) + 1) = true := decide_eq_true q1
        clear k hq hmp
        rw [show ((j + 1 : Nat) : Int) = (j : Int) + 1 from rfl] at *
        go_wp2
        refine wp_hab fun hab => ?_
        refine wp_region_above (by kernel_rfl) (by kernel_rfl) ?_
        repeat (go_big_quiet_step ((go_at_call 148; exact above_of (HVA.out _))))
        refine wpQuiet_nil ?_
        refine above_ends fun w3 hb3 => ?_
        clear hab
        have HB3 := hide ((HB.out.alloc hsz _).trans (hb3.mono (by simp; omega)))
        clear hb3 q3 q5
        go_wp2
        go_roundw
        case rel => exact ⟨j + 1 + 1, by omega, by go_num, HB3⟩
        case measure => simp [intOf]; omega
    · have mz : ¬ (m : Int) < (s.length : Int) := by omega
      go_wp2
      go_ret
      exact ⟨rfl, HB.out⟩

/-- What span.checked returns for canonical sets. -/
def sjF (h : Bool → Bool → Bool) (a b : List Sp) : List Sp × Int := if 400 < (sjoin h a b).length then ([], 4) else (sjoin h a b, 0)
set_option maxHeartbeats 2000000 in
theorem checked_any (a b : List Sp) (va vb : Value) (w : World) (g : Nat) (h : Bool → Bool → Bool) (h0 : h false false = false) (eg : ∀ args w, (callFunc g args).run Tryz.prog w = .ok (.enter g args) w)
    (hg : ∀ (x y : Bool) (W : World), Calls Tryz.prog g #[.bool x, .bool y] W fun e w' => e = .returned (.bool (h x y)) ∧ W = w')
    (ra : RdK encS 2 w w.heap.size va a) (rb : RdK encS 2 w w.heap.size vb b) (na : a.length ≤ 400) (nb : b.length ≤ 400) (ca : SCan a) (cb : SCan b) (ba : ∀ p ∈ a, validS p) (bb : ∀ p ∈ b, validS p) :
    Calls Tryz.prog 100 #[va, vb, .func (.func g) #[] #[]] w fun e w' => SpnRet w.heap.size (sjF h a b) e w' ∧ Below w.heap.size w w' := by
  have hcA := spCheck_can ra na ca ba
  have hcB := fun (W : World) (hW : Below w.heap.size w W) => spCheck_can (w := W) ((rb.below hW).mono hW.size) nb cb bb
  have hj := fun (W : World) (hW : Below w.heap.size w W) => sjoin_any a b va vb W g h h0 eg hg ((ra.below hW).mono hW.size) ((rb.below hW).mono hW.size) (by omega) (by omega) ba bb
  obtain ⟨A1, c1, hva, _⟩ := ra
  obtain ⟨A2, c2, hvb, _⟩ := rb
  subst hva; subst hvb
  have HCA := hide hcA
  have HCB := hide hcB
  have HJ := hide hj
  have hsl := sjoin_len h a b
  have hF : sjF h a b = if 400 < (sjoin h a b).length then ([], 4) else (sjoin h a b, 0) := rfl
  have HF := hide hF
  clear hcA hcB hj ca cb ba bb hg hF
  generalize sjoin h a b = s at *
  by_cases h4 : 400 < s.length
  · have hz : (400 : Int) < (s.length : Int) := by omega
    have HF2 : Hid (sjF h a b = ([], 4)) := hide (by rw [HF.out, if_pos h4])
    go_enter Tryz.func100, Tryz.ntmps100
    go_wp2_with (fail)
    refine HCA.out.mono ?_
    rintro e w1 ⟨rfl, hb1⟩
    have HB1 := hide hb1
    clear hb1
    go_wp2_with (fail)
    refine (HCB.out _ HB1.out).mono ?_
    rintro e w2 ⟨rfl, hb2⟩
    have HB2 := hide (HB1.out.trans (hb2.mono HB1.out.size))
    clear hb2
    go_wp2_with (fail)
    refine (HJ.out _ HB2.out).mono ?_
    rintro e w3 ⟨A3, c3, rfl, ho3, hb3⟩
    have HO3 := hide ho3
    have HB3 := hide (HB2.out.trans (hb3.mono HB2.out.size))
    clear hb3 ho3
    go_wp2_with (fail)
    go_ret2
    exact ⟨⟨none, 0, by rw [HF2.out]; rfl, by rw [HF2.out]; exact World.ownsRow_nil _ _ _ _⟩, HB3.out⟩
  · have hz : (s.length : Int) ≤ 400 := by omega
    have HF2 : Hid (sjF h a b = (s, 0)) := hide (by rw [HF.out, if_neg h4])
    go_enter Tryz.func100, Tryz.ntmps100
    go_wp2_with (fail)
    refine HCA.out.mono ?_
    rintro e w1 ⟨rfl, hb1⟩
    have HB1 := hide hb1
    clear hb1
    go_wp2_with (fail)
    refine (HCB.out _ HB1.out).mono ?_
    rintro e w2 ⟨rfl, hb2⟩
    have HB2 := hide (HB1.out.trans (hb2.mono HB1.out.size))
    clear hb2
    go_wp2_with (fail)
    refine (HJ.out _ HB2.out).mono ?_
    rintro e w3 ⟨A3, c3, rfl, ho3, hb3⟩
    have HO3 := hide (own_base (base := w.heap.size) ho3 HB2.out.size)
    have HB3 := hide (HB2.out.trans (hb3.mono HB2.out.size))
    clear hb3 ho3
    go_wp2_with (fail)
    go_ret2
    exact ⟨⟨A3, c3, by rw [HF2.out]; rfl, by rw [HF2.out]; exact HO3.out⟩, HB3.out⟩

theorem clOr_any (x y : Bool) (W : World) : Calls Tryz.prog 102 #[.bool x, .bool y] W fun e w' => e = .returned (.bool (hOr x y)) ∧ W = w' := by
  cases x <;> cases y
  all_goals
    go_enter Tryz.func102, Tryz.ntmps102
    go_wp2
    go_ret
    exact ⟨rfl, rfl⟩
theorem clAnd_any (x y : Bool) (W : World) : Calls Tryz.prog 101 #[.bool x, .bool y] W fun e w' => e = .returned (.bool (hAnd x y)) ∧ W = w' := by
  cases x <;> cases y
  all_goals
    go_enter Tryz.func101, Tryz.ntmps101
    go_wp2
    go_ret
    exact ⟨rfl, rfl⟩
theorem clSub_any (x y : Bool) (W : World) : Calls Tryz.prog 103 #[.bool x, .bool y] W fun e w' => e = .returned (.bool (hSub x y)) ∧ W = w' := by
  cases x <;> cases y
  all_goals
    go_enter Tryz.func103, Tryz.ntmps103
    go_wp2
    go_ret
    exact ⟨rfl, rfl⟩
theorem enter_clOr : ∀ args w, (callFunc 102 args).run Tryz.prog w = .ok (.enter 102 args) w := enters_of Tryz.func102 (by kernel_rfl) rfl
theorem enter_clAnd : ∀ args w, (callFunc 101 args).run Tryz.prog w = .ok (.enter 101 args) w := enters_of Tryz.func101 (by kernel_rfl) rfl
theorem enter_clSub : ∀ args w, (callFunc 103 args).run Tryz.prog w = .ok (.enter 103 args) w := enters_of Tryz.func103 (by kernel_rfl) rfl
theorem enter_spOr : ∀ args w, (callFunc 60 args).run Tryz.prog w = .ok (.enter 60 args) w := enters_of Tryz.func60 (by kernel_rfl) rfl
theorem enter_spAnd : ∀ args w, (callFunc 59 args).run Tryz.prog w = .ok (.enter 59 args) w := enters_of Tryz.func59 (by kernel_rfl) rfl
theorem enter_spSub : ∀ args w, (callFunc 61 args).run Tryz.prog w = .ok (.enter 61 args) w := enters_of Tryz.func61 (by kernel_rfl) rfl
/-- The contract of a joining function: at canonical sets. -/
def SpJoin (f : Nat) (h : Bool → Bool → Bool) : Prop := ∀ (a b : List Sp) (va vb : Value) (w : World), RdK encS 2 w w.heap.size va a → RdK encS 2 w w.heap.size vb b → a.length ≤ 400 → b.length ≤ 400 → SCan a → SCan b → (∀ p ∈ a, validS p) → (∀ p ∈ b, validS p) →
  Calls Tryz.prog f #[va, vb] w fun e w' => SpnRet w.heap.size (sjF h a b) e w' ∧ Below w.heap.size w w'
set_option maxHeartbeats 1000000 in
theorem spOr_any : SpJoin 60 hOr := by
  intro a b va vb w ra rb na nb ca cb ba bb
  have hc := checked_any a b va vb w 102 hOr rfl enter_clOr clOr_any ra rb na nb ca cb ba bb
  obtain ⟨A1, c1, hva, _⟩ := ra
  obtain ⟨A2, c2, hvb, _⟩ := rb
  subst hva; subst hvb
  have HC := hide hc
  clear hc ca cb ba bb
  generalize sjF hOr a b = R at *
  obtain ⟨R1, R2⟩ := R
  go_enter Tryz.func60, Tryz.ntmps60
  go_wp2_with (fail)
  refine HC.out.mono ?_
  rintro e w1 ⟨⟨A3, c3, rfl, ho⟩, hb⟩
  have HO := hide ho
  clear ho
  go_wp2_with (fail)
  go_ret2
  exact ⟨⟨A3, c3, rfl, HO.out⟩, hb⟩
set_option maxHeartbeats 1000000 in
theorem spAnd_any : SpJoin 59 hAnd := by
  intro a b va vb w ra rb na nb ca cb ba bb
  have hc := checked_any a b va vb w 101 hAnd rfl enter_clAnd clAnd_any ra rb na nb ca cb ba bb
  obtain ⟨A1, c1, hva, _⟩ := ra
  obtain ⟨A2, c2, hvb, _⟩ := rb
  subst hva; subst hvb
  have HC := hide hc
  clear hc ca cb ba bb
  generalize sjF hAnd a b = R at *
  obtain ⟨R1, R2⟩ := R
  go_enter Tryz.func59, Tryz.ntmps59
  go_wp2_with (fail)
  refine HC.out.mono ?_
  rintro e w1 ⟨⟨A3, c3, rfl, ho⟩, hb⟩
  have HO := hide ho
  clear ho
  go_wp2_with (fail)
  go_ret2
  exact ⟨⟨A3, c3, rfl, HO.out⟩, hb⟩
set_option maxHeartbeats 1000000 in
theorem spSub_any : SpJoin 61 hSub := by
  intro a b va vb w ra rb na nb ca cb ba bb
  have hc := checked_any a b va vb w 103 hSub rfl enter_clSub clSub_any ra rb na nb ca cb ba bb
  obtain ⟨A1, c1, hva, _⟩ := ra
  obtain ⟨A2, c2, hvb, _⟩ := rb
  subst hva; subst hvb
  have HC := hide hc
  clear hc ca cb ba bb
  generalize sjF hSub a b = R at *
  obtain ⟨R1, R2⟩ := R
  go_enter Tryz.func61, Tryz.ntmps61
  go_wp2_with (fail)
  refine HC.out.mono ?_
  rintro e w1 ⟨⟨A3, c3, rfl, ho⟩, hb⟩
  have HO := hide ho
  clear ho
  go_wp2_with (fail)
  go_ret2
  exact ⟨⟨A3, c3, rfl, HO.out⟩, hb⟩
/-- The error of two regions. -/
def bothF (a b : List R4) : Int := if checkF a = 0 then checkF b else checkF a
set_option maxHeartbeats 1000000 in
theorem both_any {w : World} {va vb : Value} {a b : List R4} (ra : RdK encR 4 w w.heap.size va a) (rb : RdK encR 4 w w.heap.size vb b) (na : a.length ≤ 100000000) (nb : b.length ≤ 100000000) :
    Calls Tryz.prog 64 #[va, vb] w fun e w' => e = .returned (.int .i64 (bothF a b)) ∧ Below w.heap.size w w' := by
  have hA := check_any ra na
  have hB := fun (W : World) (hW : Below w.heap.size w W) => check_any (w := W) ((rb.below hW).mono hW.size) nb
  obtain ⟨A1, c1, hva, _⟩ := ra
  obtain ⟨A2, c2, hvb, _⟩ := rb
  subst hva; subst hvb
  have HA := hide hA
  have HB := hide hB
  clear hA hB
  by_cases h0 : checkF a = 0
  · have HF : Hid (bothF a b = checkF b) := hide (if_pos h0)
    rw [h0] at HA
    clear h0
    go_enter Tryz.func64, Tryz.ntmps64
    go_wp2_with (fail)
    refine HA.out.mono ?_
    rintro e w1 ⟨rfl, hb1⟩
    have HB1 := hide hb1
    clear hb1
    go_wp2_with (fail)
    refine (HB.out _ HB1.out).mono ?_
    rintro e w2 ⟨rfl, hb2⟩
    go_wp2_with (fail)
    go_ret
    exact ⟨ret_eq (int_eq HF.out.symm), HB1.out.trans (hb2.mono HB1.out.size)⟩
  · have HF : Hid (bothF a b = checkF a) := hide (if_neg h0)
    generalize checkF a = ck at *
    have hne : (ck != 0) = true := by simpa using h0
    clear h0
    go_enter Tryz.func64, Tryz.ntmps64
    go_wp2_with (fail)
    refine HA.out.mono ?_
    rintro e w1 ⟨rfl, hb1⟩
    go_wp2_with (fail)
    go_ret
    exact ⟨ret_eq (int_eq HF.out.symm), hb1⟩
set_option maxHeartbeats 1000000 in
theorem rBoth_any {w : World} {va vb : Value} {a b : List R4} (ra : RdK encR 4 w w.heap.size va a) (rb : RdK encR 4 w w.heap.size vb b) (na : a.length ≤ 100000000) (nb : b.length ≤ 100000000) :
    Calls Tryz.prog 82 #[va, vb] w fun e w' => e = .returned (.int .i64 (bothF a b)) ∧ Below w.heap.size w w' := by
  have hA := fun (W : World) (hW : Below w.heap.size w W) => rCheck_any (w := W) ((ra.below hW).mono hW.size) na
  have hB := fun (W : World) (hW : Below w.heap.size w W) => rCheck_any (w := W) ((rb.below hW).mono hW.size) nb
  obtain ⟨A1, c1, hva, _⟩ := ra
  obtain ⟨A2, c2, hvb, _⟩ := rb
  subst hva; subst hvb
  have HA := hide hA
  have HB := hide hB
  clear hA hB
  by_cases h0 : checkF a = 0
  · have HF : Hid (bothF a b = checkF b) := hide (if_pos h0)
    rw [h0] at HA
    clear h0
    go_enter Tryz.func82, Tryz.ntmps82
    go_wp2_with (fail)
    refine (HA.out _ (Below.refl _ _)).mono ?_
    rintro e w1 ⟨rfl, hb1⟩
    have HB1 := hide hb1
    clear hb1
    go_wp2_with (fail)
    refine (HB.out _ HB1.out).mono ?_
    rintro e w2 ⟨rfl, hb2⟩
    go_wp2_with (fail)
    go_ret
    exact ⟨ret_eq (int_eq HF.out.symm), HB1.out.trans (hb2.mono HB1.out.size)⟩
  · have HF : Hid (bothF a b = checkF a) := hide (if_neg h0)
    generalize checkF a = ck at *
    have hne : (ck != 0) = true := by simpa using h0
    clear h0
    go_enter Tryz.func82, Tryz.ntmps82
    go_wp2_with (fail)
    refine (HA.out _ (Below.refl _ _)).mono ?_
    rintro e w1 ⟨rfl, hb1⟩
    have HB1 := hide hb1
    clear hb1
    go_wp2_with (fail)
    refine (HA.out _ HB1.out).mono ?_
    rintro e w2 ⟨rfl, hb2⟩
    go_wp2_with (fail)
    go_ret
    exact ⟨ret_eq (int_eq HF.out.symm), HB1.out.trans (hb2.mono HB1.out.size)⟩
def joinF (h : Bool → Bool → Bool) (a b : List R4) : List R4 × Int := if bothF a b = 0 then (if 400 < (rjoin h a b).length then ([], 4) else (rjoin h a b, 0)) else ([], bothF a b)
theorem bothF_ok {a b : List R4} (h : bothF a b = 0) : checkF a = 0 ∧ checkF b = 0 := by
  unfold bothF at h
  by_cases h0 : checkF a = 0
  · rw [if_pos h0] at h; exact ⟨h0, h⟩
  · rw [if_neg h0] at h; exact absurd h h0
theorem check_wf {l : List R4} (h : checkF l = 0) : ∀ r ∈ l, wf4 r := fun r hr => ⟨((checkF_ok h).2.1 r hr).1, ((checkF_ok h).2.1 r hr).2.1⟩
theorem rjoin_len2 (h : Bool → Bool → Bool) (a b : List R4) (ha : a.length ≤ 400) (hb : b.length ≤ 400) : (rjoin h a b).length ≤ 100000000 := by
  have h1 := swp_len (fun c => sjoin h (crossL a c) (crossL b c)) 1600 (fun c => by
    have h1 := sjoin_len h (crossL a c) (crossL b c)
    have h2 := crossL_len a c
    have h3 := crossL_len b c
    omega) (prs (isortI (cutsL a ++ cutsL b)))
  rw [swp_sweep] at h1
  have h2 := prs_len (isortI (cutsL a ++ cutsL b))
  have h3 := isortI_len (cutsL a ++ cutsL b)
  rw [List.length_append, cutsL_len, cutsL_len] at h3
  unfold rjoin
  have h4 : (prs (isortI (cutsL a ++ cutsL b))).length ≤ 1600 := by omega
  have h5 := Nat.mul_le_mul_right 1600 h4
  omega
set_option maxRecDepth 100000 in
set_option maxHeartbeats 2000000 in
/-- The reference's Join, the kind being 1, 2 or 3. -/
theorem rJoin_any (kd : Int) (hkd : kd = 1 ∨ kd = 2 ∨ kd = 3) {w : World} {va vb : Value} {a b : List R4} (ra : RdK encR 4 w w.heap.size va a) (rb : RdK encR 4 w w.heap.size vb b) (na : a.length ≤ 100000000) (nb : b.length ≤ 100000000) :
    Calls Tryz.prog 49 #[.int .i64 kd, va, vb] w fun e w' => RegRet w.heap.size (joinF (hk kd) a b) e w' ∧ Below w.heap.size w w' := by
  have hA := fun (W : World) (hW : Below w.heap.size w W) => rBoth_any (w := W) ((ra.below hW).mono hW.size) ((rb.below hW).mono hW.size) na nb
  have hk0 : hk kd false false = false := by rcases hkd with rfl | rfl | rfl <;> rfl
  have hJ := fun (W : World) (hW : Below w.heap.size w W) (h1 : a.length ≤ 2500) (h2 : b.length ≤ 2500) => rJoined_any kd hkd (w := W) (ra.below hW) (rb.below hW) hW.size h1 h2
  obtain ⟨A1, c1, hva, _⟩ := ra
  obtain ⟨A2, c2, hvb, _⟩ := rb
  subst hva; subst hvb
  have HA := hide hA
  by_cases h0 : bothF a b = 0
  · obtain ⟨ca, cb⟩ := bothF_ok h0
    have la := (checkF_ok ca).1
    have lb := (checkF_ok cb).1
    have hJ2 := fun W hW => hJ W hW (by omega) (by omega)
    rw [ref_join hk0 (check_wf ca) (check_wf cb)] at hJ2
    have HJ := hide hJ2
    have hF : joinF (hk kd) a b = if 400 < (rjoin (hk kd) a b).length then ([], 4) else (rjoin (hk kd) a b, 0) := if_pos h0
    have HF := hide hF
    have hl := rjoin_len2 (hk kd) a b la lb
    rw [h0] at HA
    clear hA hJ hJ2 hF h0 ca cb hkd
    generalize rjoin (hk kd) a b = R at *
    by_cases h4 : 400 < R.length
    · have hz : (400 : Int) < (R.length : Int) := by omega
      have HF2 : Hid (joinF (hk kd) a b = ([], 4)) := hide (by rw [HF.out, if_pos h4])
      go_enter Tryz.func49, Tryz.ntmps49
      go_wp2_with (fail)
      refine (HA.out _ (Below.refl _ _)).mono ?_
      rintro e w1 ⟨rfl, hb1⟩
      have HB1 := hide hb1
      clear hb1
      go_wp2_with (fail)
      refine (HJ.out _ HB1.out).mono ?_
      rintro e w2 ⟨vo, rfl, ho, hb2⟩
      obtain ⟨Ao, co, hvo⟩ := own_form ho
      subst hvo
      have HB2 := hide (HB1.out.trans (hb2.mono HB1.out.size))
      clear ho hb2
      go_wp2_with (fail)
      go_ret2
      exact ⟨⟨none, 0, by rw [HF2.out]; rfl, by rw [HF2.out]; exact World.ownsRow_nil _ _ _ _⟩, HB2.out⟩
    · have hz : (R.length : Int) ≤ 400 := by omega
      have HF2 : Hid (joinF (hk kd) a b = (R, 0)) := hide (by rw [HF.out, if_neg h4])
      go_enter Tryz.func49, Tryz.ntmps49
      go_wp2_with (fail)
      refine (HA.out _ (Below.refl _ _)).mono ?_
      rintro e w1 ⟨rfl, hb1⟩
      have HB1 := hide hb1
      clear hb1
      go_wp2_with (fail)
      refine (HJ.out _ HB1.out).mono ?_
      rintro e w2 ⟨vo, rfl, ho, hb2⟩
      obtain ⟨Ao, co, hvo⟩ := own_form ho
      subst hvo
      have HB2 := hide (HB1.out.trans (hb2.mono HB1.out.size))
      have HO := hide (own_base (base := w.heap.size) ho HB1.out.size)
      clear ho hb2
      go_wp2_with (fail)
      go_ret2
      exact ⟨⟨Ao, co, by rw [HF2.out]; rfl, by rw [HF2.out]; exact HO.out⟩, HB2.out⟩
  · have HF : Hid (joinF (hk kd) a b = ([], bothF a b)) := hide (if_neg h0)
    generalize bothF a b = ck at *
    have hne : (ck != 0) = true := by simpa using h0
    clear h0 hA hJ hkd
    go_enter Tryz.func49, Tryz.ntmps49
    go_wp2_with (fail)
    refine (HA.out _ (Below.refl _ _)).mono ?_
    rintro e w1 ⟨rfl, hb1⟩
    have HB1 := hide hb1
    clear hb1
    go_wp2_with (fail)
    refine (HA.out _ HB1.out).mono ?_
    rintro e w2 ⟨rfl, hb2⟩
    go_wp2_with (fail)
    go_ret2
    exact ⟨⟨none, 0, by rw [HF.out]; rfl, by rw [HF.out]; exact World.ownsRow_nil _ _ _ _⟩, HB1.out.trans (hb2.mono HB1.out.size)⟩
end Go.Proofs.YtmnhlcbmoibahaaGreat

/- region.slabs at Region, and its iterator. -/
namespace Go.Proofs.YtmnhlcbmoibahaaGreat
open Go.RowKit
set_option linter.unusedVariables false
set_option linter.unusedSimpArgs false
attribute [local go_sem] Oper.semAt_some

set_option maxHeartbeats 2000000 in
theorem slabsB_any (ls : List (List R4)) (L c : Nat) (w : World) (hL : L < w.heap.size) (hv : ∀ k l, ls[k]? = some l → ∃ v, w.cell? ⟨L, k, none⟩ = some v ∧ RdK encR 4 w w.heap.size v l) (hn : (ls.flatMap cutsL).length ≤ 100000000) (hls : ls.length ≤ 1000) :
    Calls Tryz.prog 97 #[.slice (some ⟨L, 0, none⟩) ls.length c] w fun e w' => ∃ v, e = .returned (.func (.func 130) #[] #[.pointer (some ⟨w.heap.size + 1, 0, none⟩), .pointer (some ⟨w.heap.size, 0, none⟩)]) ∧
      w'.cell? ⟨w.heap.size, 0, none⟩ = some (.slice (some ⟨L, 0, none⟩) ls.length c) ∧ w'.cell? ⟨w.heap.size + 1, 0, none⟩ = some v ∧ w'.ownsRow (w.heap.size + 2) 3 1 v (cutsOf (ls.flatMap cutsL)).length ((cutsOf (ls.flatMap cutsL)).map iv) ∧ Below w.heap.size w w' := by
  obtain ⟨i0, hi, hz0, hz1, hz2⟩ := info_parts infoIA
  have HV := hide hv
  clear hv
  go_enter Tryz.func97, Tryz.ntmps97
  go_wp2
  go_loopw [10] (fun i wr => ∃ k : Nat, k ≤ ls.length ∧ i = .int .i64 k ∧ ∃ v, wr.cell? ⟨w.heap.size + 1, 0, none⟩ = some v ∧ wr.frozen? ⟨w.heap.size + 1, 0, none⟩ = false ∧ wr.cell? ⟨w.heap.size, 0, none⟩ = some (.slice (some ⟨L, 0, none⟩) ls.length c) ∧
      wr.ownsRow (w.heap.size + 2) 3 1 v ((ls.take k).flatMap cutsL).length (((ls.take k).flatMap cutsL).map iv) ∧ Below w.heap.size w wr ∧ w.heap.size + 2 ≤ wr.heap.size)
    (fun i _ => ls.length - (intOf i).toNat)
  case atStart =>
    refine ⟨0, Nat.zero_le _, rfl, .slice none 0 0, by simp [go_sem], by simp [go_sem], by simp [go_sem], World.ownsRow_nil _ _ _ _, ((Below.refl _ _).alloc (Nat.le_refl _) _).alloc (by simp) _, by simp⟩
  case round =>
    obtain ⟨k, hk, rfl, v, hc1, hf1, hc0, hown, hb, hsz⟩ := hrel
    by_cases hlt : k < ls.length
    · obtain ⟨l, hlk⟩ : ∃ l, ls[k]? = some l := ⟨_, List.getElem?_eq_getElem hlt⟩
      obtain ⟨vl, hcl, A, c0, rfl, hrd⟩ := HV.out k l hlk
      have hcl' : wr.cell? ⟨L, k, none⟩ = some (.slice A l.length c0) := (hb.cell (p := ⟨L, k, none⟩) hL).trans hcl
      have hle := len_take ls k l hlk
      have HK := hide (flat_take ls k l hlk)
      have HR := hide hrd
      have hkz : (k : Int) < (ls.length : Int) := by omega
      rw [cutsL_len] at hle
      generalize (ls.take k).flatMap cutsL = P at *
      generalize wr = w1 at *
      clear hcl hrd
      go_wp2
      go_loopw [16] (fun j wi => ∃ m : Nat, m ≤ l.length ∧ j = .int .i64 m ∧ ∃ v, wi.cell? ⟨w.heap.size + 1, 0, none⟩ = some v ∧ wi.frozen? ⟨w.heap.size + 1, 0, none⟩ = false ∧ wi.cell? ⟨w.heap.size, 0, none⟩ = some (.slice (some ⟨L, 0, none⟩) ls.length c) ∧
          wi.ownsRow (w.heap.size + 2) 3 1 v (P ++ cutsL (l.take m)).length ((P ++ cutsL (l.take m)).map iv) ∧ Below w.heap.size w wi ∧ w.heap.size + 2 ≤ wi.heap.size)
        (fun j _ => l.length - (intOf j).toNat)
      case atStart => exact ⟨0, by omega, rfl, v, hc1, hf1, hc0, by simpa [cutsL] using hown, hb, hsz⟩
      case round =>
        clear hc1 hf1 hc0 hown
        obtain ⟨m, hm, rfl, v, hc1, hf1, hc0, hownm, hbm, hszm⟩ := hrel
        by_cases hml : m < l.length
        · obtain ⟨⟨x0, y0, x1, y1⟩, hp⟩ : ∃ p, l[m]? = some p := ⟨_, List.getElem?_eq_getElem hml⟩
          have hne : l ≠ [] := by intro e; rw [e] at hml; simp at hml
          obtain ⟨bk, off, rfl, hbk, hcell⟩ := HR.out hne
          have d0 : wr.cell? ⟨bk, off + m * 4, none⟩ = some (.int .i64 x0) := (hbm.cell hbk).trans (hcell m _ hp 0 _ rfl)
          have d1 : wr.cell? ⟨bk, off + m * 4 + 1, none⟩ = some (.int .i64 y0) := (hbm.cell hbk).trans (hcell m _ hp 1 _ rfl)
          have d2 : wr.cell? ⟨bk, off + m * 4 + 2, none⟩ = some (.int .i64 x1) := (hbm.cell hbk).trans (hcell m _ hp 2 _ rfl)
          have d3 : wr.cell? ⟨bk, off + m * 4 + 3, none⟩ = some (.int .i64 y1) := (hbm.cell hbk).trans (hcell m _ hp 3 _ rfl)
          have hmz : (m : Int) < (l.length : Int) := by omega
          have hlenE : (P ++ cutsL (l.take m)).length ≤ 100000000 := by rw [List.length_append, cutsL_len, List.length_take]; omega
          have HE : Hid (P ++ cutsL (l.take (m + 1)) = P ++ cutsL (l.take m) ++ [x0, x1]) := hide (by rw [cutsL_take l m _ hp, List.append_assoc])
          obtain ⟨Av, cv, rfl⟩ := own_form hownm
          have hlt1 : w.heap.size + 1 < wr.heap.size := by omega
          have hlt0 : w.heap.size < wr.heap.size := by omega
          clear hcell
          generalize P ++ cutsL (l.take m) = E0 at *
          go_wp2_with (at_builtin; go_loud (refine wpList_append_lies _ rfl (.tmp 20) (.tmp 25) 133 rfl (w.heap.size + 2) 3 i0 (.int .i64 0) 1 8 Tryz.underlying133 hi hz0 hz1 hz2 rfl (by decide) _ _ _ rfl ((hownm.alloc _).alloc _) ⟨wr.heap.size + 1, 0, none⟩ 2 2 [.int .i64 x0, .int .i64 x1] rfl rfl (news_new (wr.alloc _) _ _ _ (by simp)) (ints_one rfl) (by omega) (by unfold maxLen; omega) (by omega) (by simp; omega) _ rfl ?_))
          intro g cap w2 hown2 hgrow _ _
          have hx2 : E0.map iv ++ [.int .i64 x0, .int .i64 x1] = (E0 ++ [x0, x1]).map iv := by simp
          have HL : Hid (E0.length + 2 = (P ++ cutsL (l.take (m + 1))).length) := hide (by rw [HE.out]; simp)
          rw [hx2, ← HE.out] at hown2
          obtain ⟨k3, k4, HF⟩ := box_fin hszm (Nat.lt_succ_self _) hc1 hf1 (((Below.refl _ wr).alloc (Nat.le_refl _) _).alloc (by simp) _) hgrow (fun k h => (hownm.lt k h).1) hown2
          have HC := hide hc0
          clear hown2 hgrow hownm hx2 hc1 hf1 hc0 d0 d1 d2 d3
          go_wp2
          go_roundw
          case rel =>
            obtain ⟨z1, z2, z3, z4, z5, z6⟩ := HF.out
            exact ⟨m + 1, by omega, by go_num, _, z1, z2, (z5 _ _ (by omega) (by omega)).trans HC.out, own_n z3 HL.out, hbm.trans (z4.mono (by omega)), by omega⟩
          case measure => simp [intOf]; omega
        · have hme : ¬ (m : Int) < (l.length : Int) := by omega
          have hmt : l.take m = l := List.take_of_length_le (by omega)
          rw [hmt, ← HK.out] at hownm
          have HO := hide hownm
          clear hmt hownm
          go_wp2
          go_roundw
          case rel => exact ⟨k + 1, by omega, by go_num, v, hc1, hf1, hc0, HO.out, hbm, hszm⟩
          case measure => simp [intOf]; omega
    · have hkz : ¬ (k : Int) < (ls.length : Int) := by omega
      have hkt : ls.take k = ls := List.take_of_length_le (by omega)
      rw [hkt] at hown
      have HO := hide hown
      clear hkt hown
      have hl : (ls.flatMap cutsL).length < 4611686018427387904 := by omega
      have hlm : ((ls.flatMap cutsL).mergeSort fun x y => decide (x ≤ y)).length = (ls.flatMap cutsL).length := List.length_mergeSort _
      have HM := hide hlm
      have HC0 := hide hc0
      clear hc0 hlm
      go_wp2_with (first
        | (go_at_call 128; refine (sortI_any _ v _ wr HO.out hl).mono ?_; rintro e w1 ⟨rfl, ho1, hg1⟩; have hb1 : Below (w.heap.size + 2) wr w1 := (Below.refl _ _).grown hg1 hsz (fun k h => (HO.out.lt k h).1); have e1 := (hb1.cell (p := ⟨w.heap.size + 1, 0, none⟩) (Nat.lt_succ_self _)).trans hc1; have HO1 := hide ho1; have HB1 := hide hb1; clear ho1 hg1 hb1)
        | (go_at_call 129; refine (compI_any _ v _ w1 (own_n HO1.out HM.out.symm) (by rw [HM.out]; exact hl)).mono ?_; rintro e w2 ⟨v2, rfl, hv2, ho2, hg2⟩; have hb2 : Below (w.heap.size + 2) w1 w2 := (Below.refl _ _).grown hg2 (Nat.le_trans hsz HB1.out.size) (fun k h => (HO1.out.lt k h).1); have e2 := (hb2.cell (p := ⟨w.heap.size + 1, 0, none⟩) (Nat.lt_succ_self _)).trans e1; have f2 := ((HB1.out.trans hb2).frozen (p := ⟨w.heap.size + 1, 0, none⟩) (Nat.lt_succ_self _)).trans hf1; have HO2 := hide ho2; have HB2 := hide hb2; clear ho2 hg2 hb2; obtain ⟨Av, cv, hv2⟩ := own_form HO2.out; subst hv2))
      go_ret
      have hB : Below (w.heap.size + 2) wr w2 := HB1.out.trans HB2.out
      refine ⟨_, rfl, ?_, by simp [go_sem, e2], ownsRow_setCell_below HO2.out (Nat.lt_succ_self _) _, (hb.trans (hB.mono (by omega))).setCell (p := ⟨w.heap.size + 1, 0, none⟩) (Nat.le_succ _) _⟩
      exact (World.cell?_of_block (w := w2) (a := ⟨w.heap.size, 0, none⟩) (Below.heap_setCell _ _ _ _ (Nat.ne_of_lt (Nat.lt_succ_self _)))).trans ((hB.cell (p := ⟨w.heap.size, 0, none⟩) (by show w.heap.size < _; omega)).trans HC0.out)

set_option maxRecDepth 100000 in
set_option maxHeartbeats 4000000 in
theorem slabsItB (ls : List (List R4)) (cs : List Int) (bc bl L cc cv bb base : Nat) (A : Option Addr) (w0 : World) (hbl : bl < w0.heap.size) (hbc : bc < w0.heap.size) (hLs : L < w0.heap.size) (n1 : bl ≠ bb) (n2 : bc ≠ bb) (n3 : L ≠ bb) (n4 : bb < base) (n5 : bb ≤ w0.heap.size)
    (hlb : w0.cell? ⟨bl, 0, none⟩ = some (.slice (some ⟨L, 0, none⟩) ls.length cc)) (hcb : w0.cell? ⟨bc, 0, none⟩ = some (.slice A cs.length cv)) (hown : w0.ownsRow base 3 1 (.slice A cs.length cv) cs.length (cs.map iv))
    (hv : ∀ k l, ls[k]? = some l → l.length ≤ 100000000 ∧ ∃ v, w0.cell? ⟨L, k, none⟩ = some v ∧ RdK encR 4 w0 bb v l) (hls : ls.length ≤ 1000) (hcs : cs.length ≤ 100000000) :
    Iter Tryz.prog 130 #[.pointer (some ⟨bc, 0, none⟩), .pointer (some ⟨bl, 0, none⟩)] (prs cs) (OkSlab ls) (KpX bb w0.heap.size) w0 := by
  intro l J Jx W hW hJ hY h0
  obtain ⟨i0, hi, hz0, hz1, hz2⟩ := info_parts infoSS
  obtain ⟨i1, gi, gz0, gz1, gz2⟩ := info_parts infoSp
  refine callsIn_of_wp Tryz.func130 rfl trivial ?_
  simp only [Tryz.ntmps130, List.size_toArray, List.length_cons, List.length_nil, Nat.reduceAdd, Nat.reduceSub, Array.replicate_succ, Array.replicate_zero, List.push_toArray, List.append_toArray, List.nil_append, List.cons_append]
  have HV := hide hv
  have HY := hide hY
  have HJ := hide hJ
  clear hv hY hJ
  gi_wp2
  gi_loopw [4] (fun p wr => ∃ k : Nat, k ≤ (prs cs).length ∧ p = .int .i64 ((k : Int) + 1) ∧ Hid (J ((prs cs).take k) wr) ∧ Hid (∀ b o, b < w0.heap.size → b ≠ bb → wr.cell? ⟨b, o, none⟩ = w0.cell? ⟨b, o, none⟩) ∧ w0.heap.size ≤ wr.heap.size)
    (fun p _ => ((prs cs).length + 1) - (intOf p).toNat)
  case atStart => exact ⟨0, Nat.zero_le _, rfl, hide (by simpa using h0), hide fun b o h _ => hW.cell (p := ⟨b, o, none⟩) h, hW.size⟩
  case round =>
    obtain ⟨k, hk, rfl, HJk, HC, hsz⟩ := hrel
    have hpl := prs_len cs
    have kb := (HC.out bl 0 hbl n1).trans hlb
    have kc := (HC.out bc 0 hbc n2).trans hcb
    by_cases hlt : k < (prs cs).length
    · have hltz : (k : Int) + 1 < (cs.length : Int) := by omega
      obtain ⟨c, hc⟩ : ∃ c, cs[k]? = some c := ⟨_, List.getElem?_eq_getElem (by omega)⟩
      obtain ⟨d, hd⟩ : ∃ d, cs[k + 1]? = some d := ⟨_, List.getElem?_eq_getElem (by omega)⟩
      obtain ⟨g, cv', hf, hbg, hgw⟩ := hown.form (by omega)
      injection hf with e1 _ e3
      subst e1; subst e3
      have kc0 : wr.cell? ⟨g, k, none⟩ = some (.int .i64 c) := by
        have := (hown.cells (g := g) rfl) k (iv c) (by simp [hc])
        rw [addr_add] at this
        exact (HC.out g k hgw (by omega)).trans this
      have kc1 : wr.cell? ⟨g, k + 1, none⟩ = some (.int .i64 d) := by
        have := (hown.cells (g := g) rfl) (k + 1) (iv d) (by simp [hd])
        rw [addr_add] at this
        exact (HC.out g (k + 1) hgw (by omega)).trans this
      have HP := hide (prs_get cs k c d hc hd)
      gi_wp2
      obtain ⟨CS, hCS, hmk⟩ := make_ss ls.length hls
      have HS := hide hCS
      clear hCS
      refine wpIn_wide.2 ?_
      have q1 : (0 : Int) ≤ (k : Int) := by omega
      have q2 : (k : Int) < (cs.length : Int) := by omega
      have q3 : (0 : Int) ≤ (k : Int) + 1 := by omega
      have hcsz : (cs.length : Int) ≤ 100000000 := by omega
      have hw1 : IntKind.i64.wrap (k : Int) = k := by simp [IntKind.wrap, IntKind.bits, IntKind.signed]; omega
      have hw2 : IntKind.i64.wrap ((k : Int) + 1) = (k : Int) + 1 := by simp [IntKind.wrap, IntKind.bits, IntKind.signed]; omega
      have t1 : ((k : Int) + 1).toNat = k + 1 := by omega
      go_region_held3 (fun w' => w'.cell? ⟨bc, 0, none⟩ = some (.slice (some ⟨g, 0, none⟩) cs.length cv) ∧ w'.cell? ⟨bl, 0, none⟩ = some (.slice (some ⟨L, 0, none⟩) ls.length cc) ∧ w'.cell? ⟨g, k, none⟩ = some (.int .i64 c) ∧ w'.cell? ⟨g, k + 1, none⟩ = some (.int .i64 d)) (go_keep) (fail)
      case' refine_2.refine_3.refine_3.refine_3.refine_3.refine_3.refine_3.refine_3.refine_3.refine_3.refine_3.refine_3.refine_1.refine_2.refine_3.refine_1.refine_2.refine_1.refine_2 =>
        have M := smid_first1 (ls := ls) (c := c) (d := d) (w := wr) (t1 := 137) (t2 := 151) HS.out
        generalize World.drew (World.alloc (World.alloc _ _) _) = w3 at M ⊢
        obtain ⟨S, hS⟩ : ∃ S, wr.heap.size + 1 = S := ⟨_, rfl⟩
        obtain ⟨Rw, hR⟩ : ∃ Rw, wr.heap.size = Rw := ⟨_, rfl⟩
        rw [hS] at M ⊢
        rw [hR] at M ⊢
        clear hS hR
      case' refine_2.refine_3.refine_3.refine_3.refine_3.refine_3.refine_3.refine_3.refine_3.refine_3.refine_3.refine_3.refine_2.refine_1.refine_2.refine_1.refine_2.refine_3.refine_1.refine_2 =>
        have M := smid_first2 (ls := ls) (c := c) (d := d) (w := wr) (t1 := 137) (t2 := 151) HS.out
        generalize World.drew (World.alloc (World.alloc _ _) _) = w3 at M ⊢
        obtain ⟨Rw, hR⟩ : ∃ S, wr.heap.size + 1 = S := ⟨_, rfl⟩
        obtain ⟨S, hS⟩ : ∃ Rw, wr.heap.size = Rw := ⟨_, rfl⟩
        rw [hR] at M ⊢
        rw [hS] at M ⊢
        clear hS hR
      all_goals
        generalize wr = wi at *
        clear hlb hcb hmk q1 q2 q3 hw1 hw2 t1 kc kc0 kc1 hltz hown HS h0 hW
        have hlsz : (ls.length : Int) ≤ 1000 := by omega
        have hbl' : bl < wi.heap.size := by omega
        have m0 := (M.below.cell (p := ⟨bl, 0, none⟩) hbl').trans kb
        gi_wp2
        refine wpIn_wide.2 ?_
        go_loopw [31] (fun i wx => ∃ j : Nat, j ≤ ls.length ∧ i = .int .i64 j ∧ SMid ls c d Rw S j wi wx) (fun i _ => ls.length - (intOf i).toNat)
        case atStart => exact ⟨0, Nat.zero_le _, rfl, M⟩
        case round =>
          clear m0 M
          obtain ⟨j, hj, rfl, M⟩ := hrel
          by_cases hjl : j < ls.length
          · have hjz : (j : Int) < (ls.length : Int) := by omega
            obtain ⟨r, hr⟩ : ∃ r, ls[j]? = some r := ⟨_, List.getElem?_eq_getElem hjl⟩
            obtain ⟨hrl, v, hvc, Av, cr, rfl, hrd⟩ := HV.out j r hr
            have hL2 : wr.cell? ⟨L, j, none⟩ = some (.slice Av r.length cr) := (M.below.cell (p := ⟨L, j, none⟩) (by show L < _; omega)).trans ((HC.out L j hLs n3).trans hvc)
            have HR := hide hrd
            clear hvc hrd
            go_wp2
            have hRk := M.topR
            have hSk := M.topS
            have hne := M.ne
            have hwk := M.below.size
            have hlR := M.lowR
            have SS := SIn.start (l := r) M hjl
            have HM := hide M
            have e0 := M.s0
            have e2 := M.s2
            clear M hL2
            generalize wr = wk at *
            go_loopw [38] (fun i wx => ∃ m : Nat, m ≤ r.length ∧ i = .int .i64 m ∧ SIn r c Rw j m wk wx) (fun i _ => r.length - (intOf i).toNat)
            case atStart => exact ⟨0, Nat.zero_le _, rfl, SS⟩
            case round =>
              clear SS
              obtain ⟨m, hm, rfl, SS⟩ := hrel
              by_cases hml : m < r.length
              · obtain ⟨⟨x0, y0, x1, y1⟩, hp⟩ : ∃ p, r[m]? = some p := ⟨_, List.getElem?_eq_getElem hml⟩
                have hner : r ≠ [] := by intro e; rw [e] at hml; simp at hml
                obtain ⟨bk, off, rfl, hbk, hcell⟩ := HR.out hner
                have tr : ∀ o, wr.cell? ⟨bk, o, none⟩ = w0.cell? ⟨bk, o, none⟩ := fun o =>
                  (SS.upd.cell (by omega) (by omega) (by simp)).trans ((HM.out.below.cell (p := ⟨bk, o, none⟩) (by show bk < _; omega)).trans (HC.out bk o (by omega) (by omega)))
                have d0 : wr.cell? ⟨bk, off + m * 4, none⟩ = some (.int .i64 x0) := (tr _).trans (hcell m _ hp 0 _ rfl)
                have d1 : wr.cell? ⟨bk, off + m * 4 + 1, none⟩ = some (.int .i64 y0) := (tr _).trans (hcell m _ hp 1 _ rfl)
                have d2 : wr.cell? ⟨bk, off + m * 4 + 2, none⟩ = some (.int .i64 x1) := (tr _).trans (hcell m _ hp 2 _ rfl)
                have d3 : wr.cell? ⟨bk, off + m * 4 + 3, none⟩ = some (.int .i64 y1) := (tr _).trans (hcell m _ hp 3 _ rfl)
                have f0 := (SS.upd.cell (off := 0) hSk hne (by simp)).trans e0
                have f2 := (SS.upd.cell (off := 2) hSk hne (by simp)).trans e2
                have hws := SS.upd.size
                have hmz : (m : Int) < (r.length : Int) := by omega
                have HE0 := hide e0
                have HE2 := hide e2
                have HSS := hide SS
                have hSw : S < wr.heap.size := by omega
                clear hcell tr e0 e2 SS
                by_cases c1 : x0 ≤ c
                · by_cases c2 : c < x1
                  · go_wp2
                    obtain ⟨wb, hwb⟩ : ∃ wb, wb = wr.alloc (.cells #[.int .i64 x0, .int .i64 y0, .int .i64 x1, .int .i64 y1] 65) := ⟨_, rfl⟩
                    rw [← hwb]
                    obtain ⟨v, v1, v2⟩ := HSS.out.cur
                    obtain ⟨Av2, cv2, hv2⟩ := own_form v2
                    subst hv2
                    have hRw : Rw < wr.heap.size := by omega
                    have hj63 : (0 : Int) ≤ (j : Int) := by omega
                    have g2 : wb.cell? ⟨S, 2, none⟩ = some (.slice (some ⟨Rw, 0, none⟩) ls.length ls.length) := by rw [hwb]; exact (World.cell?_alloc_lt _ _ ⟨S, 2, none⟩ hSw).trans f2
                    have gv : wb.cell? ⟨Rw, j, none⟩ = some (.slice Av2 (crossL (r.take m) c).length cv2) := by rw [hwb]; exact (World.cell?_alloc_lt _ _ ⟨Rw, j, none⟩ hRw).trans v1
                    have gy0 : wb.cell? ⟨wr.heap.size, 1, none⟩ = some (.int .i64 y0) := by rw [hwb]; simp [go_sem]
                    have gy1 : wb.cell? ⟨wr.heap.size, 3, none⟩ = some (.int .i64 y1) := by rw [hwb]; simp [go_sem]
                    have gs : wb.heap.size = wr.heap.size + 1 := by rw [hwb]; simp
                    have hbw : Below wr.heap.size wr wb := by rw [hwb]; exact (Below.refl _ _).alloc (Nat.le_refl _) _
                    have gown : wb.ownsRow wk.heap.size 143 2 (.slice Av2 (crossL (r.take m) c).length cv2) (crossL (r.take m) c).length ((crossL (r.take m) c).flatMap encS) := by rw [hwb]; exact v2.alloc _
                    have hcl : (crossL (r.take m) c).length ≤ 100000000 := by
                      unfold crossL
                      rw [List.length_map]
                      refine Nat.le_trans (List.length_filter_le _ _) ?_
                      rw [List.length_take]; omega
                    have HFZ := hide (HM.out.fz j)
                    have HV1 := hide v1
                    have HV2 := hide v2
                    have HGV := hide gv
                    have HBW := hide hbw
                    have HG2 := hide g2
                    have HY0 := hide gy0
                    have HY1 := hide gy1
                    have HO := hide gown
                    have HGS := hide gs
                    have hRwb : Rw < wb.heap.size := by omega
                    have hSwb : S < wb.heap.size := by omega
                    have hwrb : wr.heap.size < wb.heap.size := by omega
                    have nR1 : Rw ≠ S := fun e => hne e.symm
                    have nR2 : Rw ≠ wr.heap.size := by omega
                    have hwkb : wk.heap.size ≤ wb.heap.size := by omega
                    clear gs d0 d1 d2 d3 f0 f2 v1 v2 gown hwb
                    refine wp_region_reads 13 (fun w' => w'.cell? ⟨S, 2, none⟩ = some (.slice (some ⟨Rw, 0, none⟩) ls.length ls.length) ∧ w'.cell? ⟨Rw, j, none⟩ = some (.slice Av2 (crossL (r.take m) c).length cv2) ∧ w'.cell? ⟨wr.heap.size, 1, none⟩ = some (.int .i64 y0) ∧ w'.cell? ⟨wr.heap.size, 3, none⟩ = some (.int .i64 y1)) (by kernel_rfl) (by kernel_rfl) ⟨g2, gv, gy0, gy1⟩ ?_
                    simp only [List.take_succ_cons, List.take_zero, List.drop_succ_cons, List.drop_zero]
                    iterate 13
                      refine ⟨?_, Or.inl ⟨by rfl, ?_⟩, ?_⟩
                      rotate_left 1
                      · intro w' hSw
                        obtain ⟨z1, z2, z3, z4⟩ := hSw
                        go_simp
                        first | done | with_reducible rfl
                      simp only [Act.put, List.setIfInBounds_toArray, List.set_cons_zero, List.set_cons_succ]
                    simp only [wpReads]
                    intro K hK
                    go_simp
                    refine hK _ _ (fun _ => ⟨by go_keep, by go_keep, by go_keep, by go_keep⟩) ?_
                    clear hK K
                    intro K hK
                    refine step_append_lies _ rfl (.tmp 61) (.tmp 67) 137 rfl wk.heap.size 143 i1 (.agg #[.int .i64 0, .int .i64 0]) 2 16 Tryz.underlying137 gi gz0 gz1 gz2 rfl (by decide) (.slice Av2 (crossL (r.take m) c).length cv2) (crossL (r.take m) c).length _ rfl (own_drew (World.ownsRow.alloc (w := wb) HO.out _)) ⟨wb.heap.size, 0, none⟩ 1 1 [.int .i64 y0, .int .i64 y1] rfl rfl (news_drew wb _ _ _ rfl) (ints_one rfl) (by omega) (by unfold maxLen; omega) (by omega) (by simp; omega) _ rfl ?_
                    intro g9 cap9 w9 hown9 hgrow9 _ _
                    obtain ⟨s1, s2, s3, s4, s5, HF9⟩ := app_after HSS.out hp ⟨c1, c2⟩ HV1.out hRk HBW.out _ HV2.out hgrow9 hown9 HFZ.out hSk HG2.out HY0.out HY1.out
                    clear hown9 hgrow9
                    refine hK _ _ (fun _ => ⟨s1, s2, s3, s4⟩) ?_
                    clear hK K
                    intro K hK
                    simp only [Act.put, List.setIfInBounds_toArray, List.set_cons_zero, List.set_cons_succ] at hK ⊢
                    go_simp
                    refine hK _ _ (fun _ => ⟨s1, s2, s3, s4⟩) ?_
                    clear hK K
                    intro K hK
                    simp only [Act.put, List.setIfInBounds_toArray, List.set_cons_zero, List.set_cons_succ] at hK ⊢
                    go_simp
                    refine hK _ _ (fun h => absurd rfl h) ?_
                    clear hK K
                    refine NoPanic.normal ?_
                    have HF9' := hide HF9.out
                    go_wp2
                    go_roundw
                    case rel => exact ⟨m + 1, by omega, by go_num, HF9'.out⟩
                    case measure => simp [intOf]; omega
                  · have c2' : x1 ≤ c := by omega
                    go_wp2
                    go_roundw
                    case rel => exact ⟨m + 1, by omega, by go_num, HSS.out.skip hp (fun h => by have := h.2; simp at this; omega) ((Below.refl _ _).alloc (Nat.le_refl _) _) (by omega)⟩
                    case measure => simp [intOf]; omega
                · have c1' : c < x0 := by omega
                  go_wp2
                  go_roundw
                  case rel => exact ⟨m + 1, by omega, by go_num, HSS.out.skip hp (fun h => by have := h.1; simp at this; omega) ((Below.refl _ _).alloc (Nat.le_refl _) _) (by omega)⟩
                  case measure => simp [intOf]; omega
              · obtain rfl : m = r.length := by omega
                have hmz : ¬ (r.length : Int) < (r.length : Int) := by omega
                have HF := hide (SIn.fin HM.out hr SS)
                clear SS e0 e2
                go_wp2
                go_roundw
                case rel => exact ⟨j + 1, by omega, by go_num, HF.out⟩
                case measure => simp [intOf]; omega
          · obtain rfl : j = ls.length := by omega
            have hjz : ¬ (ls.length : Int) < (ls.length : Int) := by omega
            have e0 := M.s0
            have e1 := M.s1
            have e2 := M.s2
            have hJ2 := HJ.out _ _ _ HJk.out M.below
            have hx : (prs cs)[k]? = some (c, d) := HP.out
            obtain ⟨hkp, hxe⟩ := List.getElem?_eq_some_iff.1 hx
            have hfi : (prs cs).take (k + 1) = (prs cs).take k ++ [(c, d)] := by rw [List.take_succ_eq_append_getElem hkp, hxe]
            have hpost : ∃ post, prs cs = (prs cs).take k ++ (c, d) :: post := ⟨(prs cs).drop (k + 1), by rw [← hxe, ← List.drop_eq_getElem_cons hkp, List.take_append_drop]⟩
            have hok : OkSlab ls (c, d) #[.agg #[.int .i64 c, .int .i64 d, .slice (some ⟨Rw, 0, none⟩) ls.length ls.length]] wr := by
              refine ⟨Rw, rfl, M.topR, fun q l hl => ?_⟩
              obtain ⟨v, v1, v2⟩ := M.done q l (List.getElem?_eq_some_iff.1 hl).1 hl
              exact ⟨v, v1, own_rd v2 (fun _ => rfl)⟩
            obtain ⟨fn, tmps, assign, body, hy, hR⟩ := HY.out ((prs cs).take k) (c, d) #[.agg #[.int .i64 c, .int .i64 d, .slice (some ⟨Rw, 0, none⟩) ls.length ls.length]] wr hJ2 hpost hok
            have FI := hide hfi
            have HM := hide M
            clear hx hxe hfi hpost hJ2 hok HJ HY M
            have hk2 : (k : Int) + 1 + 1 ≤ 100000001 := by omega
            have hk3' : (0 : Int) ≤ (k : Int) := by omega
            go_wp2
            gi_wp2
            refine ⟨rfl, hR.mono ?_⟩
            rintro e W3 (⟨rfl, hJ3, hk3⟩ | ⟨rfl, hJx3⟩)
            · have HJ3 := hide hJ3
              have HK3 := hide hk3
              clear hJ3 hk3 hR
              gi_wp2
              go_roundw
              case rel =>
                refine ⟨k + 1, by omega, by go_num, hide (by rw [FI.out]; exact HJ3.out), hide fun b o h1 h2 => (HK3.out.2 b o h1 h2).trans ((HM.out.below.cell (p := ⟨b, o, none⟩) (by show b < _; omega)).trans (HC.out b o h1 h2)), ?_⟩
                have := HK3.out.1
                have := HM.out.below.size
                omega
              case measure => simp [intOf]; omega
            · have HJx := hide hJx3
              clear hJx3 hR
              gi_wp2
              refine bodyPost_ret (results_none rfl _ _ _) rfl ?_
              exact ⟨⟨_, rfl⟩, .inr ⟨_, HJx.out⟩⟩
    · have hltz : ¬ (k : Int) + 1 < (cs.length : Int) := by omega
      have hk' : (prs cs).take k = prs cs := List.take_of_length_le (by omega)
      have HK := hide hk'
      clear hk' HJ HY h0
      gi_wp2
      go_end0
      exact ⟨⟨_, rfl⟩, .inl (by have := HJk.out; rw [HK.out] at this; exact this)⟩
end Go.Proofs.YtmnhlcbmoibahaaGreat
