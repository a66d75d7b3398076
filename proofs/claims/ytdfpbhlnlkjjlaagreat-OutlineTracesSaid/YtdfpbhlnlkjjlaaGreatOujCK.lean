/- Outlines: the reference follows a loop (walk). -/
import Derived.Test.YtdfpbhlnlkjjlaaGreatXtoK
import Derived.Test.YtdfpbhlnlkjjlaaGreatOujBK
import Derived.Deep.QuietTactic
import Derived.BigQuiet
import Derived.StillTactics
import Derived.Deep.CutBlock
namespace Go.Proofs.YtdfpbhlnlkjjlaaGreat
open Go.RowKit
set_option linter.unusedVariables false
set_option linter.unusedSimpArgs false
theorem cnr_len (S : Cs) (u : Un) : ∀ k, (cnr S u k).length ≤ k
 | 0 => Nat.le_refl _
 | k + 1 => by
  have := cnr_len S u k
  show (cnr S u k ++ _).length ≤ _
  rw [List.length_append]
  split <;> simp <;> omega
theorem cnr_same {S : Cs} {u : Un} {k : Nat} (h : trn S (itU S u k) = 0) : cnr S u (k + 1) = cnr S u k := by
 show cnr S u k ++ _ = _
 rw [if_pos h, List.append_nil]
theorem cnr_more {S : Cs} {u : Un} {k : Nat} (h : ¬ trn S (itU S u k) = 0) : cnr S u (k + 1) = cnr S u k ++ [hdU (itU S u k)] := by
 show cnr S u k ++ _ = _
 rw [if_neg h]
def TryW (S : Cs) (q : Pt) (d x : Wy) : Prop := x = d.l ∨ (x = d ∧ ¬ bgn S (q, d.l)) ∨ (x = d.r ∧ ¬ bgn S (q, d.l) ∧ ¬ bgn S (q, d))
theorem TryW.hit {S : Cs} {u : Un} {x : Wy} (hu : bgn S u) (h : TryW S (hdU u) u.2 x) (hx : bgn S (hdU u, x)) : (hdU u, x) = nx S u := by
 rcases h with rfl | ⟨rfl, h1⟩ | ⟨rfl, h1, h2⟩
 ·exact nx_left hu hx
 ·exact nx_on hu h1 hx
 ·exact (nx_right hu h1 h2).2
theorem TryW.miss {S : Cs} {u : Un} {x : Wy} (hu : bgn S u) (h : TryW S (hdU u) u.2 x) (hx : ¬ bgn S (hdU u, x)) : TryW S (hdU u) u.2 x.r ∧ ((x = u.2.l ∧ x.r = u.2) ∨ (x = u.2 ∧ x.r = u.2.r)) := by
 rcases h with rfl | ⟨rfl, h1⟩ | ⟨rfl, h1, h2⟩
 ·rw [Wy.l_r]
  exact ⟨.inr (.inl ⟨rfl, hx⟩), .inl ⟨rfl, rfl⟩⟩
 ·exact ⟨.inr (.inr ⟨rfl, h1, hx⟩), .inr ⟨rfl, rfl⟩⟩
 ·exact absurd (nx_right hu h1 h2).1 hx
theorem wy_apart (d : Wy) : wyN d ≠ wyN d.l ∧ wyN d.r ≠ wyN d.l ∧ wyN d.r ≠ wyN d := by cases d <;> decide
theorem wy_bd (d : Wy) : 0 ≤ wyN d ∧ wyN d ≤ 3 := by cases d <;> decide
theorem wyOf_int (d : Wy) : wyOf (wyN d).toNat = d := by cases d <;> rfl
theorem wy_v (d : Wy) : (-1 ≤ d.v.1 ∧ d.v.1 ≤ 1) ∧ -1 ≤ d.v.2 ∧ d.v.2 ≤ 1 := by cases d <;> decide
set_option maxRecDepth 100000 in
set_option maxHeartbeats 8000000 in
open Classical in
theorem rLoopT_any {w : World} {g : Nat} {vr : Value} {l : List R4} {U : Un → Bool} {u : Un} {n : Nat} (hS : SnW w g vr (snU U)) (hr : RdK encR 4 w g vr l) (hl : l.length ≤ 100000000) (hb : bdC (setR l) 60) (hc : Cyc (setR l) u n) (hnb : n ≤ 1000000) (h0 : U u = true) (hn : ∀ k, 0 < k → k < n → U (itU (setR l) u k) = false) :
  Calls Tryz.prog 83 #[.pointer (some ⟨g, 0, none⟩), .agg #[.int .i64 u.1.1, .int .i64 u.1.2], .int .i64 (wyN u.2)] w fun e w' => ∃ vo, e = .returned vo ∧ w'.ownsRow w.heap.size 53 2 vo (cnr (setR l) u n).length ((cnr (setR l) u n).flatMap encS) ∧ SnW w' g vr (snU fun z => U z || decide (inCy (setR l) u n z)) ∧ w.grownBy w' (some g) := by
 obtain ⟨i1, gi, gz0, gz1, gz2⟩ := info_parts infoPtO
 have hgw := hS.lt
 have HR := hide hr
 have HB := hide hb
 have HC := hide hc
 have H0 := hide h0
 have HN := hide hn
 have HL := hide hl
 have HI0 : Hid (LpI w (w.alloc (.cells #[.int .i64 u.1.1, .int .i64 u.1.2] 53)) g vr (seenU (setR l) U u 0) u.1 (.slice none 0 0) (cnr (setR l) u 0)) := hide (by
  have hbn : Below w.heap.size w (w.alloc (.cells #[.int .i64 u.1.1, .int .i64 u.1.2] 53)) := (Below.refl _ _).alloc (Nat.le_refl _) _
  rw [seenU_zero h0]
  exact ⟨grownO_below hbn _, hS.below hbn, ⟨by simp, by simp [go_sem], by simp [go_sem], by simp [go_sem], by simp [go_sem]⟩, World.ownsRow_nil _ _ _ _⟩)
 have hp0 := hc.pos
 clear hS hr hb hc h0 hn hl
 obtain ⟨S, hSS⟩ : ∃ S, setR l = S := ⟨_, rfl⟩
 have HSS := hide hSS
 rw [hSS] at HB HC HN HI0 ⊢
 clear hSS
 go_enter Tryz.func83, Tryz.ntmps83
 go_upto_region 2 with fail
 go_loopw [2, 7] (fun wv ov wr => ∃ (k : Nat) (z : Un) (Ao : Option Addr) (no co : Nat), k < n ∧ wv = .int .i64 (wyN z.2) ∧ ov = .slice Ao no co ∧ Hid (itU S u k = z) ∧ Hid (no = (cnr S u k).length) ∧ Hid (LpI w wr g vr (seenU S U u k) z.1 (.slice Ao no co) (cnr S u k))) (fun wv _ wr => n - idxU S u n ((intC wr w.heap.size 0, intC wr w.heap.size 1), wyOf (intOf wv).toNat))
 case atStart => exact ⟨0, u, none, 0, 0, hp0, rfl, rfl, hide rfl, hide rfl, HI0⟩
 case round =>
  clear HI0
  obtain ⟨k, ⟨⟨px, py⟩, d⟩, Ao, no, co, hk, rfl, rfl, HZ, HNO, HI⟩ := hrel
  simp only at HI
  have hzb : bgn S ((px, py), d) := by rw [← HZ.out]; exact itU_bgn HC.out.beg k
  obtain ⟨⟨bx1, bx2⟩, by1, by2⟩ := bgn_in HB.out hzb
  simp only at bx1 bx2 by1 by2
  have hv := wy_v d
  have hwb := wy_bd d
  have hwl := wy_bd d.l
  obtain ⟨qx, hqx⟩ : ∃ q, px + d.v.1 = q := ⟨_, rfl⟩
  obtain ⟨qy, hqy⟩ : ∃ q, py + d.v.2 = q := ⟨_, rfl⟩
  have HHD : Hid (hdU ((px, py), d) = (qx, qy)) := hide (by rw [← hqx, ← hqy]; rfl)
  have HST := hide (fun W : World => rStep13_any W (px, py) d ⟨⟨by show _ ≤ px; omega, by show px ≤ _; omega⟩, by show _ ≤ py; omega, by show py ≤ _; omega⟩)
  rw [hqx, hqy] at HST
  have HZB := hide hzb
  have hqb : ((-61 : Int) ≤ qx ∧ qx ≤ 61) ∧ -61 ≤ qy ∧ qy ≤ 61 := by omega
  have w1 : IntKind.i64.wrap (wyN d + 1) = wyN d + 1 := IntWalk.i64_in _ (by omega)
  have t1 := wy_left d
  have HMM : Hid (idxU S u n ((intC wr w.heap.size 0, intC wr w.heap.size 1), wyOf (intOf (.int .i64 (wyN d))).toNat) = k) := hide (by
   rw [HI.out.key]
   show idxU S u n ((px, py), wyOf (wyN d).toNat) = k
   rw [wyOf_int, ← HZ.out]
   exact idxU_eq HC.out hk)
  clear hzb hv hqx hqy bx1 bx2 by1 by2
  have c0 := HI.out.bx.c0
  have c1 := HI.out.bx.c1
  have hbl := HI.out.bx.lt
  go_wp2_with (fail)
  refine (HST.out _).mono ?_
  rintro e w1' ⟨rfl, hb1⟩
  have HI1 := hide (HI.out.below hb1)
  clear hb1 c0 c1 hbl HI HST
  have c0 := HI1.out.bx.c0
  have c1 := HI1.out.bx.c1
  have hbl := HI1.out.bx.lt
  have f0 := HI1.out.bx.f0
  have f1 := HI1.out.bx.f1
  have HI2 := hide (HI1.out.point hgw qx qy)
  go_wp2
  clear c0 c1 hbl f0 f1 HI1 w1 t1
  go_loopw [8] (fun q wr => ∃ x : Wy, q = .int .i64 (wyN x) ∧ Hid (TryW S (qx, qy) d x) ∧ Hid (LpI w wr g vr (seenU S U u k) (qx, qy) (.slice Ao no co) (cnr S u k))) (fun q _ => if intOf q = wyN d.l then 2 else if intOf q = wyN d then 1 else 0)
  case atStart => exact ⟨d.l, rfl, hide (.inl rfl), HI2⟩
  case round =>
   clear HI2
   obtain ⟨x, rfl, HX, HI⟩ := hrel
   have s0 := HI.out.sn.rects
   have hgl := HI.out.sn.lt
   have c0 := HI.out.bx.c0
   have c1 := HI.out.bx.c1
   have hbl := HI.out.bx.lt
   have HSA : Hid (∀ y : Above wr, _) := hide (fun y : Above wr => above_of (x := y) (rBegins13_any (w := y.get) (v := vr) (l := l) (((HR.out.below (HI.out.low hgw)).mono (Nat.le_of_lt hgl)).below y.keeps |>.mono y.keeps.size) HL.out (qx, qy) x ⟨⟨by show _ ≤ qx; omega, by show qx ≤ _; omega⟩, by show _ ≤ qy; omega, by show qy ≤ _; omega⟩))
   rw [HSS.out] at HSA
   cases hbx : bgnB S ((qx, qy), x) with
   | false =>
    rw [hbx] at HSA
    have HMI := hide (TryW.miss (x := x) HZB.out (by rw [HHD.out]; exact HX.out) (by rw [HHD.out]; intro h; rw [(bgnB_iff S _).2 h] at hbx; cases hbx))
    rw [HHD.out] at HMI
    clear hbx
    go_upto_region 4 with fail
    refine wp_hab fun hab => ?_
    refine wp_region_above (by kernel_rfl) (by kernel_rfl) ?_
    repeat (go_big_quiet_step ((go_at_call 80; with_reducible exact HSA.out _)))
    refine wpQuiet_nil ?_
    refine above_ends fun w3 hb3 => ?_
    have HI3 := hide (HI.out.below hb3)
    clear hab hb3 HSA s0 hgl c0 c1 hbl HI
    have hwx := wy_bd x
    have w2 : IntKind.i64.wrap (wyN x + 3) = wyN x + 3 := IntWalk.i64_in _ (by omega)
    have t2 := wy_right x
    go_wp2
    go_roundw
    case rel => exact ⟨x.r, rfl, hide HMI.out.1, HI3⟩
    case measure =>
     have ha := wy_apart d
     show (if wyN x.r = wyN d.l then 2 else if wyN x.r = wyN d then 1 else 0) < (if wyN x = wyN d.l then 2 else if wyN x = wyN d then 1 else 0)
     rcases HMI.out.2 with ⟨e1, e2⟩ | ⟨e1, e2⟩
     ·rw [e2, e1, if_neg ha.1, if_pos rfl, if_pos rfl]; omega
     ·rw [e2, e1, if_neg ha.2.1, if_neg ha.2.2, if_neg ha.1, if_pos rfl]; omega
   | true =>
    rw [hbx] at HSA
    have HNX : Hid (itU S u (k + 1) = ((qx, qy), x)) := hide (by
     show nx S (itU S u k) = _
     rw [HZ.out]
     have := TryW.hit (x := x) HZB.out (by rw [HHD.out]; exact HX.out) (by rw [HHD.out]; exact (bgnB_iff S _).1 hbx)
     rw [← this, HHD.out])
    have HTW : Hid (trn S (itU S u k) = 0 ↔ x = d) := hide (by
     rw [turn_way (itU_bgn HC.out.beg k)]
     show (itU S u (k + 1)).2 = _ ↔ _
     rw [HNX.out, HZ.out])
    clear hbx HX
    go_upto_region 4 with fail
    refine wp_hab fun hab => ?_
    refine wp_region_above (by kernel_rfl) (by kernel_rfl) ?_
    repeat (go_big_quiet_step ((go_at_call 80; with_reducible exact HSA.out _)))
    refine wpQuiet_nil ?_
    refine above_ends fun w3 hb3 => ?_
    have HI3 := hide (HI.out.below hb3)
    clear hab hb3 HSA s0 hgl c0 c1 hbl HI
    have hno : no ≤ 1000000 := by have := cnr_len S u k; have := HNO.out; omega
    obtain ⟨bq, hbq⟩ : ∃ z, (wyN x != wyN d) = z := ⟨_, rfl⟩
    have HBQ := hide hbq
    go_upto_if 28 with fail
    clear hbq
    go_cut [7] from 29 to 32 (fun ov wx => ∃ (Ao : Option Addr) (no co : Nat), ov = .slice Ao no co ∧ no = (cnr S u (k + 1)).length ∧ LpI w wx g vr (seenU S U u k) (qx, qy) (.slice Ao no co) (cnr S u (k + 1)))
    case first =>
     cases bq
     ·have hxd : x = d := wy_inj (by have := HBQ.out; simpa using this)
      have HCE := hide (cnr_same (HTW.out.2 hxd))
      clear hxd
      go_wp2
      go_meet
      case rel => exact ⟨Ao, no, co, rfl, by rw [HCE.out]; exact HNO.out, by rw [HCE.out]; exact HI3.out⟩
     ·have hxd : ¬ x = d := fun e => by have h := HBQ.out; rw [e] at h; simp at h
      have HCE := hide (cnr_more (fun h => hxd (HTW.out.1 h)))
      rw [HZ.out, HHD.out] at HCE
      clear hxd
      have c0 := HI3.out.bx.c0
      have c1 := HI3.out.bx.c1
      have hbl := HI3.out.bx.lt
      have hbn : Below w3.heap.size w3 (w3.alloc (.cells #[.int .i64 qx, .int .i64 qy] 53)) := (Below.refl _ _).alloc (Nat.le_refl _) _
      have HI4 := hide (HI3.out.below hbn)
      have HOA := hide (own_n HI4.out.out HNO.out.symm)
      have HSZ : Hid (w.heap.size + 1 ≤ (w3.alloc (.cells #[.int .i64 qx, .int .i64 qy] 53)).heap.size) := hide HI4.out.size
      clear hbn
      go_wp2_with (at_builtin; go_loud (refine wpList_append_lies _ rfl (.tmp 29) (.tmp 31) 36 rfl (w.heap.size + 1) 53 i1 (.agg #[.int .i64 0, .int .i64 0]) 2 16 Tryz.underlying36 gi gz0 gz1 gz2 rfl (by decide) (.slice Ao no co) no _ rfl HOA.out ⟨w3.heap.size, 0, none⟩ 1 1 [.int .i64 qx, .int .i64 qy] rfl rfl (news_new w3 [.int .i64 qx, .int .i64 qy] 53 _ rfl) (ints_one rfl) (by omega) (by unfold maxLen; omega) (by omega) HSZ.out _ rfl ?_))
      intro g9 cap9 w9 hown9 hgrow9 _ _
      have hp9 : (cnr S u k).flatMap encS ++ [.int .i64 qx, .int .i64 qy] = (cnr S u (k + 1)).flatMap encS := by rw [HCE.out, List.flatMap_append]; rfl
      rw [hp9] at hown9
      have HI9 := hide (HI4.out.push hgw hgrow9 hown9)
      have HNL := hide (own_len (k := 2) hown9 (fun _ => rfl) (by omega))
      clear hown9 hgrow9 hp9 HOA HSZ HI4
      go_wp2
      go_meet
      case rel => exact ⟨_, no + 1, cap9, rfl, HNL.out, HI9.out⟩
    case rest =>
     clear HI3 hno
     obtain ⟨Ao2, no2, co2, e1, hn2, hi2⟩ := hcut
     subst e1
     have HN2 := hide hn2
     have HI4 := hide hi2
     clear hn2 hi2
     have c0 := HI4.out.bx.c0
     have c1 := HI4.out.bx.c1
     have hbl := HI4.out.bx.lt
     have HMK := hide (rMarkU_any HI4.out.sn ((qx, qy), x) ⟨⟨by show _ ≤ qx; omega, by show qx < _; omega⟩, by show _ ≤ qy; omega, by show qy < _; omega⟩)
     rw [← HNX.out, seenU_succ] at HMK
     rw [HNX.out] at HMK
     by_cases hkn : k + 1 < n
     ·have hsv := seenU_new HC.out HN.out hkn
      rw [HNX.out] at hsv
      rw [hsv] at HMK
      clear hsv
      go_wp2_with (fail)
      refine HMK.out.mono ?_
      rintro e w5 ⟨rfl, hs5, hg5⟩
      have HI5 := hide (HI4.out.mark hgw hs5 hg5)
      clear hs5 hg5 HI4 HMK c0 c1 hbl
      go_wp2
      go_roundw
      case rel => exact ⟨k + 1, ((qx, qy), x), Ao2, no2, co2, hkn, rfl, rfl, HNX, HN2, HI5⟩
      case measure =>
       have e2 : idxU S u n ((intC w5 w.heap.size 0, intC w5 w.heap.size 1), wyOf (intOf (.int .i64 (wyN x))).toNat) = k + 1 := by
        rw [HI5.out.key]
        show idxU S u n ((qx, qy), wyOf (wyN x).toNat) = k + 1
        rw [wyOf_int, ← HNX.out]
        exact idxU_eq HC.out hkn
       rw [e2, HMM.out]
       omega
     ·have hkn2 : k + 1 = n := by omega
      have hsv := seenU_back HC.out H0.out hkn2
      rw [HNX.out] at hsv
      rw [hsv] at HMK
      have HAL := hide (seenU_all HC.out H0.out (k := k + 1) (by omega))
      have HCN : Hid (cnr S u (k + 1) = cnr S u n) := hide (by rw [hkn2])
      clear hsv hkn hkn2
      go_wp2_with (fail)
      refine HMK.out.mono ?_
      rintro e w5 ⟨rfl, hs5, hg5⟩
      have HI5 := hide (HI4.out.mark hgw hs5 hg5)
      clear hs5 hg5 HI4 HMK c0 c1 hbl
      go_wp2
      go_ret
      have h9 := HI5.out
      rw [HCN.out, HAL.out] at h9
      have hno2 := HN2.out
      rw [HCN.out] at hno2
      exact ⟨_, rfl, own_base (own_n h9.out rfl) (Nat.le_succ _), h9.sn, h9.gr⟩
end Go.Proofs.YtdfpbhlnlkjjlaaGreat
