/- Texts laid together: OueD, OueH, MOutK. Lemmas for the statements of this seat; no condition. -/
import Derived.Test.YtdfpbhlnlkjjlaaGreatPk9
import Derived.Deep.QuietTactic
import Derived.BigQuiet
import Derived.Test.YtdfpbhlnlkjjlaaGreatPk12
import Derived.Test.YtdfpbhlnlkjjlaaGreatPk2
import Derived.Test.YtdfpbhlnlkjjlaaGreatPk10
import Derived.StillTactics
import Derived.Deep.CutBlock
import Derived.Test.YtdfpbhlnlkjjlaaGreatPk1
import Derived.Laws.StructEq
import Derived.Test.YtdfpbhlnlkjjlaaGreatPk7

/- Outlines: filled. -/
namespace Go.Proofs.YtdfpbhlnlkjjlaaGreat
open Go.RowKit
set_option linter.unusedVariables false
set_option linter.unusedSimpArgs false
theorem wp_join4 {P : Program} {c : Code} {Q : Exit → Act → World → Prop} {a : Act} {w : World} {F : Value → Value → Value → Value → Act} {R : Value → Value → Value → Value → World → Prop} (h1 : c.wp P (fun e a' w' => ∃ x y z u, e = .normal ∧ a' = F x y z u ∧ R x y z u w') a w) (h2 : ∀ x y z u w', R x y z u w' → Q .normal (F x y z u) w') : c.wp P Q a w :=
 wp_mono h1 fun e a' w' ⟨x, y, z, u, h3, h4, h5⟩ => by subst h3; subst h4; exact h2 x y z u w' h5
theorem make_is (n : Nat) (hn : n ≤ 100000) : ∃ CS : Array Value, (∀ (W : World) (B : Nat), B ≤ W.heap.size → (W.alloc (.cells CS 3)).ownsRow B 3 1 (.slice (some ⟨W.heap.size, 0, none⟩) n n) (List.replicate n (0 : Int)).length ((List.replicate n (0 : Int)).map iv)) ∧ ∀ W : World, (Instr.makeSlice 96 (.int .i64 (n : Int)) (.int .i64 (n : Int))).run Tryz.prog W = .ok (.slice (some ⟨W.heap.size, 0, none⟩) n n) (W.alloc (.cells CS 3)) := by
 obtain ⟨i0, hi, hz0, hz1, hz2⟩ := info_parts infoInt
 refine ⟨madeCells (Value.int .i64 0).cells (n * i0.size), fun W B hB => ?_, fun W => ?_⟩
 ·rw [hz1, List.length_replicate, List.map_replicate]
  have e : (madeCells (Value.int .i64 0).cells (n * 1)).toList = List.replicate n (iv 0) := by
   rw [Nat.mul_one]
   exact toList_madeCells_one _ _
  have := World.ownsRow_lit (base := B) (e := 3) (size := 1) W (madeCells (Value.int .i64 0).cells (n * 1)) n hB (by unfold maxLen; omega) (size_madeCells _ _)
  rw [e] at this
  exact this
 ·have := run_make (P := Tryz.prog) W 96 3 i0 _ Tryz.underlying96 hi hz0 .i64 .i64 (n : Int) (n : Int) (by omega) (Int.le_refl _) (by rw [hz2]; omega) (by omega)
  simpa using this
theorem run_minO {P : Program} (w : World) (ts : Array TypeId) (t : TypeId) (a b : Int) : (Builtin.min_ ts t #[.int .i64 a, .int .i64 b]).run P w = .ok (.int .i64 (min a b)) w := by
 have k2 : ∀ (x y : Int) (v : World), Sem.run P (Builtin.min2 (.int .i64 x) (.int .i64 y)) v = .ok (.int .i64 (min x y)) v := fun x y v => by
  have k : (if y < x then y else x) = min x y := by
   by_cases h : y < x
   ·rw [if_pos h]; omega
   ·rw [if_neg h]; omega
  simp [Builtin.min2, k]
 simp only [Builtin.min_]
 simp [k2]
set_option maxRecDepth 100000 in
set_option maxHeartbeats 32000000 in
theorem filled_any {w : World} {v : Value} {L : List (List Pt)} (hr : RdPs w w.heap.size v L) (hck : ∀ l ∈ L, chkO l = 0) (hn : (L.map List.length).sum ≤ 2000) :
  Calls Tryz.prog 49 #[v] w fun e w' => ∃ vo, e = .returned vo ∧ w'.ownsRow w.heap.size 49 4 vo (filF L).length ((filF L).flatMap encR) ∧ Below w.heap.size w w' := by
 obtain ⟨i1, gi, gz0, gz1, gz2⟩ := info_parts infoInt
 obtain ⟨i2, fi, fz0, fz1, fz2⟩ := info_parts infoWl
 obtain ⟨i3, ki, kz0, kz1, kz2⟩ := info_parts infoRc
 have HPS := hide hr
 have HCK := hide hck
 have HSUM := hide hn
 have HFIN : Hid (∀ x ∈ xsL L, -1000000 ≤ x ∧ x ≤ 1000000) := hide (by
  intro x hx
  obtain ⟨l, hl, hx⟩ := List.mem_flatMap.1 hx
  obtain ⟨p, hp, rfl⟩ := List.mem_map.1 hx
  obtain ⟨i, hi, rfl⟩ := List.mem_iff_getElem.1 hp
  have h5 := chkO_fin (hck l hl) hi
  have h6 := pAt_get hi
  rw [List.getElem?_eq_getElem hi] at h6
  injection h6 with h6
  rw [h6]
  exact h5.1)
 obtain ⟨A, c, rfl, _⟩ := hr
 have hLl : L.length ≤ 2000 := by
  have key : ∀ K : List (List Pt), (∀ l ∈ K, chkO l = 0) → K.length ≤ (K.map List.length).sum := by
   intro K
   induction K with
   | nil => intro _; simp
   | cons a K ih =>
    intro h
    have h1 := ih fun l hl => h l (by simp [hl])
    have h2 := (chkO_ok (h a (by simp))).1
    rw [List.map_cons, List.sum_cons, List.length_cons]
    omega
  have := key L hck
  omega
 clear hck hn
 rename_i hrr
 clear hrr
 go_enter Tryz.func49, Tryz.ntmps49
 go_upto_region 4 with fail
 go_loopw [3, 4, 5, 22] (fun vw' vx' vy' i wr => ∃ (k : Nat) (vw vx vy : Value), k ≤ L.length ∧ i = .int .i64 (k : Int) ∧ vw = vw' ∧ vx = vx' ∧ vy = vy' ∧ Hid (FlI w wr vw vx vy (wallsF (L.take k)) (xsL (L.take k)) (ysL (L.take k)))) (fun _ _ _ i _ => L.length - (intOf i).toNat)
 case atStart => exact ⟨0, _, _, _, Nat.zero_le _, rfl, rfl, rfl, rfl, hide (by simpa [wallsF, xsL, ysL] using FlI.nil w)⟩
 case round =>
  obtain ⟨k9, vw, vx, vy, hk9, rfl, e1, e2, e3, HFO⟩ := hrel
  subst e1; subst e2; subst e3
  by_cases hlt9 : k9 < L.length
  ·obtain ⟨l, hl9⟩ : ∃ r, L[k9]? = some r := ⟨_, List.getElem?_eq_getElem hlt9⟩
   have HOK : Hid (chkO l = 0) := hide (HCK.out l (List.mem_of_getElem? hl9))
   have HL := hide (chkO_ok HOK.out).1
   have hl2k : l.length ≤ 100000000 := by have := HL.out; omega
   have hPSr : RdPs wr wr.heap.size (.slice A L.length c) L := (HPS.out.below HFO.out.low).mono HFO.out.low.size
   obtain ⟨bL, oL, u, hA1, hbL, hcu, hru⟩ := hPSr.get hl9
   obtain ⟨Au, cu, rfl, hru'⟩ := hru
   have hru0 : RdPs w w.heap.size (.slice A L.length c) L := HPS.out
   obtain ⟨bL0, oL0, u0, hA10, hbL0, hcu0, hru0⟩ := hru0.get hl9
   have hkz : (k9 : Int) < (L.length : Int) := by omega
   have hk0 : (0 : Int) ≤ (k9 : Int) := by omega
   have HPW : Hid (∀ V, Below w.heap.size w V → ∃ b o, Au = some ⟨b, o, none⟩ ∧ b < V.heap.size ∧ ∀ j, j < l.length → V.cell? ⟨b, o + j * 2, none⟩ = some (.int .i64 (pAt l j).1) ∧ V.cell? ⟨b, o + j * 2 + 1, none⟩ = some (.int .i64 (pAt l j).2)) := hide (by
    intro V hV
    rw [hA1] at hA10
    injection hA10 with e1
    injection e1 with e2 e3
    subst e2; subst e3
    have e4 := (HFO.out.low.cell (p := ⟨bL, _, none⟩) hbL0).trans hcu0
    rw [hcu] at e4
    injection e4 with e4
    have hr5 := (hru0.below hV).mono hV.size
    rw [← e4] at hr5
    obtain ⟨b, o, h1, h2, h3⟩ := rd_two hr5 (show 0 < l.length by have := HL.out; omega)
    exact ⟨b, o, h1, h2, h3⟩)
   have HPL := hide (fun m (hm : m ≤ l.length) => P_len (k := k9) hl9 hm HSUM.out)
   have HPA := hide (P_all hl9)
   have HF0 : Hid (FlI w wr vw vx vy (wlA L l k9 0) (xsA L l k9 0) (ysA L l k9 0)) := hide (by obtain ⟨e1, e2, e3⟩ := P_zero L l k9; rw [e1, e2, e3]; exact HFO.out)
   subst hA1
   clear hl9 hPSr hru' hru0 hcu0 hbL0 hA10 HFO
   go_upto_region 7 with fail
   clear hcu hbL hkz hk0
   go_loopw [3, 4, 5, 28] (fun vw' vx' vy' i wr => ∃ (m : Nat) (vw vx vy : Value), m ≤ l.length ∧ i = .int .i64 (m : Int) ∧ vw = vw' ∧ vx = vx' ∧ vy = vy' ∧ Hid (FlI w wr vw vx vy (wlA L l k9 m) (xsA L l k9 m) (ysA L l k9 m))) (fun _ _ _ i _ => l.length - (intOf i).toNat)
   case atStart => exact ⟨0, _, _, _, Nat.zero_le _, rfl, rfl, rfl, rfl, HF0⟩
   case round =>
    clear HF0
    obtain ⟨m, vw2, vx2, vy2, hm, rfl, e1, e2, e3, HF⟩ := hrel
    subst e1; subst e2; subst e3
    have hll := HL.out
    by_cases hlt : m < l.length
    ·have mz : (m : Int) < (l.length : Int) := by omega
     have m0 : (0 : Int) ≤ (m : Int) := by omega
     obtain ⟨b, o, rfl, hb, hcell⟩ := HPW.out wr HF.out.low
     obtain ⟨j, hj⟩ : ∃ j, (m + 1) % l.length = j := ⟨_, rfl⟩
     have hjl : j < l.length := by rw [← hj]; exact Nat.mod_lt _ (by omega)
     have d0 := (hcell m hlt).1
     have d1 := (hcell m hlt).2
     have e0 := (hcell j hjl).1
     have e1 := (hcell j hjl).2
     have w1' : IntKind.i64.wrap ((m : Int) + 1) = (m : Int) + 1 := IntWalk.i64_in _ (by omega)
     have jz : (j : Int) < (l.length : Int) := by omega
     have j0 : (0 : Int) ≤ (j : Int) := by omega
     have l0 : ¬ (l.length : Int) = 0 := by omega
     have lnil : ¬ l = [] := fun e => by rw [e] at hlt; simp at hlt
     have tm1 : ((m : Int) + 1).tmod (l.length : Int) = (j : Int) := by have h9 := tmod_nat (m + 1) l.length; rw [hj] at h9; exact h9
     have hmod : ((m : Int) + 1) % (l.length : Int) = (j : Int) := by rw [← hj]; simp
     have HQE : Hid (qAt l m = pAt l j) := hide (by unfold qAt; rw [hj])
     have HSW : Hid (wlA L l k9 (m + 1) = wlA L l k9 m ++ wallQ (pAt l m) (pAt l j)) := hide (by rw [← HQE.out]; exact wlA_step L l k9 m)
     have HSX : Hid (xsA L l k9 (m + 1) = xsA L l k9 m ++ [(pAt l m).1]) := hide (xsA_step hlt)
     have HSY : Hid (ysA L l k9 (m + 1) = ysA L l k9 m ++ [(pAt l m).2]) := hide (ysA_step hlt)
     obtain ⟨hlw, hlx, hly⟩ := HPL.out m hm
     obtain ⟨hlw2, hlx2, hly2⟩ := HPL.out (m + 1) hlt
     rw [HSX.out, List.length_append, List.length_singleton] at hlx2
     rw [HSY.out, List.length_append, List.length_singleton] at hly2
     clear hj hcell HQE hlw2
     generalize wlA L l k9 m = W at *
     generalize xsA L l k9 m = X at *
     generalize ysA L l k9 m = Y at *
     obtain ⟨⟨px, py⟩, hp9⟩ : ∃ y, pAt l m = y := ⟨_, rfl⟩
     obtain ⟨⟨qx, qy⟩, hq9⟩ : ∃ y, pAt l j = y := ⟨_, rfl⟩
     rw [hp9] at d0 d1 HSW HSX HSY
     rw [hq9] at e0 e1 HSW
     simp only at d0 d1 e0 e1 HSX HSY
     clear hp9 hq9
     go_upto_region 10 with fail
     refine wp_name fun w2 hw2 => ?_
     obtain ⟨gp, hgp⟩ : ∃ g, wr.heap.size = g := ⟨_, rfl⟩
     have hb2 : Below wr.heap.size wr w2 := by
      rw [hw2]
      repeat (first | with_reducible exact Below.refl _ _ | with_reducible refine Below.setCell ?_ (by first | (simp; done) | (simp; omega)) _ | with_reducible refine Below.alloc ?_ (by first | omega | (simp; omega) | simp) _)
     have HP : Hid (Bx2 w2 gp px py) := hide ⟨by rw [hw2, ← hgp]; first | (simp; done) | (simp; omega), by rw [hw2, ← hgp]; simp [go_sem], by rw [hw2, ← hgp]; simp [go_sem]⟩
     have HQ : Hid (Bx2 w2 (gp + 1) qx qy) := hide ⟨by rw [hw2, ← hgp]; first | (simp; done) | (simp; omega), by rw [hw2, ← hgp]; simp [go_sem], by rw [hw2, ← hgp]; simp [go_sem]⟩
     have HKW : Hid (∀ k, vw2.ownBlock = some k → k < gp) := hide (fun k hk => by rw [← hgp]; exact (HF.out.rw.lt k hk).2)
     have HKX : Hid (∀ k, vx2.ownBlock = some k → k < gp) := hide (fun k hk => by rw [← hgp]; exact (HF.out.rx.lt k hk).2)
     have HKY : Hid (∀ k, vy2.ownBlock = some k → k < gp) := hide (fun k hk => by rw [← hgp]; exact (HF.out.ry.lt k hk).2)
     have HGP : Hid (gp < w2.heap.size) := hide HP.out.1
     have HPQ : Hid (gp ≤ gp + 1) := hide (Nat.le_succ _)
     replace HF := hide (HF.out.below hb2)
     rw [hgp]
     clear hw2 hb2 d0 d1 e0 e1 hgp hb w1' jz j0 l0 lnil tm1 hmod
     obtain ⟨gq, hgq⟩ : ∃ g, gp + 1 = g := ⟨_, rfl⟩
     rw [hgq] at HQ HPQ ⊢
     clear hgq
     obtain ⟨Aw, cw, rfl⟩ := own_form HF.out.rw
     obtain ⟨Ax, cx, rfl⟩ := own_form HF.out.rx
     obtain ⟨Ay, cy, rfl⟩ := own_form HF.out.ry
     apply wp_join4 (R := fun _ _ vx vy w' => FlI w w' (.slice Aw W.length cw) vx vy W (X ++ [px]) (Y ++ [py]) ∧ Bx2 w' gp px py ∧ Bx2 w' gq qx qy)
     ·refine wp_region_ords [0, 1, 2, 5, 6, 7] 6 (.two 3 (.two 4 (.one 8 (.one 9 (.one 10 (.one 11 .done)))) 8 (.one 4 (.one 9 (.one 10 (.one 11 .done))))) 8 (.one 3 (.one 4 (.one 9 (.one 10 (.one 11 .done)))))) (fun w' => Bx2 w' gp px py) (by kernel_rfl) (by kernel_rfl) (HP.out.below (Below.refl _ _).drew) ?_
      simp only [List.map_cons, List.map_nil, opAt, List.getElem?_cons_succ, List.getElem?_cons_zero, Option.getD_some]
      have hbk : Below w2.heap.size w2 w2.drew := (Below.refl _ _).drew
      replace HF := hide (HF.out.below hbk)
      replace HP := hide (HP.out.below hbk)
      replace HQ := hide (HQ.out.below hbk)
      have HSZ : Hid (w2.heap.size ≤ w2.drew.heap.size) := hide hbk.size
      clear hbk
      obtain ⟨wc, hwc⟩ : ∃ y, w2.drew = y := ⟨_, rfl⟩
      rw [hwc] at HF HP HQ HSZ ⊢
      clear hwc
      iterate 6
       refine ⟨?_, Or.inl ⟨by rfl, ?_⟩, ?_⟩
       rotate_left 1
       ·intro w' hSw
        obtain ⟨hp0, hp1, hp2⟩ := hSw
        go_simp
        first | done | with_reducible rfl
       simp only [Act.put, List.setIfInBounds_toArray, List.set_cons_zero, List.set_cons_succ]
      simp only [wpReads, wpOrds, wpOne, opAt, List.getElem?_cons_succ, List.getElem?_cons_zero, Option.getD_some]
      refine ⟨?_, ?_⟩
      ·intro K hK
       simp only [Act.put, List.setIfInBounds_toArray, List.set_cons_zero, List.set_cons_succ] at hK ⊢
       go_simp
       have hbn : Below wc.heap.size wc (wc.alloc (.cells #[.int .i64 px] 3)) := (Below.refl _ _).alloc (Nat.le_refl _) _
       have HN4 : Hid (∀ (j : Nat) (u : Value), [Value.int .i64 px][j]? = some u → (wc.alloc (.cells #[.int .i64 px] 3)).cell? ((⟨wc.heap.size, 0, none⟩ : Addr).add j) = some u) := hide (news_new wc [.int .i64 px] 3 _ rfl)
       replace HF := hide (HF.out.below hbn)
       replace HP := hide (HP.out.below hbn)
       replace HQ := hide (HQ.out.below hbn)
       have HL4 : Hid (gp ≤ wc.heap.size ∧ wc.heap.size < (wc.alloc (.cells #[.int .i64 px] 3)).heap.size) := hide ⟨Nat.le_of_lt (Nat.lt_of_lt_of_le HGP.out HSZ.out), by simp⟩
       replace HSZ : Hid (w2.heap.size ≤ (wc.alloc (.cells #[.int .i64 px] 3)).heap.size) := hide (by have := HSZ.out; simp; omega)
       obtain ⟨b4, hb4⟩ : ∃ y, wc.heap.size = y := ⟨_, rfl⟩
       obtain ⟨wd, hwd⟩ : ∃ y, wc.alloc (.cells #[.int .i64 px] 3) = y := ⟨_, rfl⟩
       rw [hwd] at HF HP HQ HSZ HL4 HN4  ⊢
       rw [hb4] at HL4 HN4 ⊢
       clear hbn hwd hb4 wc
       obtain ⟨wc, hwc⟩ : ∃ y, y = wd := ⟨_, rfl⟩
       subst hwc
       refine hK _ _ ⟨HP.out, ?_⟩
       clear hK K
       refine ⟨?_, ?_⟩
       ·intro K hK
        simp only [Act.put, List.setIfInBounds_toArray, List.set_cons_zero, List.set_cons_succ] at hK ⊢
        refine wp_append_lies _ (.tmp 41) (.tmp 44) 96 rfl w.heap.size 3 i1 (.int .i64 0) 1 8 Tryz.underlying96 gi gz0 gz1 gz2 rfl (by decide) (.slice Ax X.length cx) X.length (X.map iv) rfl HF.out.rx ⟨b4, 0, none⟩ 1 1 [.int .i64 px] rfl rfl HN4.out (ints_one rfl) (by omega) (by unfold maxLen; omega) (by omega) (by have := HSZ.out; have := HF.out.low.size; omega) _ rfl ?_
        intro g4 cap4 wd hown9 hgrow9 hn9 hl9x
        have hv : wd.ownsRow w.heap.size 3 1 (.slice (some ⟨g4, 0, none⟩) (X.length + 1) cap4) (X ++ [px]).length ((X ++ [px]).map iv) := by simpa [iv] using hown9
        replace HF := hide (HF.out.pushX hgrow9 hv (NewB.app hn9))
        have hfar : ∀ q, gp ≤ q → q < wc.heap.size → wd.heap[q]? = wc.heap[q]? := fun q h5 h6 => hgrow9.block q h6 (fun e => by have := HKX.out q e.symm; omega)
        replace HP : Hid (Bx2 wd gp px py) := hide ⟨by have := HP.out.1; have := hgrow9.size; omega, (World.cell?_of_block (a := ⟨gp, 0, none⟩) (hfar gp (Nat.le_refl _) HP.out.1)).trans HP.out.2.1, (World.cell?_of_block (a := ⟨gp, 1, none⟩) (hfar gp (Nat.le_refl _) HP.out.1)).trans HP.out.2.2⟩
        replace HQ : Hid (Bx2 wd gq qx qy) := hide ⟨by have := HQ.out.1; have := hgrow9.size; omega, (World.cell?_of_block (a := ⟨gq, 0, none⟩) (hfar gq HPQ.out HQ.out.1)).trans HQ.out.2.1, (World.cell?_of_block (a := ⟨gq, 1, none⟩) (hfar gq HPQ.out HQ.out.1)).trans HQ.out.2.2⟩
        replace HSZ : Hid (w2.heap.size ≤ wd.heap.size) := hide (Nat.le_trans HSZ.out hgrow9.size)
        clear hown9 hgrow9 hn9 hl9x hfar hv HN4 HL4 wc
        obtain ⟨wc, hwc⟩ : ∃ y, y = wd := ⟨_, rfl⟩
        subst hwc
        first | refine hK _ _ ⟨HP.out, ?_⟩ | refine hK _ _ ⟨fun _ => HP.out, ?_⟩
        clear hK K
        intro K hK
        simp only [Act.put, List.setIfInBounds_toArray, List.set_cons_zero, List.set_cons_succ] at hK ⊢
        go_simp
        have hbn : Below wc.heap.size wc (wc.alloc (.cells #[.int .i64 py] 3)) := (Below.refl _ _).alloc (Nat.le_refl _) _
        have HN9 : Hid (∀ (j : Nat) (u : Value), [Value.int .i64 py][j]? = some u → (wc.alloc (.cells #[.int .i64 py] 3)).cell? ((⟨wc.heap.size, 0, none⟩ : Addr).add j) = some u) := hide (news_new wc [.int .i64 py] 3 _ rfl)
        replace HF := hide (HF.out.below hbn)
        replace HP := hide (HP.out.below hbn)
        replace HQ := hide (HQ.out.below hbn)
        have HL9 : Hid (gp ≤ wc.heap.size ∧ wc.heap.size < (wc.alloc (.cells #[.int .i64 py] 3)).heap.size) := hide ⟨Nat.le_of_lt (Nat.lt_of_lt_of_le HGP.out HSZ.out), by simp⟩
        replace HSZ : Hid (w2.heap.size ≤ (wc.alloc (.cells #[.int .i64 py] 3)).heap.size) := hide (by have := HSZ.out; simp; omega)
        obtain ⟨b9, hb9⟩ : ∃ y, wc.heap.size = y := ⟨_, rfl⟩
        obtain ⟨wd, hwd⟩ : ∃ y, wc.alloc (.cells #[.int .i64 py] 3) = y := ⟨_, rfl⟩
        rw [hwd] at HF HP HQ HSZ HL9 HN9  ⊢
        rw [hb9] at HL9 HN9 ⊢
        clear hbn hwd hb9 wc
        obtain ⟨wc, hwc⟩ : ∃ y, y = wd := ⟨_, rfl⟩
        subst hwc
        first | refine hK _ _ ⟨HP.out, ?_⟩ | refine hK _ _ ⟨fun _ => HP.out, ?_⟩
        clear hK K
        intro K hK
        simp only [Act.put, List.setIfInBounds_toArray, List.set_cons_zero, List.set_cons_succ] at hK ⊢
        refine wp_append_lies _ (.tmp 46) (.tmp 49) 96 rfl w.heap.size 3 i1 (.int .i64 0) 1 8 Tryz.underlying96 gi gz0 gz1 gz2 rfl (by decide) (.slice Ay Y.length cy) Y.length (Y.map iv) rfl HF.out.ry ⟨b9, 0, none⟩ 1 1 [.int .i64 py] rfl rfl HN9.out (ints_one rfl) (by omega) (by unfold maxLen; omega) (by omega) (by have := HSZ.out; have := HF.out.low.size; omega) _ rfl ?_
        intro g9 cap9 wd hown9 hgrow9 hn9 hl9x
        have hv : wd.ownsRow w.heap.size 3 1 (.slice (some ⟨g9, 0, none⟩) (Y.length + 1) cap9) (Y ++ [py]).length ((Y ++ [py]).map iv) := by simpa [iv] using hown9
        replace HF := hide (HF.out.pushY hgrow9 hv (NewB.app hn9))
        have hfar : ∀ q, gp ≤ q → q < wc.heap.size → wd.heap[q]? = wc.heap[q]? := fun q h5 h6 => hgrow9.block q h6 (fun e => by have := HKY.out q e.symm; omega)
        replace HP : Hid (Bx2 wd gp px py) := hide ⟨by have := HP.out.1; have := hgrow9.size; omega, (World.cell?_of_block (a := ⟨gp, 0, none⟩) (hfar gp (Nat.le_refl _) HP.out.1)).trans HP.out.2.1, (World.cell?_of_block (a := ⟨gp, 1, none⟩) (hfar gp (Nat.le_refl _) HP.out.1)).trans HP.out.2.2⟩
        replace HQ : Hid (Bx2 wd gq qx qy) := hide ⟨by have := HQ.out.1; have := hgrow9.size; omega, (World.cell?_of_block (a := ⟨gq, 0, none⟩) (hfar gq HPQ.out HQ.out.1)).trans HQ.out.2.1, (World.cell?_of_block (a := ⟨gq, 1, none⟩) (hfar gq HPQ.out HQ.out.1)).trans HQ.out.2.2⟩
        replace HSZ : Hid (w2.heap.size ≤ wd.heap.size) := hide (Nat.le_trans HSZ.out hgrow9.size)
        clear hown9 hgrow9 hn9 hl9x hfar hv HN9 HL9 wc
        obtain ⟨wc, hwc⟩ : ∃ y, y = wd := ⟨_, rfl⟩
        subst hwc
        first | refine hK _ _ ⟨HP.out, ?_⟩ | refine hK _ _ ⟨fun _ => HP.out, ?_⟩
        clear hK K
        intro K hK
        simp only [Act.put, List.setIfInBounds_toArray, List.set_cons_zero, List.set_cons_succ] at hK ⊢
        go_simp
        first | refine hK _ _ ⟨HP.out, ?_⟩ | refine hK _ _ ⟨fun _ => HP.out, ?_⟩
        clear hK K
        intro K hK
        simp only [Act.put, List.setIfInBounds_toArray, List.set_cons_zero, List.set_cons_succ] at hK ⊢
        go_simp
        refine hK _ _ ⟨fun h => absurd h (by decide), ?_⟩
        clear hK K
        refine NoPanic.normal ?_
        refine ⟨.slice (some ⟨b4, 0, none⟩) 1 1, .slice (some ⟨b9, 0, none⟩) 1 1, .slice (some ⟨g4, 0, none⟩) (X.length + 1) cap4, .slice (some ⟨g9, 0, none⟩) (Y.length + 1) cap9, rfl, ?_, HF.out, HP.out, HQ.out⟩
        generalize Value.slice (some ⟨b4, 0, none⟩) 1 1 = z1
        generalize Value.slice (some ⟨b9, 0, none⟩) 1 1 = z2
        generalize Value.slice (some ⟨g4, 0, none⟩) (X.length + 1) cap4 = z3
        generalize Value.slice (some ⟨g9, 0, none⟩) (Y.length + 1) cap9 = z4
        rfl
       ·intro K hK
        simp only [Act.put, List.setIfInBounds_toArray, List.set_cons_zero, List.set_cons_succ] at hK ⊢
        go_simp
        have hbn : Below wc.heap.size wc (wc.alloc (.cells #[.int .i64 py] 3)) := (Below.refl _ _).alloc (Nat.le_refl _) _
        have HN9 : Hid (∀ (j : Nat) (u : Value), [Value.int .i64 py][j]? = some u → (wc.alloc (.cells #[.int .i64 py] 3)).cell? ((⟨wc.heap.size, 0, none⟩ : Addr).add j) = some u) := hide (news_new wc [.int .i64 py] 3 _ rfl)
        replace HF := hide (HF.out.below hbn)
        replace HP := hide (HP.out.below hbn)
        replace HQ := hide (HQ.out.below hbn)
        replace HN4 : Hid (∀ (j : Nat) (u : Value), [Value.int .i64 px][j]? = some u → (wc.alloc (.cells #[.int .i64 py] 3)).cell? ((⟨b4, 0, none⟩ : Addr).add j) = some u) := hide (fun j u hu => (hbn.cell (p := (⟨b4, 0, none⟩ : Addr).add j) (by rw [addr_add]; exact Nat.lt_of_lt_of_le HL4.out.2 (Nat.le_refl _))).trans (HN4.out j u hu))
        replace HL4 : Hid (gp ≤ b4 ∧ b4 < (wc.alloc (.cells #[.int .i64 py] 3)).heap.size) := hide ⟨HL4.out.1, by have := HL4.out.2; simp; omega⟩
        have HL9 : Hid (gp ≤ wc.heap.size ∧ wc.heap.size < (wc.alloc (.cells #[.int .i64 py] 3)).heap.size) := hide ⟨Nat.le_of_lt (Nat.lt_of_lt_of_le HGP.out HSZ.out), by simp⟩
        replace HSZ : Hid (w2.heap.size ≤ (wc.alloc (.cells #[.int .i64 py] 3)).heap.size) := hide (by have := HSZ.out; simp; omega)
        obtain ⟨b9, hb9⟩ : ∃ y, wc.heap.size = y := ⟨_, rfl⟩
        obtain ⟨wd, hwd⟩ : ∃ y, wc.alloc (.cells #[.int .i64 py] 3) = y := ⟨_, rfl⟩
        rw [hwd] at HF HP HQ HSZ HL9 HN9 HN4 HL4 ⊢
        rw [hb9] at HL9 HN9 ⊢
        clear hbn hwd hb9 wc
        obtain ⟨wc, hwc⟩ : ∃ y, y = wd := ⟨_, rfl⟩
        subst hwc
        first | refine hK _ _ ⟨HP.out, ?_⟩ | refine hK _ _ ⟨fun _ => HP.out, ?_⟩
        clear hK K
        intro K hK
        simp only [Act.put, List.setIfInBounds_toArray, List.set_cons_zero, List.set_cons_succ] at hK ⊢
        refine wp_append_lies _ (.tmp 41) (.tmp 44) 96 rfl w.heap.size 3 i1 (.int .i64 0) 1 8 Tryz.underlying96 gi gz0 gz1 gz2 rfl (by decide) (.slice Ax X.length cx) X.length (X.map iv) rfl HF.out.rx ⟨b4, 0, none⟩ 1 1 [.int .i64 px] rfl rfl HN4.out (ints_one rfl) (by omega) (by unfold maxLen; omega) (by omega) (by have := HSZ.out; have := HF.out.low.size; omega) _ rfl ?_
        intro g4 cap4 wd hown9 hgrow9 hn9 hl9x
        have hv : wd.ownsRow w.heap.size 3 1 (.slice (some ⟨g4, 0, none⟩) (X.length + 1) cap4) (X ++ [px]).length ((X ++ [px]).map iv) := by simpa [iv] using hown9
        replace HF := hide (HF.out.pushX hgrow9 hv (NewB.app hn9))
        have hfar : ∀ q, gp ≤ q → q < wc.heap.size → wd.heap[q]? = wc.heap[q]? := fun q h5 h6 => hgrow9.block q h6 (fun e => by have := HKX.out q e.symm; omega)
        replace HP : Hid (Bx2 wd gp px py) := hide ⟨by have := HP.out.1; have := hgrow9.size; omega, (World.cell?_of_block (a := ⟨gp, 0, none⟩) (hfar gp (Nat.le_refl _) HP.out.1)).trans HP.out.2.1, (World.cell?_of_block (a := ⟨gp, 1, none⟩) (hfar gp (Nat.le_refl _) HP.out.1)).trans HP.out.2.2⟩
        replace HQ : Hid (Bx2 wd gq qx qy) := hide ⟨by have := HQ.out.1; have := hgrow9.size; omega, (World.cell?_of_block (a := ⟨gq, 0, none⟩) (hfar gq HPQ.out HQ.out.1)).trans HQ.out.2.1, (World.cell?_of_block (a := ⟨gq, 1, none⟩) (hfar gq HPQ.out HQ.out.1)).trans HQ.out.2.2⟩
        replace HN9 : Hid (∀ (j : Nat) (u : Value), [Value.int .i64 py][j]? = some u → wd.cell? ((⟨b9, 0, none⟩ : Addr).add j) = some u) := hide (fun j u hu => by
         have h5 := HN9.out j u hu
         rw [addr_add] at h5 ⊢
         exact (World.cell?_of_block (hfar b9 HL9.out.1 HL9.out.2)).trans h5)
        replace HL9 : Hid (gp ≤ b9 ∧ b9 < wd.heap.size) := hide ⟨HL9.out.1, Nat.lt_of_lt_of_le HL9.out.2 hgrow9.size⟩
        replace HSZ : Hid (w2.heap.size ≤ wd.heap.size) := hide (Nat.le_trans HSZ.out hgrow9.size)
        clear hown9 hgrow9 hn9 hl9x hfar hv HN4 HL4 wc
        obtain ⟨wc, hwc⟩ : ∃ y, y = wd := ⟨_, rfl⟩
        subst hwc
        first | refine hK _ _ ⟨HP.out, ?_⟩ | refine hK _ _ ⟨fun _ => HP.out, ?_⟩
        clear hK K
        intro K hK
        simp only [Act.put, List.setIfInBounds_toArray, List.set_cons_zero, List.set_cons_succ] at hK ⊢
        refine wp_append_lies _ (.tmp 46) (.tmp 49) 96 rfl w.heap.size 3 i1 (.int .i64 0) 1 8 Tryz.underlying96 gi gz0 gz1 gz2 rfl (by decide) (.slice Ay Y.length cy) Y.length (Y.map iv) rfl HF.out.ry ⟨b9, 0, none⟩ 1 1 [.int .i64 py] rfl rfl HN9.out (ints_one rfl) (by omega) (by unfold maxLen; omega) (by omega) (by have := HSZ.out; have := HF.out.low.size; omega) _ rfl ?_
        intro g9 cap9 wd hown9 hgrow9 hn9 hl9x
        have hv : wd.ownsRow w.heap.size 3 1 (.slice (some ⟨g9, 0, none⟩) (Y.length + 1) cap9) (Y ++ [py]).length ((Y ++ [py]).map iv) := by simpa [iv] using hown9
        replace HF := hide (HF.out.pushY hgrow9 hv (NewB.app hn9))
        have hfar : ∀ q, gp ≤ q → q < wc.heap.size → wd.heap[q]? = wc.heap[q]? := fun q h5 h6 => hgrow9.block q h6 (fun e => by have := HKY.out q e.symm; omega)
        replace HP : Hid (Bx2 wd gp px py) := hide ⟨by have := HP.out.1; have := hgrow9.size; omega, (World.cell?_of_block (a := ⟨gp, 0, none⟩) (hfar gp (Nat.le_refl _) HP.out.1)).trans HP.out.2.1, (World.cell?_of_block (a := ⟨gp, 1, none⟩) (hfar gp (Nat.le_refl _) HP.out.1)).trans HP.out.2.2⟩
        replace HQ : Hid (Bx2 wd gq qx qy) := hide ⟨by have := HQ.out.1; have := hgrow9.size; omega, (World.cell?_of_block (a := ⟨gq, 0, none⟩) (hfar gq HPQ.out HQ.out.1)).trans HQ.out.2.1, (World.cell?_of_block (a := ⟨gq, 1, none⟩) (hfar gq HPQ.out HQ.out.1)).trans HQ.out.2.2⟩
        replace HSZ : Hid (w2.heap.size ≤ wd.heap.size) := hide (Nat.le_trans HSZ.out hgrow9.size)
        clear hown9 hgrow9 hn9 hl9x hfar hv HN9 HL9 wc
        obtain ⟨wc, hwc⟩ : ∃ y, y = wd := ⟨_, rfl⟩
        subst hwc
        first | refine hK _ _ ⟨HP.out, ?_⟩ | refine hK _ _ ⟨fun _ => HP.out, ?_⟩
        clear hK K
        intro K hK
        simp only [Act.put, List.setIfInBounds_toArray, List.set_cons_zero, List.set_cons_succ] at hK ⊢
        go_simp
        first | refine hK _ _ ⟨HP.out, ?_⟩ | refine hK _ _ ⟨fun _ => HP.out, ?_⟩
        clear hK K
        intro K hK
        simp only [Act.put, List.setIfInBounds_toArray, List.set_cons_zero, List.set_cons_succ] at hK ⊢
        go_simp
        refine hK _ _ ⟨fun h => absurd h (by decide), ?_⟩
        clear hK K
        refine NoPanic.normal ?_
        refine ⟨.slice (some ⟨b4, 0, none⟩) 1 1, .slice (some ⟨b9, 0, none⟩) 1 1, .slice (some ⟨g4, 0, none⟩) (X.length + 1) cap4, .slice (some ⟨g9, 0, none⟩) (Y.length + 1) cap9, rfl, ?_, HF.out, HP.out, HQ.out⟩
        generalize Value.slice (some ⟨b4, 0, none⟩) 1 1 = z1
        generalize Value.slice (some ⟨b9, 0, none⟩) 1 1 = z2
        generalize Value.slice (some ⟨g4, 0, none⟩) (X.length + 1) cap4 = z3
        generalize Value.slice (some ⟨g9, 0, none⟩) (Y.length + 1) cap9 = z4
        rfl
      ·intro K hK
       simp only [Act.put, List.setIfInBounds_toArray, List.set_cons_zero, List.set_cons_succ] at hK ⊢
       go_simp
       have hbn : Below wc.heap.size wc (wc.alloc (.cells #[.int .i64 py] 3)) := (Below.refl _ _).alloc (Nat.le_refl _) _
       have HN9 : Hid (∀ (j : Nat) (u : Value), [Value.int .i64 py][j]? = some u → (wc.alloc (.cells #[.int .i64 py] 3)).cell? ((⟨wc.heap.size, 0, none⟩ : Addr).add j) = some u) := hide (news_new wc [.int .i64 py] 3 _ rfl)
       replace HF := hide (HF.out.below hbn)
       replace HP := hide (HP.out.below hbn)
       replace HQ := hide (HQ.out.below hbn)
       have HL9 : Hid (gp ≤ wc.heap.size ∧ wc.heap.size < (wc.alloc (.cells #[.int .i64 py] 3)).heap.size) := hide ⟨Nat.le_of_lt (Nat.lt_of_lt_of_le HGP.out HSZ.out), by simp⟩
       replace HSZ : Hid (w2.heap.size ≤ (wc.alloc (.cells #[.int .i64 py] 3)).heap.size) := hide (by have := HSZ.out; simp; omega)
       obtain ⟨b9, hb9⟩ : ∃ y, wc.heap.size = y := ⟨_, rfl⟩
       obtain ⟨wd, hwd⟩ : ∃ y, wc.alloc (.cells #[.int .i64 py] 3) = y := ⟨_, rfl⟩
       rw [hwd] at HF HP HQ HSZ HL9 HN9  ⊢
       rw [hb9] at HL9 HN9 ⊢
       clear hbn hwd hb9 wc
       obtain ⟨wc, hwc⟩ : ∃ y, y = wd := ⟨_, rfl⟩
       subst hwc
       first | refine hK _ _ ⟨HP.out, ?_⟩ | refine hK _ _ ⟨fun _ => HP.out, ?_⟩
       clear hK K
       intro K hK
       simp only [Act.put, List.setIfInBounds_toArray, List.set_cons_zero, List.set_cons_succ] at hK ⊢
       go_simp
       have hbn : Below wc.heap.size wc (wc.alloc (.cells #[.int .i64 px] 3)) := (Below.refl _ _).alloc (Nat.le_refl _) _
       have HN4 : Hid (∀ (j : Nat) (u : Value), [Value.int .i64 px][j]? = some u → (wc.alloc (.cells #[.int .i64 px] 3)).cell? ((⟨wc.heap.size, 0, none⟩ : Addr).add j) = some u) := hide (news_new wc [.int .i64 px] 3 _ rfl)
       replace HF := hide (HF.out.below hbn)
       replace HP := hide (HP.out.below hbn)
       replace HQ := hide (HQ.out.below hbn)
       replace HN9 : Hid (∀ (j : Nat) (u : Value), [Value.int .i64 py][j]? = some u → (wc.alloc (.cells #[.int .i64 px] 3)).cell? ((⟨b9, 0, none⟩ : Addr).add j) = some u) := hide (fun j u hu => (hbn.cell (p := (⟨b9, 0, none⟩ : Addr).add j) (by rw [addr_add]; exact Nat.lt_of_lt_of_le HL9.out.2 (Nat.le_refl _))).trans (HN9.out j u hu))
       replace HL9 : Hid (gp ≤ b9 ∧ b9 < (wc.alloc (.cells #[.int .i64 px] 3)).heap.size) := hide ⟨HL9.out.1, by have := HL9.out.2; simp; omega⟩
       have HL4 : Hid (gp ≤ wc.heap.size ∧ wc.heap.size < (wc.alloc (.cells #[.int .i64 px] 3)).heap.size) := hide ⟨Nat.le_of_lt (Nat.lt_of_lt_of_le HGP.out HSZ.out), by simp⟩
       replace HSZ : Hid (w2.heap.size ≤ (wc.alloc (.cells #[.int .i64 px] 3)).heap.size) := hide (by have := HSZ.out; simp; omega)
       obtain ⟨b4, hb4⟩ : ∃ y, wc.heap.size = y := ⟨_, rfl⟩
       obtain ⟨wd, hwd⟩ : ∃ y, wc.alloc (.cells #[.int .i64 px] 3) = y := ⟨_, rfl⟩
       rw [hwd] at HF HP HQ HSZ HL4 HN4 HN9 HL9 ⊢
       rw [hb4] at HL4 HN4 ⊢
       clear hbn hwd hb4 wc
       obtain ⟨wc, hwc⟩ : ∃ y, y = wd := ⟨_, rfl⟩
       subst hwc
       first | refine hK _ _ ⟨HP.out, ?_⟩ | refine hK _ _ ⟨fun _ => HP.out, ?_⟩
       clear hK K
       intro K hK
       simp only [Act.put, List.setIfInBounds_toArray, List.set_cons_zero, List.set_cons_succ] at hK ⊢
       refine wp_append_lies _ (.tmp 41) (.tmp 44) 96 rfl w.heap.size 3 i1 (.int .i64 0) 1 8 Tryz.underlying96 gi gz0 gz1 gz2 rfl (by decide) (.slice Ax X.length cx) X.length (X.map iv) rfl HF.out.rx ⟨b4, 0, none⟩ 1 1 [.int .i64 px] rfl rfl HN4.out (ints_one rfl) (by omega) (by unfold maxLen; omega) (by omega) (by have := HSZ.out; have := HF.out.low.size; omega) _ rfl ?_
       intro g4 cap4 wd hown9 hgrow9 hn9 hl9x
       have hv : wd.ownsRow w.heap.size 3 1 (.slice (some ⟨g4, 0, none⟩) (X.length + 1) cap4) (X ++ [px]).length ((X ++ [px]).map iv) := by simpa [iv] using hown9
       replace HF := hide (HF.out.pushX hgrow9 hv (NewB.app hn9))
       have hfar : ∀ q, gp ≤ q → q < wc.heap.size → wd.heap[q]? = wc.heap[q]? := fun q h5 h6 => hgrow9.block q h6 (fun e => by have := HKX.out q e.symm; omega)
       replace HP : Hid (Bx2 wd gp px py) := hide ⟨by have := HP.out.1; have := hgrow9.size; omega, (World.cell?_of_block (a := ⟨gp, 0, none⟩) (hfar gp (Nat.le_refl _) HP.out.1)).trans HP.out.2.1, (World.cell?_of_block (a := ⟨gp, 1, none⟩) (hfar gp (Nat.le_refl _) HP.out.1)).trans HP.out.2.2⟩
       replace HQ : Hid (Bx2 wd gq qx qy) := hide ⟨by have := HQ.out.1; have := hgrow9.size; omega, (World.cell?_of_block (a := ⟨gq, 0, none⟩) (hfar gq HPQ.out HQ.out.1)).trans HQ.out.2.1, (World.cell?_of_block (a := ⟨gq, 1, none⟩) (hfar gq HPQ.out HQ.out.1)).trans HQ.out.2.2⟩
       replace HN9 : Hid (∀ (j : Nat) (u : Value), [Value.int .i64 py][j]? = some u → wd.cell? ((⟨b9, 0, none⟩ : Addr).add j) = some u) := hide (fun j u hu => by
        have h5 := HN9.out j u hu
        rw [addr_add] at h5 ⊢
        exact (World.cell?_of_block (hfar b9 HL9.out.1 HL9.out.2)).trans h5)
       replace HL9 : Hid (gp ≤ b9 ∧ b9 < wd.heap.size) := hide ⟨HL9.out.1, Nat.lt_of_lt_of_le HL9.out.2 hgrow9.size⟩
       replace HSZ : Hid (w2.heap.size ≤ wd.heap.size) := hide (Nat.le_trans HSZ.out hgrow9.size)
       clear hown9 hgrow9 hn9 hl9x hfar hv HN4 HL4 wc
       obtain ⟨wc, hwc⟩ : ∃ y, y = wd := ⟨_, rfl⟩
       subst hwc
       first | refine hK _ _ ⟨HP.out, ?_⟩ | refine hK _ _ ⟨fun _ => HP.out, ?_⟩
       clear hK K
       intro K hK
       simp only [Act.put, List.setIfInBounds_toArray, List.set_cons_zero, List.set_cons_succ] at hK ⊢
       refine wp_append_lies _ (.tmp 46) (.tmp 49) 96 rfl w.heap.size 3 i1 (.int .i64 0) 1 8 Tryz.underlying96 gi gz0 gz1 gz2 rfl (by decide) (.slice Ay Y.length cy) Y.length (Y.map iv) rfl HF.out.ry ⟨b9, 0, none⟩ 1 1 [.int .i64 py] rfl rfl HN9.out (ints_one rfl) (by omega) (by unfold maxLen; omega) (by omega) (by have := HSZ.out; have := HF.out.low.size; omega) _ rfl ?_
       intro g9 cap9 wd hown9 hgrow9 hn9 hl9x
       have hv : wd.ownsRow w.heap.size 3 1 (.slice (some ⟨g9, 0, none⟩) (Y.length + 1) cap9) (Y ++ [py]).length ((Y ++ [py]).map iv) := by simpa [iv] using hown9
       replace HF := hide (HF.out.pushY hgrow9 hv (NewB.app hn9))
       have hfar : ∀ q, gp ≤ q → q < wc.heap.size → wd.heap[q]? = wc.heap[q]? := fun q h5 h6 => hgrow9.block q h6 (fun e => by have := HKY.out q e.symm; omega)
       replace HP : Hid (Bx2 wd gp px py) := hide ⟨by have := HP.out.1; have := hgrow9.size; omega, (World.cell?_of_block (a := ⟨gp, 0, none⟩) (hfar gp (Nat.le_refl _) HP.out.1)).trans HP.out.2.1, (World.cell?_of_block (a := ⟨gp, 1, none⟩) (hfar gp (Nat.le_refl _) HP.out.1)).trans HP.out.2.2⟩
       replace HQ : Hid (Bx2 wd gq qx qy) := hide ⟨by have := HQ.out.1; have := hgrow9.size; omega, (World.cell?_of_block (a := ⟨gq, 0, none⟩) (hfar gq HPQ.out HQ.out.1)).trans HQ.out.2.1, (World.cell?_of_block (a := ⟨gq, 1, none⟩) (hfar gq HPQ.out HQ.out.1)).trans HQ.out.2.2⟩
       replace HSZ : Hid (w2.heap.size ≤ wd.heap.size) := hide (Nat.le_trans HSZ.out hgrow9.size)
       clear hown9 hgrow9 hn9 hl9x hfar hv HN9 HL9 wc
       obtain ⟨wc, hwc⟩ : ∃ y, y = wd := ⟨_, rfl⟩
       subst hwc
       first | refine hK _ _ ⟨HP.out, ?_⟩ | refine hK _ _ ⟨fun _ => HP.out, ?_⟩
       clear hK K
       intro K hK
       simp only [Act.put, List.setIfInBounds_toArray, List.set_cons_zero, List.set_cons_succ] at hK ⊢
       go_simp
       first | refine hK _ _ ⟨HP.out, ?_⟩ | refine hK _ _ ⟨fun _ => HP.out, ?_⟩
       clear hK K
       intro K hK
       simp only [Act.put, List.setIfInBounds_toArray, List.set_cons_zero, List.set_cons_succ] at hK ⊢
       go_simp
       refine hK _ _ ⟨fun h => absurd h (by decide), ?_⟩
       clear hK K
       refine NoPanic.normal ?_
       refine ⟨.slice (some ⟨b4, 0, none⟩) 1 1, .slice (some ⟨b9, 0, none⟩) 1 1, .slice (some ⟨g4, 0, none⟩) (X.length + 1) cap4, .slice (some ⟨g9, 0, none⟩) (Y.length + 1) cap9, rfl, ?_, HF.out, HP.out, HQ.out⟩
       generalize Value.slice (some ⟨b4, 0, none⟩) 1 1 = z1
       generalize Value.slice (some ⟨b9, 0, none⟩) 1 1 = z2
       generalize Value.slice (some ⟨g4, 0, none⟩) (X.length + 1) cap4 = z3
       generalize Value.slice (some ⟨g9, 0, none⟩) (Y.length + 1) cap9 = z4
       rfl
     intro _ _ vx1 vy1 w3 hR3
     obtain ⟨hf3, hp3, hq3⟩ := hR3
     have HF3 := hide hf3
     have HP3 := hide hp3
     have HQ3 := hide hq3
     obtain ⟨hp30, hp31, hp32⟩ := hp3
     obtain ⟨hq30, hq31, hq32⟩ := hq3
     clear hf3 HF HP HQ
     by_cases hpq : px = qx
     ·have b0 : (px == qx) = true := by simpa using hpq
      have HSW2 : Hid (wlA L l k9 (m + 1) = W ++ [(px, min py qy, max py qy, cmpI py qy)]) := hide (by rw [HSW.out]; unfold wallQ; rw [if_pos hpq])
      have HCM := hide (fun V => cmpI_any py qy V)
      clear hpq HSW
      go_upto_region 12 with fail
      clear b0 hp30 hp31 hp32 hq30 hq31 hq32
      have hbk : Below w3.heap.size w3 w3.drew := (Below.refl _ _).drew
      refine wp_region_mix [0, 1, 2, 3, 4, 5, 6, 7, 8, 9, 10, 11, 12, 13, 14, 15, 16] [17, 18, 19, 20, 21] (fun w' => Bx2 w' gp px py ∧ Bx2 w' gq qx qy) (by kernel_rfl) (by kernel_rfl) ⟨HP3.out.below hbk, HQ3.out.below hbk⟩ ?_
      simp only [List.map_cons, List.map_nil, opAt, List.getElem?_cons_succ, List.getElem?_cons_zero, Option.getD_some]
      have HF4 := hide (HF3.out.below hbk)
      have HP4 := hide (HP3.out.below hbk)
      have HQ4 := hide (HQ3.out.below hbk)
      clear hbk HF3 HP3 HQ3
      generalize w3.drew = wk at *
      iterate 17
       refine ⟨?_, Or.inl ⟨by rfl, ?_⟩, ?_⟩
       rotate_left 1
       ·intro w' hSw
        obtain ⟨⟨hp30, hp31, hp32⟩, hq30, hq31, hq32⟩ := hSw
        have hmin := run_minO (P := Tryz.prog) w' #[3, 3] 3 py qy
        have hmax := run_maxO (P := Tryz.prog) w' #[3, 3] 3 py qy
        go_simp
        first | done | with_reducible rfl
       simp only [Act.put, List.setIfInBounds_toArray, List.set_cons_zero, List.set_cons_succ]
      simp only [wpReads]
      intro K hK
      simp only [Act.put, List.setIfInBounds_toArray, List.set_cons_zero, List.set_cons_succ] at hK ⊢
      go_simp
      refine (HCM.out _).mono ?_
      rintro e w5 ⟨rfl, rfl⟩
      have hb5 : Below w5.heap.size w5 w5 := Below.refl _ _
      have HF5 := hide (HF4.out.below hb5)
      have HP5 := hide (HP4.out.below hb5)
      have HQ5 := hide (HQ4.out.below hb5)
      refine hK _ _ (fun _ => ⟨HP5.out, HQ5.out⟩) ?_
      clear hK K hb5 HCM
      intro K hK
      simp only [Act.put, List.setIfInBounds_toArray, List.set_cons_zero, List.set_cons_succ] at hK ⊢
      go_simp
      refine hK _ _ (fun _ => ⟨HP5.out, HQ5.out⟩) ?_
      clear hK K
      intro K hK
      simp only [Act.put, List.setIfInBounds_toArray, List.set_cons_zero, List.set_cons_succ] at hK ⊢
      go_simp
      have hbn : Below w5.heap.size w5 (w5.alloc (.cells #[.int .i64 px, .int .i64 (min py qy), .int .i64 (max py qy), .int .i64 (cmpI py qy)] 136)) := (Below.refl _ _).alloc (Nat.le_refl _) _
      have HNW := hide (news_new w5 [.int .i64 px, .int .i64 (min py qy), .int .i64 (max py qy), .int .i64 (cmpI py qy)] 136 _ rfl)
      have HF6 := hide (HF5.out.below hbn)
      refine hK _ _ (fun _ => ⟨HP5.out.below hbn, HQ5.out.below hbn⟩) ?_
      clear hK K
      intro K hK
      simp only [Act.put, List.setIfInBounds_toArray, List.set_cons_zero, List.set_cons_succ] at hK ⊢
      refine wp_append_lies _ (.tmp 56) (.tmp 75) 134 rfl w.heap.size 136 i2 (.agg #[.int .i64 0, .int .i64 0, .int .i64 0, .int .i64 0]) 4 32 Tryz.underlying134 fi fz0 fz1 fz2 rfl (by decide) (.slice Aw W.length cw) W.length (W.flatMap encW) rfl HF6.out.rw ⟨w5.heap.size, 0, none⟩ 1 1 [.int .i64 px, .int .i64 (min py qy), .int .i64 (max py qy), .int .i64 (cmpI py qy)] rfl rfl HNW.out (ints_one rfl) (by omega) (by unfold maxLen; omega) (by omega) (HF6.out.low.size) _ rfl ?_
      intro g9 cap9 w9 hown9 hgrow9 hn9 hl9x
      have HF9 : Hid (FlI w w9 (.slice (some ⟨g9, 0, none⟩) (W.length + 1) cap9) vx1 vy1 (W ++ [(px, min py qy, max py qy, cmpI py qy)]) (X ++ [px]) (Y ++ [py])) := hide (HF6.out.pushW hgrow9 (by simpa [encW] using hown9) (NewB.app hn9))
      have hfar : ∀ q, gp ≤ q → q < w5.heap.size → w9.heap[q]? = w5.heap[q]? := fun q h5 h6 => (hgrow9.block q (by simp; omega) (fun e => by have := HKW.out q e.symm; omega)).trans (hbn.block q h6)
      have HS9 : Hid (Bx2 w9 gp px py ∧ Bx2 w9 gq qx qy) := hide (by
       have hz : w5.heap.size ≤ w9.heap.size := by have := hgrow9.size; simp at this; omega
       exact ⟨⟨by have := HP5.out.1; omega, (World.cell?_of_block (a := ⟨gp, 0, none⟩) (hfar gp (Nat.le_refl _) HP5.out.1)).trans HP5.out.2.1, (World.cell?_of_block (a := ⟨gp, 1, none⟩) (hfar gp (Nat.le_refl _) HP5.out.1)).trans HP5.out.2.2⟩, by have := HQ5.out.1; omega, (World.cell?_of_block (a := ⟨gq, 0, none⟩) (hfar gq HPQ.out HQ5.out.1)).trans HQ5.out.2.1, (World.cell?_of_block (a := ⟨gq, 1, none⟩) (hfar gq HPQ.out HQ5.out.1)).trans HQ5.out.2.2⟩)
      clear hown9 hgrow9 hn9 hl9x hfar hbn
      refine hK _ _ (fun _ => HS9.out) ?_
      clear hK K
      intro K hK
      simp only [Act.put, List.setIfInBounds_toArray, List.set_cons_zero, List.set_cons_succ] at hK ⊢
      go_simp
      refine hK _ _ (fun h => absurd rfl h) ?_
      clear hK K
      refine NoPanic.normal ?_
      go_wp2
      go_roundw
      case rel => exact ⟨m + 1, _, _, _, by omega, by go_num, rfl, rfl, rfl, hide (by rw [HSW2.out, HSX.out, HSY.out]; exact HF9.out)⟩
      case measure => simp [intOf]; omega
     ·have b0 : (px == qx) = false := by simpa using hpq
      have HSW2 : Hid (wlA L l k9 (m + 1) = W) := hide (by rw [HSW.out]; unfold wallQ; rw [if_neg hpq, List.append_nil])
      clear hpq HSW
      go_wp2
      go_roundw
      case rel => exact ⟨m + 1, _, _, _, by omega, by go_num, rfl, rfl, rfl, hide (by rw [HSW2.out, HSX.out, HSY.out]; exact HF3.out)⟩
      case measure => simp [intOf]; omega
    ·have mz : ¬ (m : Int) < (l.length : Int) := by omega
     obtain rfl : m = l.length := by omega
     have HFN : Hid (FlI w wr vw2 vx2 vy2 (wallsF (L.take (k9 + 1))) (xsL (L.take (k9 + 1))) (ysL (L.take (k9 + 1)))) := hide (by obtain ⟨e1, e2, e3⟩ := HPA.out; rw [← e1, ← e2, ← e3]; exact HF.out)
     go_wp2
     go_roundw
     case rel => exact ⟨k9 + 1, _, _, _, by omega, by go_num, rfl, rfl, rfl, HFN⟩
     case measure => simp [intOf]; omega
  ·have hkz : ¬ (k9 : Int) < (L.length : Int) := by omega
   have hke : k9 = L.length := Nat.le_antisymm hk9 (Nat.le_of_not_lt hlt9)
   clear hk9 hlt9
   subst hke
   rw [List.take_length] at HFO
   have HLW : Hid ((wallsF L).length ≤ 2000) := hide (Nat.le_trans (wallsF_len L) HSUM.out)
   have HLX : Hid ((xsL L).length ≤ 2000) := hide (by rw [(xsL_len L).1]; exact HSUM.out)
   have HLY : Hid ((ysL L).length ≤ 2000) := hide (by rw [(xsL_len L).2]; exact HSUM.out)
   have HWM : Hid (∀ w ∈ wallsF L, w.1 ∈ cutsOf (xsL L)) := hide (fun w hw => ((cutsOf_ok (xsL L)).2 _).2 (walls_in hw).1)
   obtain ⟨Ax, cx, rfl⟩ := own_form HFO.out.rx
   obtain ⟨Ay, cy, rfl⟩ := own_form HFO.out.ry
   obtain ⟨Aw, cw, rfl⟩ := own_form HFO.out.rw
   have hlx := HLX.out
   have hly := HLY.out
   have hlw := HLW.out
   go_wp2_with (fail)
   go_at_call 62
   refine (sortI_any _ (.slice Ax (xsL L).length cx) _ wr HFO.out.rx (by omega)).mono ?_
   rintro e w1 ⟨rfl, ho1, hg1⟩
   have HF1 := hide (HFO.out.pushX (X9 := (xsL L).mergeSort fun x y => decide (x ≤ y)) hg1 (own_n ho1 (List.length_mergeSort _).symm) (NewB.refl _ _))
   clear ho1 hg1 HFO
   go_wp2_with (fail)
   go_at_call 62
   refine (sortI_any _ (.slice Ay (ysL L).length cy) _ w1 HF1.out.ry (by omega)).mono ?_
   rintro e w2 ⟨rfl, ho1, hg1⟩
   have HF2 := hide (HF1.out.pushY (Y9 := (ysL L).mergeSort fun x y => decide (x ≤ y)) hg1 (own_n ho1 (List.length_mergeSort _).symm) (NewB.refl _ _))
   clear ho1 hg1 HF1
   go_wp2_with (fail)
   go_at_call 63
   refine (compI_any _ (.slice Ax (xsL L).length cx) _ w2 HF2.out.rx (by rw [List.length_mergeSort]; omega)).mono ?_
   rintro e w3 ⟨v3, rfl, hv3, ho3, hg3⟩
   have HF3 := hide (HF2.out.pushX (X9 := cutsOf (xsL L)) hg3 ho3 (fun k hk => .inl (by rw [← hv3]; exact hk)))
   obtain ⟨A3, c3, h33⟩ := own_form HF3.out.rx
   subst h33
   clear ho3 hg3 hv3 HF2
   go_wp2_with (fail)
   go_at_call 63
   refine (compI_any _ (.slice Ay (ysL L).length cy) _ w3 HF3.out.ry (by rw [List.length_mergeSort]; omega)).mono ?_
   rintro e w4 ⟨v4, rfl, hv4, ho4, hg4⟩
   have HF4 := hide (HF3.out.pushY (Y9 := cutsOf (ysL L)) hg4 ho4 (fun k hk => .inl (by rw [← hv4]; exact hk)))
   obtain ⟨A4, c4, h44⟩ := own_form HF4.out.ry
   subst h44
   clear ho4 hg4 hv4 HF3
   go_wp2_with (fail)
   go_at_call 84
   refine (sortWl_any _ (.slice Aw (wallsF L).length cw) _ (walls_fin HFIN.out) w4 HF4.out.rw (by omega)).mono ?_
   rintro e w5 ⟨rfl, V, hp5, hs5, ho5, hg5⟩
   have HF5 := hide (HF4.out.pushW hg5 ho5 (NewB.refl _ _))
   have HSR : Hid (SrtW (wallsF L) V) := hide ⟨hp5, hs5⟩
   have hvl : (wallsF L).length = V.length := hp5.length_eq.symm
   have HWB : Hid (∀ w ∈ V, -1 ≤ w.2.2.2 ∧ w.2.2.2 ≤ 1) := hide (fun w hw => walls_by w (hp5.mem_iff.1 hw))
   clear hp5 hs5 ho5 hg5 HF4
   rw [hvl] at HF5 hlw ⊢
   have hlxc : (cutsOf (xsL L)).length ≤ 2000 := Nat.le_trans (cutsOf_len _) hlx
   have hlyc : (cutsOf (ysL L)).length ≤ 2000 := Nat.le_trans (cutsOf_len _) hly
   obtain ⟨CS, hCS, hmk⟩ := make_is (cutsOf (ysL L)).length (by omega)
   have HRX : Hid (RdK encI 1 w5 w5.heap.size (.slice A3 (cutsOf (xsL L)).length c3) (cutsOf (xsL L))) := hide (own_rdI HF5.out.rx)
   have HRY : Hid (RdK encI 1 w5 w5.heap.size (.slice A4 (cutsOf (ysL L)).length c4) (cutsOf (ysL L))) := hide (own_rdI HF5.out.ry)
   have HRW0 : Hid (RdK encW 4 w5 w5.heap.size (.slice Aw V.length cw) V) := hide (own_rd (l := V) HF5.out.rw (fun _ => rfl))
   have hcw : V.length ≤ cw := by
    rcases HF5.out.rw.2 with ⟨h5, h6⟩ | ⟨g5, cap5, cur5, h5, _, _, h6, _⟩
    ·omega
    ·injection h5 with _ _ h7
     omega
   clear hvl hlx hly
   go_upto_region 22 with fail
   refine wp_name fun w7 hw7 => ?_
   obtain ⟨g, hg⟩ : ∃ g, w5.heap.size = g := ⟨_, rfl⟩
   have HDI0 : Hid (DI w5 w7 g (cutsOf (ysL L)).length ((cutsOf (ysL L)).map (cntW (V.take 0))) (.slice none 0 0) (preF L 0)) := hide (by
    have h5 := hCS w5 w5.heap.size (Nat.le_refl _)
    rw [← hg, hw7]
    refine ⟨?_, ?_, World.ownsRow_nil _ _ _ _, by simp⟩
    ·repeat (first | with_reducible exact Below.refl _ _ | with_reducible refine Below.alloc ?_ (by first | omega | (simp; omega) | simp) _)
    ·rw [List.take_zero, cntW_nil]
     rw [List.length_replicate] at h5
     exact h5)
   rw [hg] at HRX HRY HRW0 ⊢
   have HBG : Hid (Below w.heap.size w w5 ∧ w.heap.size ≤ g) := hide ⟨HF5.out.low, by rw [← hg]; exact HF5.out.low.size⟩
   clear hw7 hg HF5 hCS hmk
   have hpf : preF L 0 = [] := rfl
   go_loopw [3, 12, 94] (fun sv o i wr => ∃ (i9 m : Nat) (Am : Option Addr) (cm : Nat) (vo : Value), i9 ≤ (cutsOf (xsL L)).length ∧ i = .int .i64 (i9 : Int) ∧ sv = .slice Am (V.length - m) cm ∧ vo = o ∧ V.length - m ≤ cm ∧ m ≤ V.length ∧ Hid (∀ x, (cutsOf (xsL L))[i9]? = some x → AtX V x m) ∧ Hid (RdK encW 4 w5 g (.slice Am (V.length - m) cm) (V.drop m)) ∧ Hid (DI w5 wr g (cutsOf (ysL L)).length ((cutsOf (ysL L)).map (cntW (V.take m))) vo (preF L i9))) (fun _ _ i _ => (cutsOf (xsL L)).length - (intOf i).toNat)
   case atStart => exact ⟨0, 0, Aw, cw, .slice none 0 0, Nat.zero_le _, rfl, rfl, rfl, hcw, Nat.zero_le _, hide (fun x hx => AtX.start HSR.out (cutsOf_ok _).1 HWM.out hx), HRW0, HDI0⟩
   case round =>
    clear HDI0 HRW0 hcw hpf
    obtain ⟨i9, m0, Am0, cm0, vo, hi9, rfl, rfl, e1, hmc0, hmV0, HAT0, HRW0, HD0⟩ := hrel
    subst e1
    by_cases hlti : i9 < (cutsOf (xsL L)).length
    ·obtain ⟨x, hx⟩ : ∃ x, (cutsOf (xsL L))[i9]? = some x := ⟨_, List.getElem?_eq_getElem hlti⟩
     obtain ⟨bx, ox, rfl, hbx, hcx⟩ := rdI_cell HRX.out (fun e => by rw [e] at hlti; simp at hlti)
     have HXC := hide hcx
     have HX := hide hx
     have HATX : Hid (AtX V x m0) := hide (HAT0.out x hx)
     have dx := hcx wr HD0.out.low _ _ hx
     have hiz : (i9 : Int) < ((cutsOf (xsL L)).length : Int) := by omega
     have hi0 : (0 : Int) ≤ (i9 : Int) := by omega
     have hbr : bx < wr.heap.size := by have := HD0.out.size; omega
     clear hx hcx HAT0
     go_upto_block 6 with fail
     clear dx hbr
     go_cut [3] from 99 to 144 (fun sv wx => ∃ (m : Nat) (Am : Option Addr) (cm : Nat), sv = .slice Am (V.length - m) cm ∧ V.length - m ≤ cm ∧ m ≤ V.length ∧ AtX V x m ∧ (∀ w, V[m]? = some w → w.1 ≠ x) ∧ RdK encW 4 w5 g (.slice Am (V.length - m) cm) (V.drop m) ∧ DI w5 wx g (cutsOf (ysL L)).length ((cutsOf (ysL L)).map (cntW (V.take m))) vo (preF L i9))
     case first =>
      go_wp2_with fail
      go_loopw [3] (fun sv wr => ∃ (m : Nat) (Am : Option Addr) (cm : Nat), sv = .slice Am (V.length - m) cm ∧ V.length - m ≤ cm ∧ m ≤ V.length ∧ Hid (AtX V x m) ∧ Hid (RdK encW 4 w5 g (.slice Am (V.length - m) cm) (V.drop m)) ∧ Hid (DI w5 wr g (cutsOf (ysL L)).length ((cutsOf (ysL L)).map (cntW (V.take m))) vo (preF L i9))) (fun sv _ => lenV sv)
      case atStart => exact ⟨m0, Am0, cm0, rfl, hmc0, hmV0, HATX, HRW0, HD0⟩
      case round =>
       clear HATX HRW0 HD0
       obtain ⟨m, Am, cm, rfl, hmc, hmV, HAT, HRW, HD⟩ := hrel
       by_cases hmz : m < V.length
       ·obtain ⟨⟨wx, wlo, whi, wby⟩, hwm⟩ : ∃ y, V[m]? = some y := ⟨_, List.getElem?_eq_getElem hmz⟩
        have hdrop := drop_at hwm
        obtain ⟨bw, ow, rfl, hbw, d0, d1, d2, d3⟩ : ∃ b o, Am = some ⟨b, o, none⟩ ∧ b < g ∧ wr.cell? ⟨b, o, none⟩ = some (.int .i64 wx) ∧ wr.cell? ⟨b, o + 1, none⟩ = some (.int .i64 wlo) ∧ wr.cell? ⟨b, o + 2, none⟩ = some (.int .i64 whi) ∧ wr.cell? ⟨b, o + 3, none⟩ = some (.int .i64 wby) := by
         obtain ⟨A1, c1, hv, h5⟩ := HRW.out
         injection hv with e1 _ _
         subst e1
         obtain ⟨b, o, rfl, hb, hc⟩ := h5 (by rw [hdrop]; simp)
         have h0 : (V.drop m)[0]? = some (wx, wlo, whi, wby) := by rw [hdrop]; rfl
         have t := fun (i : Nat) (u : Value) (hu : (encW (wx, wlo, whi, wby))[i]? = some u) => (HD.out.low.cell (p := ⟨b, o + 0 * 4 + i, none⟩) hb).trans (hc 0 _ h0 i u hu)
         exact ⟨b, o, rfl, hb, by simpa using t 0 _ rfl, by simpa using t 1 _ rfl, by simpa using t 2 _ rfl, by simpa using t 3 _ rfl⟩
        have hbwr : bw < wr.heap.size := by have := HD.out.size; omega
        have hmz' : (0 : Int) < ((V.length - m : Nat) : Int) := by omega
        have hmz2 : 0 < V.length - m := by omega
        have HWM9 := hide hwm
        clear hwm hdrop
        by_cases hwx : wx = x
        ·have b0 : (wx == x) = true := by simpa using hwx
         have HAT2 : Hid (AtX V x (m + 1)) := hide (HAT.out.step HSR.out HWM9.out hwx)
         have HTK : Hid (V.take (m + 1) = V.take m ++ [(wx, wlo, whi, wby)]) := hide (by rw [List.take_add_one, HWM9.out]; rfl)
         have HBY : Hid (-1 ≤ wby ∧ wby ≤ 1) := hide (HWB.out _ (List.mem_of_getElem? HWM9.out))
         have HBD : Hid (∀ y, -2000 ≤ cntW (V.take m) y ∧ cntW (V.take m) y ≤ 2000) := hide (fun y => by
          have h5 := cntW_bd (V := V.take m) (fun w hw => HWB.out w (List.mem_of_mem_take hw)) y
          rw [List.length_take] at h5
          omega)
         clear hwx
         go_upto_region 27 with fail
         refine wp_name fun w8 hw8 => ?_
         obtain ⟨g8, hg8⟩ : ∃ y, wr.heap.size = y := ⟨_, rfl⟩
         have hb8 : Below wr.heap.size wr w8 := by
          rw [hw8]
          repeat (first | with_reducible exact Below.refl _ _ | with_reducible refine Below.setCell ?_ (by first | (simp; done) | (simp; omega)) _ | with_reducible refine Below.alloc ?_ (by first | omega | (simp; omega) | simp) _)
         have HB4 : Hid (Bx4 w8 g8 (wx, wlo, whi, wby)) := hide ⟨by rw [hw8, ← hg8]; first | (simp; done) | (simp; omega), by rw [hw8, ← hg8]; simp [go_sem], by rw [hw8, ← hg8]; simp [go_sem], by rw [hw8, ← hg8]; simp [go_sem], by rw [hw8, ← hg8]; simp [go_sem]⟩
         have HD8 : Hid (DI w5 w8 g (cutsOf (ysL L)).length (cnM (V.take m) (V.take (m + 1)) (cutsOf (ysL L)) 0) vo (preF L i9)) := hide (by rw [cnM_zero]; exact HD.out.below hb8)
         have hgg8 : g < g8 := by rw [← hg8]; exact HD.out.size
         rw [hg8]
         clear hw8 hb8 hg8 d0 d1 d2 d3 b0 hbwr hmz'
         go_loopw [115] (fun k wr => ∃ k9 : Nat, k9 ≤ (cutsOf (ysL L)).length ∧ k = .int .i64 (k9 : Int) ∧ Hid (DI w5 wr g (cutsOf (ysL L)).length (cnM (V.take m) (V.take (m + 1)) (cutsOf (ysL L)) k9) vo (preF L i9)) ∧ Hid (Bx4 wr g8 (wx, wlo, whi, wby))) (fun k _ => (cutsOf (ysL L)).length - (intOf k).toNat)
         case atStart => exact ⟨0, Nat.zero_le _, rfl, HD8, HB4⟩
         case round =>
          clear HD8 HB4 HD
          obtain ⟨k9, hk9, rfl, HD, HB4⟩ := hrel
          by_cases hltk : k9 < (cutsOf (ysL L)).length
          ·obtain ⟨y, hy⟩ : ∃ y, (cutsOf (ysL L))[k9]? = some y := ⟨_, List.getElem?_eq_getElem hltk⟩
           obtain ⟨by', oy, rfl, hby, hcy⟩ := rdI_cell HRY.out (fun e => by rw [e] at hltk; simp at hltk)
           have dy := hcy wr HD.out.low _ _ hy
           have HCT := hide (cntW_snoc (V.take m) (wx, wlo, whi, wby) y)
           rw [← HTK.out] at HCT
           have HCG := hide (HD.out.get (cnM_at (V' := V.take (m + 1)) hy))
           have HYY := hide hy
           obtain ⟨q0, q1, q2, q3, q4⟩ := HB4.out
           have hkz : (k9 : Int) < ((cutsOf (ysL L)).length : Int) := by omega
           have hk0 : (0 : Int) ≤ (k9 : Int) := by omega
           have hbyr : by' < wr.heap.size := by have := HD.out.size; omega
           have hgr : g < wr.heap.size := HD.out.size
           clear hy hcy hltk
           by_cases h1 : wlo ≤ y
           ·have hb1 : decide (wlo ≤ y) = true := decide_eq_true h1
            by_cases h2 : y < whi
            ·have HC2 : Hid (cntW (V.take (m + 1)) y = cntW (V.take m) y + wby) := hide (by rw [HCT.out, if_pos ⟨h1, h2⟩])
             have hbd := HBD.out y
             have hb5 := HBY.out
             obtain ⟨c9, hc9⟩ : ∃ z, cntW (V.take m) y = z := ⟨_, rfl⟩
             rw [hc9] at HC2 HCG hbd
             have z1 : IntKind.i64.wrap (c9 + wby) = c9 + wby := wr63 (by omega) (by omega)
             have hb2 : decide (y < whi) = true := decide_eq_true h2
             clear hbd hb5 hc9 HCT h1 h2
             go_wp2
             go_quiet (fail)
             refine name_exit fun wd hwd => ?_
             have hbd : Below wr.heap.size wr wd := by rw [hwd]; exact below_drewN (Below.refl _ _) _
             have HDd := hide (HD.out.below hbd)
             have HBd := hide (HB4.out.below hbd)
             have HCd : Hid (wd.cell? ⟨g, k9, none⟩ = some (.int .i64 c9)) := hide ((hbd.cell (p := ⟨g, k9, none⟩) hgr).trans HCG.out)
             have hgd : g < wd.heap.size := HDd.out.size
             clear hwd hbd dy q0 q1 q2 q3 q4 hbyr hgr
             go_upto_region 30 with fail
             have hbk : Below wd.heap.size wd wd.drew := (Below.refl _ _).drew
             refine wp_region_mix [0, 1, 2, 3, 4, 5, 6, 7] [8] (fun w' => w'.cell? ⟨g, k9, none⟩ = some (.int .i64 c9) ∧ Bx4 w' g8 (wx, wlo, whi, wby)) (by kernel_rfl) (by kernel_rfl) ⟨(hbk.cell (p := ⟨g, k9, none⟩) hgd).trans HCd.out, HBd.out.below hbk⟩ ?_
             simp only [List.map_cons, List.map_nil, opAt, List.getElem?_cons_succ, List.getElem?_cons_zero, Option.getD_some]
             have HDk := hide (HDd.out.below hbk)
             have HBk := hide (HBd.out.below hbk)
             have hgk : g < wd.drew.heap.size := HDk.out.size
             clear hbk hgd HDd HBd HCd
             generalize wd.drew = wk at *
             iterate 8
              refine ⟨?_, Or.inl ⟨by rfl, ?_⟩, ?_⟩
              rotate_left 1
              ·intro w' hSw
               obtain ⟨p0, q0, q1, q2, q3, q4⟩ := hSw
               go_simp
               first | done | with_reducible rfl
              simp only [Act.put, List.setIfInBounds_toArray, List.set_cons_zero, List.set_cons_succ]
             simp only [wpReads]
             have hc10 : ∃ z, wk.cell? ⟨g, k9, none⟩ = some z := ⟨_, HDk.out.get (cnM_at (V' := V.take (m + 1)) HYY.out)⟩
             have hf10 : wk.frozen? ⟨g, k9, none⟩ = false := HDk.out.cnt.frozenAt _
             obtain ⟨z10, hz10⟩ := hc10
             intro K hK
             simp only [Act.put, List.setIfInBounds_toArray, List.set_cons_zero, List.set_cons_succ] at hK ⊢
             go_simp
             refine hK _ _ (fun h => absurd rfl h) ?_
             clear hK K hz10 hf10
             refine NoPanic.normal ?_
             have HD9 : Hid (DI w5 (wk.setCell ⟨g, k9, none⟩ (.int .i64 (c9 + wby))) g (cutsOf (ysL L)).length (cnM (V.take m) (V.take (m + 1)) (cutsOf (ysL L)) (k9 + 1)) vo (preF L i9)) := hide (by rw [← cnM_set HYY.out, HC2.out]; exact HDk.out.setc k9 (c9 + wby))
             have HB9 : Hid (Bx4 (wk.setCell ⟨g, k9, none⟩ (.int .i64 (c9 + wby))) g8 (wx, wlo, whi, wby)) := hide (HBk.out.same (by simp) (Go.Deep.blk_setCell_other _ _ _ _ (show g8 ≠ g by omega)))
             go_wp2
             go_roundw
             case rel => exact ⟨k9 + 1, by omega, by go_num, HD9, HB9⟩
             case measure => simp [intOf]; omega
            ·have HC2 : Hid (cntW (V.take (m + 1)) y = cntW (V.take m) y) := hide (by rw [HCT.out, if_neg (fun h => h2 h.2), Int.add_zero])
             have hb2 : decide (y < whi) = false := decide_eq_false h2
             clear HCT h1 h2
             go_wp2
             go_quiet (fail)
             refine name_exit fun wd hwd => ?_
             have hbd : Below wr.heap.size wr wd := by rw [hwd]; exact below_drewN (Below.refl _ _) _
             have HDd := hide (HD.out.below hbd)
             have HBd := hide (HB4.out.below hbd)
             clear hwd hbd dy q0 q1 q2 q3 q4 hbyr hgr
             go_wp2
             go_roundw
             case rel => exact ⟨k9 + 1, by omega, by go_num, hide (by rw [cnM_same HYY.out HC2.out]; exact HDd.out), HBd⟩
             case measure => simp [intOf]; omega
           ·have HC2 : Hid (cntW (V.take (m + 1)) y = cntW (V.take m) y) := hide (by rw [HCT.out, if_neg (fun h => h1 h.1), Int.add_zero])
            have hb1 : decide (wlo ≤ y) = false := decide_eq_false h1
            clear HCT h1
            go_wp2
            go_quiet (fail)
            refine name_exit fun wd hwd => ?_
            have hbd : Below wr.heap.size wr wd := by rw [hwd]; exact below_drewN (Below.refl _ _) _
            have HDd := hide (HD.out.below hbd)
            have HBd := hide (HB4.out.below hbd)
            clear hwd hbd dy q0 q1 q2 q3 q4 hbyr hgr
            go_wp2
            go_roundw
            case rel => exact ⟨k9 + 1, by omega, by go_num, hide (by rw [cnM_same HYY.out HC2.out]; exact HDd.out), HBd⟩
            case measure => simp [intOf]; omega
          ·have hkz : ¬ (k9 : Int) < ((cutsOf (ysL L)).length : Int) := by omega
           have hke : k9 = (cutsOf (ysL L)).length := Nat.le_antisymm hk9 (Nat.le_of_not_lt hltk)
           clear hltk hk9
           subst hke
           rw [cnM_all] at HD
           have hc1 : (1 : Int) ≤ ((V.length - m : Nat) : Int) := by omega
           have hc2 : (1 : Int) ≤ (cm : Int) := by omega
           have hc3 : ((V.length - m : Nat) : Int) ≤ (cm : Int) := by omega
           by_cases hcm : cm = 1
           ·subst hcm
            have hnil : V.length - (m + 1) = 0 := by omega
            have hnil2 : V.length - m = 1 := by omega
            have HNL : Hid (V.drop (m + 1) = []) := hide (List.drop_of_length_le (by omega))
            rw [hnil2]
            clear hc1 hc2 hc3
            go_wp2
            go_roundw
            case rel => exact ⟨m + 1, _, _, by first | (rw [hnil]; done) | (rw [hnil]; rfl), by omega, by omega, HAT2, hide (by rw [HNL.out]; exact ⟨_, _, by first | (rw [hnil]; done) | (rw [hnil]; rfl), fun h => absurd rfl h⟩), HD⟩
            case measure => simp [lenV]; omega
           ·have hcm2 : ¬ cm = 1 := hcm
            have HSL : Hid (V.length - m - 1 = V.length - (m + 1)) := hide (by omega)
            go_wp2
            go_roundw
            case rel => exact ⟨m + 1, some ⟨bw, ow + 1 * 4, none⟩, cm - 1, by first | rfl | (rw [HSL.out]; first | rfl | simp) | (rw [← HSL.out]; simp), by omega, by omega, HAT2, hide (rdW_drop HRW.out hmz (cm - 1)), HD⟩
            case measure => simp [lenV]; omega
        ·have b0 : (wx == x) = false := by simpa using hwx
         have HNO : Hid (∀ w, V[m]? = some w → w.1 ≠ x) := hide (fun w hw => by rw [HWM9.out] at hw; injection hw with hw; subst hw; exact hwx)
         clear hwx
         go_wp2
         go_meet
         case rel => exact ⟨m, _, _, by first | rfl | rw [hmz3], hmc, hmV, HAT.out, HNO.out, HRW.out, HD.out⟩
       ·have hme : m = V.length := Nat.le_antisymm hmV (Nat.le_of_not_lt hmz)
        have HNO : Hid (∀ w, V[m]? = some w → w.1 ≠ x) := hide (fun w hw => by rw [hme] at hw; simp at hw)
        have hmz' : ¬ (0 : Int) < ((V.length - m : Nat) : Int) := by omega
        have hmz3 : V.length - m = 0 := by omega
        go_wp2
        go_meet
        case rel => exact ⟨m, _, _, by first | rfl | rw [hmz3], hmc, hmV, HAT.out, HNO.out, HRW.out, HD.out⟩
     case rest =>
      clear HATX HRW0 HD0
      obtain ⟨m, Am, cm, e1, hmc, hmV, hat, hno, hrw, hd⟩ := hcut
      subst e1
      have HAT := hide hat
      have HNO := hide hno
      have HRW := hide hrw
      have HD := hide hd
      obtain ⟨wr, hwr⟩ : ∃ y, y = wc := ⟨_, rfl⟩
      subst hwr
      clear hat hno hrw hd
      have HEX : Hid (∀ y, cntW (V.take m) y = wlS (x, y) (wallsF L)) := hide (fun y => HAT.out.exit HSR.out HNO.out y)
      have HNXT : Hid (∀ x', (cutsOf (xsL L))[i9 + 1]? = some x' → AtX V x' m) := hide (fun x' hx' => HAT.out.next HSR.out (cutsOf_ok _).1 HWM.out HX.out hx' HNO.out)
      have hgr0 : g < wr.heap.size := HD.out.size
      go_upto_region 34 with fail
      have HD60 : Hid (DI w5 wr g (cutsOf (ysL L)).length ((cutsOf (ysL L)).map (cntW (V.take m))) vo (colK L i9 0)) := hide (by rw [colK_zero]; exact HD.out)
      go_loopw [12, 147] (fun o k wr => ∃ (k9 : Nat) (vo : Value), k9 ≤ (cutsOf (ysL L)).length ∧ k = .int .i64 (k9 : Int) ∧ vo = o ∧ Hid (DI w5 wr g (cutsOf (ysL L)).length ((cutsOf (ysL L)).map (cntW (V.take m))) vo (colK L i9 k9))) (fun _ k _ => (cutsOf (ysL L)).length - (intOf k).toNat)
      case atStart => exact ⟨0, _, Nat.zero_le _, rfl, rfl, HD60⟩
      case round =>
       clear HD60 HD
       obtain ⟨k9, vo6, hk9, rfl, e1, HD6⟩ := hrel
       subst e1
       by_cases hltk : k9 < (cutsOf (ysL L)).length
       ·obtain ⟨y, hy⟩ : ∃ y, (cutsOf (ysL L))[k9]? = some y := ⟨_, List.getElem?_eq_getElem hltk⟩
        have dc := HD6.out.get (cntW_at (V.take m) _ hy)
        have HYY := hide hy
        have HCE := hide (HEX.out y)
        have HLEN : Hid ((colK L i9 k9).length ≤ 4002000) := hide (colK_len L HLX.out HLY.out i9 k9)
        have hkz : (k9 : Int) < ((cutsOf (ysL L)).length : Int) := by omega
        have hk0 : (0 : Int) ≤ (k9 : Int) := by omega
        have hgr : g < wr.heap.size := HD6.out.size
        obtain ⟨c9, hc9⟩ : ∃ z, cntW (V.take m) y = z := ⟨_, rfl⟩
        rw [hc9] at dc HCE
        clear hy hc9 hltk
        obtain ⟨Ao, co, rfl⟩ := own_form HD6.out.out
        have wi1 : IntKind.i64.wrap ((i9 : Int) + 1) = (i9 : Int) + 1 := IntWalk.i64_in _ (by omega)
        have wk1 : IntKind.i64.wrap ((k9 : Int) + 1) = (k9 : Int) + 1 := IntWalk.i64_in _ (by omega)
        by_cases h1 : c9 = 1
        ·have b1 : (c9 == 1) = true := by simpa using h1
         by_cases h2 : i9 + 1 < (cutsOf (xsL L)).length
         ·have h2z : (i9 : Int) + 1 < ((cutsOf (xsL L)).length : Int) := by omega
          by_cases h3 : k9 + 1 < (cutsOf (ysL L)).length
          ·have h3z : (k9 : Int) + 1 < ((cutsOf (ysL L)).length : Int) := by omega
           obtain ⟨x', hx2⟩ : ∃ y, (cutsOf (xsL L))[i9 + 1]? = some y := ⟨_, List.getElem?_eq_getElem h2⟩
           obtain ⟨y', hy2⟩ : ∃ y, (cutsOf (ysL L))[k9 + 1]? = some y := ⟨_, List.getElem?_eq_getElem h3⟩
           have HX2 := hide hx2
           have HY2 := hide hy2
           have HNC : Hid (colK L i9 (k9 + 1) = stepF (colK L i9 k9) x y x' y') := hide (colK_yes HX.out hx2 HYY.out hy2 (by rw [← HCE.out]; exact h1))
           obtain ⟨by', oy, rfl, hby, hcy⟩ := rdI_cell HRY.out (fun e => by rw [e] at h3; simp at h3)
           have HYC := hide hcy
           have dy := hcy wr HD6.out.low _ _ HYY.out
           have dy2 := hcy wr HD6.out.low _ _ hy2
           have hbyr : by' < wr.heap.size := by omega
           have i1z : (0 : Int) ≤ (i9 : Int) + 1 := by omega
           have k1z : (0 : Int) ≤ (k9 : Int) + 1 := by omega
           have i1t : ((i9 : Int) + 1).toNat = i9 + 1 := by omega
           have k1t : ((k9 : Int) + 1).toNat = k9 + 1 := by omega
           clear hx2 hy2 hcy HCE h1 h2 h3
           obtain ⟨O, hO⟩ : ∃ z, colK L i9 k9 = z := ⟨_, rfl⟩
           rw [hO] at HNC HD6 HLEN
           rw [hO]
           clear hO
           obtain ⟨n9, hn9⟩ : ∃ n, O.length = n := ⟨_, rfl⟩
           have hn92 : n9 ≤ 4002000 := by rw [← hn9]; exact HLEN.out
           rw [hn9] at HD6 ⊢
           go_upto_region 38 with fail
           go_cut [194] from 170 to 194 (fun bv wx => bv = .bool (matF O x y) ∧ DI w5 wx g (cutsOf (ysL L)).length ((cutsOf (ysL L)).map (cntW (V.take m))) (.slice Ao n9 co) O)
           case first =>
            have HBD := hide (fun q => HD6.out.below (below_drewN (Below.refl wr.heap.size wr) q))
            rcases List.eq_nil_or_concat O with hS | ⟨q, r, hS⟩
            ·subst hS
             have hn90 : n9 = 0 := by rw [← hn9]; rfl
             subst hn90
             clear dc hn9
             go_quiet (fail)
             go_wp2
             go_meet
             case rel => exact ⟨rfl, HBD.out _⟩
            ·rw [List.concat_eq_append] at hS
             subst hS
             obtain ⟨b, cap, hv, hgb, hbr, c0, c3, hfz⟩ := HD6.out.last
             injection hv with ev1 ev2 ev3
             subst ev1; subst ev3
             have HMF := hide (matF_last q r x y)
             obtain ⟨j, hj⟩ : ∃ j, q.length = j := ⟨_, rfl⟩
             have hlj : n9 = j + 1 := by rw [← hn9, List.length_append, hj]; rfl
             rw [hj] at c0 c3 hfz
             subst hlj
             have hjl : j ≤ 4002000 := by omega
             have q1 : (0 : Int) < (j : Int) + 1 := by omega
             have q2 : (j : Int) < (j : Int) + 1 := by omega
             have q3 : IntKind.i64.wrap ((j : Int) + 1 - 1) = j := by simp [IntKind.wrap, IntKind.bits, IntKind.signed]; omega
             have q4 : (0 : Int) ≤ (j : Int) := by omega
             clear ev2 hj hgb dc hn9
             by_cases hrx : r.x0 = x
             ·have bx0 : (r.x0 == x) = true := by simpa using hrx
              by_cases hry : r.y1 = y
              ·have by1 : (r.y1 == y) = true := by simpa using hry
               clear hrx hry
               go_quiet (fail)
               go_wp2
               go_meet
               case rel => exact ⟨by rw [HMF.out, bx0, by1]; rfl, HBD.out _⟩
              ·have by1 : (r.y1 == y) = false := by simpa using hry
               clear hrx hry
               go_quiet (fail)
               go_wp2
               go_meet
               case rel => exact ⟨by rw [HMF.out, bx0, by1]; rfl, HBD.out _⟩
             ·have bx0 : (r.x0 == x) = false := by simpa using hrx
              clear hrx
              go_quiet (fail)
              go_wp2
              go_meet
              case rel => exact ⟨by rw [HMF.out, bx0]; rfl, HBD.out _⟩
           case rest =>
            clear HD6 dc dy dy2 hbyr
            obtain ⟨e1, hd6⟩ := hcut
            subst e1
            have HD6 := hide hd6
            clear hd6
            by_cases hB : matF O x y = true
            ·obtain ⟨q, r, hS, hrx, hry⟩ := matF_old hB
             subst hS
             have HST := hide (stepF_old (q := q) (x' := x') (y' := y') hrx hry)
             obtain ⟨b, cap, hv, hgb, hbr, c0, c3, hfz⟩ := HD6.out.last
             injection hv with ev1 ev2 ev3
             subst ev1; subst ev3
             have HBB := hide hB
             obtain ⟨bb, hbb⟩ : ∃ z, matF (q ++ [r]) x y = z := ⟨_, rfl⟩
             have hbt : bb = true := by rw [← hbb]; exact hB
             rw [hbb]
             subst hbt
             clear hB hbb
             obtain ⟨j, hj⟩ : ∃ j, q.length = j := ⟨_, rfl⟩
             have hlj : n9 = j + 1 := by rw [← hn9, List.length_append, hj]; rfl
             rw [hj] at c0 c3 hfz
             subst hlj
             have hjl : j ≤ 4002000 := by omega
             have q1 : (0 : Int) < (j : Int) + 1 := by omega
             have q2 : (j : Int) < (j : Int) + 1 := by omega
             have q3 : IntKind.i64.wrap ((j : Int) + 1 - 1) = j := by simp [IntKind.wrap, IntKind.bits, IntKind.signed]; omega
             have q4 : (0 : Int) ≤ (j : Int) := by omega
             have HJ := hide hj
             have dy3 := HYC.out wc HD6.out.low _ _ HY2.out
             have hbyd : by' < wc.heap.size := by have := HD6.out.size; omega
             clear ev2 hj hgb hrx hry c0 hn9
             go_wp2
             go_roundw
             case rel => exact ⟨k9 + 1, _, by omega, by go_num, rfl, hide (by
              rw [HNC.out, HST.out]
              have h9 := HD6.out
              rw [← HJ.out] at h9 ⊢
              exact h9.setl y')⟩
             case measure => simp [intOf]; omega
            ·have HBF : Hid (matF O x y = false) := hide (by simpa using hB)
             have HST := hide (matF_new (x' := x') (y' := y') HBF.out)
             clear hB
             rw [HBF.out]
             subst hn9
             go_upto_region 40 with fail
             have hbk : Below wc.heap.size wc wc.drew := (Below.refl _ _).drew
             refine wp_region_mix [0, 1, 2, 3, 4, 5, 6, 7, 8, 9, 10, 11, 12, 13, 14, 15] [16, 17, 18, 19] (fun w' => Below g w5 w') (by kernel_rfl) (by kernel_rfl) (HD6.out.below hbk).low ?_
             simp only [List.map_cons, List.map_nil, opAt, List.getElem?_cons_succ, List.getElem?_cons_zero, Option.getD_some]
             have HDk := hide (HD6.out.below hbk)
             clear hbk HD6
             generalize wc.drew = wk at *
             iterate 16
              refine ⟨?_, Or.inl ⟨by rfl, ?_⟩, ?_⟩
              rotate_left 1
              ·intro w' hSw
               have p1 := HXC.out w' hSw _ _ HX2.out
               have p2 := HYC.out w' hSw _ _ HYY.out
               have p3 := HYC.out w' hSw _ _ HY2.out
               clear hSw
               go_simp
               first | done | with_reducible rfl
              simp only [Act.put, List.setIfInBounds_toArray, List.set_cons_zero, List.set_cons_succ]
             simp only [wpReads]
             intro K hK
             simp only [Act.put, List.setIfInBounds_toArray, List.set_cons_zero, List.set_cons_succ] at hK ⊢
             go_simp
             refine hK _ _ (fun _ => HDk.out.low) ?_
             clear hK K
             intro K hK
             simp only [Act.put, List.setIfInBounds_toArray, List.set_cons_zero, List.set_cons_succ] at hK ⊢
             go_simp
             have hbn : Below wk.heap.size wk (wk.alloc (.cells #[.int .i64 x, .int .i64 y, .int .i64 x', .int .i64 y'] 49)) := (Below.refl _ _).alloc (Nat.le_refl _) _
             have HDn := hide (HDk.out.below hbn)
             refine hK _ _ (fun _ => HDn.out.low) ?_
             clear hK K hbn
             intro K hK
             simp only [Act.put, List.setIfInBounds_toArray, List.set_cons_zero, List.set_cons_succ] at hK ⊢
             refine wp_append_lies _ (.tmp 205) (.tmp 222) 22 rfl (g + 1) 49 i3 (.agg #[.int .i64 0, .int .i64 0, .int .i64 0, .int .i64 0]) 4 32 Tryz.underlying22 ki kz0 kz1 kz2 rfl (by decide) (.slice Ao O.length co) O.length (O.flatMap encR) rfl HDn.out.out ⟨wk.heap.size, 0, none⟩ 1 1 [.int .i64 x, .int .i64 y, .int .i64 x', .int .i64 y'] rfl rfl (news_new wk _ _ _ rfl) (ints_one rfl) (by omega) (by unfold maxLen; have := HLEN.out; omega) (by have := HLEN.out; omega) (by have := HDn.out.size; omega) _ rfl ?_
             intro g9 cap9 w9 hown9 hgrow9 hn9 hl9x
             have HD9 : Hid (DI w5 w9 g (cutsOf (ysL L)).length ((cutsOf (ysL L)).map (cntW (V.take m))) (.slice (some ⟨g9, 0, none⟩) (O.length + 1) cap9) (O ++ [(⟨x, y, x', y'⟩ : R4)])) := hide (HDn.out.push hgrow9 (by simpa [encR] using hown9))
             clear hown9 hgrow9 hn9 hl9x
             refine hK _ _ (fun _ => HD9.out.low) ?_
             clear hK K
             intro K hK
             simp only [Act.put, List.setIfInBounds_toArray, List.set_cons_zero, List.set_cons_succ] at hK ⊢
             go_simp
             refine hK _ _ (fun h => absurd rfl h) ?_
             clear hK K
             refine NoPanic.normal ?_
             go_wp2
             go_roundw
             case rel => exact ⟨k9 + 1, _, by omega, by go_num, rfl, hide (by rw [HNC.out, HST.out]; exact HD9.out)⟩
             case measure => simp [intOf]; omega
          ·have h3z : ¬ (k9 : Int) + 1 < ((cutsOf (ysL L)).length : Int) := by omega
           have HNC : Hid (colK L i9 (k9 + 1) = colK L i9 k9) := hide (colK_no HX.out HYY.out HCE.out (fun h => h3 h.2.2))
           clear h1 h2 h3
           go_wp2
           go_roundw
           case rel => exact ⟨k9 + 1, _, by omega, by go_num, rfl, hide (by rw [HNC.out]; exact HD6.out)⟩
           case measure => simp [intOf]; omega
         ·have h2z : ¬ (i9 : Int) + 1 < ((cutsOf (xsL L)).length : Int) := by omega
          have HNC : Hid (colK L i9 (k9 + 1) = colK L i9 k9) := hide (colK_no HX.out HYY.out HCE.out (fun h => h2 h.2.1))
          clear h1 h2
          go_wp2
          go_roundw
          case rel => exact ⟨k9 + 1, _, by omega, by go_num, rfl, hide (by rw [HNC.out]; exact HD6.out)⟩
          case measure => simp [intOf]; omega
        ·have b1 : (c9 == 1) = false := by simpa using h1
         have HNC : Hid (colK L i9 (k9 + 1) = colK L i9 k9) := hide (colK_no HX.out HYY.out HCE.out (fun h => h1 h.1))
         clear h1
         go_wp2
         go_roundw
         case rel => exact ⟨k9 + 1, _, by omega, by go_num, rfl, hide (by rw [HNC.out]; exact HD6.out)⟩
         case measure => simp [intOf]; omega
       ·have hkz : ¬ (k9 : Int) < ((cutsOf (ysL L)).length : Int) := by omega
        have HDF : Hid (DI w5 wr g (cutsOf (ysL L)).length ((cutsOf (ysL L)).map (cntW (V.take m))) vo6 (preF L (i9 + 1))) := hide (by rw [← colK_all L hlti (Nat.le_of_not_lt hltk)]; exact HD6.out)
        go_wp2
        go_roundw
        case rel => exact ⟨i9 + 1, m, _, _, _, by omega, by go_num, rfl, rfl, hmc, hmV, HNXT, HRW, HDF⟩
        case measure => simp [intOf]; omega
    ·have hiz : ¬ (i9 : Int) < ((cutsOf (xsL L)).length : Int) := by omega
     have HOF : Hid (DI w5 wr g (cutsOf (ysL L)).length ((cutsOf (ysL L)).map (cntW (V.take m0))) vo (filF L)) := hide (by rw [← preF_all (L := L) (i := i9) (by omega)]; exact HD0.out)
     go_wp2
     go_ret
     exact ⟨_, rfl, own_base HOF.out.out (by have := HBG.out.2; omega), HBG.out.1.trans (HOF.out.low.mono HBG.out.2)⟩
end Go.Proofs.YtdfpbhlnlkjjlaaGreat

/- Outlines: Fill. -/
namespace Go.Proofs.YtdfpbhlnlkjjlaaGreat
open Go.RowKit
set_option linter.unusedVariables false
set_option linter.unusedSimpArgs false
set_option maxHeartbeats 4000000 in
theorem eqPtO_any {w : World} {vs vt : Value} {s t : List Pt} {B C : Nat} (hs : RdK encS 2 w B vs s) (ht : RdK encS 2 w C vt t) (ns : s.length ≤ 100000000) (hB : B ≤ w.heap.size) (hC : C ≤ w.heap.size) :
  Calls Tryz.prog 51 #[vs, vt] w fun e w' => e = .returned (.bool (decide (s = t))) ∧ Below w.heap.size w w' := by
 obtain ⟨A1, c1, rfl, h1⟩ := hs
 obtain ⟨A2, c2, rfl, h2⟩ := ht
 have g : Tryz.prog.eqGuardType Tryz.prog.depth 53 = false := by kernel_rfl
 have H1 := hide h1
 have H2 := hide h2
 clear h1 h2
 go_enter Tryz.func51, Tryz.ntmps51
 by_cases hl : s.length = t.length
 ·have hne : ((s.length : Int) != (t.length : Int)) = false := by rw [hl]; simp
  have HL := hide hl
  clear hl
  go_wp2
  go_loopw [13] (fun i wr => ∃ k : Nat, k ≤ s.length ∧ i = .int .i64 k ∧ Hid (s.take k = t.take k) ∧ Below w.heap.size w wr) (fun i _ => s.length - (intOf i).toNat)
  case atStart => exact ⟨0, Nat.zero_le _, rfl, hide rfl, Below.refl _ _⟩
  case round =>
   obtain ⟨k, hk, rfl, HT, hb⟩ := hrel
   by_cases hlt : k < s.length
   ·obtain ⟨⟨a0, a1⟩, hp⟩ : ∃ p, s[k]? = some p := ⟨_, List.getElem?_eq_getElem hlt⟩
    have hlt2 : k < t.length := by rw [← HL.out]; exact hlt
    obtain ⟨⟨b0, b1⟩, hq⟩ : ∃ p, t[k]? = some p := ⟨_, List.getElem?_eq_getElem hlt2⟩
    obtain ⟨p1, o1, rfl, hp1, k1⟩ := H1.out (by intro e; rw [e] at hlt; simp at hlt)
    obtain ⟨p2, o2, rfl, hp2, k2⟩ := H2.out (by intro e; rw [e] at hlt2; simp at hlt2)
    have x0 : wr.cell? ⟨p1, o1 + k * 2, none⟩ = some (.int .i64 a0) := (hb.cell (p := ⟨p1, _, none⟩) (by show p1 < _; omega)).trans (k1 k _ hp 0 _ rfl)
    have y0 : wr.cell? ⟨p2, o2 + k * 2, none⟩ = some (.int .i64 b0) := (hb.cell (p := ⟨p2, _, none⟩) (by show p2 < _; omega)).trans (k2 k _ hq 0 _ rfl)
    have x1 : wr.cell? ⟨p1, o1 + k * 2 + 1, none⟩ = some (.int .i64 a1) := (hb.cell (p := ⟨p1, _, none⟩) (by show p1 < _; omega)).trans (k1 k _ hp 1 _ rfl)
    have y1 : wr.cell? ⟨p2, o2 + k * 2 + 1, none⟩ = some (.int .i64 b1) := (hb.cell (p := ⟨p2, _, none⟩) (by show p2 < _; omega)).trans (k2 k _ hq 1 _ rfl)
    have z1 : (k : Int) < (s.length : Int) := by omega
    have z2 : (k : Int) < (t.length : Int) := by omega
    have HP := hide hp
    have HQ := hide hq
    clear hp hq k1 k2
    by_cases e0 : a0 = b0
    rotate_left 1
    ·have hd : decide (s = t) = false := decide_eq_false fun e => by
      subst e
      have := HP.out.symm.trans HQ.out
      simp only [Option.some.injEq, Prod.mk.injEq] at this
      omega
     have HD := hide hd
     clear hd
     go_wp2
     go_region
     go_wp2
     go_ret
     exact ⟨ret_eq (bool_eq HD.out.symm), hb.drew⟩
    by_cases e1 : a1 = b1
    rotate_left 1
    ·have hd : decide (s = t) = false := decide_eq_false fun e => by
      subst e
      have := HP.out.symm.trans HQ.out
      simp only [Option.some.injEq, Prod.mk.injEq] at this
      omega
     have HD := hide hd
     clear hd
     subst e0
     go_wp2
     go_region
     go_wp2
     go_ret
     exact ⟨ret_eq (bool_eq HD.out.symm), hb.drew⟩
    subst e0
    subst e1
    go_wp2
    go_region
    go_wp2
    go_roundw
    case rel =>
     refine ⟨k + 1, by omega, by go_num, hide ?_, hb.drew⟩
     obtain ⟨i1, e1⟩ := List.getElem?_eq_some_iff.1 HP.out
     obtain ⟨i2, e2⟩ := List.getElem?_eq_some_iff.1 HQ.out
     rw [List.take_succ_eq_append_getElem i1, List.take_succ_eq_append_getElem i2, HT.out, e1, e2]
    case measure => simp [intOf]; omega
   ·have hlz : ¬ (k : Int) < (s.length : Int) := by omega
    have hd : decide (s = t) = true := decide_eq_true (by
     have := HT.out
     rw [List.take_of_length_le (by omega), List.take_of_length_le (by rw [← HL.out]; omega)] at this
     exact this)
    have HD := hide hd
    clear hd
    go_wp2
    go_ret
    exact ⟨ret_eq (bool_eq HD.out.symm), hb⟩
 ·have hne : ((s.length : Int) != (t.length : Int)) = true := by simp; omega
  have hd : decide (s = t) = false := decide_eq_false fun e => hl (by rw [e])
  rw [hd]
  clear hl hd
  go_wp2
  go_ret
  exact ⟨rfl, Below.refl _ _⟩
set_option maxHeartbeats 4000000 in
theorem eqFn_any {w : World} {v1 v2 : Value} {L M : List (List Pt)} (h1 : RdPs w w.heap.size v1 L) (h2 : RdPs w w.heap.size v2 M) (l1 : L.length ≤ 100000000) (l2 : ∀ r ∈ L, r.length ≤ 100000000) :
  Calls Tryz.prog 50 #[v1, v2, .func (.func 51) #[] #[]] w fun e w' => e = .returned (.bool (decide (L = M))) ∧ Below w.heap.size w w' := by
 have K1 := hide h1
 have K2 := hide h2
 have HL2 := hide l2
 obtain ⟨A1, c1, rfl, _⟩ := h1
 obtain ⟨A2, c2, rfl, _⟩ := h2
 clear l2
 go_enter Tryz.func50, Tryz.ntmps50
 by_cases q1 : L.length = M.length
 ·have z1 : ((L.length : Int) != (M.length : Int)) = false := by simp; omega
  have HQ1 := hide q1
  clear q1
  go_wp2
  clear z1
  go_loopw [17] (fun i wr => ∃ m : Nat, m ≤ L.length ∧ i = .int .i64 (m : Int) ∧ Hid (L.take m = M.take m) ∧ Hid (Below w.heap.size w wr)) (fun i _ => L.length - (intOf i).toNat)
  case atStart => exact ⟨0, Nat.zero_le _, rfl, hide (by simp), hide (Below.refl _ _)⟩
  case round =>
   obtain ⟨m, hm, rfl, HT, HB⟩ := hrel
   have hll := HQ1.out
   by_cases hlt : m < L.length
   ·have mz : (m : Int) < (L.length : Int) := by omega
    have mz2 : (m : Int) < (M.length : Int) := by omega
    have m0 : (0 : Int) ≤ (m : Int) := by omega
    obtain ⟨r, hr⟩ : ∃ p, L[m]? = some p := ⟨_, List.getElem?_eq_getElem hlt⟩
    obtain ⟨t, ht⟩ : ∃ p, M[m]? = some p := ⟨_, List.getElem?_eq_getElem (by omega)⟩
    obtain ⟨b, o, u, rfl, hb, e0', hu⟩ := K1.out.get hr
    obtain ⟨b2, o2, u2, rfl, hb2, f0', hu2⟩ := K2.out.get ht
    have e0 := (HB.out.cell (p := ⟨b, _, none⟩) hb).trans e0'
    have f0 := (HB.out.cell (p := ⟨b2, _, none⟩) hb2).trans f0'
    have hbr : b < wr.heap.size := Nat.lt_of_lt_of_le hb HB.out.size
    have hbr2 : b2 < wr.heap.size := Nat.lt_of_lt_of_le hb2 HB.out.size
    have HSR := hide (fun (W : World) (hB : Below w.heap.size w W) => eqPtO_any (w := W) (hu.below hB) (hu2.below hB) (HL2.out r (List.mem_of_getElem? hr)) hB.size hB.size)
    have HRR := hide hr
    have HTT := hide ht
    clear hr ht hll hlt e0' f0' hu hu2
    cases hd : decide (r = t) with
    | true =>
     rw [hd] at HSR
     have HT2 := hide (take_eqO HT.out HRR.out (by rw [HTT.out, of_decide_eq_true hd]))
     clear hd
     go_wp2_with (go_at_call 51; refine (HSR.out _ HB.out).mono ?_; rintro e w3 ⟨rfl, hb3⟩; have HBZ := hide (HB.out.trans (hb3.mono HB.out.size)); clear hb3)
     go_roundw
     case rel => exact ⟨m + 1, by omega, by go_num, HT2, HBZ⟩
     case measure => simp [intOf]; omega
    | false =>
     rw [hd] at HSR
     have HN : Hid (¬ L = M) := hide (fun e => by
      have h := HRR.out
      rw [e, HTT.out] at h
      injection h with h
      exact of_decide_eq_false hd h.symm)
     clear hd
     go_wp2_with (go_at_call 51; refine (HSR.out _ HB.out).mono ?_; rintro e w3 ⟨rfl, hb3⟩; have HBZ := hide (HB.out.trans (hb3.mono HB.out.size)); clear hb3)
     go_ret
     exact ⟨ret_eq (bool_eq (by rw [decide_eq_false HN.out])), HBZ.out⟩
   ·have mz : ¬ (m : Int) < (L.length : Int) := by omega
    obtain rfl : m = L.length := by omega
    have HEQ : Hid (L = M) := hide (by
     have h := HT.out
     rwa [List.take_length, hll, List.take_length] at h)
    clear hll HT
    go_wp2
    go_ret
    exact ⟨ret_eq (bool_eq (by rw [decide_eq_true HEQ.out])), HB.out⟩
 ·have z1 : ((L.length : Int) != (M.length : Int)) = true := by simp; omega
  have HN : Hid (¬ L = M) := hide (fun e => q1 (by rw [e]))
  clear q1
  go_wp2
  go_ret
  exact ⟨ret_eq (bool_eq (by rw [decide_eq_false HN.out])), Below.refl _ _⟩
theorem sum_take {L : List (List Pt)} {k : Nat} {r : List Pt} (h : L[k]? = some r) : ((L.take (k + 1)).map List.length).sum = ((L.take k).map List.length).sum + r.length := by
 rw [List.take_add_one, h, Option.toList_some, List.map_append, List.sum_append]
 simp
theorem sum_take_le (L : List (List Pt)) (k : Nat) : ((L.take k).map List.length).sum ≤ (L.map List.length).sum := by
 conv => rhs; rw [← List.take_append_drop k L]
 rw [List.map_append, List.sum_append]
 omega
theorem len_sum {L : List (List Pt)} (h : ∀ l ∈ L, chkO l = 0) : L.length ≤ (L.map List.length).sum := by
 induction L with
 | nil => simp
 | cons a L ih =>
  have h1 := ih fun l hl => h l (by simp [hl])
  have h2 := (chkO_ok (h a (by simp))).1
  rw [List.map_cons, List.sum_cons, List.length_cons]
  omega
theorem filF_len {L : List (List Pt)} (h : (L.map List.length).sum ≤ 2000) : (filF L).length ≤ 100000000 := by
 have h1 := preF_len L (n := 2000) (by rw [(xsL_len L).1]; exact h) (by rw [(xsL_len L).2]; exact h) (cutsOf (xsL L)).length
 rw [preF_all (by omega)] at h1
 omega
set_option maxRecDepth 100000 in
set_option maxHeartbeats 8000000 in
theorem fill_any {w : World} {v : Value} {L K : List (List Pt)} (hr : RdPs w w.heap.size v L) (hck : ∀ l ∈ L, chkO l = 0) (hn : (L.map List.length).sum ≤ 2000) (hL : L.length ≤ 100000000) (hkf : checkF (fldF L) = 0) (hlf : (fldF L).length ≤ 60) (hO : Outl (setR (fldF L)) K) :
  Calls Tryz.prog 23 #[v] w fun e w' => ∃ vo, e = .returned (.tuple #[vo, .int .i64 (if K = L then 0 else 28)]) ∧ w'.ownsRow w.heap.size 49 4 vo (if K = L then fldF L else []).length ((if K = L then fldF L else []).flatMap encR) ∧ Below w.heap.size w w' := by
 have HCK := hide hck
 have HF := hide (fun (W : World) (hB : Below w.heap.size w W) => filled_any (w := W) ((hr.below hB).mono hB.size) hck hn)
 have HLF := hide (filF_len hn)
 have HOF := hide (fun (W : World) (vv : Value) (hr : RdK encR 4 W W.heap.size vv (fldF L)) => of_any hr hlf hkf)
 have HOU := hide hO
 have HCHK := hide (fun p hp => (chkO_ok (hO.chk (check_rcan hkf) (by omega) (fun t ht => by have := (checkF_ok hkf).2.1 t ht; unfold valid4 fineP at this; omega) p hp)).1)
 have HCN := hide (hO.count (check_rcan hkf)).2
 obtain ⟨cd, hcd⟩ : ∃ c : Int, (if K = L then 0 else 28) = c := ⟨_, rfl⟩
 obtain ⟨RR, hRR⟩ : ∃ c : List R4, (if K = L then fldF L else []) = c := ⟨_, rfl⟩
 rw [hcd, hRR]
 have HCD := hide hcd
 have HRR := hide hRR
 clear hck hkf hO hcd hRR
 have HR := hide hr
 have HSUM := hide hn
 obtain ⟨A, c, rfl, _⟩ := hr
 clear hn
 rename_i hrr
 clear hrr
 go_enter Tryz.func23, Tryz.ntmps23
 go_wp2
 go_loopw [4, 15] (fun s q wr => ∃ k s1 : Nat, k ≤ L.length ∧ s = .int .i64 (s1 : Int) ∧ q = .int .i64 (k : Int) ∧ Hid (((L.take k).map List.length).sum = s1) ∧ Hid (Below w.heap.size w wr)) (fun _ q _ => L.length - (intOf q).toNat)
 case atStart => exact ⟨0, 0, Nat.zero_le _, rfl, rfl, hide rfl, hide (Below.refl _ _)⟩
 case round =>
  obtain ⟨k, s1, hk, rfl, rfl, HS, HB⟩ := hrel
  by_cases hlt : k < L.length
  ·have kz : (k : Int) < (L.length : Int) := by omega
   have k0 : (0 : Int) ≤ (k : Int) := by omega
   obtain ⟨r, hrk⟩ : ∃ p, L[k]? = some p := ⟨_, List.getElem?_eq_getElem hlt⟩
   obtain ⟨b, o, u, rfl, hb, e0', hu⟩ := HR.out.get hrk
   obtain ⟨Au, cu, rfl, _⟩ := hu
   have e0 := (HB.out.cell (p := ⟨b, _, none⟩) hb).trans e0'
   have hbr : b < wr.heap.size := Nat.lt_of_lt_of_le hb HB.out.size
   obtain ⟨s2, hs2⟩ : ∃ s2, s1 + r.length = s2 := ⟨_, rfl⟩
   have HS2 : Hid (((L.take (k + 1)).map List.length).sum = s2) := hide (by rw [sum_take hrk, HS.out, hs2])
   have hs3 : s2 ≤ 2000 := by have h1 := sum_take_le L (k + 1); have h2 := HSUM.out; have h3 := HS2.out; omega
   have w1 : IntKind.i64.wrap ((s1 : Int) + (r.length : Int)) = (s2 : Int) := by rw [← hs2, IntWalk.i64_in _ (by omega)]; omega
   have q1 : ¬ (2000 : Int) < (s2 : Int) := by omega
   clear hrk e0' hs2 hs3 hb
   rename_i hrr2
   clear hrr2
   go_wp2
   go_roundw
   case rel => exact ⟨k + 1, s2, hlt, rfl, by go_num, HS2, HB⟩
   case measure => simp [intOf]; omega
  ·have kz : ¬ (k : Int) < (L.length : Int) := by omega
   clear HS hlt hk
   go_wp2
   go_loopw [28] (fun q wr => ∃ k : Nat, k ≤ L.length ∧ q = .int .i64 (k : Int) ∧ Hid (Below w.heap.size w wr)) (fun q _ => L.length - (intOf q).toNat)
   case atStart => exact ⟨0, Nat.zero_le _, rfl, HB⟩
   case round =>
    clear HB
    obtain ⟨k, hk, rfl, HB⟩ := hrel
    by_cases hlt : k < L.length
    ·have kz : (k : Int) < (L.length : Int) := by omega
     have k0 : (0 : Int) ≤ (k : Int) := by omega
     obtain ⟨r, hrk⟩ : ∃ p, L[k]? = some p := ⟨_, List.getElem?_eq_getElem hlt⟩
     obtain ⟨b, o, u, rfl, hb, e0', hu⟩ := HR.out.get hrk
     have e0 := (HB.out.cell (p := ⟨b, _, none⟩) hb).trans e0'
     have hbr : b < wr.heap.size := Nat.lt_of_lt_of_le hb HB.out.size
     have hz := HCK.out r (List.mem_of_getElem? hrk)
     have HC := hide (fun (W : World) (hB : Below w.heap.size w W) => by have h := chkO_any (w := W) ((hu.below hB).mono hB.size) (by have := (chkO_ok hz).1; omega); rw [hz] at h; exact h)
     clear hrk e0' hb hu hz
     go_wp2_with (go_at_call 47; refine (HC.out _ HB.out).mono ?_; rintro e w3 ⟨rfl, hb3⟩; have HB3 := hide (HB.out.trans (hb3.mono HB.out.size)); clear hb3)
     go_roundw
     case rel => exact ⟨k + 1, hlt, by go_num, HB3⟩
     case measure => simp [intOf]; omega
    ·have kz : ¬ (k : Int) < (L.length : Int) := by omega
     clear hlt hk
     by_cases hKL : K = L
     ·have HD := hide (decide_eq_true hKL)
      have HKL := hide hKL
      clear hKL
      go_wp2_with (first
       | (go_at_call 49; refine (HF.out _ HB.out).mono ?_; rintro e w3 ⟨vf, rfl, of3, hb3⟩; rw [filF_slb] at of3; have OF := hide of3; have HB3 := hide (HB.out.trans (hb3.mono HB.out.size)); have HZ3 := hide hb3.size; clear of3 hb3)
       | (go_at_call 48; refine (joined_any OF.out HZ3.out (slbF_ok L) (by rw [← filF_slb]; exact HLF.out)).mono ?_; rintro e w4 ⟨vj, rfl, oj4, hb4⟩; rw [← fldF_slb] at oj4; have OJ := hide oj4; have HB4 := hide (HB3.out.trans (hb4.mono HB3.out.size)); clear oj4 hb4 OF HZ3)
       | (go_at_call 11; refine (HOF.out _ _ (own_rd OJ.out (fun _ => rfl))).mono ?_; rintro e w5 ⟨A5, c5, L5, vs5, rfl, ho5, hw5, hv5, hb5⟩; have HO5 := hide ho5; have HP5 := hide (RdPs.of_own hw5 hv5); have OJ5 := hide (own_below OJ.out hb5); have HB5 := hide (HB4.out.trans (hb5.mono HB4.out.size)); clear ho5 hw5 hv5 hb5 OJ)
       | (go_at_call 50; refine (eqFn_any HP5.out ((HR.out.below HB5.out).mono HB5.out.size) (by rw [HO5.out.ext HOU.out]; have := HCN.out; omega) (fun p hp => by rw [HO5.out.ext HOU.out] at hp; have := (HCHK.out p hp).2; omega)).mono ?_; rintro e w6 ⟨rfl, hb6⟩; rw [HO5.out.ext HOU.out, HD.out]; have OJ6 := hide (own_base (own_below OJ5.out hb6) HB3.out.size); have HB6 := hide (HB5.out.trans (hb6.mono HB5.out.size)); clear hb6 OJ5))
      go_ret2
      have e1 : cd = 0 := by rw [← HCD.out, if_pos HKL.out]
      have e2 : RR = fldF L := by rw [← HRR.out, if_pos HKL.out]
      subst e1; subst e2
      exact ⟨_, rfl, OJ6.out, HB6.out⟩
     ·have HD := hide (decide_eq_false hKL)
      have HKL := hide hKL
      clear hKL
      go_wp2_with (first
       | (go_at_call 49; refine (HF.out _ HB.out).mono ?_; rintro e w3 ⟨vf, rfl, of3, hb3⟩; rw [filF_slb] at of3; have OF := hide of3; have HB3 := hide (HB.out.trans (hb3.mono HB.out.size)); have HZ3 := hide hb3.size; clear of3 hb3)
       | (go_at_call 48; refine (joined_any OF.out HZ3.out (slbF_ok L) (by rw [← filF_slb]; exact HLF.out)).mono ?_; rintro e w4 ⟨vj, rfl, oj4, hb4⟩; rw [← fldF_slb] at oj4; have OJ := hide oj4; have HB4 := hide (HB3.out.trans (hb4.mono HB3.out.size)); clear oj4 hb4 OF HZ3)
       | (go_at_call 11; refine (HOF.out _ _ (own_rd OJ.out (fun _ => rfl))).mono ?_; rintro e w5 ⟨A5, c5, L5, vs5, rfl, ho5, hw5, hv5, hb5⟩; have HO5 := hide ho5; have HP5 := hide (RdPs.of_own hw5 hv5); have OJ5 := hide (own_below OJ.out hb5); have HB5 := hide (HB4.out.trans (hb5.mono HB4.out.size)); clear ho5 hw5 hv5 hb5 OJ)
       | (go_at_call 50; refine (eqFn_any HP5.out ((HR.out.below HB5.out).mono HB5.out.size) (by rw [HO5.out.ext HOU.out]; have := HCN.out; omega) (fun p hp => by rw [HO5.out.ext HOU.out] at hp; have := (HCHK.out p hp).2; omega)).mono ?_; rintro e w6 ⟨rfl, hb6⟩; rw [HO5.out.ext HOU.out, HD.out]; have OJ6 := hide (own_base (own_below OJ5.out hb6) HB3.out.size); have HB6 := hide (HB5.out.trans (hb6.mono HB5.out.size)); clear hb6 OJ5))
      go_ret2
      have e1 : cd = 28 := by rw [← HCD.out, if_neg HKL.out]
      have e2 : RR = [] := by rw [← HRR.out, if_neg HKL.out]
      subst e1; subst e2
      exact ⟨_, rfl, World.ownsRow_nil _ _ _ _, HB6.out⟩
end Go.Proofs.YtdfpbhlnlkjjlaaGreat

/- Plain: the outlines of small regions, by counting. -/
namespace Go.Proofs.YtdfpbhlnlkjjlaaGreat
set_option linter.unusedVariables false
set_option linter.unusedSimpArgs false
instance decBgn (S : Cs) (u : Un) : Decidable (bgn S u) := inferInstanceAs (Decidable (_ ∧ _))
def ltB : List Pt → List Pt → Bool
 | [], [] => false
 | [], _ :: _ => true
 | _ :: _, [] => false
 | a :: s, b :: t => if a = b then ltB s t else decide (ptLt a b)
theorem ltB_lt : ∀ {a b : List Pt}, ltB a b = true → ltL a b
 | [], [], h => by simp [ltB] at h
 | [], _ :: _, _ => trivial
 | _ :: _, [], h => by simp [ltB] at h
 | a :: s, b :: t, h => by
  unfold ltB at h
  unfold ltL
  by_cases e : a = b
  ·rw [if_pos e] at h ⊢
   exact ltB_lt h
  ·rw [if_neg e] at h ⊢
   exact of_decide_eq_true h
def pthU (S : Cs) (u : Un) (n : Nat) : List Un := (List.range n).map (itU S u)
theorem mem_pthU {S : Cs} {u : Un} {n : Nat} {z : Un} : z ∈ pthU S u n ↔ inCy S u n z := by
 unfold pthU inCy
 rw [List.mem_map]
 constructor
 ·rintro ⟨k, hk, e⟩; exact ⟨k, List.mem_range.1 hk, e⟩
 ·rintro ⟨k, hk, e⟩; exact ⟨k, List.mem_range.2 hk, e⟩
def chkTrip (S : Cs) (q : Un × Nat) : Bool := decide (bgn S q.1) && decide (0 < q.2) && decide (itU S q.1 q.2 = q.1) && decide (pthU S q.1 q.2).Nodup && decide (trp S q.1 ≠ 0)
 && (List.range q.2).all fun k => decide (k = 0) || decide (trp S (itU S q.1 k) = 0) || decide (ptLt q.1.1 (itU S q.1 k).1)
theorem chkTrip_ok {S : Cs} {q : Un × Nat} (h : chkTrip S q = true) : LpU S q.1 q.2 := by
 simp only [chkTrip, Bool.and_eq_true, decide_eq_true_eq, List.all_eq_true, List.mem_range, Bool.or_eq_true] at h
 obtain ⟨⟨⟨⟨⟨h1, h2⟩, h3⟩, h4⟩, h5⟩, h6⟩ := h
 refine ⟨⟨h1, h2, h3, fun i j hij hj e => ?_⟩, h5, fun k hk hn ht => ?_⟩
 ·have hp := List.pairwise_iff_getElem.1 h4 i j (by unfold pthU; rw [List.length_map, List.length_range]; omega) (by unfold pthU; rw [List.length_map, List.length_range]; omega) hij
  simp only [pthU, List.getElem_map, List.getElem_range] at hp
  exact hp e
 ·rcases h6 k hn with (e | e) | e
  ·omega
  ·exact absurd e ht
  ·exact e
def chkOutl (S : Cs) (M : Nat) (us : List (Un × Nat)) (L : List (List Pt)) : Bool :=
 us.all (chkTrip S) && decide (us.flatMap fun q => pthU S q.1 q.2).Nodup
 && ((allU M).all fun z => !decide (bgn S z) || decide (z ∈ us.flatMap fun q => pthU S q.1 q.2))
 && decide (L = us.map (lpP S)) && decide (L.Pairwise fun a b => ltB a b = true)
theorem chkOutl_ok {S : Cs} {M : Nat} {us : List (Un × Nat)} {L : List (List Pt)} (hM : bdC S M) (h : chkOutl S M us L = true) : Outl S L := by
 simp only [chkOutl, Bool.and_eq_true, decide_eq_true_eq, List.all_eq_true, Bool.or_eq_true, Bool.not_eq_true', decide_eq_false_iff_not] at h
 obtain ⟨⟨⟨⟨h1, h2⟩, h3⟩, h4⟩, h5⟩ := h
 refine ⟨⟨us, ⟨fun q hq => chkTrip_ok (h1 q hq), ?_, fun z hz => ?_⟩, by rw [h4]⟩, h5.imp ltB_lt⟩
 ·have hp := (List.pairwise_flatMap.1 h2).2
  refine hp.imp fun {a b} hab z ⟨ha, hb⟩ => hab z (mem_pthU.2 ha) z (mem_pthU.2 hb) rfl
 ·rcases h3 z (in_allU hM hz) with h | h
  ·exact absurd hz h
  ·obtain ⟨q, hq, hz⟩ := List.mem_flatMap.1 h
   exact ⟨q, hq, mem_pthU.1 hz⟩
theorem nodup_ex {α : Type} : ∀ l : List α, ∃ k : List α, k.Nodup ∧ ∀ x, x ∈ k ↔ x ∈ l
 | [] => ⟨[], List.nodup_nil, fun _ => Iff.rfl⟩
 | a :: l => by
  obtain ⟨k, h1, h2⟩ := nodup_ex l
  by_cases ha : a ∈ k
  ·refine ⟨k, h1, fun x => ?_⟩
   rw [List.mem_cons, h2]
   constructor
   ·exact .inr
   ·rintro (rfl | h)
    ·exact (h2 _).1 ha
    ·exact h
  ·exact ⟨a :: k, List.nodup_cons.2 ⟨ha, h1⟩, fun x => by rw [List.mem_cons, List.mem_cons, h2]⟩
open Classical in
theorem sorted_ex : ∀ L : List (List Pt), ∃ K : List (List Pt), K.Perm L ∧ K.Pairwise fun a b => ¬ ltL b a
 | [] => ⟨[], List.Perm.refl _, List.Pairwise.nil⟩
 | a :: L => by
  obtain ⟨K, h1, h2⟩ := sorted_ex L
  refine ⟨K.filter (fun b => decide (ltL b a)) ++ a :: K.filter (fun b => !decide (ltL b a)), ?_, ?_⟩
  ·refine List.Perm.trans List.perm_middle ?_
   exact List.Perm.cons a ((List.filter_append_perm _ K).trans h1)
  ·rw [List.pairwise_append, List.pairwise_cons]
   refine ⟨h2.filter _, ⟨fun b hb => by simpa using (List.mem_filter.1 hb).2, h2.filter _⟩, fun x hx y hy hlt => ?_⟩
   have hxa : ltL x a := by simpa using (List.mem_filter.1 hx).2
   rcases List.mem_cons.1 hy with rfl | hy
   ·exact ltL_irr _ (ltL_tr hlt hxa)
   ·have : ¬ ltL y a := by simpa using (List.mem_filter.1 hy).2
    exact this (ltL_tr hlt hxa)
open Classical in
theorem outl_ex {S : Cs} {M : Nat} (hM : bdC S M) : ∃ L, Outl S L := by
 obtain ⟨k, h1, h2⟩ := nodup_ex (allU M)
 have hu : ∀ u : Un, (∃ n, LpU S u n) → u ∈ k := fun u ⟨n, h⟩ => (h2 u).2 (in_allU hM h.cyc.beg)
 let us : List (Un × Nat) := k.filterMap fun u => if h : ∃ n, LpU S u n then some (u, h.choose) else none
 have hmem : ∀ q : Un × Nat, q ∈ us ↔ q.1 ∈ k ∧ ∃ h : (∃ n, LpU S q.1 n), q.2 = h.choose := by
  intro q
  rw [List.mem_filterMap]
  constructor
  ·rintro ⟨u, hu1, hu2⟩
   by_cases h : ∃ n, LpU S u n
   ·rw [dif_pos h] at hu2
    injection hu2 with hu2
    subst hu2
    exact ⟨hu1, h, rfl⟩
   ·rw [dif_neg h] at hu2
    cases hu2
  ·rintro ⟨h3, h, h4⟩
   refine ⟨q.1, h3, ?_⟩
   rw [dif_pos h, ← h4]
 have hlp : ∀ q ∈ us, LpU S q.1 q.2 := fun q hq => by
  obtain ⟨_, h, h4⟩ := (hmem q).1 hq
  rw [h4]
  exact h.choose_spec
 have ht : Trips S us := by
  refine ⟨hlp, ?_, fun z hz => ?_⟩
  ·rw [List.pairwise_filterMap]
   refine h1.imp fun {a b} hab q hq r hr z ⟨z1, z2⟩ => ?_
   by_cases ha : ∃ n, LpU S a n
   ·by_cases hb : ∃ n, LpU S b n
    ·rw [dif_pos ha] at hq
     rw [dif_pos hb] at hr
     injection hq with hq
     injection hr with hr
     subst hq; subst hr
     have l1 := ha.choose_spec
     have l2 := hb.choose_spec
     have hs := (l1.cyc.share l2.cyc z1 z2).2 a
     exact hab (l1.same l2 (hs.1 l1.cyc.refl_in)).1
    ·rw [dif_neg hb] at hr
     cases hr
   ·rw [dif_neg ha] at hq
    cases hq
  ·obtain ⟨n, hc⟩ := cyc_ex hM hz
   obtain ⟨j, hj1, hj2, hl⟩ := hc.least
   have hex : ∃ n, LpU S (itU S z j) n := ⟨n, hl⟩
   have hn : hex.choose = n := hex.choose_spec.cyc.len hl.cyc
   refine ⟨(itU S z j, hex.choose), (hmem _).2 ⟨hu _ hex, hex, rfl⟩, ?_⟩
   show inCy S (itU S z j) hex.choose z
   rw [hn]
   exact hc.in_rot.2 hc.refl_in
 obtain ⟨K, hK1, hK2⟩ := sorted_ex (us.map (lpP S))
 exact ⟨K, Outl.of ht hK1 hK2⟩
open Classical in
noncomputable def outlR (l : List R4) : List (List Pt) := if h : ∃ L, Outl (setR l) L then h.choose else []
theorem outlR_ok {l : List R4} {M : Nat} (hM : bdC (setR l) M) : Outl (setR l) (outlR l) := by
 have h := outl_ex hM
 unfold outlR
 rw [dif_pos h]
 exact h.choose_spec
def ringR : List R4 := [⟨0, 0, 1, 3⟩, ⟨1, 0, 2, 1⟩, ⟨1, 2, 2, 3⟩, ⟨2, 0, 3, 3⟩]
def holeP : List Pt := [(1, 1), (1, 2), (2, 2), (2, 1)]
def rimP : List Pt := [(0, 0), (3, 0), (3, 3), (0, 3)]
def sqP (x y n : Int) : List Pt := [(x, y), (x + n, y), (x + n, y + 1), (x, y + 1)]
theorem ring_outl : Outl (setR ringR) [rimP, holeP] := chkOutl_ok (M := 3) (us := [(((0, 0), .e), 12), (((1, 1), .n), 4)]) (setR_bd (by decide)) (by decide +kernel)
theorem two_outl : Outl (setR [⟨0, 0, 1, 1⟩, ⟨1, 1, 2, 2⟩]) [sqP 0 0 1, sqP 1 1 1] := chkOutl_ok (M := 2) (us := [(((0, 0), .e), 4), (((1, 1), .e), 4)]) (setR_bd (by decide)) (by decide +kernel)
theorem wide_outl : Outl (setR [⟨0, 0, 2, 1⟩]) [sqP 0 0 2] := chkOutl_ok (M := 2) (us := [(((0, 0), .e), 6)]) (setR_bd (by decide)) (by decide +kernel)
end Go.Proofs.YtdfpbhlnlkjjlaaGreat
