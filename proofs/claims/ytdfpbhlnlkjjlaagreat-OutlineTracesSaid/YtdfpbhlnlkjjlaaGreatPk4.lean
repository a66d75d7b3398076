/- Texts laid together: RefX, App, MStr, MOutA, MOutB, MOutC, MOutD, MOutE, MCan, MOutF. Lemmas for the statements of this seat; no condition. -/
import Derived.Test.YtdfpbhlnlkjjlaaGreatPk3
import Derived.Maps.AppendAt
import Derived.Laws.AppendOwnNone
import Derived.Test.YtdfpbhlnlkjjlaaGreatPk1

/- The reference's cuts: Xs and Ys. -/
namespace Go.Proofs.YtdfpbhlnlkjjlaaGreat
open Go.RowKit
set_option linter.unusedVariables false
set_option linter.unusedSimpArgs false
theorem cutsY_take (l : List R4) (m : Nat) (r : R4) (h : l[m]? = some r) : cutsY (l.take (m + 1)) = cutsY (l.take m) ++ [r.y0, r.y1] := by
 obtain ⟨hm, hp⟩ := List.getElem?_eq_some_iff.1 h
 rw [List.take_succ_eq_append_getElem hm, hp]
 simp [cutsY]
theorem cutsY_len (l : List R4) : (cutsY l).length = 2 * l.length := by
 induction l with
 | nil => rfl
 | cons p s ih => simp [cutsY] at ih ⊢; omega
set_option maxRecDepth 100000 in
set_option maxHeartbeats 1000000 in
theorem rXs_any {w : World} {va vb : Value} {a b : List R4} {B : Nat} (ha : RdK encR 4 w B va a) (hb : RdK encR 4 w B vb b) (hB : B ≤ w.heap.size) (la : a.length ≤ 10000000) (lb : b.length ≤ 10000000) :
  Calls Tryz.prog 87 #[va, vb] w fun e w' => ∃ vo, e = .returned vo ∧ w'.ownsRow w.heap.size 3 1 vo (srt (cutsL a ++ cutsL b)).length ((srt (cutsL a ++ cutsL b)).map iv) ∧ Below w.heap.size w w' := by
 obtain ⟨i1, gi, gz0, gz1, gz2⟩ := info_parts infoInt
 obtain ⟨A, c, rfl, hca⟩ := ha
 obtain ⟨A2, c2, rfl, hcb⟩ := hb
 have HA := hide hca
 have HB0 := hide hcb
 clear hca hcb
 go_enter Tryz.func87, Tryz.ntmps87
 go_wp2
 go_loopw [5, 6] (fun v i wr => ∃ m : Nat, m ≤ a.length ∧ i = .int .i64 m ∧ ∃ Av cv, v = .slice Av (cutsL (a.take m)).length cv ∧ Hid (wr.ownsRow w.heap.size 3 1 v (cutsL (a.take m)).length ((cutsL (a.take m)).map iv)) ∧ Hid (Below w.heap.size w wr)) (fun _ i _ => a.length - (intOf i).toNat)
 case atStart => exact ⟨0, Nat.zero_le _, rfl, none, 0, rfl, hide (World.ownsRow_nil _ _ _ _), hide (Below.refl _ _)⟩
 case round =>
  obtain ⟨m, hm, rfl, Av, cv, rfl, HO, HB⟩ := hrel
  by_cases hlt : m < a.length
  ·obtain ⟨⟨x0, y0, x1, y1⟩, hp⟩ : ∃ p, a[m]? = some p := ⟨_, List.getElem?_eq_getElem hlt⟩
   obtain ⟨bk, off, rfl, hbk, k⟩ := HA.out (by intro e; rw [e] at hlt; simp at hlt)
   have dW : ∀ W, Below w.heap.size w W → W.cell? ⟨bk, off + m * 4, none⟩ = some (.int .i64 x0) ∧ W.cell? ⟨bk, off + m * 4 + 2, none⟩ = some (.int .i64 x1) := fun W hW =>
    ⟨(hW.cell (p := ⟨bk, _, none⟩) (by show bk < _; omega)).trans (k m _ hp 0 _ rfl), (hW.cell (p := ⟨bk, _, none⟩) (by show bk < _; omega)).trans (k m _ hp 2 _ rfl)⟩
   obtain ⟨d0, d2⟩ := dW wr HB.out
   have DW := hide dW
   have mz : (m : Int) < (a.length : Int) := by omega
   have HT : Hid (cutsL (a.take (m + 1)) = cutsL (a.take m) ++ [x0, x1]) := hide (by rw [cutsL_take a m _ hp])
   have hlen : (cutsL (a.take m)).length ≤ 400000000 := by rw [cutsL_len, List.length_take]; omega
   have hsz := HB.out.size
   have hbw : bk < wr.heap.size := by omega
   clear k hp dW
   generalize cutsL (a.take m) = E0 at *
   go_wp2
   refine wp_region_reads 11 (fun w' => w'.cell? ⟨bk, off + m * 4, none⟩ = some (.int .i64 x0) ∧ w'.cell? ⟨bk, off + m * 4 + 2, none⟩ = some (.int .i64 x1)) (by kernel_rfl) (by kernel_rfl) ⟨d0, d2⟩ ?_
   simp only [List.take_succ_cons, List.take_zero, List.drop_succ_cons, List.drop_zero]
   iterate 11
    refine ⟨?_, Or.inl ⟨by rfl, ?_⟩, ?_⟩
    rotate_left 1
    ·intro w' hSw
     obtain ⟨z1, z2⟩ := hSw
     go_simp
     first | done | with_reducible rfl
    simp only [Act.put, List.setIfInBounds_toArray, List.set_cons_zero, List.set_cons_succ]
   simp only [wpReads]
   intro K hK
   go_simp
   refine hK _ _ (fun _ => ⟨by go_keep, by go_keep⟩) ?_
   clear hK K
   intro K hK
   refine step_append_lies _ rfl (.tmp 14) (.tmp 25) 96 rfl w.heap.size 3 i1 (.int .i64 0) 1 8 Tryz.underlying96 gi gz0 gz1 gz2 rfl (by decide) _ _ _ rfl (own_drew (World.ownsRow.alloc (w := wr) HO.out _)) ⟨wr.heap.size, 0, none⟩ 2 2 [.int .i64 x0, .int .i64 x1] rfl rfl (news_drew wr _ _ _ rfl) (ints_one rfl) (by omega) (by unfold maxLen; omega) (by omega) (by simp; omega) _ rfl ?_
   intro g9 cap9 w9 hown9 hgrow9 _ _
   have hb9 : Below w.heap.size w w9 := ((HB.out.alloc hsz _).drew).grown hgrow9 (by simp; omega) (fun q hq => (HO.out.lt q hq).1)
   have hx9 : E0.map iv ++ [.int .i64 x0, .int .i64 x1] = (E0 ++ [x0, x1]).map iv := by simp
   rw [hx9, ← HT.out] at hown9
   have HL9 : Hid (E0.length + 2 = (cutsL (a.take (m + 1))).length) := hide (by rw [HT.out]; simp)
   have HO9 := hide hown9
   have HB9 := hide hb9
   clear hown9 hgrow9 hx9 hb9
   refine hK _ _ (fun _ => DW.out _ HB9.out) ?_
   clear hK K
   intro K hK
   simp only [Act.put, List.setIfInBounds_toArray, List.set_cons_zero, List.set_cons_succ] at hK ⊢
   go_simp
   refine hK _ _ (fun h => absurd rfl h) ?_
   clear hK K
   refine NoPanic.normal ?_
   go_wp2
   go_roundw
   case rel => exact ⟨m + 1, by omega, by go_num, _, cap9, by rw [HL9.out], hide (by rw [← HL9.out]; exact own_n HO9.out rfl), HB9⟩
   case measure => simp [intOf]; omega
  ·have mz : ¬ (m : Int) < (a.length : Int) := by omega
   have ht : a.take m = a := List.take_of_length_le (by omega)
   rw [ht] at HO ⊢
   clear ht
   go_wp2
   go_loopw [5, 7] (fun v i wr => ∃ m : Nat, m ≤ b.length ∧ i = .int .i64 m ∧ ∃ Av cv, v = .slice Av (cutsL a ++ cutsL (b.take m)).length cv ∧ Hid (wr.ownsRow w.heap.size 3 1 v (cutsL a ++ cutsL (b.take m)).length ((cutsL a ++ cutsL (b.take m)).map iv)) ∧ Hid (Below w.heap.size w wr)) (fun _ i _ => b.length - (intOf i).toNat)
   case atStart => exact ⟨0, Nat.zero_le _, rfl, Av, cv, by simp [cutsL], hide (by simpa [cutsL] using HO.out), HB⟩
   case round =>
    clear HO HB
    obtain ⟨m, hm, rfl, Av, cv, rfl, HO, HB⟩ := hrel
    by_cases hlt : m < b.length
    ·obtain ⟨⟨x0, y0, x1, y1⟩, hp⟩ : ∃ p, b[m]? = some p := ⟨_, List.getElem?_eq_getElem hlt⟩
     obtain ⟨bk, off, rfl, hbk, k⟩ := HB0.out (by intro e; rw [e] at hlt; simp at hlt)
     have dW : ∀ W, Below w.heap.size w W → W.cell? ⟨bk, off + m * 4, none⟩ = some (.int .i64 x0) ∧ W.cell? ⟨bk, off + m * 4 + 2, none⟩ = some (.int .i64 x1) := fun W hW =>
      ⟨(hW.cell (p := ⟨bk, _, none⟩) (by show bk < _; omega)).trans (k m _ hp 0 _ rfl), (hW.cell (p := ⟨bk, _, none⟩) (by show bk < _; omega)).trans (k m _ hp 2 _ rfl)⟩
     obtain ⟨d0, d2⟩ := dW wr HB.out
     have DW := hide dW
     have mz : (m : Int) < (b.length : Int) := by omega
     have HT : Hid (cutsL a ++ cutsL (b.take (m + 1)) = cutsL a ++ cutsL (b.take m) ++ [x0, x1]) := hide (by rw [cutsL_take b m _ hp, List.append_assoc])
     have hlen : (cutsL a ++ cutsL (b.take m)).length ≤ 400000000 := by rw [List.length_append, cutsL_len, cutsL_len, List.length_take]; omega
     have hsz := HB.out.size
     have hbw : bk < wr.heap.size := by omega
     clear k hp dW
     generalize cutsL a ++ cutsL (b.take m) = E0 at *
     go_wp2
     refine wp_region_reads 11 (fun w' => w'.cell? ⟨bk, off + m * 4, none⟩ = some (.int .i64 x0) ∧ w'.cell? ⟨bk, off + m * 4 + 2, none⟩ = some (.int .i64 x1)) (by kernel_rfl) (by kernel_rfl) ⟨d0, d2⟩ ?_
     simp only [List.take_succ_cons, List.take_zero, List.drop_succ_cons, List.drop_zero]
     iterate 11
      refine ⟨?_, Or.inl ⟨by rfl, ?_⟩, ?_⟩
      rotate_left 1
      ·intro w' hSw
       obtain ⟨z1, z2⟩ := hSw
       go_simp
       first | done | with_reducible rfl
      simp only [Act.put, List.setIfInBounds_toArray, List.set_cons_zero, List.set_cons_succ]
     simp only [wpReads]
     intro K hK
     go_simp
     refine hK _ _ (fun _ => ⟨by go_keep, by go_keep⟩) ?_
     clear hK K
     intro K hK
     refine step_append_lies _ rfl (.tmp 33) (.tmp 44) 96 rfl w.heap.size 3 i1 (.int .i64 0) 1 8 Tryz.underlying96 gi gz0 gz1 gz2 rfl (by decide) _ _ _ rfl (own_drew (World.ownsRow.alloc (w := wr) HO.out _)) ⟨wr.heap.size, 0, none⟩ 2 2 [.int .i64 x0, .int .i64 x1] rfl rfl (news_drew wr _ _ _ rfl) (ints_one rfl) (by omega) (by unfold maxLen; omega) (by omega) (by simp; omega) _ rfl ?_
     intro g9 cap9 w9 hown9 hgrow9 _ _
     have hb9 : Below w.heap.size w w9 := ((HB.out.alloc hsz _).drew).grown hgrow9 (by simp; omega) (fun q hq => (HO.out.lt q hq).1)
     have hx9 : E0.map iv ++ [.int .i64 x0, .int .i64 x1] = (E0 ++ [x0, x1]).map iv := by simp
     rw [hx9, ← HT.out] at hown9
     have HL9 : Hid (E0.length + 2 = (cutsL a ++ cutsL (b.take (m + 1))).length) := hide (by rw [HT.out]; simp)
     have HO9 := hide hown9
     have HB9 := hide hb9
     clear hown9 hgrow9 hx9 hb9
     refine hK _ _ (fun _ => DW.out _ HB9.out) ?_
     clear hK K
     intro K hK
     simp only [Act.put, List.setIfInBounds_toArray, List.set_cons_zero, List.set_cons_succ] at hK ⊢
     go_simp
     refine hK _ _ (fun h => absurd rfl h) ?_
     clear hK K
     refine NoPanic.normal ?_
     go_wp2
     go_roundw
     case rel => exact ⟨m + 1, by omega, by go_num, _, cap9, by rw [HL9.out], hide (by rw [← HL9.out]; exact own_n HO9.out rfl), HB9⟩
     case measure => simp [intOf]; omega
    ·have mz : ¬ (m : Int) < (b.length : Int) := by omega
     have ht : b.take m = b := List.take_of_length_le (by omega)
     rw [ht] at HO ⊢
     clear ht
     have hsz := HB.out.size
     have hln : (cutsL a ++ cutsL b).length ≤ 100000000 := by rw [List.length_append, cutsL_len, cutsL_len]; omega
     obtain ⟨E, hE⟩ : ∃ E, cutsL a ++ cutsL b = E := ⟨_, rfl⟩
     rw [hE] at hln HO ⊢
     have HE := hide hE
     clear hE
     have hso := rSorted_any (own_rdI HO.out) (Nat.le_refl _) (by omega)
     have HSO := hide hso
     clear hso
     go_wp2_with (go_at_call 119; refine HSO.out.mono ?_; rintro e w3 ⟨vo, rfl, ho3, hb3⟩; have HO3 := hide ho3; have HB3 := hide hb3; clear ho3 hb3)
     go_ret
     exact ⟨vo, rfl, by rw [HE.out]; exact own_base HO3.out hsz, HB.out.trans (HB3.out.mono hsz)⟩
set_option maxRecDepth 100000 in
set_option maxHeartbeats 1000000 in
theorem rYs_any {w : World} {va vb : Value} {a b : List R4} {B : Nat} (ha : RdK encR 4 w B va a) (hb : RdK encR 4 w B vb b) (hB : B ≤ w.heap.size) (la : a.length ≤ 10000000) (lb : b.length ≤ 10000000) :
  Calls Tryz.prog 88 #[va, vb] w fun e w' => ∃ vo, e = .returned vo ∧ w'.ownsRow w.heap.size 3 1 vo (srt (cutsY a ++ cutsY b)).length ((srt (cutsY a ++ cutsY b)).map iv) ∧ Below w.heap.size w w' := by
 obtain ⟨i1, gi, gz0, gz1, gz2⟩ := info_parts infoInt
 obtain ⟨A, c, rfl, hca⟩ := ha
 obtain ⟨A2, c2, rfl, hcb⟩ := hb
 have HA := hide hca
 have HB0 := hide hcb
 clear hca hcb
 go_enter Tryz.func88, Tryz.ntmps88
 go_wp2
 go_loopw [5, 6] (fun v i wr => ∃ m : Nat, m ≤ a.length ∧ i = .int .i64 m ∧ ∃ Av cv, v = .slice Av (cutsY (a.take m)).length cv ∧ Hid (wr.ownsRow w.heap.size 3 1 v (cutsY (a.take m)).length ((cutsY (a.take m)).map iv)) ∧ Hid (Below w.heap.size w wr)) (fun _ i _ => a.length - (intOf i).toNat)
 case atStart => exact ⟨0, Nat.zero_le _, rfl, none, 0, rfl, hide (World.ownsRow_nil _ _ _ _), hide (Below.refl _ _)⟩
 case round =>
  obtain ⟨m, hm, rfl, Av, cv, rfl, HO, HB⟩ := hrel
  by_cases hlt : m < a.length
  ·obtain ⟨⟨x0, y0, x1, y1⟩, hp⟩ : ∃ p, a[m]? = some p := ⟨_, List.getElem?_eq_getElem hlt⟩
   obtain ⟨bk, off, rfl, hbk, k⟩ := HA.out (by intro e; rw [e] at hlt; simp at hlt)
   have dW : ∀ W, Below w.heap.size w W → W.cell? ⟨bk, off + m * 4 + 1, none⟩ = some (.int .i64 y0) ∧ W.cell? ⟨bk, off + m * 4 + 3, none⟩ = some (.int .i64 y1) := fun W hW =>
    ⟨(hW.cell (p := ⟨bk, _, none⟩) (by show bk < _; omega)).trans (k m _ hp 1 _ rfl), (hW.cell (p := ⟨bk, _, none⟩) (by show bk < _; omega)).trans (k m _ hp 3 _ rfl)⟩
   obtain ⟨d0, d2⟩ := dW wr HB.out
   have DW := hide dW
   have mz : (m : Int) < (a.length : Int) := by omega
   have HT : Hid (cutsY (a.take (m + 1)) = cutsY (a.take m) ++ [y0, y1]) := hide (by rw [cutsY_take a m _ hp])
   have hlen : (cutsY (a.take m)).length ≤ 400000000 := by rw [cutsY_len, List.length_take]; omega
   have hsz := HB.out.size
   have hbw : bk < wr.heap.size := by omega
   clear k hp dW
   generalize cutsY (a.take m) = E0 at *
   go_wp2
   refine wp_region_reads 11 (fun w' => w'.cell? ⟨bk, off + m * 4 + 1, none⟩ = some (.int .i64 y0) ∧ w'.cell? ⟨bk, off + m * 4 + 3, none⟩ = some (.int .i64 y1)) (by kernel_rfl) (by kernel_rfl) ⟨d0, d2⟩ ?_
   simp only [List.take_succ_cons, List.take_zero, List.drop_succ_cons, List.drop_zero]
   iterate 11
    refine ⟨?_, Or.inl ⟨by rfl, ?_⟩, ?_⟩
    rotate_left 1
    ·intro w' hSw
     obtain ⟨z1, z2⟩ := hSw
     go_simp
     first | done | with_reducible rfl
    simp only [Act.put, List.setIfInBounds_toArray, List.set_cons_zero, List.set_cons_succ]
   simp only [wpReads]
   intro K hK
   go_simp
   refine hK _ _ (fun _ => ⟨by go_keep, by go_keep⟩) ?_
   clear hK K
   intro K hK
   refine step_append_lies _ rfl (.tmp 14) (.tmp 25) 96 rfl w.heap.size 3 i1 (.int .i64 0) 1 8 Tryz.underlying96 gi gz0 gz1 gz2 rfl (by decide) _ _ _ rfl (own_drew (World.ownsRow.alloc (w := wr) HO.out _)) ⟨wr.heap.size, 0, none⟩ 2 2 [.int .i64 y0, .int .i64 y1] rfl rfl (news_drew wr _ _ _ rfl) (ints_one rfl) (by omega) (by unfold maxLen; omega) (by omega) (by simp; omega) _ rfl ?_
   intro g9 cap9 w9 hown9 hgrow9 _ _
   have hb9 : Below w.heap.size w w9 := ((HB.out.alloc hsz _).drew).grown hgrow9 (by simp; omega) (fun q hq => (HO.out.lt q hq).1)
   have hx9 : E0.map iv ++ [.int .i64 y0, .int .i64 y1] = (E0 ++ [y0, y1]).map iv := by simp
   rw [hx9, ← HT.out] at hown9
   have HL9 : Hid (E0.length + 2 = (cutsY (a.take (m + 1))).length) := hide (by rw [HT.out]; simp)
   have HO9 := hide hown9
   have HB9 := hide hb9
   clear hown9 hgrow9 hx9 hb9
   refine hK _ _ (fun _ => DW.out _ HB9.out) ?_
   clear hK K
   intro K hK
   simp only [Act.put, List.setIfInBounds_toArray, List.set_cons_zero, List.set_cons_succ] at hK ⊢
   go_simp
   refine hK _ _ (fun h => absurd rfl h) ?_
   clear hK K
   refine NoPanic.normal ?_
   go_wp2
   go_roundw
   case rel => exact ⟨m + 1, by omega, by go_num, _, cap9, by rw [HL9.out], hide (by rw [← HL9.out]; exact own_n HO9.out rfl), HB9⟩
   case measure => simp [intOf]; omega
  ·have mz : ¬ (m : Int) < (a.length : Int) := by omega
   have ht : a.take m = a := List.take_of_length_le (by omega)
   rw [ht] at HO ⊢
   clear ht
   go_wp2
   go_loopw [5, 7] (fun v i wr => ∃ m : Nat, m ≤ b.length ∧ i = .int .i64 m ∧ ∃ Av cv, v = .slice Av (cutsY a ++ cutsY (b.take m)).length cv ∧ Hid (wr.ownsRow w.heap.size 3 1 v (cutsY a ++ cutsY (b.take m)).length ((cutsY a ++ cutsY (b.take m)).map iv)) ∧ Hid (Below w.heap.size w wr)) (fun _ i _ => b.length - (intOf i).toNat)
   case atStart => exact ⟨0, Nat.zero_le _, rfl, Av, cv, by simp [cutsY], hide (by simpa [cutsY] using HO.out), HB⟩
   case round =>
    clear HO HB
    obtain ⟨m, hm, rfl, Av, cv, rfl, HO, HB⟩ := hrel
    by_cases hlt : m < b.length
    ·obtain ⟨⟨x0, y0, x1, y1⟩, hp⟩ : ∃ p, b[m]? = some p := ⟨_, List.getElem?_eq_getElem hlt⟩
     obtain ⟨bk, off, rfl, hbk, k⟩ := HB0.out (by intro e; rw [e] at hlt; simp at hlt)
     have dW : ∀ W, Below w.heap.size w W → W.cell? ⟨bk, off + m * 4 + 1, none⟩ = some (.int .i64 y0) ∧ W.cell? ⟨bk, off + m * 4 + 3, none⟩ = some (.int .i64 y1) := fun W hW =>
      ⟨(hW.cell (p := ⟨bk, _, none⟩) (by show bk < _; omega)).trans (k m _ hp 1 _ rfl), (hW.cell (p := ⟨bk, _, none⟩) (by show bk < _; omega)).trans (k m _ hp 3 _ rfl)⟩
     obtain ⟨d0, d2⟩ := dW wr HB.out
     have DW := hide dW
     have mz : (m : Int) < (b.length : Int) := by omega
     have HT : Hid (cutsY a ++ cutsY (b.take (m + 1)) = cutsY a ++ cutsY (b.take m) ++ [y0, y1]) := hide (by rw [cutsY_take b m _ hp, List.append_assoc])
     have hlen : (cutsY a ++ cutsY (b.take m)).length ≤ 400000000 := by rw [List.length_append, cutsY_len, cutsY_len, List.length_take]; omega
     have hsz := HB.out.size
     have hbw : bk < wr.heap.size := by omega
     clear k hp dW
     generalize cutsY a ++ cutsY (b.take m) = E0 at *
     go_wp2
     refine wp_region_reads 11 (fun w' => w'.cell? ⟨bk, off + m * 4 + 1, none⟩ = some (.int .i64 y0) ∧ w'.cell? ⟨bk, off + m * 4 + 3, none⟩ = some (.int .i64 y1)) (by kernel_rfl) (by kernel_rfl) ⟨d0, d2⟩ ?_
     simp only [List.take_succ_cons, List.take_zero, List.drop_succ_cons, List.drop_zero]
     iterate 11
      refine ⟨?_, Or.inl ⟨by rfl, ?_⟩, ?_⟩
      rotate_left 1
      ·intro w' hSw
       obtain ⟨z1, z2⟩ := hSw
       go_simp
       first | done | with_reducible rfl
      simp only [Act.put, List.setIfInBounds_toArray, List.set_cons_zero, List.set_cons_succ]
     simp only [wpReads]
     intro K hK
     go_simp
     refine hK _ _ (fun _ => ⟨by go_keep, by go_keep⟩) ?_
     clear hK K
     intro K hK
     refine step_append_lies _ rfl (.tmp 33) (.tmp 44) 96 rfl w.heap.size 3 i1 (.int .i64 0) 1 8 Tryz.underlying96 gi gz0 gz1 gz2 rfl (by decide) _ _ _ rfl (own_drew (World.ownsRow.alloc (w := wr) HO.out _)) ⟨wr.heap.size, 0, none⟩ 2 2 [.int .i64 y0, .int .i64 y1] rfl rfl (news_drew wr _ _ _ rfl) (ints_one rfl) (by omega) (by unfold maxLen; omega) (by omega) (by simp; omega) _ rfl ?_
     intro g9 cap9 w9 hown9 hgrow9 _ _
     have hb9 : Below w.heap.size w w9 := ((HB.out.alloc hsz _).drew).grown hgrow9 (by simp; omega) (fun q hq => (HO.out.lt q hq).1)
     have hx9 : E0.map iv ++ [.int .i64 y0, .int .i64 y1] = (E0 ++ [y0, y1]).map iv := by simp
     rw [hx9, ← HT.out] at hown9
     have HL9 : Hid (E0.length + 2 = (cutsY a ++ cutsY (b.take (m + 1))).length) := hide (by rw [HT.out]; simp)
     have HO9 := hide hown9
     have HB9 := hide hb9
     clear hown9 hgrow9 hx9 hb9
     refine hK _ _ (fun _ => DW.out _ HB9.out) ?_
     clear hK K
     intro K hK
     simp only [Act.put, List.setIfInBounds_toArray, List.set_cons_zero, List.set_cons_succ] at hK ⊢
     go_simp
     refine hK _ _ (fun h => absurd rfl h) ?_
     clear hK K
     refine NoPanic.normal ?_
     go_wp2
     go_roundw
     case rel => exact ⟨m + 1, by omega, by go_num, _, cap9, by rw [HL9.out], hide (by rw [← HL9.out]; exact own_n HO9.out rfl), HB9⟩
     case measure => simp [intOf]; omega
    ·have mz : ¬ (m : Int) < (b.length : Int) := by omega
     have ht : b.take m = b := List.take_of_length_le (by omega)
     rw [ht] at HO ⊢
     clear ht
     have hsz := HB.out.size
     have hln : (cutsY a ++ cutsY b).length ≤ 100000000 := by rw [List.length_append, cutsY_len, cutsY_len]; omega
     obtain ⟨E, hE⟩ : ∃ E, cutsY a ++ cutsY b = E := ⟨_, rfl⟩
     rw [hE] at hln HO ⊢
     have HE := hide hE
     clear hE
     have hso := rSorted_any (own_rdI HO.out) (Nat.le_refl _) (by omega)
     have HSO := hide hso
     clear hso
     go_wp2_with (go_at_call 119; refine HSO.out.mono ?_; rintro e w3 ⟨vo, rfl, ho3, hb3⟩; have HO3 := hide ho3; have HB3 := hide hb3; clear ho3 hb3)
     go_ret
     exact ⟨vo, rfl, by rw [HE.out]; exact own_base HO3.out hsz, HB.out.trans (HB3.out.mono hsz)⟩
end Go.Proofs.YtdfpbhlnlkjjlaaGreat

/- append(x, y...) where y reads as a list, empty or nil let in; and the reference's Twin. -/
namespace Go.Proofs.YtdfpbhlnlkjjlaaGreat
open Go.RowKit
set_option linter.unusedVariables false
set_option linter.unusedSimpArgs false
section
variable {P : Program} {α : Type} {enc : α → List Value} {k : Nat}
theorem run_app_rd (w : World) (henc : ∀ x, (enc x).length = k) (hint : ∀ (l : List α), ∀ u ∈ l.flatMap enc, u.oneCell' = true) (base : Nat) (t ty e : TypeId) (i : TypeInfo) (z : Value) (bytes : Nat)
  (ht : P.underlying t = some (.slice e)) (hi : P.info? e = some i) (hz : i.zero = some z) (hsize : i.size = k) (hby : i.bytes = bytes) (hzs : z.cells.size = k) (hsz : 0 < k)
  (v : Value) (n : Nat) (xs : List Value) (hown : w.ownsRow base e k v n xs) (B : Nat) (x : Value) (l : List α) (hr : RdK enc k w B x l) (h63 : n + l.length ≤ maxLen) (hbytes : (n + l.length) * bytes ≤ 140737488355328) (hbase : base ≤ w.heap.size) :
  ∃ v' w', (Builtin.append_ #[t, t] ty #[v, x]).run P w = .ok v' w' ∧ w'.ownsRow base e k v' (n + l.length) (xs ++ l.flatMap enc) ∧ w.grownBy w' v.ownBlock := by
 obtain ⟨A, c, rfl, hc⟩ := hr
 have key : ∀ ad : Addr, (∀ j u, (l.flatMap enc)[j]? = some u → w.cell? (ad.add j) = some u) → ∃ v' w', (Builtin.append_ #[t, t] ty #[v, .slice (some ad) l.length c]).run P w = .ok v' w' ∧ w'.ownsRow base e k v' (n + l.length) (xs ++ l.flatMap enc) ∧ w.grownBy w' v.ownBlock := by
  intro ad had
  obtain ⟨v', w', h1, h2, h3, _, _⟩ := run_append_own_at (P := P) w base t ty e i z k bytes ht hi hz hsize hby hzs hsz v n xs hown ad l.length c (l.flatMap enc) (by rw [flat_len henc]) had (hint l) h63 hbytes hbase
  exact ⟨v', w', h1, h2, h3⟩
 by_cases hl : l = []
 ·subst hl
  cases A with
  | some ad => exact key ad (by simp)
  | none =>
   refine ⟨v, w, ?_, by simpa using hown, grown_refl _ _⟩
   rcases hown.2 with ⟨rfl, rfl⟩ | ⟨g, cap, cur, rfl, _, _, hnc, _⟩
   ·simp [Builtin.append_, run_underlying ht, sizeOf, typeInfo, hi, Builtin.lenOf, Builtin.firstCells]
   ·simp [Builtin.append_, run_underlying ht, sizeOf, typeInfo, hi, Builtin.lenOf, Builtin.firstCells, hnc, storeCells]
 ·obtain ⟨b, off, rfl, hb, hcell⟩ := hc hl
  refine key _ fun j u hu => ?_
  have hj : j < (l.flatMap enc).length := (List.getElem?_eq_some_iff.1 hu).1
  rw [flat_len henc] at hj
  have hq : j / k < l.length := (Nat.div_lt_iff_lt_mul hsz).2 hj
  have e1 : j / k * k + j % k = j := by rw [Nat.mul_comm]; exact Nat.div_add_mod j k
  have hu2 : (enc l[j / k])[j % k]? = some u := by
   have h1 := List.getElem?_eq_getElem (l := enc l[j / k]) (i := j % k) (by rw [henc]; exact Nat.mod_lt _ hsz)
   have h2 := flat_get henc l (j / k) _ (j % k) _ (List.getElem?_eq_getElem hq) h1
   rw [e1, hu] at h2
   rw [h1]; exact h2.symm
  have := hcell (j / k) _ (List.getElem?_eq_getElem hq) (j % k) u hu2
  rw [Nat.add_assoc, e1] at this
  have e2 : (⟨b, off, none⟩ : Addr).add j = ⟨b, off + j, none⟩ := by unfold Addr.add; split <;> simp_all
  rw [e2]; exact this
theorem wp_app_rd (w : World) {o : Oper} {a : Act} {K : Act → World → Prop} {Q : Exit → Act → World → Prop} (henc : ∀ x, (enc x).length = k) (hint : ∀ (l : List α), ∀ u ∈ l.flatMap enc, u.oneCell' = true) (s x : Operand) (t : TypeId)
  (ho : o.op = .call { callee := .builtin .append, args := #[s, x], argTypes := #[t, t] }) (base : Nat) (e : TypeId) (i : TypeInfo) (z : Value) (bytes : Nat)
  (ht : P.underlying t = some (.slice e)) (hi : P.info? e = some i) (hz : i.zero = some z) (hsize : i.size = k) (hby : i.bytes = bytes) (hzs : z.cells.size = k) (hsz : 0 < k)
  (v : Value) (n : Nat) (xs : List Value) (hs : a.eval s = v) (hown : w.ownsRow base e k v n xs) (B : Nat) (l : List α) (hr : RdK enc k w B (a.eval x) l) (h63 : n + l.length ≤ maxLen) (hbytes : (n + l.length) * bytes ≤ 140737488355328) (hbase : base ≤ w.heap.size)
  (h : ∀ v' w', w'.ownsRow base e k v' (n + l.length) (xs ++ l.flatMap enc) → w.grownBy w' v.ownBlock → K (a.put o.dst v') w') : o.wp P a w K Q := by
 obtain ⟨v', w', hrun, h2, h3⟩ := run_app_rd (P := P) w henc hint base t o.type e i z bytes ht hi hz hsize hby hzs hsz v n xs hown B _ l hr h63 hbytes hbase
 unfold Oper.wp execOp
 simp only [ho, resolve, invoke, builtin, Sem.run_bind, Sem.run_pure, Result.andThen_ok, List.map_toArray, List.map_cons, List.map_nil, hs, hrun]
 exact h v' w' h2 h3
theorem wpList_app_rd {w : World} {ops : Array Oper} {rest : List Oper} {o : Oper} {a : Act} {Q : Exit → Act → World → Prop} (hgd : o.guard = none) (henc : ∀ x, (enc x).length = k) (hint : ∀ (l : List α), ∀ u ∈ l.flatMap enc, u.oneCell' = true) (s x : Operand) (t : TypeId)
  (ho : o.op = .call { callee := .builtin .append, args := #[s, x], argTypes := #[t, t] }) (base : Nat) (e : TypeId) (i : TypeInfo) (z : Value) (bytes : Nat)
  (ht : P.underlying t = some (.slice e)) (hi : P.info? e = some i) (hz : i.zero = some z) (hsize : i.size = k) (hby : i.bytes = bytes) (hzs : z.cells.size = k) (hsz : 0 < k)
  (v : Value) (n : Nat) (xs : List Value) (hs : a.eval s = v) (hown : w.ownsRow base e k v n xs) (B : Nat) (l : List α) (hr : RdK enc k w B (a.eval x) l) (h63 : n + l.length ≤ maxLen) (hbytes : (n + l.length) * bytes ≤ 140737488355328) (hbase : base ≤ w.heap.size)
  (h : ∀ v' w', w'.ownsRow base e k v' (n + l.length) (xs ++ l.flatMap enc) → w.grownBy w' v.ownBlock → wpList P ops Q rest (a.put o.dst v') w') : wpList P ops Q (o :: rest) a w :=
 wpList_plain hgd fun _ hK => wp_app_rd w henc hint s x t ho base e i z bytes ht hi hz hsize hby hzs hsz v n xs hs hown B l hr h63 hbytes hbase fun v' w' h2 h3 => hK _ _ (h v' w' h2 h3)
end
theorem one_encR (l : List R4) : ∀ u ∈ l.flatMap encR, u.oneCell' = true := by
 intro u hu
 obtain ⟨r, _, hr⟩ := List.mem_flatMap.1 hu
 simp only [encR, List.mem_cons, List.not_mem_nil, or_false] at hr
 rcases hr with rfl | rfl | rfl | rfl <;> rfl
end Go.Proofs.YtdfpbhlnlkjjlaaGreat

/- Plain: networks of segments along the axes: unit lines, nodes, edges; the edges to the left and down are those to the right and up. No Go in sight. -/
namespace Go.Proofs.YtdfpbhlnlkjjlaaGreat
set_option linter.unusedVariables false
set_option linter.unusedSimpArgs false
abbrev Pt := Int × Int
structure Sg where
 ax : Int
 ay : Int
 cx : Int
 cy : Int
deriving DecidableEq
def finS (x : Int) : Prop := -1000000 ≤ x ∧ x ≤ 1000000
instance (x : Int) : Decidable (finS x) := by unfold finS; infer_instance
def okSg (s : Sg) : Prop := (finS s.ax ∧ finS s.ay ∧ finS s.cx ∧ finS s.cy) ∧ ((s.ax = s.cx) ↔ ¬ (s.ay = s.cy))
instance (s : Sg) : Decidable (okSg s) := by unfold okSg; infer_instance
def ptLt (a b : Pt) : Prop := a.1 < b.1 ∨ a.1 = b.1 ∧ a.2 < b.2
instance (a b : Pt) : Decidable (ptLt a b) := by unfold ptLt; infer_instance
theorem sorted_ext {α : Type} {R : α → α → Prop} (hi : ∀ a, ¬ R a a) (ht : ∀ a b c, R a b → R b c → R a c) : ∀ {l m : List α}, l.Pairwise R → m.Pairwise R → (∀ x, x ∈ l ↔ x ∈ m) → l = m
 | [], [], _, _, _ => rfl
 | [], b :: m, _, _, h => absurd ((h b).2 (by simp)) (by simp)
 | a :: l, [], _, _, h => absurd ((h a).1 (by simp)) (by simp)
 | a :: l, b :: m, h1, h2, h => by
  obtain ⟨p1, p2⟩ := List.pairwise_cons.1 h1
  obtain ⟨q1, q2⟩ := List.pairwise_cons.1 h2
  have hab : a = b := by
   rcases List.mem_cons.1 ((h a).1 (by simp)) with e | e
   ·exact e
   ·rcases List.mem_cons.1 ((h b).2 (by simp)) with e2 | e2
    ·exact e2.symm
    ·exact absurd (ht _ _ _ (q1 a e) (p1 b e2)) (hi b)
  subst hab
  rw [sorted_ext hi ht p2 q2 fun x => ?_]
  have hx := h x
  simp only [List.mem_cons] at hx
  constructor
  ·intro hm
   rcases hx.1 (.inr hm) with e | e
   ·subst e; exact absurd (p1 x hm) (hi x)
   ·exact e
  ·intro hm
   rcases hx.2 (.inr hm) with e | e
   ·subst e; exact absurd (q1 x hm) (hi x)
   ·exact e
end Go.Proofs.YtdfpbhlnlkjjlaaGreat

/- Plain: a closed path of unit steps that does not meet itself turns round once, to the left or to the right. -/
namespace Go.Proofs.YtdfpbhlnlkjjlaaGreat
set_option linter.unusedVariables false
set_option linter.unusedSimpArgs false
def smN (f : Nat → Int) : Nat → Int
 | 0 => 0
 | n + 1 => smN f n + f n
theorem smN_zero (f : Nat → Int) : smN f 0 = 0 := rfl
theorem smN_succ (f : Nat → Int) (n : Nat) : smN f (n + 1) = smN f n + f n := rfl
theorem smN_front (f : Nat → Int) : ∀ n, smN f (n + 1) = f 0 + smN (fun k => f (k + 1)) n
 | 0 => by simp [smN]
 | n + 1 => by rw [smN_succ, smN_front f n, smN_succ]; omega
theorem smN_congr {f g : Nat → Int} : ∀ {n : Nat}, (∀ k, k < n → f k = g k) → smN f n = smN g n
 | 0, _ => rfl
 | n + 1, h => by rw [smN_succ, smN_succ, smN_congr fun k hk => h k (by omega), h n (by omega)]
theorem smN_add (f g : Nat → Int) : ∀ n, smN (fun k => f k + g k) n = smN f n + smN g n
 | 0 => rfl
 | n + 1 => by rw [smN_succ, smN_succ, smN_succ, smN_add f g n]; omega
theorem smN_mul (c : Int) (f : Nat → Int) : ∀ n, smN (fun k => c * f k) n = c * smN f n
 | 0 => by simp [smN]
 | n + 1 => by rw [smN_succ, smN_succ, smN_mul c f n, Int.mul_add]
theorem smN_sub (f g : Nat → Int) : ∀ n, smN (fun k => f k - g k) n = smN f n - smN g n
 | 0 => rfl
 | n + 1 => by rw [smN_succ, smN_succ, smN_succ, smN_sub f g n]; omega
theorem smN_none {f : Nat → Int} {n : Nat} (h : ∀ k, k < n → f k = 0) : smN f n = 0 := by
 induction n with
 | zero => rfl
 | succ n ih => rw [smN_succ, ih fun k hk => h k (by omega), h n (by omega)]; rfl
theorem smN_tele (g : Nat → Int) : ∀ n, smN (fun k => g (k + 1) - g k) n = g n - g 0
 | 0 => by simp [smN]
 | n + 1 => by rw [smN_succ, smN_tele g n]; omega
theorem smN_split (f : Nat → Int) (m : Nat) : ∀ n, smN f (m + n) = smN f m + smN (fun k => f (m + k)) n
 | 0 => by simp [smN]
 | n + 1 => by rw [← Nat.add_assoc, smN_succ, smN_split f m n, smN_succ]; omega
theorem smN_shift {f : Nat → Int} {n : Nat} (h : ∀ k, f (k + n) = f k) : ∀ m, smN (fun k => f (k + m)) n = smN f n
 | 0 => rfl
 | m + 1 => by
  have h1 := smN_shift h m
  have h2 := smN_front (fun k => f (k + m)) n
  have h3 := smN_succ (fun k => f (k + m)) n
  have h4 := h m
  have e : (fun k => f (k + 1 + m)) = fun k => f (k + (m + 1)) := funext fun k => by rw [Nat.add_assoc, Nat.add_comm 1 m]
  simp only [Nat.zero_add] at h2
  rw [e] at h2
  simp only [Nat.add_comm n m] at h3
  omega
def vsub (a b : Pt) : Pt := (a.1 - b.1, a.2 - b.2)
def isU (d : Pt) : Prop := d = (1, 0) ∨ d = (0, 1) ∨ d = (-1, 0) ∨ d = (0, -1)
def sec (v : Pt) : Int := if 0 < v.1 then (if v.2 = 0 then 0 else if 0 < v.2 then 1 else 7) else if v.1 = 0 then (if 0 < v.2 then 2 else 6) else if 0 < v.2 then 3 else if v.2 = 0 then 4 else 5
def dl (u v : Pt) : Int := if sec v - sec u = 7 then -1 else if sec v - sec u = -7 then 1 else sec v - sec u
def crs (d e : Pt) : Int := d.1 * e.2 - d.2 * e.1
theorem sec_spec (v : Pt) (h : v ≠ (0, 0)) : (0 < v.1 ∧ v.2 = 0 ∧ sec v = 0) ∨ (0 < v.1 ∧ 0 < v.2 ∧ sec v = 1) ∨ (v.1 = 0 ∧ 0 < v.2 ∧ sec v = 2) ∨ (v.1 < 0 ∧ 0 < v.2 ∧ sec v = 3) ∨ (v.1 < 0 ∧ v.2 = 0 ∧ sec v = 4) ∨ (v.1 < 0 ∧ v.2 < 0 ∧ sec v = 5) ∨ (v.1 = 0 ∧ v.2 < 0 ∧ sec v = 6) ∨ (0 < v.1 ∧ v.2 < 0 ∧ sec v = 7) := by
 have h2 : ¬ (v.1 = 0 ∧ v.2 = 0) := fun ⟨a, b⟩ => h (Prod.ext a b)
 unfold sec
 repeat' split
 all_goals omega
theorem isU_cases {d : Pt} (h : isU d) : (d.1 = 1 ∧ d.2 = 0) ∨ (d.1 = 0 ∧ d.2 = 1) ∨ (d.1 = -1 ∧ d.2 = 0) ∨ (d.1 = 0 ∧ d.2 = -1) := by
 rcases h with rfl | rfl | rfl | rfl <;> decide
theorem isU_neg {d : Pt} (h : isU d) : isU (-d.1, -d.2) := by
 rcases h with rfl | rfl | rfl | rfl
 ·exact .inr (.inr (.inl rfl))
 ·exact .inr (.inr (.inr rfl))
 ·exact .inl rfl
 ·exact .inr (.inl rfl)
theorem dl_small {u v : Pt} (h : isU (vsub v u)) (hu : u ≠ (0, 0)) (hv : v ≠ (0, 0)) : (-1 ≤ dl u v ∧ dl u v ≤ 1) ∧ ∃ k, dl u v = sec v - sec u + 8 * k := by
 have hc := isU_cases h
 simp only [vsub] at hc
 refine ⟨?_, ?_⟩
 ·have h1 := sec_spec u hu
  have h2 := sec_spec v hv
  unfold dl
  repeat' split
  all_goals omega
 ·unfold dl
  split
  ·exact ⟨-1, by omega⟩
  ·split
   ·exact ⟨1, by omega⟩
   ·exact ⟨0, by omega⟩
theorem dl_sq {v a b c : Pt} (h1 : isU (vsub a v)) (h2 : isU (vsub c a)) (h3 : isU (vsub b v)) (h4 : isU (vsub c b)) (nv : v ≠ (0, 0)) (na : a ≠ (0, 0)) (nb : b ≠ (0, 0)) (nc : c ≠ (0, 0)) : dl v a + dl a c = dl v b + dl b c := by
 obtain ⟨p1, k1, e1⟩ := dl_small h1 nv na
 obtain ⟨p2, k2, e2⟩ := dl_small h2 na nc
 obtain ⟨p3, k3, e3⟩ := dl_small h3 nv nb
 obtain ⟨p4, k4, e4⟩ := dl_small h4 nb nc
 omega
theorem turn_two {d e s : Pt} (hs : s = (d.1 + e.1, d.2 + e.2)) (hd : isU d) (he : isU e) (hne : s ≠ (0, 0)) : dl d s + dl s e = 2 * crs d e := by
 subst hs
 rcases hd with rfl | rfl | rfl | rfl <;> rcases he with rfl | rfl | rfl | rfl <;> first | exact absurd rfl hne | decide
def hp (v : Pt) : Prop := 0 < v.1 ∨ v.1 = 0 ∧ 0 < v.2
def sec1 (v : Pt) : Int := if sec v = 7 then -1 else sec v
theorem dl_right {u v : Pt} (h : isU (vsub v u)) (hu : hp u) (hv : hp v) : dl u v = sec1 v - sec1 u := by
 have nu : u ≠ (0, 0) := fun e => by rw [e] at hu; unfold hp at hu; simp at hu
 have nv : v ≠ (0, 0) := fun e => by rw [e] at hv; unfold hp at hv; simp at hv
 have h1 := sec_spec u nu
 have h2 := sec_spec v nv
 have hc := isU_cases h
 simp only [vsub] at hc
 unfold hp at hu hv
 unfold dl sec1
 repeat' split
 all_goals omega
theorem dl_left {u v : Pt} (h : isU (vsub v u)) (hu : hp (-u.1, -u.2)) (hv : hp (-v.1, -v.2)) : dl u v = sec v - sec u := by
 have nu : u ≠ (0, 0) := fun e => by rw [e] at hu; unfold hp at hu; simp at hu
 have nv : v ≠ (0, 0) := fun e => by rw [e] at hv; unfold hp at hv; simp at hv
 have h1 := sec_spec u nu
 have h2 := sec_spec v nv
 have hc := isU_cases h
 simp only [vsub] at hc
 unfold hp at hu hv
 simp only at hu hv
 unfold dl
 repeat' split
 all_goals omega
section
variable {p : Nat → Pt}
def vv (p : Nat → Pt) (i j : Nat) : Pt := vsub (p j) (p i)
def Hh (p : Nat → Pt) (i j : Nat) : Int := dl (vv p i j) (vv p i (j + 1))
def Vh (p : Nat → Pt) (i j : Nat) : Int := dl (vv p i j) (vv p (i + 1) j)
theorem vv_h (hs : ∀ i, isU (vsub (p (i + 1)) (p i))) (i j : Nat) : isU (vsub (vv p i (j + 1)) (vv p i j)) := by
 have e : vsub (vv p i (j + 1)) (vv p i j) = vsub (p (j + 1)) (p j) := by unfold vv vsub; refine Prod.ext ?_ ?_ <;> simp only <;> omega
 rw [e]; exact hs j
theorem vv_v (hs : ∀ i, isU (vsub (p (i + 1)) (p i))) (i j : Nat) : isU (vsub (vv p (i + 1) j) (vv p i j)) := by
 have e : vsub (vv p (i + 1) j) (vv p i j) = (-(vsub (p (i + 1)) (p i)).1, -(vsub (p (i + 1)) (p i)).2) := by unfold vv vsub; refine Prod.ext ?_ ?_ <;> simp only <;> omega
 rw [e]; exact isU_neg (hs i)
theorem sq_step (hs : ∀ i, isU (vsub (p (i + 1)) (p i))) {i j : Nat} (h1 : vv p i j ≠ (0, 0)) (h2 : vv p i (j + 1) ≠ (0, 0)) (h3 : vv p (i + 1) j ≠ (0, 0)) (h4 : vv p (i + 1) (j + 1) ≠ (0, 0)) : Hh p i j + Vh p i (j + 1) = Vh p i j + Hh p (i + 1) j :=
 dl_sq (vv_h hs i j) (vv_v hs i (j + 1)) (vv_v hs i j) (vv_h hs (i + 1) j) h1 h2 h3 h4
theorem row_sum (hs : ∀ i, isU (vsub (p (i + 1)) (p i))) (i : Nat) : ∀ k : Nat, (∀ a b, i ≤ a → a ≤ i + 1 → a < b → b ≤ i + 2 + k → vv p a b ≠ (0, 0)) →
  Hh p i (i + 1) + Vh p i (i + 2) + smN (fun t => Hh p (i + 1) (i + 2 + t)) k = smN (fun t => Hh p i (i + 1 + t)) (k + 1) + Vh p i (i + 2 + k)
 | 0, _ => by simp [smN]
 | k + 1, h => by
  have ih := row_sum hs i k fun a b h1 h2 h3 h4 => h a b h1 h2 h3 (by omega)
  have hq := sq_step hs (i := i) (j := i + 2 + k) (h _ _ (by omega) (by omega) (by omega) (by omega)) (h _ _ (by omega) (by omega) (by omega) (by omega)) (h _ _ (by omega) (by omega) (by omega) (by omega)) (h _ _ (by omega) (by omega) (by omega) (by omega))
  rw [smN_succ, smN_succ]
  have e1 : i + 1 + (k + 1) = i + 2 + k := by omega
  have e2 : i + 2 + (k + 1) = i + 2 + k + 1 := by omega
  rw [e1, e2]
  omega
theorem col_sum (hs : ∀ i, isU (vsub (p (i + 1)) (p i))) {n : Nat} (hz : ∀ a b, 1 ≤ a → a < b → b ≤ n → vv p a b ≠ (0, 0)) : ∀ m : Nat, m + 2 ≤ n →
  smN (fun t => Hh p (1 + t) (1 + t + 1) + Vh p (1 + t) (1 + t + 2)) m + smN (fun t => Hh p (1 + m) (1 + m + 1 + t)) (n - 2 - m) = smN (fun t => Hh p 1 (1 + 1 + t)) (n - 2) + smN (fun t => Vh p (1 + t) n) m
 | 0, _ => by simp [smN]
 | m + 1, h => by
  have ih := col_sum hs hz m (by omega)
  obtain ⟨k, rfl⟩ : ∃ k, n = m + 3 + k := ⟨n - (m + 3), by omega⟩
  have hr := row_sum hs (1 + m) k fun a b h1 h2 h3 h4 => hz a b (by omega) h3 (by omega)
  have e1 : m + 3 + k - 2 - m = k + 1 := by omega
  have e2 : m + 3 + k - 2 - (m + 1) = k := by omega
  have e3 : 1 + m + 2 + k = m + 3 + k := by omega
  have e4 : 1 + (m + 1) = 1 + m + 1 := by omega
  have e5 : 1 + m + 1 + 1 = 1 + m + 2 := by omega
  rw [e1] at ih
  rw [e3] at hr
  rw [e2, smN_succ, smN_succ, e4, e5]
  omega
theorem diag_turn (hs : ∀ i, isU (vsub (p (i + 1)) (p i))) {k : Nat} (h : vv p k (k + 2) ≠ (0, 0)) : Hh p k (k + 1) + Vh p k (k + 2) = 2 * crs (vsub (p (k + 1)) (p k)) (vsub (p (k + 2)) (p (k + 1))) := by
 refine turn_two (d := vsub (p (k + 1)) (p k)) (e := vsub (p (k + 2)) (p (k + 1))) ?_ (hs k) (hs (k + 1)) h
 show vsub (p (k + 2)) (p k) = _
 generalize p (k + 2) = a
 unfold vsub
 refine Prod.ext ?_ ?_ <;> simp only <;> omega
theorem hopf {m : Nat} (hs : ∀ i, isU (vsub (p (i + 1)) (p i))) (hp3 : p (m + 3) = p 0) (hp4 : p (m + 4) = p 1) (hd : ∀ i j, i < j → j < m + 3 → p i ≠ p j) (h0 : ∀ i, 0 < i → i < m + 3 → ptLt (p 0) (p i)) :
  (smN (fun k => crs (vsub (p (k + 1)) (p k)) (vsub (p (k + 2)) (p (k + 1)))) (m + 3) = 4 ∧ vsub (p 1) (p 0) = (1, 0) ∧ vsub (p (m + 2)) (p 0) = (0, 1)) ∨
  (smN (fun k => crs (vsub (p (k + 1)) (p k)) (vsub (p (k + 2)) (p (k + 1)))) (m + 3) = -4 ∧ vsub (p 1) (p 0) = (0, 1) ∧ vsub (p (m + 2)) (p 0) = (1, 0)) := by
 have nz : ∀ a b, a < b → b ≤ m + 3 → (a = 0 → b < m + 3) → vv p a b ≠ (0, 0) := by
  intro a b h1 h2 h3 e
  have e2 : p a = p b := by
   unfold vv vsub at e
   injection e with x y
   exact Prod.ext (by omega) (by omega)
  rcases Nat.lt_or_ge b (m + 3) with h4 | h4
  ·exact hd a b h1 h4 e2
  ·have hb : b = m + 3 := by omega
   have ha : a ≠ 0 := fun h => by have := h3 h; omega
   subst hb
   rw [hp3] at e2
   exact hd 0 a (by omega) (by omega) e2.symm
 have hr : ∀ i, 0 < i → i < m + 3 → hp (vv p 0 i) := fun i h1 h2 => by
  have := h0 i h1 h2
  unfold ptLt at this
  unfold hp vv vsub
  simp only
  omega
 have hl : ∀ i, 0 < i → i < m + 3 → hp (-(vv p i (m + 3)).1, -(vv p i (m + 3)).2) := fun i h1 h2 => by
  have := h0 i h1 h2
  unfold ptLt at this
  unfold hp vv vsub
  simp only [hp3]
  omega
 have s1 : ∀ k, k ≤ m + 1 → smN (fun t => Hh p 0 (0 + 1 + t)) k = sec1 (vv p 0 (k + 1)) - sec1 (vv p 0 1) := by
  intro k
  induction k with
  | zero => intro _; simp [smN]
  | succ k ih =>
   intro hk
   rw [smN_succ, ih (by omega)]
   have := dl_right (vv_h hs 0 (k + 1)) (hr (k + 1) (by omega) (by omega)) (hr (k + 2) (by omega) (by omega))
   have e : Hh p 0 (0 + 1 + k) = dl (vv p 0 (k + 1)) (vv p 0 (k + 2)) := by unfold Hh; rw [show 0 + 1 + k = k + 1 by omega]
   rw [e, this]
   omega
 have s2 : ∀ k, k ≤ m + 1 → smN (fun t => Vh p (1 + t) (m + 3)) k = sec (vv p (k + 1) (m + 3)) - sec (vv p 1 (m + 3)) := by
  intro k
  induction k with
  | zero => intro _; simp [smN]
  | succ k ih =>
   intro hk
   rw [smN_succ, ih (by omega)]
   have := dl_left (vv_v hs (k + 1) (m + 3)) (hl (k + 1) (by omega) (by omega)) (hl (k + 2) (by omega) (by omega))
   have e : Vh p (1 + k) (m + 3) = dl (vv p (k + 1) (m + 3)) (vv p (k + 2) (m + 3)) := by unfold Vh; rw [show 1 + k = k + 1 by omega]
   rw [e, this]
   omega
 have c1 := col_sum hs (n := m + 3) (fun a b h1 h2 h3 => nz a b h2 h3 (by omega)) (m + 1) (by omega)
 have c2 := row_sum hs 0 m fun a b h1 h2 h3 h4 => nz a b h3 (by omega) (by omega)
 have t1 := s1 (m + 1) (by omega)
 have t2 := s2 (m + 1) (by omega)
 rw [show m + 3 - 2 - (m + 1) = 0 by omega, show m + 3 - 2 = m + 1 by omega, smN_zero, smN_succ (fun t => Hh p 1 (1 + 1 + t)) m] at c1
 have e1 : (fun t => Hh p (0 + 1) (0 + 2 + t)) = fun t => Hh p 1 (1 + 1 + t) := rfl
 rw [e1] at c2
 have hD : smN (fun k => 2 * crs (vsub (p (k + 1)) (p k)) (vsub (p (k + 2)) (p (k + 1)))) (m + 2) = Hh p 0 1 + Vh p 0 2 + smN (fun t => Hh p (1 + t) (1 + t + 1) + Vh p (1 + t) (1 + t + 2)) (m + 1) := by
  rw [smN_front]
  have h00 := diag_turn hs (k := 0) (nz 0 2 (by omega) (by omega) (by omega))
  simp only [Nat.zero_add] at h00 ⊢
  rw [h00]
  congr 1
  refine smN_congr fun k hk => ?_
  have := diag_turn hs (k := 1 + k) (nz _ _ (by omega) (by omega) (by omega))
  rw [this, show 1 + k = k + 1 by omega]
 have u0 := isU_cases (hs 0)
 have uL := isU_cases (hs (m + 2))
 have r1 := hr 1 (by omega) (by omega)
 have r2 := hr (m + 2) (by omega) (by omega)
 have hne : p 1 ≠ p (m + 2) := hd 1 (m + 2) (by omega) (by omega)
 have hne2 : ¬ ((p 1).1 = (p (m + 2)).1 ∧ (p 1).2 = (p (m + 2)).2) := fun ⟨a, b⟩ => hne (Prod.ext a b)
 unfold hp vv vsub at r1 r2
 simp only [vsub, Nat.zero_add] at u0 uL r1 r2
 rw [show m + 2 + 1 = m + 3 by omega, hp3] at uL
 have last : smN (fun k => 2 * crs (vsub (p (k + 1)) (p k)) (vsub (p (k + 2)) (p (k + 1)))) (m + 3) = smN (fun k => 2 * crs (vsub (p (k + 1)) (p k)) (vsub (p (k + 2)) (p (k + 1)))) (m + 2) + 2 * crs (vsub (p 0) (p (m + 2))) (vsub (p 1) (p 0)) := by
  rw [smN_succ]
  simp only [show m + 2 + 1 = m + 3 by omega, show m + 2 + 2 = m + 4 by omega, hp3, hp4]
 have hH1 : Hh p 1 (1 + 1 + m) = dl (vv p 1 (m + 2)) (vv p 1 (m + 3)) := by unfold Hh; rw [show 1 + 1 + m = m + 2 by omega]
 have hV0 : Vh p 0 (0 + 2 + m) = dl (vv p 0 (m + 2)) (vv p 1 (m + 2)) := by unfold Vh; rw [show 0 + 2 + m = m + 2 by omega]
 rw [smN_mul, smN_mul] at last
 rw [smN_mul] at hD
 rw [hH1] at c1
 rw [hV0] at c2
 rw [show m + 1 + 1 = m + 2 by omega] at t1 t2
 simp only [Nat.zero_add] at c2 t1
 have hcase : (vsub (p 1) (p 0) = (1, 0) ∧ vsub (p (m + 2)) (p 0) = (0, 1)) ∨ (vsub (p 1) (p 0) = (0, 1) ∧ vsub (p (m + 2)) (p 0) = (1, 0)) := by
  unfold vsub
  simp only [Prod.mk.injEq]
  omega
 rcases hcase with ⟨g1, g2⟩ | ⟨g1, g2⟩
 ·refine .inl ⟨?_, g1, g2⟩
  have w1 : vv p 0 1 = (1, 0) := g1
  have w2 : vv p 0 (m + 2) = (0, 1) := g2
  have w3 : vv p 1 (m + 2) = (-1, 1) := by
   unfold vsub at g1 g2
   unfold vv vsub
   simp only [Prod.mk.injEq] at g1 g2 ⊢
   omega
  have w4 : vv p 1 (m + 3) = (-1, 0) := by
   unfold vsub at g1 g2
   unfold vv vsub
   rw [hp3]
   simp only [Prod.mk.injEq] at g1 g2 ⊢
   omega
  have w5 : vv p (m + 2) (m + 3) = (0, -1) := by
   unfold vsub at g1 g2
   unfold vv vsub
   rw [hp3]
   simp only [Prod.mk.injEq] at g1 g2 ⊢
   omega
  have w6 : vsub (p 0) (p (m + 2)) = (0, -1) := by
   have := w5
   unfold vv at this
   rwa [hp3] at this
  rw [w1, w2] at t1
  rw [w5, w4] at t2
  rw [w3, w4] at c1
  rw [w2, w3] at c2
  rw [w6, g1] at last
  have d1 : sec1 (0, 1) - sec1 (1, 0) = 2 := by decide
  have d2 : sec (0, -1) - sec (-1, 0) = 2 := by decide
  have d3 : dl (-1, 1) (-1, 0) = 1 := by decide
  have d4 : dl (0, 1) (-1, 1) = 1 := by decide
  have d5 : crs (0, -1) (1, 0) = 1 := by decide
  rw [d1] at t1
  rw [d2] at t2
  rw [d3] at c1
  rw [d4] at c2
  rw [d5] at last
  omega
 ·refine .inr ⟨?_, g1, g2⟩
  have w1 : vv p 0 1 = (0, 1) := g1
  have w2 : vv p 0 (m + 2) = (1, 0) := g2
  have w3 : vv p 1 (m + 2) = (1, -1) := by
   unfold vsub at g1 g2
   unfold vv vsub
   simp only [Prod.mk.injEq] at g1 g2 ⊢
   omega
  have w4 : vv p 1 (m + 3) = (0, -1) := by
   unfold vsub at g1 g2
   unfold vv vsub
   rw [hp3]
   simp only [Prod.mk.injEq] at g1 g2 ⊢
   omega
  have w5 : vv p (m + 2) (m + 3) = (-1, 0) := by
   unfold vsub at g1 g2
   unfold vv vsub
   rw [hp3]
   simp only [Prod.mk.injEq] at g1 g2 ⊢
   omega
  have w6 : vsub (p 0) (p (m + 2)) = (-1, 0) := by
   have := w5
   unfold vv at this
   rwa [hp3] at this
  rw [w1, w2] at t1
  rw [w5, w4] at t2
  rw [w3, w4] at c1
  rw [w2, w3] at c2
  rw [w6, g1] at last
  have d1 : sec1 (1, 0) - sec1 (0, 1) = -2 := by decide
  have d2 : sec (-1, 0) - sec (0, -1) = -2 := by decide
  have d3 : dl (1, -1) (0, -1) = -1 := by decide
  have d4 : dl (1, 0) (1, -1) = -1 := by decide
  have d5 : crs (-1, 0) (0, 1) = -1 := by decide
  rw [d1] at t1
  rw [d2] at t2
  rw [d3] at c1
  rw [d4] at c2
  rw [d5] at last
  omega
end
end Go.Proofs.YtdfpbhlnlkjjlaaGreat

/- Plain: the unit lines around a set of cells, followed one by one: a round trip turns round once. -/
namespace Go.Proofs.YtdfpbhlnlkjjlaaGreat
set_option linter.unusedVariables false
set_option linter.unusedSimpArgs false
inductive Wy where
 | e : Wy
 | n : Wy
 | w : Wy
 | s : Wy
instance : DecidableEq Wy := fun a b => by cases a <;> cases b <;> first | exact isTrue rfl | exact isFalse (fun h => by cases h)
def Wy.v : Wy → Pt
 | .e => (1, 0)
 | .n => (0, 1)
 | .w => (-1, 0)
 | .s => (0, -1)
def Wy.l : Wy → Wy
 | .e => .n
 | .n => .w
 | .w => .s
 | .s => .e
def Wy.r : Wy → Wy
 | .e => .s
 | .s => .w
 | .w => .n
 | .n => .e
abbrev Un := Pt × Wy
abbrev Cs := Int → Int → Bool
def hdU (u : Un) : Pt := (u.1.1 + u.2.v.1, u.1.2 + u.2.v.2)
def lc (u : Un) : Pt := match u.2 with
 | .e => (u.1.1, u.1.2)
 | .n => (u.1.1 - 1, u.1.2)
 | .w => (u.1.1 - 1, u.1.2 - 1)
 | .s => (u.1.1, u.1.2 - 1)
def rc (u : Un) : Pt := match u.2 with
 | .e => (u.1.1, u.1.2 - 1)
 | .n => (u.1.1, u.1.2)
 | .w => (u.1.1 - 1, u.1.2)
 | .s => (u.1.1 - 1, u.1.2 - 1)
def inC (S : Cs) (c : Pt) : Bool := S c.1 c.2
def bgn (S : Cs) (u : Un) : Prop := inC S (lc u) = true ∧ inC S (rc u) = false
def trn (S : Cs) (u : Un) : Int := if inC S (lc (hdU u, u.2)) = false then 1 else if inC S (rc (hdU u, u.2)) = false then 0 else -1
def nxW (S : Cs) (u : Un) : Wy := if inC S (lc (hdU u, u.2)) = false then u.2.l else if inC S (rc (hdU u, u.2)) = false then u.2 else u.2.r
def nx (S : Cs) (u : Un) : Un := (hdU u, nxW S u)
def bkU (u : Un) : Un := ((u.1.1 - u.2.v.1, u.1.2 - u.2.v.2), u.2)
def trp (S : Cs) (u : Un) : Int := if inC S (lc (bkU u)) = false then 1 else if inC S (rc (bkU u)) = false then 0 else -1
def pvU (S : Cs) (u : Un) : Un := if inC S (lc (bkU u)) = false then bkU (u.1, u.2.r) else if inC S (rc (bkU u)) = false then bkU u else bkU (u.1, u.2.l)
theorem un_ext {u v : Un} (h1 : u.1.1 = v.1.1) (h2 : u.1.2 = v.1.2) (h3 : u.2 = v.2) : u = v := Prod.ext (Prod.ext h1 h2) h3
theorem pt_ext {u v : Pt} (h1 : u.1 = v.1) (h2 : u.2 = v.2) : u = v := Prod.ext h1 h2
theorem Wy.l_r (d : Wy) : d.l.r = d := by cases d <;> rfl
theorem Wy.r_l (d : Wy) : d.r.l = d := by cases d <;> rfl
theorem lc_left (u : Un) : lc (hdU u, u.2.l) = lc u := by
 obtain ⟨⟨x, y⟩, d⟩ := u
 cases d <;> refine pt_ext ?_ ?_ <;> simp only [lc, hdU, Wy.v, Wy.l] <;> omega
theorem rc_left (u : Un) : rc (hdU u, u.2.l) = lc (hdU u, u.2) := by
 obtain ⟨⟨x, y⟩, d⟩ := u
 cases d <;> refine pt_ext ?_ ?_ <;> simp only [lc, rc, hdU, Wy.v, Wy.l] <;> omega
theorem lc_right (u : Un) : lc (hdU u, u.2.r) = rc (hdU u, u.2) := by
 obtain ⟨⟨x, y⟩, d⟩ := u
 cases d <;> refine pt_ext ?_ ?_ <;> simp only [lc, rc, hdU, Wy.v, Wy.r] <;> omega
theorem rc_right (u : Un) : rc (hdU u, u.2.r) = rc u := by
 obtain ⟨⟨x, y⟩, d⟩ := u
 cases d <;> refine pt_ext ?_ ?_ <;> simp only [lc, rc, hdU, Wy.v, Wy.r] <;> omega
theorem bk_left (u : Un) : lc (bkU (hdU u, u.2.l)) = rc u := by
 obtain ⟨⟨x, y⟩, d⟩ := u
 cases d <;> refine pt_ext ?_ ?_ <;> simp only [lc, rc, hdU, bkU, Wy.v, Wy.l] <;> omega
theorem bk_same (u : Un) : bkU (hdU u, u.2) = u := by
 obtain ⟨⟨x, y⟩, d⟩ := u
 cases d <;> refine un_ext ?_ ?_ rfl <;> simp only [hdU, bkU, Wy.v] <;> omega
theorem bk_right (u : Un) : lc (bkU (hdU u, u.2.r)) = lc (hdU u, u.2) := by
 obtain ⟨⟨x, y⟩, d⟩ := u
 cases d <;> refine pt_ext ?_ ?_ <;> simp only [lc, rc, hdU, bkU, Wy.v, Wy.r] <;> omega
theorem bk_right2 (u : Un) : rc (bkU (hdU u, u.2.r)) = lc u := by
 obtain ⟨⟨x, y⟩, d⟩ := u
 cases d <;> refine pt_ext ?_ ?_ <;> simp only [lc, rc, hdU, bkU, Wy.v, Wy.r] <;> omega
section
variable {S : Cs}
theorem nx_cases (S : Cs) (u : Un) : (inC S (lc (hdU u, u.2)) = false ∧ trn S u = 1 ∧ nx S u = (hdU u, u.2.l)) ∨ (inC S (lc (hdU u, u.2)) = true ∧ inC S (rc (hdU u, u.2)) = false ∧ trn S u = 0 ∧ nx S u = (hdU u, u.2)) ∨ (inC S (lc (hdU u, u.2)) = true ∧ inC S (rc (hdU u, u.2)) = true ∧ trn S u = -1 ∧ nx S u = (hdU u, u.2.r)) := by
 unfold trn nx nxW
 cases h1 : inC S (lc (hdU u, u.2)) <;> cases h2 : inC S (rc (hdU u, u.2)) <;> simp
theorem nx_bgn {u : Un} (h : bgn S u) : bgn S (nx S u) := by
 rcases nx_cases S u with ⟨h1, _, e⟩ | ⟨h1, h2, _, e⟩ | ⟨h1, h2, _, e⟩ <;> rw [e] <;> unfold bgn
 ·rw [lc_left, rc_left]; exact ⟨h.1, h1⟩
 ·exact ⟨h1, h2⟩
 ·rw [lc_right, rc_right]; exact ⟨h2, h.2⟩
theorem pv_nx {u : Un} (h : bgn S u) : pvU S (nx S u) = u := by
 rcases nx_cases S u with ⟨h1, _, e⟩ | ⟨h1, h2, _, e⟩ | ⟨h1, h2, _, e⟩ <;> rw [e] <;> unfold pvU
 ·rw [bk_left, if_pos h.2]
  show bkU (hdU u, u.2.l.r) = u
  rw [Wy.l_r, bk_same]
 ·rw [bk_same, if_neg (by rw [h.1]; simp), if_pos h.2]
 ·rw [bk_right, if_neg (by rw [h1]; simp), bk_right2, if_neg (by rw [h.1]; simp)]
  show bkU (hdU u, u.2.r.l) = u
  rw [Wy.r_l, bk_same]
theorem trp_nx {u : Un} (h : bgn S u) : trp S (nx S u) = trn S u := by
 rcases nx_cases S u with ⟨h1, e2, e⟩ | ⟨h1, h2, e2, e⟩ | ⟨h1, h2, e2, e⟩ <;> rw [e, e2] <;> unfold trp
 ·rw [bk_left, if_pos h.2]
 ·rw [bk_same, if_neg (by rw [h.1]; simp), if_pos h.2]
 ·rw [bk_right, if_neg (by rw [h1]; simp), bk_right2, if_neg (by rw [h.1]; simp)]
theorem nx_inj {u v : Un} (hu : bgn S u) (hv : bgn S v) (h : nx S u = nx S v) : u = v := by rw [← pv_nx hu, h, pv_nx hv]
theorem trn_crs {u : Un} (h : bgn S u) : crs u.2.v (nx S u).2.v = trn S u := by
 rcases nx_cases S u with ⟨h1, e2, e⟩ | ⟨h1, h2, e2, e⟩ | ⟨h1, h2, e2, e⟩ <;> rw [e, e2]
 ·show crs u.2.v u.2.l.v = 1; cases u.2 <;> decide
 ·show crs u.2.v u.2.v = 0; cases u.2 <;> decide
 ·show crs u.2.v u.2.r.v = -1; cases u.2 <;> decide
theorem trn_le (S : Cs) (u : Un) : trn S u = 1 ∨ trn S u = 0 ∨ trn S u = -1 := by
 rcases nx_cases S u with ⟨_, e, _⟩ | ⟨_, _, e, _⟩ | ⟨_, _, e, _⟩ <;> omega
theorem trp_le (S : Cs) (u : Un) : trp S u = 1 ∨ trp S u = 0 ∨ trp S u = -1 := by
 unfold trp; repeat' split
 all_goals omega
def itU (S : Cs) (u : Un) : Nat → Un
 | 0 => u
 | k + 1 => nx S (itU S u k)
theorem itU_bgn {u : Un} (h : bgn S u) : ∀ k, bgn S (itU S u k)
 | 0 => h
 | k + 1 => nx_bgn (itU_bgn h k)
theorem itU_add (S : Cs) (u : Un) (a : Nat) : ∀ b, itU S u (a + b) = itU S (itU S u a) b
 | 0 => rfl
 | b + 1 => by
  show nx S (itU S u (a + b)) = nx S (itU S (itU S u a) b)
  rw [itU_add S u a b]
theorem itU_back {u : Un} (h : bgn S u) : ∀ {i j : Nat}, i ≤ j → itU S u i = itU S u j → itU S u (j - i) = u
 | 0, j, _, e => e.symm
 | i + 1, 0, h1, _ => by omega
 | i + 1, j + 1, h1, e => by
  rw [Nat.add_sub_add_right]
  exact itU_back h (by omega) (nx_inj (itU_bgn h i) (itU_bgn h j) e)
structure Cyc (S : Cs) (u : Un) (n : Nat) : Prop where
 beg : bgn S u
 pos : 0 < n
 back : itU S u n = u
 apart : ∀ i j, i < j → j < n → itU S u i ≠ itU S u j
theorem least_nat {P : Nat → Prop} : ∀ n, P n → ∃ m, P m ∧ ∀ k, k < m → ¬ P k := by
 intro n
 induction n using Nat.strongRecOn with
 | _ n ih =>
  intro h
  by_cases h2 : ∃ k, k < n ∧ P k
  ·obtain ⟨k, hk, hp⟩ := h2
   exact ih k hk hp
  ·exact ⟨n, h, fun k hk hp => h2 ⟨k, hk, hp⟩⟩
theorem Cyc.of_back {u : Un} (h : bgn S u) {m : Nat} (hm : 0 < m) (hb : itU S u m = u) : ∃ n, Cyc S u n := by
 obtain ⟨n, ⟨h1, h2⟩, h3⟩ := least_nat (P := fun m => 0 < m ∧ itU S u m = u) m ⟨hm, hb⟩
 refine ⟨n, h, h1, h2, fun i j hij hj e => ?_⟩
 exact h3 (j - i) (by omega) ⟨by omega, itU_back h (by omega) e⟩
theorem Cyc.period {u : Un} {n : Nat} (h : Cyc S u n) (k : Nat) : itU S u (k + n) = itU S u k := by rw [Nat.add_comm, itU_add, h.back]
theorem Cyc.two {u : Un} {n : Nat} (h : Cyc S u n) : 2 ≤ n := by
 have h1 := h.pos
 rcases Nat.lt_or_ge n 2 with h2 | h2
 ·have h3 : n = 1 := by omega
  subst h3
  have e : hdU u = u.1 := congrArg Prod.fst h.back
  unfold hdU at e
  have e1 := congrArg Prod.fst e
  have e2 := congrArg Prod.snd e
  simp only at e1 e2
  cases hw : u.2 <;> rw [hw] at e1 e2 <;> simp only [Wy.v] at e1 e2 <;> omega
 ·exact h2
def psU (q : Un × Int) : Pt := match q.1.2 with
 | .e => (4 * q.1.1.1 + q.2, 4 * q.1.1.2 + 1)
 | .n => (4 * q.1.1.1 - 1, 4 * q.1.1.2 + q.2)
 | .w => (4 * q.1.1.1 - q.2, 4 * q.1.1.2 - 1)
 | .s => (4 * q.1.1.1 + 1, 4 * q.1.1.2 - q.2)
def nst (S : Cs) (q : Un × Int) : Un × Int := if q.2 + 1 < 4 - trn S q.1 then (q.1, q.2 + 1) else (nx S q.1, trn S q.1)
structure okQ (S : Cs) (q : Un × Int) : Prop where
 beg : bgn S q.1
 low : trp S q.1 ≤ q.2
 high : q.2 < 4 - trn S q.1
theorem okQ_nst {q : Un × Int} (h : okQ S q) : okQ S (nst S q) := by
 unfold nst
 split
 ·rename_i h1
  exact ⟨h.beg, by have := h.low; show trp S q.1 ≤ q.2 + 1; omega, h1⟩
 ·refine ⟨nx_bgn h.beg, by show trp S (nx S q.1) ≤ _; rw [trp_nx h.beg]; exact Int.le_refl _, ?_⟩
  show trn S q.1 < 4 - trn S (nx S q.1)
  have h1 := trn_le S q.1
  have h2 := trn_le S (nx S q.1)
  omega
theorem ps_step {q : Un × Int} (h : okQ S q) : vsub (psU (nst S q)) (psU q) = q.1.2.v := by
 obtain ⟨⟨⟨x, y⟩, d⟩, k⟩ := q
 have hh := h.high
 simp only at hh
 unfold nst
 split
 ·cases d <;> refine pt_ext ?_ ?_ <;> simp only [vsub, psU, Wy.v] <;> omega
 ·rename_i h1
  simp only at h1
  rcases nx_cases S ((x, y), d) with ⟨_, e2, e⟩ | ⟨_, _, e2, e⟩ | ⟨_, _, e2, e⟩ <;> simp only [e, e2] at h1 hh ⊢
  all_goals cases d <;> refine pt_ext ?_ ?_ <;> simp only [vsub, psU, Wy.v, hdU, Wy.l, Wy.r] <;> omega
end
end Go.Proofs.YtdfpbhlnlkjjlaaGreat

/- Plain: the path just inside the unit lines of a round trip meets itself nowhere. -/
namespace Go.Proofs.YtdfpbhlnlkjjlaaGreat
set_option linter.unusedVariables false
set_option linter.unusedSimpArgs false
section
variable {S : Cs}
theorem cell_clash {a b a2 b2 : Int} (h1 : S a b = true) (h2 : S a2 b2 = false) (e1 : a = a2) (e2 : b = b2) : False := by
 subst e1; subst e2; rw [h1] at h2; cases h2
theorem okQ_facts {q : Un × Int} (h : okQ S q) : (inC S (lc q.1) = true ∧ inC S (rc q.1) = false) ∧
  (q.2 ≤ 2 ∨ q.2 = 3 ∧ inC S (lc (hdU q.1, q.1.2)) = true ∨ q.2 = 4 ∧ inC S (lc (hdU q.1, q.1.2)) = true ∧ inC S (rc (hdU q.1, q.1.2)) = true) ∧
  (1 ≤ q.2 ∨ q.2 = 0 ∧ inC S (lc (bkU q.1)) = true ∨ q.2 = -1 ∧ inC S (lc (bkU q.1)) = true ∧ inC S (rc (bkU q.1)) = true) := by
 refine ⟨h.beg, ?_, ?_⟩
 ·have hh := h.high
  rcases nx_cases S q.1 with ⟨h1, e, _⟩ | ⟨h1, h2, e, _⟩ | ⟨h1, h2, e, _⟩
  ·exact .inl (by omega)
  ·rcases Int.lt_or_le q.2 3 with h3 | h3
   ·exact .inl (by omega)
   ·exact .inr (.inl ⟨by omega, h1⟩)
  ·rcases Int.lt_or_le q.2 3 with h3 | h3
   ·exact .inl (by omega)
   ·rcases Int.lt_or_le q.2 4 with h4 | h4
    ·exact .inr (.inl ⟨by omega, h1⟩)
    ·exact .inr (.inr ⟨by omega, h1, h2⟩)
 ·have hh := h.low
  unfold trp at hh
  cases h1 : inC S (lc (bkU q.1)) <;> cases h2 : inC S (rc (bkU q.1)) <;> simp only [h1, h2, if_true, if_false, Bool.true_eq_false] at hh
  ·exact .inl hh
  ·exact .inl hh
  ·rcases Int.lt_or_le q.2 1 with h3 | h3
   ·exact .inr (.inl ⟨by omega, by trivial⟩)
   ·exact .inl h3
  ·rcases Int.lt_or_le q.2 1 with h3 | h3
   ·rcases Int.lt_or_le q.2 0 with h4 | h4
    ·exact .inr (.inr ⟨by omega, by trivial, by trivial⟩)
    ·exact .inr (.inl ⟨by omega, by trivial⟩)
   ·exact .inl h3
set_option maxHeartbeats 4000000 in
theorem ps_inj {q r : Un × Int} (hq : okQ S q) (hr : okQ S r) (e : psU q = psU r) : q = r := by
 obtain ⟨⟨⟨x, y⟩, d⟩, k⟩ := q
 obtain ⟨⟨⟨x2, y2⟩, d2⟩, k2⟩ := r
 have key : d = d2 ∧ x = x2 ∧ y = y2 ∧ k = k2 := by
  obtain ⟨⟨T, F⟩, hi, lo⟩ := okQ_facts hq
  obtain ⟨⟨T2, F2⟩, hi2, lo2⟩ := okQ_facts hr
  clear hq hr
  have e1 := congrArg Prod.fst e
  have e2 := congrArg Prod.snd e
  clear e
  cases d <;> cases d2 <;> simp only [psU] at e1 e2
  all_goals simp only [inC, lc, rc, hdU, bkU, Wy.v] at T F hi lo T2 F2 hi2 lo2
  all_goals rcases hi with a1 | ⟨a1, a2⟩ | ⟨a1, a2, a3⟩ <;> rcases lo with b1 | ⟨b1, b2⟩ | ⟨b1, b2, b3⟩ <;> first | (exfalso; omega) | skip
  all_goals rcases hi2 with c1 | ⟨c1, c2⟩ | ⟨c1, c2, c3⟩ <;> rcases lo2 with g1 | ⟨g1, g2⟩ | ⟨g1, g2, g3⟩ <;> first | (exfalso; omega) | exact ⟨rfl, by omega, by omega, by omega⟩ | (exact (cell_clash T F2 (by omega) (by omega)).elim) | (exact (cell_clash T2 F (by omega) (by omega)).elim) | (exact (cell_clash a2 F2 (by omega) (by omega)).elim) | (exact (cell_clash a3 F2 (by omega) (by omega)).elim) | (exact (cell_clash b2 F2 (by omega) (by omega)).elim) | (exact (cell_clash b3 F2 (by omega) (by omega)).elim) | (exact (cell_clash c2 F (by omega) (by omega)).elim) | (exact (cell_clash c3 F (by omega) (by omega)).elim) | (exact (cell_clash g2 F (by omega) (by omega)).elim) | (exact (cell_clash g3 F (by omega) (by omega)).elim)
 obtain ⟨rfl, rfl, rfl, rfl⟩ := key
 rfl
def stQ (S : Cs) (u : Un) : Nat → Un × Int
 | 0 => (u, trp S u)
 | k + 1 => nst S (stQ S u k)
theorem stQ_ok {u : Un} (h : bgn S u) : ∀ k, okQ S (stQ S u k)
 | 0 => ⟨h, Int.le_refl _, by have h1 := trn_le S u; have h2 := trp_le S u; show trp S u < 4 - trn S u; omega⟩
 | k + 1 => okQ_nst (stQ_ok h k)
def cntQ (S : Cs) (u : Un) : Nat := (4 - trn S u - trp S u).toNat
theorem cntQ_two (S : Cs) (u : Un) : 2 ≤ cntQ S u ∧ (cntQ S u : Int) = 4 - trn S u - trp S u := by
 have h1 := trn_le S u
 have h2 := trp_le S u
 unfold cntQ
 omega
def offQ (S : Cs) (u : Un) : Nat → Nat
 | 0 => 0
 | k + 1 => offQ S u k + cntQ S (itU S u k)
theorem st_in {u v : Un} {o : Nat} (h : stQ S u o = (v, trp S v)) : ∀ t, t < cntQ S v → stQ S u (o + t) = (v, trp S v + t)
 | 0, _ => by rw [Nat.add_zero, h]; simp
 | t + 1, ht => by
  have hc := (cntQ_two S v).2
  show nst S (stQ S u (o + t)) = _
  rw [st_in h t (by omega)]
  unfold nst
  rw [if_pos (by show trp S v + t + 1 < 4 - trn S v; omega)]
  refine Prod.ext rfl ?_
  show trp S v + t + 1 = trp S v + ((t + 1 : Nat) : Int)
  omega
theorem st_out {u v : Un} {o : Nat} (hv : bgn S v) (h : stQ S u o = (v, trp S v)) : stQ S u (o + cntQ S v) = (nx S v, trp S (nx S v)) := by
 obtain ⟨hc1, hc⟩ := cntQ_two S v
 obtain ⟨c, e⟩ : ∃ c, cntQ S v = c + 1 := ⟨cntQ S v - 1, by omega⟩
 rw [e]
 show nst S (stQ S u (o + c)) = _
 rw [st_in h c (by omega)]
 unfold nst
 rw [if_neg (by show ¬ trp S v + c + 1 < 4 - trn S v; omega), trp_nx hv]
theorem st_off {u : Un} (h : bgn S u) : ∀ k, stQ S u (offQ S u k) = (itU S u k, trp S (itU S u k))
 | 0 => rfl
 | k + 1 => st_out (itU_bgn h k) (st_off h k)
theorem off_dec {u : Un} : ∀ {m i : Nat}, i < offQ S u m → ∃ a t, a < m ∧ t < cntQ S (itU S u a) ∧ i = offQ S u a + t
 | 0, i, h => by simp [offQ] at h
 | m + 1, i, h => by
  rcases Nat.lt_or_ge i (offQ S u m) with h1 | h1
  ·obtain ⟨a, t, h2, h3, h4⟩ := off_dec h1
   exact ⟨a, t, by omega, h3, h4⟩
  ·exact ⟨m, i - offQ S u m, by omega, by have : i < offQ S u m + cntQ S (itU S u m) := h; omega, by omega⟩
theorem off_lt (u : Un) : ∀ {m k : Nat}, k < m → offQ S u k + cntQ S (itU S u k) ≤ offQ S u m
 | 0, k, h => by omega
 | m + 1, k, h => by
  rcases Nat.lt_or_ge k m with h1 | h1
  ·have := off_lt u h1
   show _ ≤ offQ S u m + cntQ S (itU S u m)
   omega
  ·obtain rfl : k = m := by omega
   exact Nat.le_refl _
theorem off_two (u : Un) : ∀ m, 2 * m ≤ offQ S u m
 | 0 => Nat.le_refl _
 | m + 1 => by
  have h1 := off_two u m
  have h2 := (cntQ_two S (itU S u m)).1
  show _ ≤ offQ S u m + cntQ S (itU S u m)
  omega
theorem st_back {u : Un} {n : Nat} (h : Cyc S u n) : ∀ k, stQ S u (k + offQ S u n) = stQ S u k
 | 0 => by rw [Nat.zero_add, st_off h.beg, h.back]; rfl
 | k + 1 => by
  rw [Nat.add_right_comm]
  show nst S (stQ S u (k + offQ S u n)) = nst S (stQ S u k)
  rw [st_back h k]
theorem st_apart {u : Un} {n : Nat} (h : Cyc S u n) {i j : Nat} (hij : i < j) (hj : j < offQ S u n) : stQ S u i ≠ stQ S u j := by
 intro e
 obtain ⟨a, t, ha, ht, rfl⟩ := off_dec (show i < offQ S u n by omega)
 obtain ⟨b, r, hb, hr, rfl⟩ := off_dec hj
 rw [st_in (st_off h.beg a) t ht, st_in (st_off h.beg b) r hr] at e
 have e1 := congrArg Prod.fst e
 have e2 := congrArg Prod.snd e
 simp only at e1 e2
 have hab : a = b := by
  rcases Nat.lt_trichotomy a b with h1 | h1 | h1
  ·exact absurd e1 (h.apart a b h1 hb)
  ·exact h1
  ·exact absurd e1.symm (h.apart b a h1 ha)
 subst hab
 omega
theorem ps_apart {u : Un} {n : Nat} (h : Cyc S u n) {i j : Nat} (hij : i < j) (hj : j - i < offQ S u n) : psU (stQ S u i) ≠ psU (stQ S u j) := by
 intro e
 have e2 := ps_inj (stQ_ok h.beg i) (stQ_ok h.beg j) e
 obtain ⟨N, hN⟩ : ∃ N, offQ S u n = N := ⟨_, rfl⟩
 have hp : ∀ c k, stQ S u (k + N * c) = stQ S u k := by
  intro c
  induction c with
  | zero => intro k; rfl
  | succ c ih => intro k; rw [Nat.mul_succ, ← Nat.add_assoc, ← hN, st_back h, hN, ih]
 have hmod : ∀ k, stQ S u k = stQ S u (k % N) := fun k => by
  have := hp (k / N) (k % N)
  rwa [Nat.mod_add_div] at this
 have hpos : 0 < N := by have := off_two (S := S) u n; have := h.pos; omega
 rw [hmod i, hmod j] at e2
 have l1 := Nat.mod_lt i hpos
 have l2 := Nat.mod_lt j hpos
 rcases Nat.lt_trichotomy (i % N) (j % N) with h1 | h1 | h1
 ·exact st_apart h h1 (by omega) e2
 ·have h3 := Nat.sub_mod_eq_zero_of_mod_eq h1.symm
  rw [Nat.mod_eq_of_lt (by omega)] at h3
  omega
 ·exact st_apart h h1 (by omega) e2.symm
def dirQ (S : Cs) (u : Un) (k : Nat) : Pt := (stQ S u k).1.2.v
theorem turn_sum {u : Un} (h : bgn S u) : ∀ n, smN (fun k => crs (dirQ S u k) (dirQ S u (k + 1))) (offQ S u n) = smN (fun k => trn S (itU S u k)) n
 | 0 => rfl
 | n + 1 => by
  show smN _ (offQ S u n + cntQ S (itU S u n)) = _
  rw [smN_split, turn_sum h n, smN_succ]
  congr 1
  obtain ⟨hc1, hc⟩ := cntQ_two S (itU S u n)
  obtain ⟨c, e⟩ : ∃ c, cntQ S (itU S u n) = c + 1 := ⟨cntQ S (itU S u n) - 1, by omega⟩
  rw [e, smN_succ, smN_none, Int.zero_add]
  ·unfold dirQ
   rw [st_in (st_off h n) c (by omega), show offQ S u n + c + 1 = offQ S u (n + 1) by show _ = offQ S u n + cntQ S (itU S u n); omega, st_off h (n + 1)]
   exact trn_crs (itU_bgn h n)
  ·intro k hk
   unfold dirQ
   rw [st_in (st_off h n) k (by omega), show offQ S u n + k + 1 = offQ S u n + (k + 1) by omega, st_in (st_off h n) (k + 1) (by omega)]
   simp only [crs]
   rw [Int.mul_comm]
   omega
theorem least_pt {p : Nat → Pt} : ∀ N : Nat, (∀ i j, i < j → j < N + 1 → p i ≠ p j) → ∃ k, k < N + 1 ∧ ∀ i, i < N + 1 → i ≠ k → ptLt (p k) (p i)
 | 0, _ => ⟨0, by omega, fun i h1 h2 => by omega⟩
 | N + 1, h => by
  obtain ⟨k, hk, hl⟩ := least_pt N fun i j h1 h2 => h i j h1 (by omega)
  have hne := h k (N + 1) hk (by omega)
  have tri : ptLt (p k) (p (N + 1)) ∨ ptLt (p (N + 1)) (p k) := by
   unfold ptLt
   have : ¬ ((p k).1 = (p (N + 1)).1 ∧ (p k).2 = (p (N + 1)).2) := fun ⟨a, b⟩ => hne (Prod.ext a b)
   omega
  rcases tri with ht | ht
  ·refine ⟨k, by omega, fun i h1 h2 => ?_⟩
   rcases Nat.lt_or_ge i (N + 1) with h3 | h3
   ·exact hl i h3 h2
   ·obtain rfl : i = N + 1 := by omega
    exact ht
  ·refine ⟨N + 1, by omega, fun i h1 h2 => ?_⟩
   by_cases h3 : i = k
   ·subst h3; exact ht
   ·have := hl i (by omega) h3
    unfold ptLt at *
    omega
def vert (u : Un) : Prop := u.2 = .n ∨ u.2 = .s
theorem umlauf {u : Un} {n : Nat} (h : Cyc S u n) :
  (smN (fun k => trn S (itU S u k)) n = 4 ∧ ∃ j, j < n ∧ (itU S u j).2 = .s ∧ ∀ i, i < n → vert (itU S u i) → (itU S u j).1.1 ≤ (itU S u i).1.1) ∨
  (smN (fun k => trn S (itU S u k)) n = -4 ∧ ∃ j, j < n ∧ (itU S u j).2 = .n ∧ ∀ i, i < n → vert (itU S u i) → (itU S u j).1.1 ≤ (itU S u i).1.1) := by
 obtain ⟨N, hN⟩ : ∃ N, offQ S u n = N := ⟨_, rfl⟩
 have h4 : 4 ≤ N := by have := off_two (S := S) u n; have := h.two; omega
 obtain ⟨m, rfl⟩ : ∃ m, N = m + 3 := ⟨N - 3, by omega⟩
 have hback : ∀ k, stQ S u (k + (m + 3)) = stQ S u k := fun k => by rw [← hN]; exact st_back h k
 have hap : ∀ i j, i < j → j - i < m + 3 → psU (stQ S u i) ≠ psU (stQ S u j) := fun i j h1 h2 => ps_apart h h1 (by omega)
 obtain ⟨k0, hk0, hmin⟩ := least_pt (p := fun k => psU (stQ S u k)) (m + 2) fun i j h1 h2 => hap i j h1 (by omega)
 have hall : ∀ i, i ≠ k0 → i < m + 3 → ptLt (psU (stQ S u k0)) (psU (stQ S u i)) := fun i h1 h2 => hmin i h2 h1
 have hle : ∀ i, i < m + 3 → (psU (stQ S u k0)).1 ≤ (psU (stQ S u i)).1 := fun i hi => by
  by_cases e : i = k0
  ·rw [e]; exact Int.le_refl _
  ·have := hall i e hi; unfold ptLt at this; omega
 have hstep : ∀ i, vsub (psU (stQ S u (i + 1))) (psU (stQ S u i)) = dirQ S u i := fun i => ps_step (stQ_ok h.beg i)
 have hU : ∀ i, isU (dirQ S u i) := fun i => by
  unfold dirQ isU
  cases (stQ S u i).1.2
  ·exact .inl rfl
  ·exact .inr (.inl rfl)
  ·exact .inr (.inr (.inl rfl))
  ·exact .inr (.inr (.inr rfl))
 have hh := hopf (p := fun k => psU (stQ S u (k + k0))) (m := m)
  (fun i => by show isU (vsub (psU (stQ S u (i + 1 + k0))) (psU (stQ S u (i + k0)))); rw [Nat.add_right_comm, hstep]; exact hU _)
  (by show psU (stQ S u (m + 3 + k0)) = psU (stQ S u (0 + k0)); rw [Nat.add_comm (m + 3), hback, Nat.zero_add])
  (by show psU (stQ S u (m + 4 + k0)) = psU (stQ S u (1 + k0)); rw [show m + 4 + k0 = 1 + k0 + (m + 3) by omega, hback])
  (fun i j h1 h2 => hap (i + k0) (j + k0) (by omega) (by omega))
  (fun i h1 h2 => by
   show ptLt (psU (stQ S u (0 + k0))) (psU (stQ S u (i + k0)))
   rw [Nat.zero_add]
   rcases Nat.lt_or_ge (i + k0) (m + 3) with h3 | h3
   ·exact hall _ (by omega) h3
   ·have e : i + k0 = (i + k0 - (m + 3)) + (m + 3) := by omega
    rw [e, hback]
    exact hall _ (by omega) (by omega))
 have hsum : smN (fun k => crs (vsub (psU (stQ S u (k + 1 + k0))) (psU (stQ S u (k + k0)))) (vsub (psU (stQ S u (k + 2 + k0))) (psU (stQ S u (k + 1 + k0))))) (m + 3) = smN (fun k => trn S (itU S u k)) n := by
  rw [← turn_sum h.beg n, hN, ← smN_shift (f := fun k => crs (dirQ S u k) (dirQ S u (k + 1))) (n := m + 3) (fun k => by show crs (dirQ S u (k + (m + 3))) (dirQ S u (k + (m + 3) + 1)) = _; unfold dirQ; rw [hback, Nat.add_right_comm, hback]) k0]
  refine smN_congr fun k _ => ?_
  show _ = crs (dirQ S u (k + k0)) (dirQ S u (k + k0 + 1))
  rw [← hstep, ← hstep, show k + 1 + k0 = k + k0 + 1 by omega, show k + 2 + k0 = k + k0 + 1 + 1 by omega]
 rw [hsum] at hh
 rw [Nat.zero_add, show (1 : Nat) + k0 = k0 + 1 by omega, hstep] at hh
 -- the step into the least point
 have hlast : vsub (psU (stQ S u (m + 2 + k0))) (psU (stQ S u k0)) = (-(dirQ S u (m + 2 + k0)).1, -(dirQ S u (m + 2 + k0)).2) := by
  have := hstep (m + 2 + k0)
  rw [show m + 2 + k0 + 1 = k0 + (m + 3) by omega, hback] at this
  rw [← this]
  unfold vsub
  refine pt_ext ?_ ?_ <;> simp only <;> omega
 rw [hlast] at hh
 obtain ⟨q, hq⟩ : ∃ q, stQ S u (m + 2 + k0) = q := ⟨_, rfl⟩
 have hqn : stQ S u k0 = nst S q := by
  rw [← hq]
  show _ = stQ S u (m + 2 + k0 + 1)
  rw [show m + 2 + k0 + 1 = k0 + (m + 3) by omega, hback]
 have hqok : okQ S q := by rw [← hq]; exact stQ_ok h.beg _
 -- every unit line of the state is one of the trip
 have hfind : ∀ i, i < m + 3 → ∃ a, a < n ∧ (stQ S u i).1 = itU S u a := fun i hi => by
  obtain ⟨a, t, ha, ht, rfl⟩ := off_dec (show i < offQ S u n by omega)
  exact ⟨a, ha, by rw [st_in (st_off h.beg a) t ht]⟩
 have hqf : ∃ a, a < n ∧ q.1 = itU S u a := by
  rw [← hq]
  rcases Nat.lt_or_ge (m + 2 + k0) (m + 3) with h3 | h3
  ·exact hfind _ h3
  ·have e : m + 2 + k0 = (k0 - 1) + (m + 3) := by omega
   rw [e, hback]
   exact hfind _ (by omega)
 have hx : ∀ i, i < n → vert (itU S u i) → (psU (stQ S u k0)).1 ≤ 4 * (itU S u i).1.1 + 1 := fun i hi hv => by
  obtain ⟨hc1, hc⟩ := cntQ_two S (itU S u i)
  have h1 := trp_le S (itU S u i)
  have h2 := trn_le S (itU S u i)
  have ht : (1 - trp S (itU S u i)).toNat < cntQ S (itU S u i) := by omega
  have hlt := off_lt (S := S) u hi
  have hs := st_in (st_off h.beg i) _ ht
  have := hle (offQ S u i + (1 - trp S (itU S u i)).toNat) (by omega)
  rw [hs] at this
  rcases hv with hv | hv
  ·have e : (psU (itU S u i, trp S (itU S u i) + ((1 - trp S (itU S u i)).toNat : Int))).1 = 4 * (itU S u i).1.1 - 1 := by unfold psU; rw [hv]
   omega
  ·have e : (psU (itU S u i, trp S (itU S u i) + ((1 - trp S (itU S u i)).toNat : Int))).1 = 4 * (itU S u i).1.1 + 1 := by unfold psU; rw [hv]
   omega
 have hd2 : (dirQ S u (m + 2 + k0)) = q.1.2.v := by unfold dirQ; rw [hq]
 have hd1 : (dirQ S u k0) = (nst S q).1.2.v := by unfold dirQ; rw [hqn]
 rw [hd1, hd2] at hh
 clear hlast hsum hstep hmin hall hfind
 rcases hh with ⟨g1, g2, g3⟩ | ⟨g1, g2, g3⟩
 ·have w1 : q.1.2 = .s := by
   cases hw : q.1.2 <;> rw [hw] at g3 <;> simp [Wy.v] at g3 ⊢
  have w2 : (nst S q).1.2 = .e := by
   cases hw : (nst S q).1.2 <;> rw [hw] at g2 <;> simp [Wy.v] at g2 ⊢
  obtain ⟨a, ha, hqa⟩ := hqf
  refine .inl ⟨g1, a, ha, by rw [← hqa]; exact w1, fun i hi hv => ?_⟩
  have hxi := hx i hi hv
  rw [hqn] at hxi
  rw [← hqa]
  unfold nst at w2 hxi
  split at w2
  ·rw [w1] at w2; cases w2
  ·rename_i h9
   rw [if_neg h9] at hxi
   have hp : (psU (nx S q.1, trn S q.1)).1 = 4 * q.1.1.1 + trn S q.1 := by
    simp only at w2
    have : (hdU q.1).1 = q.1.1.1 := by unfold hdU; rw [w1]; simp [Wy.v]
    unfold psU
    simp only
    rw [w2]
    show 4 * (hdU q.1).1 + _ = _
    rw [this]
   rcases nx_cases S q.1 with ⟨_, e2, e⟩ | ⟨_, _, e2, e⟩ | ⟨_, _, e2, e⟩
   ·rw [hp, e2] at hxi; omega
   ·rw [e] at w2; simp only at w2; rw [w1] at w2; cases w2
   ·rw [e] at w2; simp only at w2; rw [w1] at w2; cases w2
 ·have w1 : q.1.2 = .w := by
   cases hw : q.1.2 <;> rw [hw] at g3 <;> simp [Wy.v] at g3 ⊢
  have w2 : (nst S q).1.2 = .n := by
   cases hw : (nst S q).1.2 <;> rw [hw] at g2 <;> simp [Wy.v] at g2 ⊢
  obtain ⟨a, ha, hqa⟩ := hqf
  refine .inr ⟨g1, ?_⟩
  unfold nst at w2 hqn
  split at w2
  ·rw [w1] at w2; cases w2
  ·rename_i h9
   rw [if_neg h9] at hqn
   have hn1 : nx S q.1 = itU S u (a + 1) := by rw [hqa]; rfl
   obtain ⟨b, hb, hbe⟩ : ∃ b, b < n ∧ nx S q.1 = itU S u b := by
    rcases Nat.lt_or_ge (a + 1) n with h3 | h3
    ·exact ⟨a + 1, h3, hn1⟩
    ·refine ⟨0, h.pos, ?_⟩
     rw [hn1, show a + 1 = 0 + n by omega, h.period]
   refine ⟨b, hb, by rw [← hbe]; exact w2, fun i hi hv => ?_⟩
   have hxi := hx i hi hv
   rw [hqn] at hxi
   rw [← hbe]
   have hp : (psU (nx S q.1, trn S q.1)).1 = 4 * (nx S q.1).1.1 - 1 := by
    simp only at w2
    unfold psU
    simp only
    rw [w2]
   rw [hp] at hxi
   omega
end
end Go.Proofs.YtdfpbhlnlkjjlaaGreat

/- Plain: how often a round trip of unit lines winds round a cell. -/
namespace Go.Proofs.YtdfpbhlnlkjjlaaGreat
set_option linter.unusedVariables false
set_option linter.unusedSimpArgs false
def om (c : Pt) (u : Un) : Int := match u.2 with
 | .n => if u.1.2 = c.2 ∧ u.1.1 ≤ c.1 then -1 else 0
 | .s => if u.1.2 - 1 = c.2 ∧ u.1.1 ≤ c.1 then 1 else 0
 | _ => 0
def opU (u : Un) : Un := (hdU u, u.2.l.l)
def isN (u v : Un) : Int := if u = v then 1 else 0
theorem lc_op (v : Un) : lc (opU v) = rc v := by
 obtain ⟨⟨x, y⟩, d⟩ := v
 cases d <;> refine pt_ext ?_ ?_ <;> simp only [lc, rc, opU, hdU, Wy.v, Wy.l] <;> omega
theorem rc_op (v : Un) : rc (opU v) = lc v := by
 obtain ⟨⟨x, y⟩, d⟩ := v
 cases d <;> refine pt_ext ?_ ?_ <;> simp only [lc, rc, opU, hdU, Wy.v, Wy.l] <;> omega
theorem isN_eq (u v : Un) : isN u v = if u.1.1 = v.1.1 ∧ u.1.2 = v.1.2 ∧ u.2 = v.2 then 1 else 0 := by
 unfold isN
 by_cases h : u = v
 ·subst h; simp
 ·rw [if_neg h, if_neg]
  rintro ⟨h1, h2, h3⟩
  exact h (un_ext h1 h2 h3)
theorem om_side (x y : Int) (u : Un) : om (x, y) u - om (x - 1, y) u = isN u ((x, y + 1), .s) - isN u ((x, y), .n) := by
 obtain ⟨⟨a, b⟩, d⟩ := u
 rw [isN_eq, isN_eq]
 cases d <;> simp only [om, reduceCtorEq, and_false, if_false, and_true] <;> repeat' split
 all_goals omega
def rowG (x y : Int) (p : Pt) : Int := if p.2 = y ∧ p.1 ≤ x then 1 else 0
theorem om_up (x y : Int) (u : Un) : om (x, y) u - om (x, y - 1) u = isN u ((x, y), .e) - isN u ((x + 1, y), .w) + (rowG x y (hdU u) - rowG x y u.1) := by
 obtain ⟨⟨a, b⟩, d⟩ := u
 rw [isN_eq, isN_eq]
 cases d <;> simp only [om, rowG, hdU, Wy.v, reduceCtorEq, and_false, if_false, and_true] <;> repeat' split
 all_goals omega
section
variable {S : Cs} {u : Un} {n : Nat}
def Wn (S : Cs) (u : Un) (n : Nat) (c : Pt) : Int := smN (fun k => om c (itU S u k)) n
def cnU (S : Cs) (u : Un) (n : Nat) (v : Un) : Int := smN (fun k => isN (itU S u k) v) n
def inCy (S : Cs) (u : Un) (n : Nat) (v : Un) : Prop := ∃ k, k < n ∧ itU S u k = v
theorem cn_none {v : Un} (h : ¬ inCy S u n v) : cnU S u n v = 0 := smN_none fun k hk => if_neg fun e => h ⟨k, hk, e⟩
theorem cn_part {v : Un} {k : Nat} (hk : k < n) (e : itU S u k = v) (hap : ∀ i j, i < j → j < n → itU S u i ≠ itU S u j) : cnU S u n v = 1 := by
 subst e
 obtain ⟨r, rfl⟩ : ∃ r, n = k + 1 + r := ⟨n - (k + 1), by omega⟩
 unfold cnU
 rw [smN_split, smN_succ, smN_none, smN_none]
 ·simp [isN]
 ·intro j hj
  exact if_neg fun e => hap k (k + 1 + j) (by omega) (by omega) e.symm
 ·intro j hj
  exact if_neg fun e => hap j k hj (by omega) e
theorem Cyc.cn_one (h : Cyc S u n) {v : Un} (hv : inCy S u n v) : cnU S u n v = 1 := by
 obtain ⟨k, hk, e⟩ := hv
 exact cn_part hk e h.apart
theorem Cyc.bgn_of (h : Cyc S u n) {v : Un} (hv : inCy S u n v) : bgn S v := by
 obtain ⟨k, hk, e⟩ := hv
 rw [← e]
 exact itU_bgn h.beg k
theorem Cyc.next (h : Cyc S u n) {v : Un} (hv : inCy S u n v) : inCy S u n (nx S v) := by
 obtain ⟨k, hk, e⟩ := hv
 rcases Nat.lt_or_ge (k + 1) n with h1 | h1
 ·exact ⟨k + 1, h1, by rw [← e]; rfl⟩
 ·refine ⟨0, h.pos, ?_⟩
  rw [← e]
  show u = itU S u (k + 1)
  rw [show k + 1 = 0 + n by omega, h.period]
  rfl
theorem Cyc.wn_step (h : Cyc S u n) (v : Un) : Wn S u n (lc v) - Wn S u n (rc v) = cnU S u n v - cnU S u n (opU v) := by
 have side : ∀ x y, Wn S u n (x, y) - Wn S u n (x - 1, y) = cnU S u n ((x, y + 1), .s) - cnU S u n ((x, y), .n) := fun x y => by
  unfold Wn cnU
  rw [← smN_sub, ← smN_sub]
  exact smN_congr fun k _ => om_side x y _
 have up : ∀ x y, Wn S u n (x, y) - Wn S u n (x, y - 1) = cnU S u n ((x, y), .e) - cnU S u n ((x + 1, y), .w) := fun x y => by
  have e : smN (fun k => rowG x y (itU S u (k + 1)).1 - rowG x y (itU S u k).1) n = 0 := by
   rw [smN_tele (fun k => rowG x y (itU S u k).1) n, h.back]
   exact Int.sub_self _
  have k1 : smN (fun k => om (x, y) (itU S u k) - om (x, y - 1) (itU S u k)) n = smN (fun k => (isN (itU S u k) ((x, y), .e) - isN (itU S u k) ((x + 1, y), .w)) + (rowG x y (itU S u (k + 1)).1 - rowG x y (itU S u k).1)) n := smN_congr fun k _ => om_up x y (itU S u k)
  rw [smN_add, e, Int.add_zero] at k1
  unfold Wn cnU
  rw [← smN_sub, ← smN_sub]
  exact k1
 obtain ⟨⟨x, y⟩, d⟩ := v
 cases d
 ·have := up x y
  show Wn S u n (x, y) - Wn S u n (x, y - 1) = cnU S u n ((x, y), .e) - cnU S u n ((x + 1, y + 0), .w)
  rw [Int.add_zero]
  exact this
 ·have := side x y
  show Wn S u n (x - 1, y) - Wn S u n (x, y) = cnU S u n ((x, y), .n) - cnU S u n ((x + 0, y + 1), .s)
  rw [Int.add_zero]
  omega
 ·have := up (x - 1) y
  rw [Int.sub_add_cancel] at this
  show Wn S u n (x - 1, y - 1) - Wn S u n (x - 1, y) = cnU S u n ((x, y), .w) - cnU S u n ((x + -1, y + 0), .e)
  rw [Int.add_zero, show x + -1 = x - 1 by omega]
  omega
 ·have := side x (y - 1)
  rw [Int.sub_add_cancel] at this
  show Wn S u n (x, y - 1) - Wn S u n (x - 1, y - 1) = cnU S u n ((x, y), .s) - cnU S u n ((x + 0, y + -1), .n)
  rw [Int.add_zero, show y + -1 = y - 1 by omega]
  omega
theorem Cyc.op_out (h : Cyc S u n) {v : Un} (hv : bgn S v) : ¬ inCy S u n (opU v) := fun hi => by
 have h1 := (h.bgn_of hi).1
 rw [lc_op, hv.2] at h1
 cases h1
theorem Cyc.wn_cross (h : Cyc S u n) {v : Un} (hv : inCy S u n v) : Wn S u n (lc v) = Wn S u n (rc v) + 1 := by
 have h1 := h.wn_step v
 rw [h.cn_one hv, cn_none (h.op_out (h.bgn_of hv))] at h1
 omega
theorem Cyc.wn_same (h : Cyc S u n) {v : Un} (e : inC S (lc v) = inC S (rc v)) : Wn S u n (lc v) = Wn S u n (rc v) := by
 have h1 := h.wn_step v
 have h2 : ¬ inCy S u n v := fun hi => by have := h.bgn_of hi; rw [this.1, this.2] at e; cases e
 have h3 : ¬ inCy S u n (opU v) := fun hi => by have := h.bgn_of hi; rw [bgn, lc_op, rc_op] at this; rw [this.1, this.2] at e; cases e
 rw [cn_none h2, cn_none h3] at h1
 omega
theorem Cyc.wn_next (h : Cyc S u n) {v : Un} (hv : bgn S v) : Wn S u n (lc (nx S v)) = Wn S u n (lc v) := by
 have hl := h.wn_same (v := (hdU v, v.2.l))
 rw [lc_left, rc_left] at hl
 have hr := h.wn_same (v := (hdU v, v.2))
 rcases nx_cases S v with ⟨h1, _, e⟩ | ⟨h1, h2, _, e⟩ | ⟨h1, h2, _, e⟩ <;> rw [e]
 ·rw [lc_left]
 ·exact (hl (by rw [hv.1, h1])).symm
 ·rw [lc_right, ← hr (by rw [h1, h2])]
  exact (hl (by rw [hv.1, h1])).symm
theorem Cyc.wn_left (h : Cyc S u n) : ∀ k, Wn S u n (lc (itU S u k)) = Wn S u n (lc u)
 | 0 => rfl
 | k + 1 => by
  rw [← h.wn_left k]
  exact h.wn_next (itU_bgn h.beg k)
theorem Cyc.wn_in (h : Cyc S u n) {v : Un} (hv : inCy S u n v) : Wn S u n (lc v) = Wn S u n (lc u) ∧ Wn S u n (rc v) = Wn S u n (lc u) - 1 := by
 have h1 := h.wn_cross hv
 obtain ⟨k, hk, e⟩ := hv
 have h2 := h.wn_left k
 rw [e] at h2
 omega
theorem om_far {c : Pt} {v : Un} (h : vert v → c.1 < v.1.1) : om c v = 0 := by
 obtain ⟨⟨a, b⟩, d⟩ := v
 unfold om
 cases d
 ·rfl
 ·exact if_neg fun ⟨_, h2⟩ => by have := h (.inl rfl); simp only at this h2; omega
 ·rfl
 ·exact if_neg fun ⟨_, h2⟩ => by have := h (.inr rfl); simp only at this h2; omega
theorem wn_far {c : Pt} (h : ∀ k, k < n → vert (itU S u k) → c.1 < (itU S u k).1.1) : Wn S u n c = 0 := smN_none fun k hk => om_far (h k hk)
theorem Cyc.sides (h : Cyc S u n) : (smN (fun k => trn S (itU S u k)) n = 4 ∧ Wn S u n (lc u) = 1) ∨ (smN (fun k => trn S (itU S u k)) n = -4 ∧ Wn S u n (lc u) = 0) := by
 rcases umlauf h with ⟨h1, j, hj, hw, hl⟩ | ⟨h1, j, hj, hw, hl⟩
 ·refine .inl ⟨h1, ?_⟩
  have h2 := (h.wn_in ⟨j, hj, rfl⟩).2
  have h3 : Wn S u n (rc (itU S u j)) = 0 := wn_far fun k hk hv => by
   have := hl k hk hv
   unfold rc
   rw [hw]
   simp only
   omega
  omega
 ·refine .inr ⟨h1, ?_⟩
  have h2 := (h.wn_in ⟨j, hj, rfl⟩).1
  have h3 : Wn S u n (lc (itU S u j)) = 0 := wn_far fun k hk hv => by
   have := hl k hk hv
   unfold lc
   rw [hw]
   simp only
   omega
  omega
theorem Cyc.wn_01 (h : Cyc S u n) (c : Pt) : Wn S u n c = Wn S u n (lc u) ∨ Wn S u n c = Wn S u n (lc u) - 1 := by
 obtain ⟨x, y⟩ := c
 have hside := h.sides
 have low : ∃ m : Int, ∀ k, k < n → m < (itU S u k).1.1 := by
  have : ∀ r : Nat, ∃ m : Int, ∀ k, k < r → m < (itU S u k).1.1 := fun r => by
   induction r with
   | zero => exact ⟨0, fun k hk => by omega⟩
   | succ r ih =>
    obtain ⟨m, hm⟩ := ih
    refine ⟨min m ((itU S u r).1.1 - 1), fun k hk => ?_⟩
    rcases Nat.lt_or_ge k r with h1 | h1
    ·have := hm k h1; omega
    ·obtain rfl : k = r := by omega
     omega
  exact this n
 obtain ⟨m, hm⟩ := low
 have key : ∀ t : Nat, Wn S u n (m + t, y) = Wn S u n (lc u) ∨ Wn S u n (m + t, y) = Wn S u n (lc u) - 1 := by
  intro t
  induction t with
  | zero =>
   have : Wn S u n (m + (0 : Nat), y) = 0 := wn_far fun k hk _ => by have := hm k hk; show m + ((0 : Nat) : Int) < _; omega
   omega
  | succ t ih =>
   have e : m + ((t + 1 : Nat) : Int) - 1 = m + t := by omega
   by_cases hu : inCy S u n ((m + ((t + 1 : Nat) : Int), y), .n)
   ·have := (h.wn_in hu).2
    exact .inr this
   ·by_cases hd : inCy S u n ((m + ((t + 1 : Nat) : Int), y + 1), .s)
    ·have := (h.wn_in hd).1
     simp only [lc, Int.add_sub_cancel] at this
     exact .inl this
    ·have := h.wn_step ((m + ((t + 1 : Nat) : Int), y), .n)
     rw [cn_none hu] at this
     have e2 : opU ((m + ((t + 1 : Nat) : Int), y), .n) = ((m + ((t + 1 : Nat) : Int), y + 1), .s) := by refine un_ext ?_ ?_ rfl <;> simp only [opU, hdU, Wy.v] <;> omega
     rw [e2, cn_none hd] at this
     simp only [lc, rc, e] at this
     omega
 rcases Int.lt_or_le x m with h1 | h1
 ·have : Wn S u n (x, y) = 0 := wn_far fun k hk _ => by have := hm k hk; show x < _; omega
  omega
 ·have := key (x - m).toNat
  rwa [show m + ((x - m).toNat : Int) = x by omega] at this
end
end Go.Proofs.YtdfpbhlnlkjjlaaGreat

/- Plain: the corners of a round trip, and sums along its sides. -/
namespace Go.Proofs.YtdfpbhlnlkjjlaaGreat
set_option linter.unusedVariables false
set_option linter.unusedSimpArgs false
section
variable {S : Cs} {u : Un} {n : Nat}
def idxC (S : Cs) (u : Un) (n : Nat) : List Nat := (List.range n).filter fun k => decide (trp S (itU S u k) ≠ 0)
def lpC (S : Cs) (u : Un) (n : Nat) : List Pt := (idxC S u n).map fun k => (itU S u k).1
theorem filter_range_gap {P : Nat → Bool} {n : Nat} {l : List Nat} (hl : l = (List.range n).filter P) :
    l.Pairwise (· < ·) ∧ (∀ k, k ∈ l ↔ k < n ∧ P k = true) ∧ ∀ i, (h : i + 1 < l.length) → ∀ j, l[i] < j → j < l[i + 1] → P j = false := by
  have h1 : l.Pairwise (· < ·) := by rw [hl]; exact List.Pairwise.filter _ List.pairwise_lt_range
  have h2 : ∀ k, k ∈ l ↔ k < n ∧ P k = true := fun k => by rw [hl, List.mem_filter, List.mem_range]
  refine ⟨h1, h2, fun i h j hj1 hj2 => ?_⟩
  cases hP : P j
  · rfl
  · exfalso
    have hlast := ((h2 l[i + 1]).1 (List.getElem_mem h)).1
    obtain ⟨t, ht, rfl⟩ := List.getElem_of_mem ((h2 j).2 ⟨by omega, hP⟩)
    have mono : ∀ a b, (ha : a < l.length) → (hb : b < l.length) → a < b → l[a] < l[b] := fun a b ha hb hab => List.pairwise_iff_getElem.1 h1 a b ha hb hab
    rcases Nat.lt_trichotomy t i with h3 | h3 | h3
    · have := mono t i ht (by omega) h3; omega
    · subst h3; omega
    · rcases Nat.lt_trichotomy t (i + 1) with h4 | h4 | h4
      · omega
      · subst h4; omega
      · have := mono (i + 1) t h ht h4; omega
def kC (S : Cs) (u : Un) (n i : Nat) : Nat := (idxC S u n).getD i n
def mC (S : Cs) (u : Un) (n : Nat) : Nat := (idxC S u n).length
theorem kC_lt {i : Nat} (h : i < mC S u n) : kC S u n i < n ∧ trp S (itU S u (kC S u n i)) ≠ 0 := by
 have hg := filter_range_gap (l := idxC S u n) rfl
 have e : kC S u n i = (idxC S u n)[i]'h := by unfold kC; rw [List.getD_eq_getElem?_getD, List.getElem?_eq_getElem h]; rfl
 have := (hg.2.1 ((idxC S u n)[i]'h)).1 (List.getElem_mem h)
 rw [e]
 exact ⟨this.1, by simpa using this.2⟩
theorem kC_end : kC S u n (mC S u n) = n := by unfold kC mC; rw [List.getD_eq_getElem?_getD, List.getElem?_eq_none (Nat.le_refl _)]; rfl
theorem kC_next {i : Nat} (h : i < mC S u n) : kC S u n i < kC S u n (i + 1) ∧ ∀ j, kC S u n i < j → j < kC S u n (i + 1) → trp S (itU S u j) = 0 := by
 have hg := filter_range_gap (l := idxC S u n) rfl
 have e : kC S u n i = (idxC S u n)[i]'h := by unfold kC; rw [List.getD_eq_getElem?_getD, List.getElem?_eq_getElem h]; rfl
 rcases Nat.lt_or_ge (i + 1) (mC S u n) with h2 | h2
 ·have e2 : kC S u n (i + 1) = (idxC S u n)[i + 1]'h2 := by unfold kC; rw [List.getD_eq_getElem?_getD, List.getElem?_eq_getElem h2]; rfl
  rw [e, e2]
  refine ⟨List.pairwise_iff_getElem.1 hg.1 i (i + 1) h h2 (by omega), fun j h3 h4 => ?_⟩
  have := hg.2.2 i h2 j h3 h4
  simpa using this
 ·have e2 : kC S u n (i + 1) = n := by rw [show i + 1 = mC S u n by omega, kC_end]
  rw [e2]
  refine ⟨(kC_lt h).1, fun j h3 h4 => ?_⟩
  have : ¬ trp S (itU S u j) ≠ 0 := fun hne => by
   have hm := (hg.2.1 j).2 ⟨h4, by simpa using hne⟩
   obtain ⟨t, ht, e3⟩ := List.getElem_of_mem hm
   have ht2 : t ≤ i := by unfold mC at h2; omega
   have : (idxC S u n)[t] ≤ (idxC S u n)[i]'h := by
    rcases Nat.lt_or_ge t i with h5 | h5
    ·exact Nat.le_of_lt (List.pairwise_iff_getElem.1 hg.1 t i ht h h5)
    ·have : t = i := by omega
     subst this; exact Nat.le_refl _
   omega
  omega
def addW (p : Pt) (t : Int) (d : Wy) : Pt := (p.1 + t * d.v.1, p.2 + t * d.v.2)
theorem addW_hd (p : Pt) (t : Nat) (d : Wy) : hdU (addW p t d, d) = addW p ((t + 1 : Nat) : Int) d := by
 refine pt_ext ?_ ?_ <;> cases d <;> simp only [hdU, addW, Wy.v] <;> omega
theorem straight (h : bgn S u) {a b : Nat} (hs : ∀ j, a < j → j < b → trp S (itU S u j) = 0) : ∀ t : Nat, a + t < b → itU S u (a + t) = (addW (itU S u a).1 t (itU S u a).2, (itU S u a).2)
 | 0, _ => by
  refine un_ext ?_ ?_ rfl <;> simp [addW]
 | t + 1, ht => by
  have ih := straight h hs t (by omega)
  have h0 := hs (a + t + 1) (by omega) (by omega)
  have e : itU S u (a + t + 1) = nx S (itU S u (a + t)) := rfl
  rw [e, trp_nx (itU_bgn h _)] at h0
  rw [← Nat.add_assoc, e]
  rcases nx_cases S (itU S u (a + t)) with ⟨_, e2, _⟩ | ⟨_, _, e2, e3⟩ | ⟨_, _, e2, _⟩
  ·omega
  ·rw [e3, ih]
   exact Prod.ext (addW_hd _ _ _) rfl
  ·omega
theorem straight_end (h : bgn S u) {a b : Nat} (hab : a < b) (hs : ∀ j, a < j → j < b → trp S (itU S u j) = 0) : (itU S u b).1 = addW (itU S u a).1 ((b - a : Nat) : Int) (itU S u a).2 := by
 obtain ⟨t, rfl⟩ : ∃ t, b = a + t + 1 := ⟨b - a - 1, by omega⟩
 have := straight h hs t (by omega)
 show hdU (itU S u (a + t)) = _
 rw [this, addW_hd]
 rw [show a + t + 1 - a = t + 1 by omega]
theorem sides_sum (h : bgn S u) (h0 : trp S u ≠ 0) (hn : 0 < n) {f : Pt → Pt → Int} {g : Un → Int} (hf : ∀ p d (t : Nat), f p (addW p t d) = smN (fun j => g (addW p j d, d)) t) :
  smN (fun i => f (itU S u (kC S u n i)).1 (itU S u (kC S u n (i + 1))).1) (mC S u n) = smN (fun k => g (itU S u k)) n := by
 have k0 : kC S u n 0 = 0 := by
  have hm : (0 : Nat) ∈ idxC S u n := List.mem_filter.2 ⟨List.mem_range.2 hn, decide_eq_true (show trp S (itU S u 0) ≠ 0 from h0)⟩
  have hpos : 0 < mC S u n := List.length_pos_of_mem hm
  obtain ⟨t, ht, e⟩ := List.getElem_of_mem hm
  have hg := filter_range_gap (l := idxC S u n) rfl
  have e0 : kC S u n 0 = (idxC S u n)[0]'hpos := by unfold kC; rw [List.getD_eq_getElem?_getD, List.getElem?_eq_getElem hpos]; rfl
  rw [e0]
  rcases Nat.eq_zero_or_pos t with h1 | h1
  ·subst h1; exact e
  ·have := List.pairwise_iff_getElem.1 hg.1 0 t hpos ht h1
   omega
 have key : ∀ i, i ≤ mC S u n → smN (fun i => f (itU S u (kC S u n i)).1 (itU S u (kC S u n (i + 1))).1) i = smN (fun k => g (itU S u k)) (kC S u n i) := by
  intro i
  induction i with
  | zero => intro _; rw [k0]; rfl
  | succ i ih =>
   intro hi
   obtain ⟨g1, g2⟩ := kC_next (S := S) (u := u) (n := n) (i := i) hi
   rw [smN_succ, ih (by omega)]
   obtain ⟨c, hc⟩ : ∃ c, kC S u n (i + 1) = kC S u n i + c := ⟨kC S u n (i + 1) - kC S u n i, by omega⟩
   have he := straight_end h g1 g2
   rw [he]
   rw [hc, smN_split, show kC S u n i + c - kC S u n i = c by omega, hf]
   congr 1
   refine smN_congr fun t ht => ?_
   rw [straight h g2 t (by omega)]
 have := key (mC S u n) (Nat.le_refl _)
 rwa [kC_end] at this
end
end Go.Proofs.YtdfpbhlnlkjjlaaGreat

/- Plain: how many rectangles a canonical list may have. -/
namespace Go.Proofs.YtdfpbhlnlkjjlaaGreat
set_option linter.unusedVariables false
set_option linter.unusedSimpArgs false
theorem nodup_len {α : Type} [DecidableEq α] : ∀ {l m : List α}, l.Nodup → (∀ x ∈ l, x ∈ m) → l.length ≤ m.length
 | [], m, _, _ => Nat.zero_le _
 | a :: l, m, hn, h => by
  obtain ⟨h1, h2⟩ := List.nodup_cons.1 hn
  have ha := h a (by simp)
  have ih := nodup_len (m := m.erase a) h2 fun x hx => (List.mem_erase_of_ne (fun e => h1 (by rw [← e]; exact hx))).2 (h x (List.mem_cons_of_mem _ hx))
  rw [List.length_erase_of_mem ha] at ih
  have : 0 < m.length := List.length_pos_of_mem ha
  simp only [List.length_cons]
  omega
theorem SOK.nodup : ∀ {S : List Slab}, SOK S → (S.map Slab.f).Nodup
 | [], _ => by simp
 | a :: S, h => by
  rw [List.map_cons, List.nodup_cons]
  refine ⟨fun hm => ?_, SOK.nodup h.tail⟩
  obtain ⟨b, hb, e⟩ := List.mem_map.1 hm
  have := h.after b hb
  have := h.head.1
  omega
theorem flat_le {n : Nat} : ∀ {S : List Slab}, (∀ a ∈ S, a.s.length ≤ n) → (flat S).length ≤ S.length * n
 | [], _ => by simp [flat]
 | a :: S, h => by
  have ih := flat_le (n := n) (S := S) fun b hb => h b (List.mem_cons_of_mem _ hb)
  have h1 := h a (by simp)
  have e : (flat (a :: S)).length = a.s.length + (flat S).length := by simp [flat, flat1]
  rw [e, List.length_cons, Nat.succ_mul]
  omega
end Go.Proofs.YtdfpbhlnlkjjlaaGreat

/- Plain: loops: round trips that begin at their least corner; a list of loops is known by its set of cells. -/
namespace Go.Proofs.YtdfpbhlnlkjjlaaGreat
set_option linter.unusedVariables false
set_option linter.unusedSimpArgs false
def ltL : List Pt → List Pt → Prop
 | [], [] => False
 | [], _ :: _ => True
 | _ :: _, [] => False
 | a :: s, b :: t => if a = b then ltL s t else ptLt a b
theorem ptLt_irr (a : Pt) : ¬ ptLt a a := by unfold ptLt; omega
theorem ptLt_tr {a b c : Pt} (h1 : ptLt a b) (h2 : ptLt b c) : ptLt a c := by unfold ptLt at *; omega
theorem ptLt_as {a b : Pt} (h1 : ptLt a b) (h2 : ptLt b a) : False := by unfold ptLt at *; omega
theorem ptLt_or {a b : Pt} (h : a ≠ b) : ptLt a b ∨ ptLt b a := by
 have : ¬ (a.1 = b.1 ∧ a.2 = b.2) := fun ⟨x, y⟩ => h (Prod.ext x y)
 unfold ptLt; omega
theorem ltL_irr : ∀ a, ¬ ltL a a
 | [] => fun h => h
 | a :: s => by
  unfold ltL
  rw [if_pos rfl]
  exact ltL_irr s
theorem ltL_tr : ∀ {a b c : List Pt}, ltL a b → ltL b c → ltL a c
 | [], [], _, h, _ => h.elim
 | [], _ :: _, [], _, h => h.elim
 | [], _ :: _, _ :: _, _, _ => trivial
 | _ :: _, [], _, h, _ => h.elim
 | _ :: _, _ :: _, [], _, h => h.elim
 | a :: s, b :: t, c :: r, h1, h2 => by
  unfold ltL at h1 h2 ⊢
  by_cases e1 : a = b
  ·subst e1
   rw [if_pos rfl] at h1
   by_cases e2 : a = c
   ·rw [if_pos e2] at h2 ⊢
    exact ltL_tr h1 h2
   ·rw [if_neg e2] at h2 ⊢
    exact h2
  ·rw [if_neg e1] at h1
   by_cases e2 : b = c
   ·subst e2
    rw [if_neg e1]; exact h1
   ·rw [if_neg e2] at h2
    have := ptLt_tr h1 h2
    rw [if_neg fun e => by subst e; exact ptLt_irr _ this]
    exact this
theorem ltL_or : ∀ {a b : List Pt}, a ≠ b → ltL a b ∨ ltL b a
 | [], [], h => absurd rfl h
 | [], _ :: _, _ => .inl trivial
 | _ :: _, [], _ => .inr trivial
 | a :: s, b :: t, h => by
  unfold ltL
  by_cases e : a = b
  ·subst e
   rw [if_pos rfl, if_pos rfl]
   exact ltL_or fun e => h (by rw [e])
  ·rw [if_neg e, if_neg fun e2 => e e2.symm]
   exact ptLt_or e
section
variable {S : Cs} {u v : Un} {n : Nat}
theorem Cyc.rot (h : Cyc S v n) (j : Nat) : Cyc S (itU S v j) n := by
 refine ⟨itU_bgn h.beg j, h.pos, ?_, ?_⟩
 ·rw [← itU_add]; exact h.period j
 ·intro a b hab hb e
  rw [← itU_add, ← itU_add] at e
  have hmod : ∀ k, itU S v k = itU S v (k % n) := fun k => by
   have hp : ∀ c k, itU S v (k + n * c) = itU S v k := by
    intro c
    induction c with
    | zero => intro k; rfl
    | succ c ih => intro k; rw [Nat.mul_succ, ← Nat.add_assoc, h.period, ih]
   have := hp (k / n) (k % n)
   rwa [Nat.mod_add_div] at this
  rw [hmod (j + a), hmod (j + b)] at e
  have l1 := Nat.mod_lt (j + a) h.pos
  have l2 := Nat.mod_lt (j + b) h.pos
  rcases Nat.lt_trichotomy ((j + a) % n) ((j + b) % n) with h1 | h1 | h1
  ·exact h.apart _ _ h1 l2 e
  ·have h3 := Nat.sub_mod_eq_zero_of_mod_eq h1.symm
   rw [Nat.mod_eq_of_lt (by omega)] at h3
   omega
  ·exact h.apart _ _ h1 l1 e.symm
theorem Cyc.in_rot (h : Cyc S v n) {j : Nat} {x : Un} : inCy S (itU S v j) n x ↔ inCy S v n x := by
 have hmod : ∀ k, itU S v k = itU S v (k % n) := fun k => by
  have hp : ∀ c k, itU S v (k + n * c) = itU S v k := by
   intro c
   induction c with
   | zero => intro k; rfl
   | succ c ih => intro k; rw [Nat.mul_succ, ← Nat.add_assoc, h.period, ih]
  have := hp (k / n) (k % n)
  rwa [Nat.mod_add_div] at this
 constructor
 ·rintro ⟨k, hk, e⟩
  refine ⟨(j + k) % n, Nat.mod_lt _ h.pos, ?_⟩
  rw [← hmod, itU_add, e]
 ·rintro ⟨k, hk, e⟩
  have hr := h.rot j
  refine ⟨(k + (n - j % n)) % n, Nat.mod_lt _ h.pos, ?_⟩
  have hmod2 : ∀ k, itU S (itU S v j) (k % n) = itU S (itU S v j) k := fun k => by
   have hp : ∀ c k, itU S (itU S v j) (k + n * c) = itU S (itU S v j) k := by
    intro c
    induction c with
    | zero => intro k; rfl
    | succ c ih => intro k; rw [Nat.mul_succ, ← Nat.add_assoc, hr.period, ih]
   have := hp (k / n) (k % n)
   rw [Nat.mod_add_div] at this
   exact this.symm
  rw [hmod2, ← itU_add, hmod]
  have l := Nat.mod_lt j h.pos
  have e2 : (j + (k + (n - j % n))) % n = k := by
   have e3 : j = j % n + n * (j / n) := (Nat.mod_add_div j n).symm
   have e4 : j + (k + (n - j % n)) = k + n * (j / n + 1) := by
    rw [Nat.mul_add, Nat.mul_one]
    omega
   rw [e4, Nat.add_mul_mod_self_left, Nat.mod_eq_of_lt hk]
  rw [e2, e]
def pcL (S : Cs) (v : Un) (a : Nat) : Nat → List Pt
 | 0 => []
 | c + 1 => pcL S v a c ++ if trp S (itU S v (a + c)) = 0 then [] else [(itU S v (a + c)).1]
theorem pcL_add (S : Cs) (v : Un) (a c : Nat) : ∀ d, pcL S v a (c + d) = pcL S v a c ++ pcL S v (a + c) d
 | 0 => by simp [pcL]
 | d + 1 => by
  show pcL S v a (c + d) ++ _ = _ ++ (pcL S v (a + c) d ++ _)
  rw [pcL_add S v a c d, List.append_assoc, Nat.add_assoc]
  rfl
theorem pcL_per (h : Cyc S v n) (a : Nat) : ∀ c, pcL S v (a + n) c = pcL S v a c
 | 0 => rfl
 | c + 1 => by
  show pcL S v (a + n) c ++ _ = pcL S v a c ++ _
  rw [pcL_per h a c, show a + n + c = a + c + n by omega, h.period]
theorem pcL_it (S : Cs) (v : Un) (j a : Nat) : ∀ c, pcL S (itU S v j) a c = pcL S v (j + a) c
 | 0 => rfl
 | c + 1 => by
  show pcL S (itU S v j) a c ++ _ = pcL S v (j + a) c ++ _
  rw [pcL_it S v j a c, ← itU_add, Nat.add_assoc]
theorem lpC_eq (S : Cs) (u : Un) : ∀ n, lpC S u n = pcL S u 0 n
 | 0 => rfl
 | n + 1 => by
  have ih := lpC_eq S u n
  show _ = pcL S u 0 n ++ _
  rw [← ih, Nat.zero_add]
  unfold lpC idxC
  rw [List.range_succ, List.filter_append, List.map_append]
  congr 1
  by_cases h : trp S (itU S u n) = 0
  ·rw [if_pos h, List.filter_cons_of_neg (by simp [h])]; rfl
  ·rw [if_neg h, List.filter_cons_of_pos (by simp [h])]; rfl
def cnr (S : Cs) (v : Un) : Nat → List Pt
 | 0 => []
 | k + 1 => cnr S v k ++ if trn S (itU S v k) = 0 then [] else [hdU (itU S v k)]
theorem cnr_eq (h : bgn S v) : ∀ n, cnr S v n = pcL S v 1 n
 | 0 => rfl
 | n + 1 => by
  show cnr S v n ++ _ = pcL S v 1 n ++ _
  rw [cnr_eq h n, Nat.add_comm 1 n, show trp S (itU S v (n + 1)) = trn S (itU S v n) from trp_nx (itU_bgn h n)]
  rfl
theorem mem_pcL {a : Nat} {p : Pt} : ∀ {c : Nat}, p ∈ pcL S v a c ↔ ∃ k, k < c ∧ trp S (itU S v (a + k)) ≠ 0 ∧ p = (itU S v (a + k)).1
 | 0 => by simp [pcL]
 | c + 1 => by
  show p ∈ pcL S v a c ++ _ ↔ _
  rw [List.mem_append, mem_pcL (c := c)]
  constructor
  ·rintro (⟨k, h1, h2, h3⟩ | h)
   ·exact ⟨k, by omega, h2, h3⟩
   ·split at h
    ·simp at h
    ·rename_i h0
     exact ⟨c, by omega, h0, by simpa using h⟩
  ·rintro ⟨k, h1, h2, h3⟩
   rcases Nat.lt_or_ge k c with h4 | h4
   ·exact .inl ⟨k, h4, h2, h3⟩
   ·obtain rfl : k = c := by omega
    right
    rw [if_neg h2]
    simp [h3]
structure LpU (S : Cs) (u : Un) (n : Nat) : Prop where
 cyc : Cyc S u n
 cor : trp S u ≠ 0
 low : ∀ k, 0 < k → k < n → trp S (itU S u k) ≠ 0 → ptLt u.1 (itU S u k).1
theorem Cyc.has_turn (h : Cyc S v n) : ∃ k, k < n ∧ trp S (itU S v k) ≠ 0 := by
 have hs : smN (fun k => trn S (itU S v k)) n ≠ 0 := by rcases h.sides with ⟨e, _⟩ | ⟨e, _⟩ <;> omega
 refine Classical.byContradiction fun hno => hs (smN_none fun k hk => ?_)
 refine Classical.byContradiction fun ht => hno ?_
 have e := trp_nx (itU_bgn h.beg k)
 rcases Nat.lt_or_ge (k + 1) n with h1 | h1
 ·exact ⟨k + 1, h1, by show trp S (nx S (itU S v k)) ≠ 0; rw [e]; exact ht⟩
 ·refine ⟨0, h.pos, ?_⟩
  have e2 : itU S v (k + 1) = v := by rw [show k + 1 = 0 + n by omega, h.period]; rfl
  show trp S v ≠ 0
  rw [← e2]
  show trp S (nx S (itU S v k)) ≠ 0
  rw [e]; exact ht
theorem Cyc.to_corner (h : Cyc S v n) : ∃ t, 0 < t ∧ t ≤ n ∧ trp S (itU S v t) ≠ 0 ∧ (itU S v t).1 = addW v.1 t v.2 := by
 obtain ⟨k, hk, hk2⟩ := h.has_turn
 have hex : ∃ t, 0 < t ∧ t ≤ n ∧ trp S (itU S v t) ≠ 0 := by
  rcases Nat.eq_zero_or_pos k with h0 | h0
  ·subst h0
   exact ⟨n, h.pos, Nat.le_refl _, by rw [h.back]; exact hk2⟩
  ·exact ⟨k, h0, by omega, hk2⟩
 obtain ⟨t0, ht0⟩ := hex
 obtain ⟨t, ⟨h1, h2, h3⟩, hl⟩ := least_nat (P := fun t => 0 < t ∧ t ≤ n ∧ trp S (itU S v t) ≠ 0) t0 ht0
 refine ⟨t, h1, h2, h3, ?_⟩
 have := straight_end (S := S) (u := v) (a := 0) (b := t) h.beg h1 fun j hj1 hj2 => Classical.byContradiction fun hne => hl j hj2 ⟨hj1, by omega, hne⟩
 exact this
theorem two_from {v w : Un} (hv : bgn S v) (hw : bgn S w) (e : v.1 = w.1) (hne : v ≠ w) : w.2 = v.2.l.l := by
 obtain ⟨⟨x, y⟩, d⟩ := v
 obtain ⟨⟨x2, y2⟩, d2⟩ := w
 simp only [Prod.mk.injEq] at e
 obtain ⟨rfl, rfl⟩ := e
 unfold bgn inC at hv hw
 cases d <;> cases d2 <;> first | rfl | exact absurd rfl hne | (simp only [lc, rc] at hv hw; obtain ⟨h1, h2⟩ := hv; obtain ⟨h3, h4⟩ := hw; first | (rw [h1] at h4; cases h4) | (rw [h3] at h2; cases h2))
theorem Cyc.least (h : Cyc S v n) : ∃ j, 1 ≤ j ∧ j ≤ n ∧ LpU S (itU S v j) n := by
 have hex : ∀ c, (∃ k, k < c ∧ trp S (itU S v k) ≠ 0) → ∃ j, j < c ∧ trp S (itU S v j) ≠ 0 ∧ ∀ k, k < c → trp S (itU S v k) ≠ 0 → ¬ ptLt (itU S v k).1 (itU S v j).1 := by
  intro c
  induction c with
  | zero => rintro ⟨k, hk, _⟩; omega
  | succ c ih =>
   intro hk
   by_cases hc : ∃ k, k < c ∧ trp S (itU S v k) ≠ 0
   ·obtain ⟨j, h1, h2, h3⟩ := ih hc
    by_cases hl : trp S (itU S v c) ≠ 0 ∧ ptLt (itU S v c).1 (itU S v j).1
    ·refine ⟨c, by omega, hl.1, fun k hk1 hk2 hlt => ?_⟩
     rcases Nat.lt_or_ge k c with h4 | h4
     ·exact h3 k h4 hk2 (ptLt_tr hlt hl.2)
     ·obtain rfl : k = c := by omega
      exact ptLt_irr _ hlt
    ·refine ⟨j, by omega, h2, fun k hk1 hk2 hlt => ?_⟩
     rcases Nat.lt_or_ge k c with h4 | h4
     ·exact h3 k h4 hk2 hlt
     ·obtain rfl : k = c := by omega
      exact hl ⟨hk2, hlt⟩
   ·obtain ⟨k, hk1, hk2⟩ := hk
    have hkc : k = c := Classical.byContradiction fun hne => hc ⟨k, by omega, hk2⟩
    subst hkc
    refine ⟨k, by omega, hk2, fun i hi1 hi2 hlt => ?_⟩
    rcases Nat.lt_or_ge i k with h4 | h4
    ·exact hc ⟨i, h4, hi2⟩
    ·obtain rfl : i = k := by omega
     exact ptLt_irr _ hlt
 obtain ⟨j, hj, hj2, hmin⟩ := hex n h.has_turn
 have hr := h.rot j
 -- all corners of the trip lie behind
 have hall : ∀ k, trp S (itU S v k) ≠ 0 → ¬ ptLt (itU S v k).1 (itU S v j).1 := fun k hk => by
  obtain ⟨i, hi, e⟩ := (h.in_rot (j := 0) (x := itU S v k)).1 (by
   have hp : ∀ c k, itU S v (k + n * c) = itU S v k := by
    intro c
    induction c with
    | zero => intro k; rfl
    | succ c ih => intro k; rw [Nat.mul_succ, ← Nat.add_assoc, h.period, ih]
   refine ⟨k % n, Nat.mod_lt _ h.pos, ?_⟩
   have := hp (k / n) (k % n)
   rw [Nat.mod_add_div] at this
   exact this.symm)
  rw [← e]
  exact hmin i hi (by rw [e]; exact hk)
 have key : ∀ k, trp S (itU S v k) ≠ 0 → (itU S v k).1 = (itU S v j).1 → (itU S v k).2 = .e ∨ (itU S v k).2 = .n := fun k hk e => by
  obtain ⟨t, h1, h2, h3, h4⟩ := (h.rot k).to_corner
  rw [← itU_add] at h3 h4
  have := hall (k + t) h3
  rw [h4] at this
  cases hd : (itU S v k).2
  ·exact .inl rfl
  ·exact .inr rfl
  ·rw [hd, e] at this
   exact absurd (by unfold ptLt addW; simp only [Wy.v]; omega) this
  ·rw [hd, e] at this
   exact absurd (by unfold ptLt addW; simp only [Wy.v]; omega) this
 have hlp : LpU S (itU S v j) n := by
  refine ⟨hr, hj2, fun k hk1 hk2 hk3 => ?_⟩
  have hne : itU S (itU S v j) k ≠ itU S v j := fun e => hr.apart 0 k hk1 hk2 e.symm
  rw [← itU_add] at hk3 hne ⊢
  have h5 := hall (j + k) hk3
  by_cases e : (itU S v (j + k)).1 = (itU S v j).1
  ·exfalso
   have h6 := two_from (itU_bgn h.beg j) (itU_bgn h.beg (j + k)) e.symm (Ne.symm hne)
   have h7 := key j hj2 rfl
   have h8 := key (j + k) hk3 e
   rw [h6] at h8
   rcases h7 with h7 | h7 <;> rw [h7] at h8 <;> simp [Wy.l] at h8
  ·exact (ptLt_or (Ne.symm e)).resolve_right h5
 rcases Nat.eq_zero_or_pos j with h0 | h0
 ·subst h0
  exact ⟨n, h.pos, Nat.le_refl _, by rw [h.back]; exact hlp⟩
 ·exact ⟨j, h0, by omega, hlp⟩
def FirstMin (l : List Pt) (i : Nat) : Prop := i < l.length ∧ (∀ j, j < i → ptLt (l.getD i (0, 0)) (l.getD j (0, 0))) ∧ ∀ j, i < j → j < l.length → ¬ ptLt (l.getD j (0, 0)) (l.getD i (0, 0))
theorem first_min {A B : List Pt} {b : Pt} {i : Nat} (hA : ∀ x ∈ A, ptLt b x) (hB : ∀ x ∈ B, ptLt b x) (h : FirstMin (A ++ b :: B) i) : i = A.length := by
 obtain ⟨h1, h2, h3⟩ := h
 have hb : (A ++ b :: B).getD A.length (0, 0) = b := by simp
 have hlen : A.length < (A ++ b :: B).length := by simp
 rcases Nat.lt_trichotomy i A.length with h4 | h4 | h4
 ·have := h3 A.length h4 hlen
  rw [hb] at this
  refine absurd (hA _ ?_) this
  rw [List.getD_eq_getElem?_getD, List.getElem?_append_left h4, List.getElem?_eq_getElem h4]
  exact List.getElem_mem h4
 ·exact h4
 ·have := h2 A.length h4
  rw [hb] at this
  refine (ptLt_as this (hB _ ?_)).elim
  have hi : i - A.length - 1 < B.length := by simp at h1; omega
  rw [List.getD_eq_getElem?_getD, List.getElem?_append_right (by omega), show i - A.length = (i - A.length - 1) + 1 by omega, List.getElem?_cons_succ, List.getElem?_eq_getElem hi]
  exact List.getElem_mem hi
theorem turned_lp (h : Cyc S v n) : ∃ j, 1 ≤ j ∧ j ≤ n ∧ LpU S (itU S v j) n ∧ 0 < (cnr S v n).length ∧ ∀ i, FirstMin (cnr S v n) i → (cnr S v n).drop i ++ (cnr S v n).take i = lpC S (itU S v j) n := by
 obtain ⟨j, h1, h2, hl⟩ := h.least
 have e1 : cnr S v n = pcL S v 1 (j - 1) ++ ((itU S v j).1 :: pcL S v (j + 1) (n - j)) := by
  rw [cnr_eq h.beg, show n = (j - 1) + (1 + (n - j)) by omega, pcL_add, pcL_add]
  congr 1
  have ej : 1 + (j - 1) = j := by omega
  rw [ej, show j - 1 + (1 + (n - j)) - j = n - j by omega]
  have e2 : pcL S v j 1 = [(itU S v j).1] := by
   show [] ++ (if trp S (itU S v (j + 0)) = 0 then [] else [(itU S v (j + 0)).1]) = _
   rw [Nat.add_zero, if_neg hl.cor]; rfl
  rw [e2]
  rfl
 have e2 : lpC S (itU S v j) n = ((itU S v j).1 :: pcL S v (j + 1) (n - j)) ++ pcL S v 1 (j - 1) := by
  rw [lpC_eq, pcL_it, Nat.add_zero, show n = 1 + (n - j) + (j - 1) by omega, pcL_add, pcL_add]
  have e3 : pcL S v j 1 = [(itU S v j).1] := by
   show [] ++ (if trp S (itU S v (j + 0)) = 0 then [] else [(itU S v (j + 0)).1]) = _
   rw [Nat.add_zero, if_neg hl.cor]; rfl
  rw [e3, show 1 + (n - j) + (j - 1) - j = n - j by omega, show j + (1 + (n - j)) = 1 + n by omega, pcL_per h]
  rfl
 have low : ∀ k, 0 < k → k < n → trp S (itU S v (j + k)) ≠ 0 → ptLt (itU S v j).1 (itU S v (j + k)).1 := fun k hk1 hk2 hk3 => by
  have := hl.low k hk1 hk2
  rw [← itU_add] at this
  exact this hk3
 have hA : ∀ x ∈ pcL S v 1 (j - 1), ptLt (itU S v j).1 x := fun x hx => by
  obtain ⟨k, hk1, hk2, rfl⟩ := mem_pcL.1 hx
  have e : itU S v (1 + k) = itU S v (j + (1 + k + n - j)) := by rw [show j + (1 + k + n - j) = 1 + k + n by omega, h.period]
  rw [e] at hk2 ⊢
  exact low _ (by omega) (by omega) hk2
 have hB : ∀ x ∈ pcL S v (j + 1) (n - j), ptLt (itU S v j).1 x := fun x hx => by
  obtain ⟨k, hk1, hk2, rfl⟩ := mem_pcL.1 hx
  rw [Nat.add_assoc] at hk2 ⊢
  exact low _ (by omega) (by omega) hk2
 refine ⟨j, h1, h2, hl, by rw [e1]; simp; omega, fun i hi => ?_⟩
 rw [e1] at hi ⊢
 rw [first_min hA hB hi, e2]
 simp
end
end Go.Proofs.YtdfpbhlnlkjjlaaGreat
