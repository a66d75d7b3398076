/- The reference's cuts: Xs and Ys. -/
import Derived.Test.YtamnaojheecopaaRefS
namespace Go.Proofs.Ytamnaojheecopaa
open Go.RowKit
set_option linter.unusedVariables false
set_option linter.unusedSimpArgs false

theorem cutsY_take (l : List R4) (m : Nat) (r : R4) (h : l[m]? = some r) : cutsY (l.take (m + 1)) = cutsY (l.take m) ++ [r.y0, r.y1] := by
  obtain ⟨hm, hp⟩ := List.getElem?_eq_some_iff.1 h
  rw [List.take_succ_eq_append_getElem hm, hp]
  simp [cutsY]
theorem cutsY_len (l : List R4) : (cutsY l).length = 2 * l.length := by
  induction l with
  | nil => rfl
  | cons p s ih => simp [cutsY] at ih ⊢; omega

set_option maxRecDepth 100000 in
set_option maxHeartbeats 1000000 in
theorem rXs_any {w : World} {va vb : Value} {a b : List R4} {B : Nat} (ha : RdK encR 4 w B va a) (hb : RdK encR 4 w B vb b) (hB : B ≤ w.heap.size) (la : a.length ≤ 10000000) (lb : b.length ≤ 10000000) :
    Calls Try.prog 49 #[va, vb] w fun e w' => ∃ vo, e = .returned vo ∧ w'.ownsRow w.heap.size 3 1 vo (srt (cutsL a ++ cutsL b)).length ((srt (cutsL a ++ cutsL b)).map iv) ∧ Below w.heap.size w w' := by
  obtain ⟨i1, gi, gz0, gz1, gz2⟩ := info_parts infoInt
  obtain ⟨A, c, rfl, hca⟩ := ha
  obtain ⟨A2, c2, rfl, hcb⟩ := hb
  have HA := hide hca
  have HB0 := hide hcb
  clear hca hcb
  go_enter Try.func49, Try.ntmps49
  go_wp2
  go_loopw [5, 6] (fun v i wr => ∃ m : Nat, m ≤ a.length ∧ i = .int .i64 m ∧ ∃ Av cv, v = .slice Av (cutsL (a.take m)).length cv ∧ Hid (wr.ownsRow w.heap.size 3 1 v (cutsL (a.take m)).length ((cutsL (a.take m)).map iv)) ∧ Hid (Below w.heap.size w wr)) (fun _ i _ => a.length - (intOf i).toNat)
  case atStart => exact ⟨0, Nat.zero_le _, rfl, none, 0, rfl, hide (World.ownsRow_nil _ _ _ _), hide (Below.refl _ _)⟩
  case round =>
    obtain ⟨m, hm, rfl, Av, cv, rfl, HO, HB⟩ := hrel
    by_cases hlt : m < a.length
    · obtain ⟨⟨x0, y0, x1, y1⟩, hp⟩ : ∃ p, a[m]? = some p := ⟨_, List.getElem?_eq_getElem hlt⟩
      obtain ⟨bk, off, rfl, hbk, k⟩ := HA.out (by intro e; rw [e] at hlt; simp at hlt)
      have dW : ∀ W, Below w.heap.size w W → W.cell? ⟨bk, off + m * 4, none⟩ = some (.int .i64 x0) ∧ W.cell? ⟨bk, off + m * 4 + 2, none⟩ = some (.int .i64 x1) := fun W hW =>
        ⟨(hW.cell (p := ⟨bk, _, none⟩) (by show bk < _; omega)).trans (k m _ hp 0 _ rfl), (hW.cell (p := ⟨bk, _, none⟩) (by show bk < _; omega)).trans (k m _ hp 2 _ rfl)⟩
      obtain ⟨d0, d2⟩ := dW wr HB.out
      have DW := hide dW
      have mz : (m : Int) < (a.length : Int) := by omega
      have HT : Hid (cutsL (a.take (m + 1)) = cutsL (a.take m) ++ [x0, x1]) := hide (by rw [cutsL_take a m _ hp])
      have hlen : (cutsL (a.take m)).length ≤ 400000000 := by rw [cutsL_len, List.length_take]; omega
      have hsz := HB.out.size
      have hbw : bk < wr.heap.size := by omega
      clear k hp dW
      generalize cutsL (a.take m) = E0 at *
      go_wp2
      refine wp_region_reads 11 (fun w' => w'.cell? ⟨bk, off + m * 4, none⟩ = some (.int .i64 x0) ∧ w'.cell? ⟨bk, off + m * 4 + 2, none⟩ = some (.int .i64 x1)) (by kernel_rfl) (by kernel_rfl) ⟨d0, d2⟩ ?_
      simp only [List.take_succ_cons, List.take_zero, List.drop_succ_cons, List.drop_zero]
      iterate 11
        refine ⟨?_, Or.inl ⟨by rfl, ?_⟩, ?_⟩
        rotate_left 1
        · intro w' hSw
          obtain ⟨z1, z2⟩ := hSw
          go_simp
          first | done | with_reducible rfl
        simp only [Act.put, List.setIfInBounds_toArray, List.set_cons_zero, List.set_cons_succ]
      simp only [wpReads]
      intro K hK
      go_simp
      refine hK _ _ (fun _ => ⟨by go_keep, by go_keep⟩) ?_
      clear hK K
      intro K hK
      refine step_append_lies _ rfl (.tmp 14) (.tmp 25) 75 rfl w.heap.size 3 i1 (.int .i64 0) 1 8 Try.underlying75 gi gz0 gz1 gz2 rfl (by decide) _ _ _ rfl (own_drew (World.ownsRow.alloc (w := wr) HO.out _)) ⟨wr.heap.size, 0, none⟩ 2 2 [.int .i64 x0, .int .i64 x1] rfl rfl (news_drew wr _ _ _ rfl) (ints_one rfl) (by omega) (by unfold maxLen; omega) (by omega) (by simp; omega) _ rfl ?_
      intro g9 cap9 w9 hown9 hgrow9 _ _
      have hb9 : Below w.heap.size w w9 := ((HB.out.alloc hsz _).drew).grown hgrow9 (by simp; omega) (fun q hq => (HO.out.lt q hq).1)
      have hx9 : E0.map iv ++ [.int .i64 x0, .int .i64 x1] = (E0 ++ [x0, x1]).map iv := by simp
      rw [hx9, ← HT.out] at hown9
      have HL9 : Hid (E0.length + 2 = (cutsL (a.take (m + 1))).length) := hide (by rw [HT.out]; simp)
      have HO9 := hide hown9
      have HB9 := hide hb9
      clear hown9 hgrow9 hx9 hb9
      refine hK _ _ (fun _ => DW.out _ HB9.out) ?_
      clear hK K
      intro K hK
      simp only [Act.put, List.setIfInBounds_toArray, List.set_cons_zero, List.set_cons_succ] at hK ⊢
      go_simp
      refine hK _ _ (fun h => absurd rfl h) ?_
      clear hK K
      refine NoPanic.normal ?_
      go_wp2
      go_roundw
      case rel => exact ⟨m + 1, by omega, by go_num, _, cap9, by rw [HL9.out], hide (by rw [← HL9.out]; exact own_n HO9.out rfl), HB9⟩
      case measure => simp [intOf]; omega
    · have mz : ¬ (m : Int) < (a.length : Int) := by omega
      have ht : a.take m = a := List.take_of_length_le (by omega)
      rw [ht] at HO ⊢
      clear ht
      go_wp2
      go_loopw [5, 7] (fun v i wr => ∃ m : Nat, m ≤ b.length ∧ i = .int .i64 m ∧ ∃ Av cv, v = .slice Av (cutsL a ++ cutsL (b.take m)).length cv ∧ Hid (wr.ownsRow w.heap.size 3 1 v (cutsL a ++ cutsL (b.take m)).length ((cutsL a ++ cutsL (b.take m)).map iv)) ∧ Hid (Below w.heap.size w wr)) (fun _ i _ => b.length - (intOf i).toNat)
      case atStart => exact ⟨0, Nat.zero_le _, rfl, Av, cv, by simp [cutsL], hide (by simpa [cutsL] using HO.out), HB⟩
      case round =>
        clear HO HB
        obtain ⟨m, hm, rfl, Av, cv, rfl, HO, HB⟩ := hrel
        by_cases hlt : m < b.length
        · obtain ⟨⟨x0, y0, x1, y1⟩, hp⟩ : ∃ p, b[m]? = some p := ⟨_, List.getElem?_eq_getElem hlt⟩
          obtain ⟨bk, off, rfl, hbk, k⟩ := HB0.out (by intro e; rw [e] at hlt; simp at hlt)
          have dW : ∀ W, Below w.heap.size w W → W.cell? ⟨bk, off + m * 4, none⟩ = some (.int .i64 x0) ∧ W.cell? ⟨bk, off + m * 4 + 2, none⟩ = some (.int .i64 x1) := fun W hW =>
            ⟨(hW.cell (p := ⟨bk, _, none⟩) (by show bk < _; omega)).trans (k m _ hp 0 _ rfl), (hW.cell (p := ⟨bk, _, none⟩) (by show bk < _; omega)).trans (k m _ hp 2 _ rfl)⟩
          obtain ⟨d0, d2⟩ := dW wr HB.out
          have DW := hide dW
          have mz : (m : Int) < (b.length : Int) := by omega
          have HT : Hid (cutsL a ++ cutsL (b.take (m + 1)) = cutsL a ++ cutsL (b.take m) ++ [x0, x1]) := hide (by rw [cutsL_take b m _ hp, List.append_assoc])
          have hlen : (cutsL a ++ cutsL (b.take m)).length ≤ 400000000 := by rw [List.length_append, cutsL_len, cutsL_len, List.length_take]; omega
          have hsz := HB.out.size
          have hbw : bk < wr.heap.size := by omega
          clear k hp dW
          generalize cutsL a ++ cutsL (b.take m) = E0 at *
          go_wp2
          refine wp_region_reads 11 (fun w' => w'.cell? ⟨bk, off + m * 4, none⟩ = some (.int .i64 x0) ∧ w'.cell? ⟨bk, off + m * 4 + 2, none⟩ = some (.int .i64 x1)) (by kernel_rfl) (by kernel_rfl) ⟨d0, d2⟩ ?_
          simp only [List.take_succ_cons, List.take_zero, List.drop_succ_cons, List.drop_zero]
          iterate 11
            refine ⟨?_, Or.inl ⟨by rfl, ?_⟩, ?_⟩
            rotate_left 1
            · intro w' hSw
              obtain ⟨z1, z2⟩ := hSw
              go_simp
              first | done | with_reducible rfl
            simp only [Act.put, List.setIfInBounds_toArray, List.set_cons_zero, List.set_cons_succ]
          simp only [wpReads]
          intro K hK
          go_simp
          refine hK _ _ (fun _ => ⟨by go_keep, by go_keep⟩) ?_
          clear hK K
          intro K hK
          refine step_append_lies _ rfl (.tmp 33) (.tmp 44) 75 rfl w.heap.size 3 i1 (.int .i64 0) 1 8 Try.underlying75 gi gz0 gz1 gz2 rfl (by decide) _ _ _ rfl (own_drew (World.ownsRow.alloc (w := wr) HO.out _)) ⟨wr.heap.size, 0, none⟩ 2 2 [.int .i64 x0, .int .i64 x1] rfl rfl (news_drew wr _ _ _ rfl) (ints_one rfl) (by omega) (by unfold maxLen; omega) (by omega) (by simp; omega) _ rfl ?_
          intro g9 cap9 w9 hown9 hgrow9 _ _
          have hb9 : Below w.heap.size w w9 := ((HB.out.alloc hsz _).drew).grown hgrow9 (by simp; omega) (fun q hq => (HO.out.lt q hq).1)
          have hx9 : E0.map iv ++ [.int .i64 x0, .int .i64 x1] = (E0 ++ [x0, x1]).map iv := by simp
          rw [hx9, ← HT.out] at hown9
          have HL9 : Hid (E0.length + 2 = (cutsL a ++ cutsL (b.take (m + 1))).length) := hide (by rw [HT.out]; simp)
          have HO9 := hide hown9
          have HB9 := hide hb9
          clear hown9 hgrow9 hx9 hb9
          refine hK _ _ (fun _ => DW.out _ HB9.out) ?_
          clear hK K
          intro K hK
          simp only [Act.put, List.setIfInBounds_toArray, List.set_cons_zero, List.set_cons_succ] at hK ⊢
          go_simp
          refine hK _ _ (fun h => absurd rfl h) ?_
          clear hK K
          refine NoPanic.normal ?_
          go_wp2
          go_roundw
          case rel => exact ⟨m + 1, by omega, by go_num, _, cap9, by rw [HL9.out], hide (by rw [← HL9.out]; exact own_n HO9.out rfl), HB9⟩
          case measure => simp [intOf]; omega
        · have mz : ¬ (m : Int) < (b.length : Int) := by omega
          have ht : b.take m = b := List.take_of_length_le (by omega)
          rw [ht] at HO ⊢
          clear ht
          have hsz := HB.out.size
          have hln : (cutsL a ++ cutsL b).length ≤ 100000000 := by rw [List.length_append, cutsL_len, cutsL_len]; omega
          obtain ⟨E, hE⟩ : ∃ E, cutsL a ++ cutsL b = E := ⟨_, rfl⟩
          rw [hE] at hln HO ⊢
          have HE := hide hE
          clear hE
          have hso := rSorted_any (own_rdI HO.out) (Nat.le_refl _) (by omega)
          have HSO := hide hso
          clear hso
          go_wp2_with (go_at_call 70; refine HSO.out.mono ?_; rintro e w3 ⟨vo, rfl, ho3, hb3⟩; have HO3 := hide ho3; have HB3 := hide hb3; clear ho3 hb3)
          go_ret
          exact ⟨vo, rfl, by rw [HE.out]; exact own_base HO3.out hsz, HB.out.trans (HB3.out.mono hsz)⟩

set_option maxRecDepth 100000 in
set_option maxHeartbeats 1000000 in
theorem rYs_any {w : World} {va vb : Value} {a b : List R4} {B : Nat} (ha : RdK encR 4 w B va a) (hb : RdK encR 4 w B vb b) (hB : B ≤ w.heap.size) (la : a.length ≤ 10000000) (lb : b.length ≤ 10000000) :
    Calls Try.prog 50 #[va, vb] w fun e w' => ∃ vo, e = .returned vo ∧ w'.ownsRow w.heap.size 3 1 vo (srt (cutsY a ++ cutsY b)).length ((srt (cutsY a ++ cutsY b)).map iv) ∧ Below w.heap.size w w' := by
  obtain ⟨i1, gi, gz0, gz1, gz2⟩ := info_parts infoInt
  obtain ⟨A, c, rfl, hca⟩ := ha
  obtain ⟨A2, c2, rfl, hcb⟩ := hb
  have HA := hide hca
  have HB0 := hide hcb
  clear hca hcb
  go_enter Try.func50, Try.ntmps50
  go_wp2
  go_loopw [5, 6] (fun v i wr => ∃ m : Nat, m ≤ a.length ∧ i = .int .i64 m ∧ ∃ Av cv, v = .slice Av (cutsY (a.take m)).length cv ∧ Hid (wr.ownsRow w.heap.size 3 1 v (cutsY (a.take m)).length ((cutsY (a.take m)).map iv)) ∧ Hid (Below w.heap.size w wr)) (fun _ i _ => a.length - (intOf i).toNat)
  case atStart => exact ⟨0, Nat.zero_le _, rfl, none, 0, rfl, hide (World.ownsRow_nil _ _ _ _), hide (Below.refl _ _)⟩
  case round =>
    obtain ⟨m, hm, rfl, Av, cv, rfl, HO, HB⟩ := hrel
    by_cases hlt : m < a.length
    · obtain ⟨⟨x0, y0, x1, y1⟩, hp⟩ : ∃ p, a[m]? = some p := ⟨_, List.getElem?_eq_getElem hlt⟩
      obtain ⟨bk, off, rfl, hbk, k⟩ := HA.out (by intro e; rw [e] at hlt; simp at hlt)
      have dW : ∀ W, Below w.heap.size w W → W.cell? ⟨bk, off + m * 4 + 1, none⟩ = some (.int .i64 y0) ∧ W.cell? ⟨bk, off + m * 4 + 3, none⟩ = some (.int .i64 y1) := fun W hW =>
        ⟨(hW.cell (p := ⟨bk, _, none⟩) (by show bk < _; omega)).trans (k m _ hp 1 _ rfl), (hW.cell (p := ⟨bk, _, none⟩) (by show bk < _; omega)).trans (k m _ hp 3 _ rfl)⟩
      obtain ⟨d0, d2⟩ := dW wr HB.out
      have DW := hide dW
      have mz : (m : Int) < (a.length : Int) := by omega
      have HT : Hid (cutsY (a.take (m + 1)) = cutsY (a.take m) ++ [y0, y1]) := hide (by rw [cutsY_take a m _ hp])
      have hlen : (cutsY (a.take m)).length ≤ 400000000 := by rw [cutsY_len, List.length_take]; omega
      have hsz := HB.out.size
      have hbw : bk < wr.heap.size := by omega
      clear k hp dW
      generalize cutsY (a.take m) = E0 at *
      go_wp2
      refine wp_region_reads 11 (fun w' => w'.cell? ⟨bk, off + m * 4 + 1, none⟩ = some (.int .i64 y0) ∧ w'.cell? ⟨bk, off + m * 4 + 3, none⟩ = some (.int .i64 y1)) (by kernel_rfl) (by kernel_rfl) ⟨d0, d2⟩ ?_
      simp only [List.take_succ_cons, List.take_zero, List.drop_succ_cons, List.drop_zero]
      iterate 11
        refine ⟨?_, Or.inl ⟨by rfl, ?_⟩, ?_⟩
        rotate_left 1
        · intro w' hSw
          obtain ⟨z1, z2⟩ := hSw
          go_simp
          first | done | with_reducible rfl
        simp only [Act.put, List.setIfInBounds_toArray, List.set_cons_zero, List.set_cons_succ]
      simp only [wpReads]
      intro K hK
      go_simp
      refine hK _ _ (fun _ => ⟨by go_keep, by go_keep⟩) ?_
      clear hK K
      intro K hK
      refine step_append_lies _ rfl (.tmp 14) (.tmp 25) 75 rfl w.heap.size 3 i1 (.int .i64 0) 1 8 Try.underlying75 gi gz0 gz1 gz2 rfl (by decide) _ _ _ rfl (own_drew (World.ownsRow.alloc (w := wr) HO.out _)) ⟨wr.heap.size, 0, none⟩ 2 2 [.int .i64 y0, .int .i64 y1] rfl rfl (news_drew wr _ _ _ rfl) (ints_one rfl) (by omega) (by unfold maxLen; omega) (by omega) (by simp; omega) _ rfl ?_
      intro g9 cap9 w9 hown9 hgrow9 _ _
      have hb9 : Below w.heap.size w w9 := ((HB.out.alloc hsz _).drew).grown hgrow9 (by simp; omega) (fun q hq => (HO.out.lt q hq).1)
      have hx9 : E0.map iv ++ [.int .i64 y0, .int .i64 y1] = (E0 ++ [y0, y1]).map iv := by simp
      rw [hx9, ← HT.out] at hown9
      have HL9 : Hid (E0.length + 2 = (cutsY (a.take (m + 1))).length) := hide (by rw [HT.out]; simp)
      have HO9 := hide hown9
      have HB9 := hide hb9
      clear hown9 hgrow9 hx9 hb9
      refine hK _ _ (fun _ => DW.out _ HB9.out) ?_
      clear hK K
      intro K hK
      simp only [Act.put, List.setIfInBounds_toArray, List.set_cons_zero, List.set_cons_succ] at hK ⊢
      go_simp
      refine hK _ _ (fun h => absurd rfl h) ?_
      clear hK K
      refine NoPanic.normal ?_
      go_wp2
      go_roundw
      case rel => exact ⟨m + 1, by omega, by go_num, _, cap9, by rw [HL9.out], hide (by rw [← HL9.out]; exact own_n HO9.out rfl), HB9⟩
      case measure => simp [intOf]; omega
    · have mz : ¬ (m : Int) < (a.length : Int) := by omega
      have ht : a.take m = a := List.take_of_length_le (by omega)
      rw [ht] at HO ⊢
      clear ht
      go_wp2
      go_loopw [5, 7] (fun v i wr => ∃ m : Nat, m ≤ b.length ∧ i = .int .i64 m ∧ ∃ Av cv, v = .slice Av (cutsY a ++ cutsY (b.take m)).length cv ∧ Hid (wr.ownsRow w.heap.size 3 1 v (cutsY a ++ cutsY (b.take m)).length ((cutsY a ++ cutsY (b.take m)).map iv)) ∧ Hid (Below w.heap.size w wr)) (fun _ i _ => b.length - (intOf i).toNat)
      case atStart => exact ⟨0, Nat.zero_le _, rfl, Av, cv, by simp [cutsY], hide (by simpa [cutsY] using HO.out), HB⟩
      case round =>
        clear HO HB
        obtain ⟨m, hm, rfl, Av, cv, rfl, HO, HB⟩ := hrel
        by_cases hlt : m < b.length
        · obtain ⟨⟨x0, y0, x1, y1⟩, hp⟩ : ∃ p, b[m]? = some p := ⟨_, List.getElem?_eq_getElem hlt⟩
          obtain ⟨bk, off, rfl, hbk, k⟩ := HB0.out (by intro e; rw [e] at hlt; simp at hlt)
          have dW : ∀ W, Below w.heap.size w W → W.cell? ⟨bk, off + m * 4 + 1, none⟩ = some (.int .i64 y0) ∧ W.cell? ⟨bk, off + m * 4 + 3, none⟩ = some (.int .i64 y1) := fun W hW =>
            ⟨(hW.cell (p := ⟨bk, _, none⟩) (by show bk < _; omega)).trans (k m _ hp 1 _ rfl), (hW.cell (p := ⟨bk, _, none⟩) (by show bk < _; omega)).trans (k m _ hp 3 _ rfl)⟩
          obtain ⟨d0, d2⟩ := dW wr HB.out
          have DW := hide dW
          have mz : (m : Int) < (b.length : Int) := by omega
          have HT : Hid (cutsY a ++ cutsY (b.take (m + 1)) = cutsY a ++ cutsY (b.take m) ++ [y0, y1]) := hide (by rw [cutsY_take b m _ hp, List.append_assoc])
          have hlen : (cutsY a ++ cutsY (b.take m)).length ≤ 400000000 := by rw [List.length_append, cutsY_len, cutsY_len, List.length_take]; omega
          have hsz := HB.out.size
          have hbw : bk < wr.heap.size := by omega
          clear k hp dW
          generalize cutsY a ++ cutsY (b.take m) = E0 at *
          go_wp2
          refine wp_region_reads 11 (fun w' => w'.cell? ⟨bk, off + m * 4 + 1, none⟩ = some (.int .i64 y0) ∧ w'.cell? ⟨bk, off + m * 4 + 3, none⟩ = some (.int .i64 y1)) (by kernel_rfl) (by kernel_rfl) ⟨d0, d2⟩ ?_
          simp only [List.take_succ_cons, List.take_zero, List.drop_succ_cons, List.drop_zero]
          iterate 11
            refine ⟨?_, Or.inl ⟨by rfl, ?_⟩, ?_⟩
            rotate_left 1
            · intro w' hSw
              obtain ⟨z1, z2⟩ := hSw
              go_simp
              first | done | with_reducible rfl
            simp only [Act.put, List.setIfInBounds_toArray, List.set_cons_zero, List.set_cons_succ]
          simp only [wpReads]
          intro K hK
          go_simp
          refine hK _ _ (fun _ => ⟨by go_keep, by go_keep⟩) ?_
          clear hK K
          intro K hK
          refine step_append_lies _ rfl (.tmp 33) (.tmp 44) 75 rfl w.heap.size 3 i1 (.int .i64 0) 1 8 Try.underlying75 gi gz0 gz1 gz2 rfl (by decide) _ _ _ rfl (own_drew (World.ownsRow.alloc (w := wr) HO.out _)) ⟨wr.heap.size, 0, none⟩ 2 2 [.int .i64 y0, .int .i64 y1] rfl rfl (news_drew wr _ _ _ rfl) (ints_one rfl) (by omega) (by unfold maxLen; omega) (by omega) (by simp; omega) _ rfl ?_
          intro g9 cap9 w9 hown9 hgrow9 _ _
          have hb9 : Below w.heap.size w w9 := ((HB.out.alloc hsz _).drew).grown hgrow9 (by simp; omega) (fun q hq => (HO.out.lt q hq).1)
          have hx9 : E0.map iv ++ [.int .i64 y0, .int .i64 y1] = (E0 ++ [y0, y1]).map iv := by simp
          rw [hx9, ← HT.out] at hown9
          have HL9 : Hid (E0.length + 2 = (cutsY a ++ cutsY (b.take (m + 1))).length) := hide (by rw [HT.out]; simp)
          have HO9 := hide hown9
          have HB9 := hide hb9
          clear hown9 hgrow9 hx9 hb9
          refine hK _ _ (fun _ => DW.out _ HB9.out) ?_
          clear hK K
          intro K hK
          simp only [Act.put, List.setIfInBounds_toArray, List.set_cons_zero, List.set_cons_succ] at hK ⊢
          go_simp
          refine hK _ _ (fun h => absurd rfl h) ?_
          clear hK K
          refine NoPanic.normal ?_
          go_wp2
          go_roundw
          case rel => exact ⟨m + 1, by omega, by go_num, _, cap9, by rw [HL9.out], hide (by rw [← HL9.out]; exact own_n HO9.out rfl), HB9⟩
          case measure => simp [intOf]; omega
        · have mz : ¬ (m : Int) < (b.length : Int) := by omega
          have ht : b.take m = b := List.take_of_length_le (by omega)
          rw [ht] at HO ⊢
          clear ht
          have hsz := HB.out.size
          have hln : (cutsY a ++ cutsY b).length ≤ 100000000 := by rw [List.length_append, cutsY_len, cutsY_len]; omega
          obtain ⟨E, hE⟩ : ∃ E, cutsY a ++ cutsY b = E := ⟨_, rfl⟩
          rw [hE] at hln HO ⊢
          have HE := hide hE
          clear hE
          have hso := rSorted_any (own_rdI HO.out) (Nat.le_refl _) (by omega)
          have HSO := hide hso
          clear hso
          go_wp2_with (go_at_call 70; refine HSO.out.mono ?_; rintro e w3 ⟨vo, rfl, ho3, hb3⟩; have HO3 := hide ho3; have HB3 := hide hb3; clear ho3 hb3)
          go_ret
          exact ⟨vo, rfl, by rw [HE.out]; exact own_base HO3.out hsz, HB.out.trans (HB3.out.mono hsz)⟩
end Go.Proofs.Ytamnaojheecopaa
