/- Texts laid together: GraG, StrEq, StrW, StrY, StrX, StrU, GraH, BlkS, SlabB. Lemmas for the statements of this seat; no condition. -/
import Derived.Test.YtikojiciilambaaGreatPk13
import Derived.Test.YtikojiciilambaaGreatPk1
import Derived.Test.YtikojiciilambaaGreatPk2
import Derived.Laws.StructEq
import Derived.Deep.QuietTactic
import Derived.BigQuiet
import Derived.Test.YtikojiciilambaaGreatPk4
import Derived.Test.YtikojiciilambaaGreatPk7
import Derived.Test.YtikojiciilambaaGreatPk6

/- The reference's networks: drawn, Same. -/
namespace Go.Proofs.YtikojiciilambaaGreat
open Go.RowKit Go.Maps
set_option linter.unusedVariables false
set_option linter.unusedSimpArgs false
set_option maxRecDepth 100000 in
set_option maxHeartbeats 8000000 in
theorem rdrawn34_any {w : World} {nv ev : Value} {N : List Pt} {E : List Ei} (hn : RdK encS 2 w w.heap.size nv N) (he : RdK encS 2 w w.heap.size ev E) (nl : N.length ≤ 400) (el : E.length ≤ 800) :
  Calls Tryz.prog 113 #[.agg #[nv, ev]] w fun e w' => DrawnQ w w' N E e ∧ Below w.heap.size w w' := by
 obtain ⟨An, cn, rfl, hn⟩ := hn
 obtain ⟨Ae, ce, rfl, he⟩ := he
 have HNR := hide hn
 have HER := hide he
 clear hn he
 obtain ⟨i2, fi, fz0, fz1, fz2⟩ := info_parts infoSg
 go_enter Tryz.func113, Tryz.ntmps113
 go_upto_region 1 with fail
 refine wp_name fun w0 hw0 => ?_
 have HS0 : Hid (Dst w w0 (.slice An N.length cn) (.slice Ae E.length ce)) := hide ⟨by rw [hw0]; exact (Below.refl _ _).alloc (Nat.le_refl _) _, by rw [hw0]; simp, by rw [hw0]; simp [go_sem], by rw [hw0]; simp [go_sem]⟩
 clear hw0
 go_wp2
 go_loopw [4, 5] (fun o i wr => ∃ (m : Nat) (Ao : Option Addr) (co : Nat), m ≤ E.length ∧ i = .int .i64 (m : Int) ∧ o = .slice Ao m co ∧ Hid (Dst w wr (.slice An N.length cn) (.slice Ae E.length ce)) ∧ Hid (wr.ownsRow (w.heap.size + 1) 106 4 (.slice Ao m co) m ((segsI N (E.take m)).flatMap encSg)) ∧ Hid (∀ e ∈ E.take m, okEi N e)) (fun _ i _ => E.length - (intOf i).toNat)
 case atStart => exact ⟨0, none, 0, Nat.zero_le _, rfl, rfl, HS0, hide (World.ownsRow_nil _ _ _ _), hide (by simp)⟩
 case round =>
  clear HS0
  obtain ⟨m, Ao, co, hm, rfl, rfl, HST, HO, HOK⟩ := hrel
  have cE := HST.out.2.2.2
  have hsE := HST.out.2.1
  by_cases hlt : m < E.length
  ·obtain ⟨⟨i, j⟩, hs⟩ : ∃ p, E[m]? = some p := ⟨_, List.getElem?_eq_getElem hlt⟩
   obtain ⟨b, o, rfl, hbl, k⟩ := HER.out (by intro e; rw [e] at hlt; simp at hlt)
   have hb := HST.out.1
   have d0 : wr.cell? ⟨b, o + m * 2, none⟩ = some (.int .i64 i) := (hb.cell (p := ⟨b, _, none⟩) hbl).trans (k m _ hs 0 _ rfl)
   have d1 : wr.cell? ⟨b, o + m * 2 + 1, none⟩ = some (.int .i64 j) := (hb.cell (p := ⟨b, _, none⟩) hbl).trans (k m _ hs 1 _ rfl)
   have mz : (m : Int) < (E.length : Int) := by omega
   have HS := hide hs
   clear k hs hb
   go_upto_region 6 with fail
   refine wp_name fun w5 hw5 => ?_
   obtain ⟨g5, hg5⟩ : ∃ g, g = wr.heap.size := ⟨_, rfl⟩
   have hb5 : Below wr.heap.size wr w5 := by
    rw [hw5]
    repeat (first | with_reducible exact Below.refl _ _ | with_reducible refine Below.setCell ?_ (by first | (simp; done) | (simp; omega)) _ | with_reducible refine Below.alloc ?_ (by first | omega | (simp; omega) | simp) _)
   have e0 : w5.cell? ⟨g5, 0, none⟩ = some (.int .i64 i) := by rw [hw5, hg5]; simp [go_sem]
   have e1 : w5.cell? ⟨g5, 1, none⟩ = some (.int .i64 j) := by rw [hw5, hg5]; simp [go_sem]
   have hz5 : w5.heap.size = g5 + 1 := by rw [hw5, hg5]; simp
   have hwg : w.heap.size < g5 := by rw [hg5]; exact HST.out.2.1
   have HS5 := hide (HST.out.below hb5)
   have HO5 := hide (HO.out.kept (below_grow hb5) own_none_or)
   rw [← hg5]
   have c0 := HS5.out.2.2.1
   have c1 := HS5.out.2.2.2
   have hz0 : w.heap.size < w5.heap.size := HS5.out.2.1
   clear hw5 hb5 hg5 d0 d1 HST HO cE hsE
   by_cases t1 : i < 0
   ·have t1z : decide (i < 0) = true := decide_eq_true t1
    have HNE : Hid (¬ ∀ e ∈ E, okEi N e) := hide (fun h => by
     obtain ⟨⟨h1, h2, h3, h4⟩, _⟩ := h _ (List.mem_of_getElem? HS.out)
     simp only at h1 h2 h3 h4
     omega)
    clear t1
    go_wp2
    go_ret2
    exact ⟨⟨_, _, rfl, fun h => absurd h HNE.out, fun _ => rfl⟩, HS5.out.1⟩
   ·have t1z : decide (i < 0) = false := decide_eq_false t1
    by_cases t2 : (N.length : Int) ≤ i
    ·have t2z : decide ((N.length : Int) ≤ i) = true := decide_eq_true t2
     have HNE : Hid (¬ ∀ e ∈ E, okEi N e) := hide (fun h => by
      obtain ⟨⟨h1, h2, h3, h4⟩, _⟩ := h _ (List.mem_of_getElem? HS.out)
      simp only at h1 h2 h3 h4
      omega)
     clear t1 t2
     go_wp2
     go_ret2
     exact ⟨⟨_, _, rfl, fun h => absurd h HNE.out, fun _ => rfl⟩, HS5.out.1⟩
    ·have t2z : decide ((N.length : Int) ≤ i) = false := decide_eq_false t2
     by_cases t3 : j < 0
     ·have t3z : decide (j < 0) = true := decide_eq_true t3
      have HNE : Hid (¬ ∀ e ∈ E, okEi N e) := hide (fun h => by
       obtain ⟨⟨h1, h2, h3, h4⟩, _⟩ := h _ (List.mem_of_getElem? HS.out)
       simp only at h1 h2 h3 h4
       omega)
      clear t1 t2 t3
      go_wp2
      go_ret2
      exact ⟨⟨_, _, rfl, fun h => absurd h HNE.out, fun _ => rfl⟩, HS5.out.1⟩
     have t3z : decide (j < 0) = false := decide_eq_false t3
     by_cases t4 : (N.length : Int) ≤ j
     ·have t4z : decide ((N.length : Int) ≤ j) = true := decide_eq_true t4
      have HNE : Hid (¬ ∀ e ∈ E, okEi N e) := hide (fun h => by
       obtain ⟨⟨h1, h2, h3, h4⟩, _⟩ := h _ (List.mem_of_getElem? HS.out)
       simp only at h1 h2 h3 h4
       omega)
      clear t1 t2 t3 t4
      go_wp2
      go_ret2
      exact ⟨⟨_, _, rfl, fun h => absurd h HNE.out, fun _ => rfl⟩, HS5.out.1⟩
     have t4z : decide ((N.length : Int) ≤ j) = false := decide_eq_false t4
     obtain ⟨I, rfl⟩ : ∃ I : Nat, i = (I : Int) := ⟨i.toNat, by omega⟩
     obtain ⟨J, rfl⟩ : ∃ J : Nat, j = (J : Int) := ⟨j.toNat, by omega⟩
     have hI : I < N.length := by omega
     have hJ : J < N.length := by omega
     obtain ⟨⟨px, py⟩, hp⟩ : ∃ p, N[I]? = some p := ⟨_, List.getElem?_eq_getElem hI⟩
     obtain ⟨⟨qx, qy⟩, hq⟩ : ∃ p, N[J]? = some p := ⟨_, List.getElem?_eq_getElem hJ⟩
     obtain ⟨bn, on, rfl, hbn, kn⟩ := HNR.out (by intro e; rw [e] at hI; simp at hI)
     have f0 : w5.cell? ⟨bn, on + I * 2, none⟩ = some (.int .i64 px) := (HS5.out.1.cell (p := ⟨bn, _, none⟩) hbn).trans (kn I _ hp 0 _ rfl)
     have f1 : w5.cell? ⟨bn, on + I * 2 + 1, none⟩ = some (.int .i64 py) := (HS5.out.1.cell (p := ⟨bn, _, none⟩) hbn).trans (kn I _ hp 1 _ rfl)
     have f2 : w5.cell? ⟨bn, on + J * 2, none⟩ = some (.int .i64 qx) := (HS5.out.1.cell (p := ⟨bn, _, none⟩) hbn).trans (kn J _ hq 0 _ rfl)
     have f3 : w5.cell? ⟨bn, on + J * 2 + 1, none⟩ = some (.int .i64 qy) := (HS5.out.1.cell (p := ⟨bn, _, none⟩) hbn).trans (kn J _ hq 1 _ rfl)
     have HSG : Hid (sgI N ((I : Int), (J : Int)) = ⟨px, py, qx, qy⟩) := hide (by
      unfold sgI nd
      simp only [Int.toNat_natCast, List.getD_eq_getElem?_getD, hp, hq, Option.getD_some])
     have iz : (I : Int) < (N.length : Int) := by omega
     have jz : (J : Int) < (N.length : Int) := by omega
     clear t1 t2 t3 t4 hp hq kn
     go_upto_region 8 with fail
     refine wp_region_mix [0, 1, 2, 3, 4, 5, 6, 7, 8, 9, 10, 11, 12] [13, 14] (fun w' => (w'.cell? ⟨w.heap.size, 0, none⟩ = some (.slice (some ⟨bn, on, none⟩) N.length cn)) ∧ (w'.cell? ⟨g5, 0, none⟩ = some (.int .i64 (I : Int)) ∧ w'.cell? ⟨g5, 1, none⟩ = some (.int .i64 (J : Int))) ∧ (w'.cell? ⟨bn, on + I * 2, none⟩ = some (.int .i64 px) ∧ w'.cell? ⟨bn, on + I * 2 + 1, none⟩ = some (.int .i64 py)) ∧ (w'.cell? ⟨bn, on + J * 2, none⟩ = some (.int .i64 qx) ∧ w'.cell? ⟨bn, on + J * 2 + 1, none⟩ = some (.int .i64 qy))) (by kernel_rfl) (by kernel_rfl) ⟨c0, ⟨e0, e1⟩, ⟨f0, f1⟩, f2, f3⟩ ?_
     simp only [List.map_cons, List.map_nil, opAt, List.getElem?_cons_succ, List.getElem?_cons_zero, Option.getD_some]
     iterate 13
      refine ⟨?_, Or.inl ⟨by rfl, ?_⟩, ?_⟩
      rotate_left 1
      ·intro w' hSw
       obtain ⟨y0, ⟨y1, y2⟩, ⟨y3, y4⟩, y5, y6⟩ := hSw
       go_simp
       first | done | with_reducible rfl
      simp only [Act.put, List.setIfInBounds_toArray, List.set_cons_zero, List.set_cons_succ]
     simp only [wpReads]
     intro K hK
     simp only [Act.put, List.setIfInBounds_toArray, List.set_cons_zero, List.set_cons_succ] at hK ⊢
     go_simp
     refine hK _ _ (fun _ => ⟨by go_keep, ⟨by go_keep, by go_keep⟩, ⟨by go_keep, by go_keep⟩, by go_keep, by go_keep⟩) ?_
     clear hK K
     intro K hK
     simp only [Act.put, List.setIfInBounds_toArray, List.set_cons_zero, List.set_cons_succ] at hK ⊢
     go_simp
     refine hK _ _ (fun h => absurd rfl h) ?_
     clear hK K
     refine NoPanic.normal ?_
     go_upto_region 9 with fail
     refine wp_name fun w7 hw7 => ?_
     have hb7 : Below w5.heap.size w5 w7 := by
      rw [hw7]
      repeat (first | with_reducible exact Below.refl _ _ | with_reducible refine Below.drew ?_ | with_reducible refine Below.setCell ?_ (by first | (simp; done) | (simp; omega)) _ | with_reducible refine Below.alloc ?_ (by first | omega | (simp; omega) | simp) _)
     have z0 : w7.cell? ⟨g5 + 1, 0, none⟩ = some (.int .i64 px) := by rw [hw7, ← hz5]; simp [go_sem]
     have z1 : w7.cell? ⟨g5 + 1, 1, none⟩ = some (.int .i64 py) := by rw [hw7, ← hz5]; simp [go_sem]
     have z2 : w7.cell? ⟨g5 + 1, 2, none⟩ = some (.int .i64 qx) := by rw [hw7, ← hz5]; simp [go_sem]
     have z3 : w7.cell? ⟨g5 + 1, 3, none⟩ = some (.int .i64 qy) := by rw [hw7, ← hz5]; simp [go_sem]
     have h7 : g5 + 1 < w7.heap.size := by rw [hw7, ← hz5]; simp
     have HS7 := hide (HS5.out.below hb7)
     have HO7 := hide (HO5.out.kept (below_grow hb7) own_none_or)
     clear hw7 hb7 c0 c1 e0 e1 f0 f1 f2 f3 HS5 HO5
     go_wp2_with (fail)
     refine (rSegValid_any ⟨px, py, qx, qy⟩ _).mono ?_
     rintro e w8 ⟨rfl, hb8⟩
     have y0 := (hb8.cell (p := ⟨g5 + 1, 0, none⟩) h7).trans z0
     have y1 := (hb8.cell (p := ⟨g5 + 1, 1, none⟩) h7).trans z1
     have y2 := (hb8.cell (p := ⟨g5 + 1, 2, none⟩) h7).trans z2
     have y3 := (hb8.cell (p := ⟨g5 + 1, 3, none⟩) h7).trans z3
     have HS8 := hide (HS7.out.below hb8)
     have HO8 := hide (HO7.out.kept (below_grow hb8) own_none_or)
     have hw8 : w.heap.size + 1 ≤ w8.heap.size := HS8.out.2.1
     clear hb8 z0 z1 z2 z3 h7 HS7 HO7
     by_cases hv : okSg ⟨px, py, qx, qy⟩
     ·rw [decide_eq_true hv]
      have HOE : Hid (okEi N ((I : Int), (J : Int))) := hide (by
       refine ⟨⟨by simp only; omega, by simp only; omega, by simp only; omega, by simp only; omega⟩, ?_⟩
       rw [HSG.out]; exact hv)
      clear hv
      go_wp2_with (at_builtin; go_loud (refine wpList_append_lies _ rfl (.tmp 60) (.tmp 62) 102 rfl (w.heap.size + 1) 106 i2 (.agg #[.int .i64 0, .int .i64 0, .int .i64 0, .int .i64 0]) 4 32 Tryz.underlying102 fi fz0 fz1 fz2 rfl (by decide) _ m _ rfl (World.ownsRow.alloc HO8.out _) ⟨w8.heap.size, 0, none⟩ 1 1 [.int .i64 px, .int .i64 py, .int .i64 qx, .int .i64 qy] rfl rfl (news_new w8 _ _ _ (by simp)) (ints_one rfl) (by omega) (by unfold maxLen; omega) (by omega) (by simp; omega) _ rfl ?_))
      intro g9 cap9 w9 hown9 hgrow9 hor9 hlt9
      have hal : Below w8.heap.size w8 (w8.alloc (.cells #[.int .i64 px, .int .i64 py, .int .i64 qx, .int .i64 qy] 106)) := (Below.refl _ _).alloc (Nat.le_refl _) _
      have ho' : ∀ q, (Value.slice Ao m co).ownBlock = some q → w.heap.size + 1 ≤ q := fun q hq => (HO8.out.lt q hq).1
      have hnn : some w.heap.size ≠ (Value.slice Ao m co).ownBlock := fun e => by have := ho' _ e.symm; omega
      have HSa := HS8.out.below hal
      have HS9 : Hid (Dst w w9 (.slice (some ⟨bn, on, none⟩) N.length cn) (.slice (some ⟨b, o, none⟩) E.length ce)) := hide ⟨HSa.1.grown hgrow9 (Nat.le_of_lt HSa.2.1) (fun q hq => by have := ho' q hq; omega), Nat.lt_of_lt_of_le HSa.2.1 hgrow9.size, (cell_grow hgrow9 HSa.2.1 hnn).trans HSa.2.2.1, (cell_grow hgrow9 HSa.2.1 hnn).trans HSa.2.2.2⟩
      have hx9 : (segsI N (E.take m)).flatMap encSg ++ [.int .i64 px, .int .i64 py, .int .i64 qx, .int .i64 qy] = (segsI N (E.take (m + 1))).flatMap encSg := by
       rw [List.take_add_one, HS.out, Option.toList_some]
       unfold segsI
       rw [List.map_append, List.flatMap_append, List.map_cons, List.map_nil, HSG.out]
       simp [encSg]
      rw [hx9] at hown9
      have HO9 := hide hown9
      have HOK9 : Hid (∀ e ∈ E.take (m + 1), okEi N e) := hide (by
       intro q hq
       rw [List.take_add_one, HS.out, Option.toList_some, List.mem_append, List.mem_singleton] at hq
       rcases hq with hq | rfl
       ·exact HOK.out q hq
       ·exact HOE.out)
      clear hown9 hgrow9 hor9 hlt9 hal ho' hnn HSa hx9 y0 y1 y2 y3 HS8 HO8
      go_wp2
      go_roundw
      case rel => exact ⟨m + 1, _, cap9, by omega, by go_num, rfl, HS9, HO9, HOK9⟩
      case measure => simp [intOf]; omega
     ·rw [decide_eq_false hv]
      have HNE : Hid (¬ ∀ e ∈ E, okEi N e) := hide (fun h => hv (by
       have := (h _ (List.mem_of_getElem? HS.out)).2
       rwa [HSG.out] at this))
      clear hv
      go_wp2
      go_ret2
      exact ⟨⟨_, _, rfl, fun h => absurd h HNE.out, fun _ => rfl⟩, HS8.out.1⟩
  ·have mz : ¬ (m : Int) < (E.length : Int) := by omega
   have ht : E.take m = E := List.take_of_length_le (by omega)
   rw [ht] at HO HOK
   obtain rfl : m = E.length := by omega
   go_wp2
   go_ret2
   exact ⟨⟨_, _, rfl, fun _ => ⟨rfl, own_base HO.out (Nat.le_succ _)⟩, fun h => absurd HOK.out h⟩, HST.out.1⟩
theorem take_eq_succ {α : Type} {a b : List α} {m : Nat} {x : α} (h : a.take m = b.take m) (ha : a[m]? = some x) (hb : b[m]? = some x) : a.take (m + 1) = b.take (m + 1) := by rw [List.take_add_one, List.take_add_one, h, ha, hb]
set_option maxRecDepth 100000 in
set_option maxHeartbeats 8000000 in
theorem rSame34_any {w : World} {n1 e1 n2 e2 : Value} {N1 N2 : List Pt} {E1 E2 : List Ei} (h1 : RdK encS 2 w w.heap.size n1 N1) (h2 : RdK encS 2 w w.heap.size e1 E1) (h3 : RdK encS 2 w w.heap.size n2 N2) (h4 : RdK encS 2 w w.heap.size e2 E2) (l1 : N1.length ≤ 100000000) (l2 : E1.length ≤ 100000000) :
  Calls Tryz.prog 120 #[.agg #[n1, e1], .agg #[n2, e2]] w fun e w' => e = .returned (.bool (decide (N1 = N2) && decide (E1 = E2))) ∧ Below w.heap.size w w' := by
 have K1 := hide h1
 have K2 := hide h2
 have K3 := hide h3
 have K4 := hide h4
 obtain ⟨A1, c1, rfl, _⟩ := h1
 obtain ⟨A2, c2, rfl, _⟩ := h2
 obtain ⟨A3, c3, rfl, _⟩ := h3
 obtain ⟨A4, c4, rfl, _⟩ := h4
 have gP : Tryz.prog.eqGuardType Tryz.prog.depth 53 = false := by kernel_rfl
 have gE : Tryz.prog.eqGuardType Tryz.prog.depth 120 = false := by kernel_rfl
 go_enter Tryz.func120, Tryz.ntmps120
 go_upto_region 1 with fail
 refine wp_name fun w0 hw0 => ?_
 have hb0 : Below w.heap.size w w0 := by
  rw [hw0]
  exact ((Below.refl _ _).alloc (Nat.le_refl _) _).alloc (by simp) _
 have d0 : w0.cell? ⟨w.heap.size, 0, none⟩ = some (.slice A1 N1.length c1) := by rw [hw0]; simp [go_sem]
 have d1 : w0.cell? ⟨w.heap.size, 1, none⟩ = some (.slice A2 E1.length c2) := by rw [hw0]; simp [go_sem]
 have d2 : w0.cell? ⟨w.heap.size + 1, 0, none⟩ = some (.slice A3 N2.length c3) := by rw [hw0]; simp [go_sem]
 have d3 : w0.cell? ⟨w.heap.size + 1, 1, none⟩ = some (.slice A4 E2.length c4) := by rw [hw0]; simp [go_sem]
 have hs0 : w.heap.size + 1 < w0.heap.size := by rw [hw0]; simp
 have hs1 : w.heap.size < w0.heap.size := by omega
 have HB0 := hide hb0
 have HBX : Hid (∀ W, Below w0.heap.size w0 W → (W.cell? ⟨w.heap.size, 0, none⟩ = some (.slice A1 N1.length c1) ∧ W.cell? ⟨w.heap.size, 1, none⟩ = some (.slice A2 E1.length c2) ∧ W.cell? ⟨w.heap.size + 1, 0, none⟩ = some (.slice A3 N2.length c3) ∧ W.cell? ⟨w.heap.size + 1, 1, none⟩ = some (.slice A4 E2.length c4)) ∧ w.heap.size + 1 < W.heap.size ∧ w.heap.size < W.heap.size) := hide (fun W hb =>
  ⟨⟨(hb.cell (p := ⟨_, 0, none⟩) hs1).trans d0, (hb.cell (p := ⟨_, 1, none⟩) hs1).trans d1, (hb.cell (p := ⟨_, 0, none⟩) hs0).trans d2, (hb.cell (p := ⟨_, 1, none⟩) hs0).trans d3⟩, Nat.lt_of_lt_of_le hs0 hb.size, Nat.lt_of_lt_of_le hs1 hb.size⟩)
 clear hw0 hb0
 by_cases q1 : N1.length = N2.length
 ·have z1 : ((N1.length : Int) != (N2.length : Int)) = false := by simp; omega
  by_cases q2 : E1.length = E2.length
  ·have z2 : ((E1.length : Int) != (E2.length : Int)) = false := by simp; omega
   have HQ1 := hide q1
   have HQ2 := hide q2
   clear q1 q2
   go_wp2
   clear d0 d1 d2 d3 hs0 hs1 z1 z2
   go_loopw [5] (fun i wr => ∃ m : Nat, m ≤ N1.length ∧ i = .int .i64 (m : Int) ∧ Hid (N1.take m = N2.take m) ∧ Hid (Below w0.heap.size w0 wr)) (fun i _ => N1.length - (intOf i).toNat)
   case atStart => exact ⟨0, Nat.zero_le _, rfl, hide (by simp), hide (Below.refl _ _)⟩
   case round =>
    obtain ⟨m, hm, rfl, HT, HBR⟩ := hrel
    obtain ⟨⟨d0, d1, d2, d3⟩, hs0, hs1⟩ := HBX.out _ HBR.out
    have hll := HQ1.out
    by_cases hlt : m < N1.length
    ·have mz : (m : Int) < (N1.length : Int) := by omega
     have mz2 : (m : Int) < (N2.length : Int) := by omega
     have m0 : (0 : Int) ≤ (m : Int) := by omega
     obtain ⟨⟨px, py⟩, hp⟩ : ∃ p, N1[m]? = some p := ⟨_, List.getElem?_eq_getElem hlt⟩
     obtain ⟨⟨qx, qy⟩, hq⟩ : ∃ p, N2[m]? = some p := ⟨_, List.getElem?_eq_getElem (by omega)⟩
     obtain ⟨b, o, rfl, hb, e0, e1⟩ := rdS_get K1.out hp
     obtain ⟨b2, o2, rfl, hb2, f0, f1⟩ := rdS_get K3.out hq
     have HBW := hide (HB0.out.trans (HBR.out.mono HB0.out.size))
     replace e0 := (HBW.out.cell (p := ⟨b, _, none⟩) hb).trans e0
     replace e1 := (HBW.out.cell (p := ⟨b, _, none⟩) hb).trans e1
     replace f0 := (HBW.out.cell (p := ⟨b2, _, none⟩) hb2).trans f0
     replace f1 := (HBW.out.cell (p := ⟨b2, _, none⟩) hb2).trans f1
     have hbr : b < wr.heap.size := Nat.lt_of_lt_of_le hb HBW.out.size
     have hbr2 : b2 < wr.heap.size := Nat.lt_of_lt_of_le hb2 HBW.out.size
     have HP := hide hp
     have HQQ := hide hq
     clear hp hq hll hlt
     by_cases x1 : px = qx
     ·have y1 : (px == qx) = true := by simpa using x1
      by_cases x2 : py = qy
      ·have y2 : (py == qy) = true := by simpa using x2
       have HT2 := hide (take_eq_succ HT.out HP.out (by rw [HQQ.out, x1, x2]))
       clear x1 x2
       go_upto_region 6 with fail
       go_quiet (fail)
       refine name_exit fun W hW => ?_
       have HBZ : Hid (Below w0.heap.size w0 W) := hide (by rw [hW]; exact below_drewN HBR.out _)
       clear hW e0 e1 f0 f1 hbr hbr2 d0 d1 d2 d3 hs0 hs1
       go_wp2
       go_roundw
       case rel => exact ⟨m + 1, by omega, by go_num, HT2, HBZ⟩
       case measure => simp [intOf]; omega
      ·have y2 : (py == qy) = false := by simpa using x2
       have HN : Hid (¬ N1 = N2) := hide (fun e => by
        have h := HP.out
        rw [e, HQQ.out] at h
        injection h with h
        injection h with h h'
        exact x2 h'.symm)
       clear x1 x2
       go_upto_region 6 with fail
       go_quiet (fail)
       refine name_exit fun W hW => ?_
       have HBZ : Hid (Below w0.heap.size w0 W) := hide (by rw [hW]; exact below_drewN HBR.out _)
       clear hW e0 e1 f0 f1 hbr hbr2 d0 d1 d2 d3 hs0 hs1
       go_wp2
       go_ret
       exact ⟨ret_eq (bool_eq (by rw [decide_eq_false HN.out]; simp)), HB0.out.trans (HBZ.out.mono HB0.out.size)⟩
     ·have y1 : (px == qx) = false := by simpa using x1
      have HN : Hid (¬ N1 = N2) := hide (fun e => by
       have h := HP.out
       rw [e, HQQ.out] at h
       injection h with h
       injection h with h h'
       exact x1 h.symm)
      clear x1
      go_upto_region 6 with fail
      go_quiet (fail)
      refine name_exit fun W hW => ?_
      have HBZ : Hid (Below w0.heap.size w0 W) := hide (by rw [hW]; exact below_drewN HBR.out _)
      clear hW e0 e1 f0 f1 hbr hbr2 d0 d1 d2 d3 hs0 hs1
      go_wp2
      go_ret
      exact ⟨ret_eq (bool_eq (by rw [decide_eq_false HN.out]; simp)), HB0.out.trans (HBZ.out.mono HB0.out.size)⟩
    ·have mz : ¬ (m : Int) < (N1.length : Int) := by omega
     obtain rfl : m = N1.length := by omega
     have HEN : Hid (N1 = N2) := hide (by
      have h := HT.out
      rwa [List.take_length, hll, List.take_length] at h)
     clear hll HT
     go_wp2
     clear d0 d1 d2 d3 hs0 hs1
     go_loopw [6] (fun i wr => ∃ m : Nat, m ≤ E1.length ∧ i = .int .i64 (m : Int) ∧ Hid (E1.take m = E2.take m) ∧ Hid (Below w0.heap.size w0 wr)) (fun i _ => E1.length - (intOf i).toNat)
     case atStart => exact ⟨0, Nat.zero_le _, rfl, hide (by simp), HBR⟩
     case round =>
      obtain ⟨m, hm, rfl, HT, HBR⟩ := hrel
      obtain ⟨⟨d0, d1, d2, d3⟩, hs0, hs1⟩ := HBX.out _ HBR.out
      have hll := HQ2.out
      by_cases hlt : m < E1.length
      ·have mz : (m : Int) < (E1.length : Int) := by omega
       have mz2 : (m : Int) < (E2.length : Int) := by omega
       have m0 : (0 : Int) ≤ (m : Int) := by omega
       obtain ⟨⟨px, py⟩, hp⟩ : ∃ p, E1[m]? = some p := ⟨_, List.getElem?_eq_getElem hlt⟩
       obtain ⟨⟨qx, qy⟩, hq⟩ : ∃ p, E2[m]? = some p := ⟨_, List.getElem?_eq_getElem (by omega)⟩
       obtain ⟨b, o, rfl, hb, e0, e1⟩ := rdS_get K2.out hp
       obtain ⟨b2, o2, rfl, hb2, f0, f1⟩ := rdS_get K4.out hq
       have HBW := hide (HB0.out.trans (HBR.out.mono HB0.out.size))
       replace e0 := (HBW.out.cell (p := ⟨b, _, none⟩) hb).trans e0
       replace e1 := (HBW.out.cell (p := ⟨b, _, none⟩) hb).trans e1
       replace f0 := (HBW.out.cell (p := ⟨b2, _, none⟩) hb2).trans f0
       replace f1 := (HBW.out.cell (p := ⟨b2, _, none⟩) hb2).trans f1
       have hbr : b < wr.heap.size := Nat.lt_of_lt_of_le hb HBW.out.size
       have hbr2 : b2 < wr.heap.size := Nat.lt_of_lt_of_le hb2 HBW.out.size
       have HP := hide hp
       have HQQ := hide hq
       clear hp hq hll hlt
       by_cases x1 : px = qx
       ·have y1 : (px == qx) = true := by simpa using x1
        by_cases x2 : py = qy
        ·have y2 : (py == qy) = true := by simpa using x2
         have HT2 := hide (take_eq_succ HT.out HP.out (by rw [HQQ.out, x1, x2]))
         clear x1 x2
         go_upto_region 11 with fail
         go_quiet (fail)
         refine name_exit fun W hW => ?_
         have HBZ : Hid (Below w0.heap.size w0 W) := hide (by rw [hW]; exact below_drewN HBR.out _)
         clear hW e0 e1 f0 f1 hbr hbr2 d0 d1 d2 d3 hs0 hs1
         go_wp2
         go_roundw
         case rel => exact ⟨m + 1, by omega, by go_num, HT2, HBZ⟩
         case measure => simp [intOf]; omega
        ·have y2 : (py == qy) = false := by simpa using x2
         have HN : Hid (¬ E1 = E2) := hide (fun e => by
          have h := HP.out
          rw [e, HQQ.out] at h
          injection h with h
          injection h with h h'
          exact x2 h'.symm)
         clear x1 x2
         go_upto_region 11 with fail
         go_quiet (fail)
         refine name_exit fun W hW => ?_
         have HBZ : Hid (Below w0.heap.size w0 W) := hide (by rw [hW]; exact below_drewN HBR.out _)
         clear hW e0 e1 f0 f1 hbr hbr2 d0 d1 d2 d3 hs0 hs1
         go_wp2
         go_ret
         exact ⟨ret_eq (bool_eq (by rw [decide_eq_false HN.out]; simp)), HB0.out.trans (HBZ.out.mono HB0.out.size)⟩
       ·have y1 : (px == qx) = false := by simpa using x1
        have HN : Hid (¬ E1 = E2) := hide (fun e => by
         have h := HP.out
         rw [e, HQQ.out] at h
         injection h with h
         injection h with h h'
         exact x1 h.symm)
        clear x1
        go_upto_region 11 with fail
        go_quiet (fail)
        refine name_exit fun W hW => ?_
        have HBZ : Hid (Below w0.heap.size w0 W) := hide (by rw [hW]; exact below_drewN HBR.out _)
        clear hW e0 e1 f0 f1 hbr hbr2 d0 d1 d2 d3 hs0 hs1
        go_wp2
        go_ret
        exact ⟨ret_eq (bool_eq (by rw [decide_eq_false HN.out]; simp)), HB0.out.trans (HBZ.out.mono HB0.out.size)⟩
      ·have mz : ¬ (m : Int) < (E1.length : Int) := by omega
       obtain rfl : m = E1.length := by omega
       have HEE : Hid (E1 = E2) := hide (by
        have h := HT.out
        rwa [List.take_length, hll, List.take_length] at h)
       clear hll HT
       go_wp2
       clear d0 d1 d2 d3 hs0 hs1
       go_ret
       exact ⟨ret_eq (bool_eq (by rw [decide_eq_true HEN.out, decide_eq_true HEE.out]; rfl)), HB0.out.trans (HBR.out.mono HB0.out.size)⟩
  ·have z2 : ((E1.length : Int) != (E2.length : Int)) = true := by simp; omega
   have HF : Hid (decide (N1 = N2) && decide (E1 = E2)) = Hid (decide (N1 = N2) && decide (E1 = E2)) := rfl
   have HN : Hid (¬ E1 = E2) := hide (fun e => q2 (by rw [e]))
   clear q1 q2 HF
   go_wp2
   go_ret
   exact ⟨ret_eq (bool_eq (by rw [decide_eq_false HN.out]; simp)), HB0.out⟩
 ·have z1 : ((N1.length : Int) != (N2.length : Int)) = true := by simp; omega
  have HN : Hid (¬ N1 = N2) := hide (fun e => q1 (by rw [e]))
  clear q1
  go_wp2
  go_ret
  exact ⟨ret_eq (bool_eq (by rw [decide_eq_false HN.out]; simp)), HB0.out⟩
end Go.Proofs.YtikojiciilambaaGreat

/- slices.Equal at points and at edges: two lists are one. -/
namespace Go.Proofs.YtikojiciilambaaGreat
open Go.RowKit
set_option linter.unusedVariables false
set_option linter.unusedSimpArgs false
set_option maxHeartbeats 4000000 in
theorem eqPt_any {w : World} {vs vt : Value} {s t : List Pt} {B C : Nat} (hs : RdK encS 2 w B vs s) (ht : RdK encS 2 w C vt t) (ns : s.length ≤ 100000000) (hB : B ≤ w.heap.size) (hC : C ≤ w.heap.size) :
  Calls Tryz.prog 63 #[vs, vt] w fun e w' => e = .returned (.bool (decide (s = t))) ∧ Below w.heap.size w w' := by
 obtain ⟨A1, c1, rfl, h1⟩ := hs
 obtain ⟨A2, c2, rfl, h2⟩ := ht
 have g : Tryz.prog.eqGuardType Tryz.prog.depth 53 = false := by kernel_rfl
 have H1 := hide h1
 have H2 := hide h2
 clear h1 h2
 go_enter Tryz.func63, Tryz.ntmps63
 by_cases hl : s.length = t.length
 ·have hne : ((s.length : Int) != (t.length : Int)) = false := by rw [hl]; simp
  have HL := hide hl
  clear hl
  go_wp2
  go_loopw [13] (fun i wr => ∃ k : Nat, k ≤ s.length ∧ i = .int .i64 k ∧ Hid (s.take k = t.take k) ∧ Below w.heap.size w wr) (fun i _ => s.length - (intOf i).toNat)
  case atStart => exact ⟨0, Nat.zero_le _, rfl, hide rfl, Below.refl _ _⟩
  case round =>
   obtain ⟨k, hk, rfl, HT, hb⟩ := hrel
   by_cases hlt : k < s.length
   ·obtain ⟨⟨a0, a1⟩, hp⟩ : ∃ p, s[k]? = some p := ⟨_, List.getElem?_eq_getElem hlt⟩
    have hlt2 : k < t.length := by rw [← HL.out]; exact hlt
    obtain ⟨⟨b0, b1⟩, hq⟩ : ∃ p, t[k]? = some p := ⟨_, List.getElem?_eq_getElem hlt2⟩
    obtain ⟨p1, o1, rfl, hp1, k1⟩ := H1.out (by intro e; rw [e] at hlt; simp at hlt)
    obtain ⟨p2, o2, rfl, hp2, k2⟩ := H2.out (by intro e; rw [e] at hlt2; simp at hlt2)
    have x0 : wr.cell? ⟨p1, o1 + k * 2, none⟩ = some (.int .i64 a0) := (hb.cell (p := ⟨p1, _, none⟩) (by show p1 < _; omega)).trans (k1 k _ hp 0 _ rfl)
    have y0 : wr.cell? ⟨p2, o2 + k * 2, none⟩ = some (.int .i64 b0) := (hb.cell (p := ⟨p2, _, none⟩) (by show p2 < _; omega)).trans (k2 k _ hq 0 _ rfl)
    have x1 : wr.cell? ⟨p1, o1 + k * 2 + 1, none⟩ = some (.int .i64 a1) := (hb.cell (p := ⟨p1, _, none⟩) (by show p1 < _; omega)).trans (k1 k _ hp 1 _ rfl)
    have y1 : wr.cell? ⟨p2, o2 + k * 2 + 1, none⟩ = some (.int .i64 b1) := (hb.cell (p := ⟨p2, _, none⟩) (by show p2 < _; omega)).trans (k2 k _ hq 1 _ rfl)
    have z1 : (k : Int) < (s.length : Int) := by omega
    have z2 : (k : Int) < (t.length : Int) := by omega
    have HP := hide hp
    have HQ := hide hq
    clear hp hq k1 k2
    by_cases e0 : a0 = b0
    rotate_left 1
    ·have hd : decide (s = t) = false := decide_eq_false fun e => by
      subst e
      have := HP.out.symm.trans HQ.out
      simp only [Option.some.injEq, Prod.mk.injEq] at this
      omega
     have HD := hide hd
     clear hd
     go_wp2
     go_region
     go_wp2
     go_ret
     exact ⟨ret_eq (bool_eq HD.out.symm), hb.drew⟩
    by_cases e1 : a1 = b1
    rotate_left 1
    ·have hd : decide (s = t) = false := decide_eq_false fun e => by
      subst e
      have := HP.out.symm.trans HQ.out
      simp only [Option.some.injEq, Prod.mk.injEq] at this
      omega
     have HD := hide hd
     clear hd
     subst e0
     go_wp2
     go_region
     go_wp2
     go_ret
     exact ⟨ret_eq (bool_eq HD.out.symm), hb.drew⟩
    subst e0
    subst e1
    go_wp2
    go_region
    go_wp2
    go_roundw
    case rel =>
     refine ⟨k + 1, by omega, by go_num, hide ?_, hb.drew⟩
     obtain ⟨i1, e1⟩ := List.getElem?_eq_some_iff.1 HP.out
     obtain ⟨i2, e2⟩ := List.getElem?_eq_some_iff.1 HQ.out
     rw [List.take_succ_eq_append_getElem i1, List.take_succ_eq_append_getElem i2, HT.out, e1, e2]
    case measure => simp [intOf]; omega
   ·have hlz : ¬ (k : Int) < (s.length : Int) := by omega
    have hd : decide (s = t) = true := decide_eq_true (by
     have := HT.out
     rw [List.take_of_length_le (by omega), List.take_of_length_le (by rw [← HL.out]; omega)] at this
     exact this)
    have HD := hide hd
    clear hd
    go_wp2
    go_ret
    exact ⟨ret_eq (bool_eq HD.out.symm), hb⟩
 ·have hne : ((s.length : Int) != (t.length : Int)) = true := by simp; omega
  have hd : decide (s = t) = false := decide_eq_false fun e => hl (by rw [e])
  rw [hd]
  clear hl hd
  go_wp2
  go_ret
  exact ⟨rfl, Below.refl _ _⟩
set_option maxHeartbeats 4000000 in
theorem eqEd_any {w : World} {vs vt : Value} {s t : List Ei} {B C : Nat} (hs : RdK encS 2 w B vs s) (ht : RdK encS 2 w C vt t) (ns : s.length ≤ 100000000) (hB : B ≤ w.heap.size) (hC : C ≤ w.heap.size) :
  Calls Tryz.prog 166 #[vs, vt] w fun e w' => e = .returned (.bool (decide (s = t))) ∧ Below w.heap.size w w' := by
 obtain ⟨A1, c1, rfl, h1⟩ := hs
 obtain ⟨A2, c2, rfl, h2⟩ := ht
 have g : Tryz.prog.eqGuardType Tryz.prog.depth 120 = false := by kernel_rfl
 have H1 := hide h1
 have H2 := hide h2
 clear h1 h2
 go_enter Tryz.func166, Tryz.ntmps166
 by_cases hl : s.length = t.length
 ·have hne : ((s.length : Int) != (t.length : Int)) = false := by rw [hl]; simp
  have HL := hide hl
  clear hl
  go_wp2
  go_loopw [13] (fun i wr => ∃ k : Nat, k ≤ s.length ∧ i = .int .i64 k ∧ Hid (s.take k = t.take k) ∧ Below w.heap.size w wr) (fun i _ => s.length - (intOf i).toNat)
  case atStart => exact ⟨0, Nat.zero_le _, rfl, hide rfl, Below.refl _ _⟩
  case round =>
   obtain ⟨k, hk, rfl, HT, hb⟩ := hrel
   by_cases hlt : k < s.length
   ·obtain ⟨⟨a0, a1⟩, hp⟩ : ∃ p, s[k]? = some p := ⟨_, List.getElem?_eq_getElem hlt⟩
    have hlt2 : k < t.length := by rw [← HL.out]; exact hlt
    obtain ⟨⟨b0, b1⟩, hq⟩ : ∃ p, t[k]? = some p := ⟨_, List.getElem?_eq_getElem hlt2⟩
    obtain ⟨p1, o1, rfl, hp1, k1⟩ := H1.out (by intro e; rw [e] at hlt; simp at hlt)
    obtain ⟨p2, o2, rfl, hp2, k2⟩ := H2.out (by intro e; rw [e] at hlt2; simp at hlt2)
    have x0 : wr.cell? ⟨p1, o1 + k * 2, none⟩ = some (.int .i64 a0) := (hb.cell (p := ⟨p1, _, none⟩) (by show p1 < _; omega)).trans (k1 k _ hp 0 _ rfl)
    have y0 : wr.cell? ⟨p2, o2 + k * 2, none⟩ = some (.int .i64 b0) := (hb.cell (p := ⟨p2, _, none⟩) (by show p2 < _; omega)).trans (k2 k _ hq 0 _ rfl)
    have x1 : wr.cell? ⟨p1, o1 + k * 2 + 1, none⟩ = some (.int .i64 a1) := (hb.cell (p := ⟨p1, _, none⟩) (by show p1 < _; omega)).trans (k1 k _ hp 1 _ rfl)
    have y1 : wr.cell? ⟨p2, o2 + k * 2 + 1, none⟩ = some (.int .i64 b1) := (hb.cell (p := ⟨p2, _, none⟩) (by show p2 < _; omega)).trans (k2 k _ hq 1 _ rfl)
    have z1 : (k : Int) < (s.length : Int) := by omega
    have z2 : (k : Int) < (t.length : Int) := by omega
    have HP := hide hp
    have HQ := hide hq
    clear hp hq k1 k2
    by_cases e0 : a0 = b0
    rotate_left 1
    ·have hd : decide (s = t) = false := decide_eq_false fun e => by
      subst e
      have := HP.out.symm.trans HQ.out
      simp only [Option.some.injEq, Prod.mk.injEq] at this
      omega
     have HD := hide hd
     clear hd
     go_wp2
     go_region
     go_wp2
     go_ret
     exact ⟨ret_eq (bool_eq HD.out.symm), hb.drew⟩
    by_cases e1 : a1 = b1
    rotate_left 1
    ·have hd : decide (s = t) = false := decide_eq_false fun e => by
      subst e
      have := HP.out.symm.trans HQ.out
      simp only [Option.some.injEq, Prod.mk.injEq] at this
      omega
     have HD := hide hd
     clear hd
     subst e0
     go_wp2
     go_region
     go_wp2
     go_ret
     exact ⟨ret_eq (bool_eq HD.out.symm), hb.drew⟩
    subst e0
    subst e1
    go_wp2
    go_region
    go_wp2
    go_roundw
    case rel =>
     refine ⟨k + 1, by omega, by go_num, hide ?_, hb.drew⟩
     obtain ⟨i1, e1⟩ := List.getElem?_eq_some_iff.1 HP.out
     obtain ⟨i2, e2⟩ := List.getElem?_eq_some_iff.1 HQ.out
     rw [List.take_succ_eq_append_getElem i1, List.take_succ_eq_append_getElem i2, HT.out, e1, e2]
    case measure => simp [intOf]; omega
   ·have hlz : ¬ (k : Int) < (s.length : Int) := by omega
    have hd : decide (s = t) = true := decide_eq_true (by
     have := HT.out
     rw [List.take_of_length_le (by omega), List.take_of_length_le (by rw [← HL.out]; omega)] at this
     exact this)
    have HD := hide hd
    clear hd
    go_wp2
    go_ret
    exact ⟨ret_eq (bool_eq HD.out.symm), hb⟩
 ·have hne : ((s.length : Int) != (t.length : Int)) = true := by simp; omega
  have hd : decide (s = t) = false := decide_eq_false fun e => hl (by rw [e])
  rw [hd]
  clear hl hd
  go_wp2
  go_ret
  exact ⟨rfl, Below.refl _ _⟩
end Go.Proofs.YtikojiciilambaaGreat

/- street.Same: the walk. -/
namespace Go.Proofs.YtikojiciilambaaGreat
open Go.RowKit
set_option linter.unusedVariables false
set_option linter.unusedSimpArgs false
set_option maxHeartbeats 4000000 in
theorem strSame_any {w : World} {n1 e1 n2 e2 : Value} {N1 N2 : List Pt} {E1 E2 : List Ei} (h1 : RdK encS 2 w w.heap.size n1 N1) (h2 : RdK encS 2 w w.heap.size e1 E1) (h3 : RdK encS 2 w w.heap.size n2 N2) (h4 : RdK encS 2 w w.heap.size e2 E2) (l1 : N1.length ≤ 100000000) (l2 : E1.length ≤ 100000000) :
  Calls Tryz.prog 118 #[.agg #[n1, e1], .agg #[n2, e2]] w fun e w' => e = .returned (.bool (decide (N1 = N2) && decide (E1 = E2))) ∧ Below w.heap.size w w' := by
 have HP := hide (fun (W : World) (hb : Below w.heap.size w W) => eqPt_any (w := W) (h1.below hb) (h3.below hb) l1 hb.size hb.size)
 have HE := hide (fun (W : World) (hb : Below w.heap.size w W) => eqEd_any (w := W) (h2.below hb) (h4.below hb) l2 hb.size hb.size)
 obtain ⟨A1, c1, rfl, _⟩ := h1
 obtain ⟨A2, c2, rfl, _⟩ := h2
 obtain ⟨A3, c3, rfl, _⟩ := h3
 obtain ⟨A4, c4, rfl, _⟩ := h4
 generalize decide (N1 = N2) = x at *
 generalize decide (E1 = E2) = y at *
 clear l1 l2
 go_enter Tryz.func118, Tryz.ntmps118
 go_upto_region 1 with fail
 refine wp_name fun w0 hw0 => ?_
 have hb0 : Below w.heap.size w w0 := by
  rw [hw0]
  exact ((Below.refl _ _).alloc (Nat.le_refl _) _).alloc (by simp) _
 have d0 : w0.cell? ⟨w.heap.size, 0, none⟩ = some (.slice A1 N1.length c1) := by rw [hw0]; simp [go_sem]
 have d1 : w0.cell? ⟨w.heap.size, 1, none⟩ = some (.slice A2 E1.length c2) := by rw [hw0]; simp [go_sem]
 have d2 : w0.cell? ⟨w.heap.size + 1, 0, none⟩ = some (.slice A3 N2.length c3) := by rw [hw0]; simp [go_sem]
 have d3 : w0.cell? ⟨w.heap.size + 1, 1, none⟩ = some (.slice A4 E2.length c4) := by rw [hw0]; simp [go_sem]
 have hs0 : w.heap.size + 1 < w0.heap.size := by rw [hw0]; simp
 have HB0 := hide hb0
 clear hw0 hb0
 cases x
 ·go_wp2_with (fail)
  refine (HP.out _ HB0.out).mono ?_
  rintro e w1 ⟨rfl, hb1⟩
  have HB1 := hide (HB0.out.trans (hb1.mono HB0.out.size))
  clear hb1 d0 d1 d2 d3
  go_wp2
  go_ret
  exact ⟨rfl, HB1.out⟩
 ·go_wp2_with (fail)
  refine (HP.out _ HB0.out).mono ?_
  rintro e w1 ⟨rfl, hb1⟩
  have HB1 := hide (HB0.out.trans (hb1.mono HB0.out.size))
  have k1 := (hb1.cell (p := ⟨w.heap.size, 1, none⟩) (by simp only; omega)).trans d1
  have k3 := (hb1.cell (p := ⟨w.heap.size + 1, 1, none⟩) hs0).trans d3
  clear hb1 d0 d1 d2 d3
  go_wp2_with (fail)
  refine (HE.out _ HB1.out).mono ?_
  rintro e w2 ⟨rfl, hb2⟩
  have HB2 := hide (HB1.out.trans (hb2.mono HB1.out.size))
  clear hb2 k1 k3
  go_wp2
  go_ret
  exact ⟨ret_eq (bool_eq (by simp)), HB2.out⟩
end Go.Proofs.YtikojiciilambaaGreat

/- A network that is its own has no line of over 400 parts: what Check finds is what it says. -/
namespace Go.Proofs.YtikojiciilambaaGreat
open Go.RowKit
set_option linter.unusedVariables false
set_option linter.unusedSimpArgs false
def chkC (N : List Pt) (E : List Ei) : Int := if 400 < N.length ∨ 800 < E.length then 4 else if ¬ (∀ e ∈ E, okEi N e) then 8 else if (nodesF (thin (segsI N E))).length ≤ 400 ∧ nodesF (thin (segsI N E)) = N ∧ edI (edgesF (thin (segsI N E))) = E then 0 else 8
theorem row_le {N : List Pt} {h v : Int → Int → Bool} (hok : ∀ e ∈ edgesG h v N, okSg (sgI N ((e.1 : Int), (e.2 : Int)))) (y : Int) : (rowSp (segsI N (edI (edgesG h v N))) y).length ≤ N.length := by
 unfold rowSp segsI edI
 rw [List.length_map, List.map_map, List.filter_map, List.length_map]
 unfold edgesG at *
 rw [List.filter_flatMap]
 refine Nat.le_trans (len_flat _ 1 fun a ha => ?_) (by simp)
 rw [List.filter_append, List.length_append]
 have e1 : (List.filter ((fun s : Sg => decide (s.ay = s.cy) && decide (s.ay = y)) ∘ (sgI N ∘ fun e : Ed => ((e.1 : Int), (e.2 : Int)))) (upE v N a)) = [] := by
  rw [List.filter_eq_nil_iff]
  intro e he hp
  have hk := hok e (List.mem_flatMap.2 ⟨a, ha, List.mem_append.2 (.inl he)⟩)
  obtain ⟨_, h2, h3⟩ := mem_upE.1 he
  unfold nxt at h3
  simp only [Function.comp, Bool.and_eq_true, decide_eq_true_eq] at hp
  have h4 := hk.2
  unfold sgI at h4 hp
  simp only [Int.toNat_natCast] at h4 hp
  rw [h2] at h4 hp
  have h5 := h3.2.2.1
  exact (h4.1 (by first | exact h5.symm | exact h5)) hp.1
 rw [e1]
 have e2 := List.length_filter_le ((fun s : Sg => decide (s.ay = s.cy) && decide (s.ay = y)) ∘ (sgI N ∘ fun e : Ed => ((e.1 : Int), (e.2 : Int)))) (rtE h N a)
 have e3 : (rtE h N a).length ≤ 1 := by
  unfold rtE
  split
  ·rw [List.length_map]
   cases rtO N a <;> simp
  ·simp
 simp only [List.length_nil]
 omega
theorem col_le {N : List Pt} {h v : Int → Int → Bool} (hok : ∀ e ∈ edgesG h v N, okSg (sgI N ((e.1 : Int), (e.2 : Int)))) (x : Int) : (colSp (segsI N (edI (edgesG h v N))) x).length ≤ N.length := by
 unfold colSp segsI edI
 rw [List.length_map, List.map_map, List.filter_map, List.length_map]
 unfold edgesG at *
 rw [List.filter_flatMap]
 refine Nat.le_trans (len_flat _ 1 fun a ha => ?_) (by simp)
 rw [List.filter_append, List.length_append]
 have e1 : (List.filter ((fun s : Sg => !decide (s.ay = s.cy) && decide (s.ax = x)) ∘ (sgI N ∘ fun e : Ed => ((e.1 : Int), (e.2 : Int)))) (rtE h N a)) = [] := by
  rw [List.filter_eq_nil_iff]
  intro e he hp
  obtain ⟨_, h2, h3⟩ := mem_rtE.1 he
  unfold nxt at h3
  simp only [Function.comp, Bool.and_eq_true, Bool.not_eq_true', decide_eq_false_iff_not, decide_eq_true_eq] at hp
  unfold sgI at hp
  simp only [Int.toNat_natCast] at hp
  rw [h2] at hp
  have h5 := h3.2.2.1
  exact hp.1 (by first | exact h5.symm | exact h5)
 rw [e1]
 have e2 := List.length_filter_le ((fun s : Sg => !decide (s.ay = s.cy) && decide (s.ax = x)) ∘ (sgI N ∘ fun e : Ed => ((e.1 : Int), (e.2 : Int)))) (upE v N a)
 have e3 : (upE v N a).length ≤ 1 := by
  unfold upE
  split
  ·rw [List.length_map]
   cases upO N a <;> simp
  ·simp
 simp only [List.length_nil]
 omega
theorem thin_net {N : List Pt} {E : List Ei} {M : List Sg} (hok : ∀ e ∈ E, okEi N e) (hn : N.length ≤ 400) (h1 : nodesF M = N) (h2 : edI (edgesF M) = E) : thin (segsI N E) = segsI N E := by
 subst h1
 subst h2
 have hk : ∀ e ∈ edgesF M, okSg (sgI (nodesF M) ((e.1 : Int), (e.2 : Int))) := fun e he => (hok _ (List.mem_map.2 ⟨e, he, rfl⟩)).2
 unfold thin
 rw [List.filter_eq_self]
 intro s _
 have h1 := row_le hk s.ay
 have h2 := col_le hk s.ax
 split
 ·exact decide_eq_true (Nat.le_trans h1 hn)
 ·exact decide_eq_true (Nat.le_trans h2 hn)
theorem chkC_eq (N : List Pt) (E : List Ei) : chkC N E = chkN N E := by
 unfold chkC chkN
 split
 ·rfl
 ·rename_i h0
  split
  ·rfl
  ·rename_i hk
   have hok : ∀ e ∈ E, okEi N e := Classical.byContradiction hk
   have hn : N.length ≤ 400 := by omega
   by_cases h : thin (segsI N E) = segsI N E
   ·rw [h]
   ·rw [if_neg (fun q => h (thin_net hok hn q.2.1 q.2.2)), if_neg (fun q => h (thin_net hok hn q.2.1 q.2.2))]
end Go.Proofs.YtikojiciilambaaGreat

/- street.Check: the walk. -/
namespace Go.Proofs.YtikojiciilambaaGreat
open Go.RowKit Go.Maps
set_option linter.unusedVariables false
set_option linter.unusedSimpArgs false
set_option maxRecDepth 100000 in
set_option maxHeartbeats 8000000 in
theorem Check_any {w : World} {nv ev : Value} {N : List Pt} {E : List Ei} (hn : RdK encS 2 w w.heap.size nv N) (he : RdK encS 2 w w.heap.size ev E) :
  Calls Tryz.prog 73 #[.agg #[nv, ev]] w fun e w' => e = .returned (.int .i64 (chkC N E)) ∧ Below w.heap.size w w' := by
 have HN := hide hn
 have HE := hide he
 obtain ⟨An, cn, rfl, _⟩ := hn
 obtain ⟨Ae, ce, rfl, _⟩ := he
 have hb0 : Below w.heap.size w (w.alloc (.cells #[.slice An N.length cn, .slice Ae E.length ce] 63)) := (Below.refl _ _).alloc (Nat.le_refl _) _
 have HB0 := hide hb0
 have x0 : (w.alloc (.cells #[.slice An N.length cn, .slice Ae E.length ce] 63)).cell? ⟨w.heap.size, 0, none⟩ = some (.slice An N.length cn) := by simp [go_sem]
 have x1 : (w.alloc (.cells #[.slice An N.length cn, .slice Ae E.length ce] 63)).cell? ⟨w.heap.size, 1, none⟩ = some (.slice Ae E.length ce) := by simp [go_sem]
 have HX := hide (And.intro x0 x1)
 have s0 : w.heap.size < (w.alloc (.cells #[.slice An N.length cn, .slice Ae E.length ce] 63)).heap.size := by simp
 have HS0 := hide s0
 clear hb0 x0 x1 s0
 by_cases h1 : 400 < N.length
 ·have z1 : (400 : Int) < (N.length : Int) := by omega
  have HC : Hid (chkC N E = 4) := hide (by unfold chkC; rw [if_pos (.inl h1)])
  clear h1
  go_enter Tryz.func73, Tryz.ntmps73
  go_wp2
  go_ret
  exact ⟨ret_eq (by rw [HC.out]; rfl), HB0.out⟩
 ·have z1 : ¬ (400 : Int) < (N.length : Int) := by omega
  by_cases h2 : 800 < E.length
  ·have z2 : (800 : Int) < (E.length : Int) := by omega
   have HC : Hid (chkC N E = 4) := hide (by unfold chkC; rw [if_pos (.inr h2)])
   clear h1 h2
   go_enter Tryz.func73, Tryz.ntmps73
   go_wp2
   go_ret
   exact ⟨ret_eq (by rw [HC.out]; rfl), HB0.out⟩
  ·have z2 : ¬ (800 : Int) < (E.length : Int) := by omega
   have H1 := hide (show N.length ≤ 400 by omega)
   have H2 := hide (show E.length ≤ 800 by omega)
   have HC0 : Hid (chkC N E = if ¬ (∀ e ∈ E, okEi N e) then 8 else if (nodesF (thin (segsI N E))).length ≤ 400 ∧ nodesF (thin (segsI N E)) = N ∧ edI (edgesF (thin (segsI N E))) = E then 0 else 8) := hide (by unfold chkC; rw [if_neg (by omega)])
   clear h1 h2
   go_enter Tryz.func73, Tryz.ntmps73
   go_wp2_with (fail)
   refine (drawn_any ((HN.out.below HB0.out).mono HB0.out.size) ((HE.out.below HB0.out).mono HB0.out.size) H1.out H2.out).mono ?_
   rintro e w1 ⟨⟨ov, ok, rfl, hq1, hq2⟩, hb1⟩
   have HB1 := hide (HB0.out.trans (hb1.mono HB0.out.size))
   have k0 := (hb1.cell (p := ⟨w.heap.size, 0, none⟩) HS0.out).trans HX.out.1
   have k1 := (hb1.cell (p := ⟨w.heap.size, 1, none⟩) HS0.out).trans HX.out.2
   have hs1 : w.heap.size < w1.heap.size := Nat.lt_of_lt_of_le HS0.out hb1.size
   by_cases hv : ∀ e ∈ E, okEi N e
   ·obtain ⟨rfl, ho⟩ := hq1 hv
    have hsl : (segsI N E).length = E.length := by unfold segsI; simp
    rw [← hsl] at ho
    have HRD := hide (own_rd ho (fun _ => rfl))
    have HSL := hide hsl
    have HOK : Hid (∀ s ∈ segsI N E, okSg s) := hide (fun s hs => by
     obtain ⟨e, he, rfl⟩ := List.mem_map.1 hs
     exact (hv e he).2)
    have HV := hide hv
    clear hq1 hq2 hb1 ho hsl hv
    go_wp2_with (fail)
    refine (network_any HRD.out (by rw [HSL.out]; exact H2.out) HOK.out).mono ?_
    rintro e w2 ⟨hq, hb2⟩
    have HB2 := hide (HB1.out.trans (hb2.mono HB1.out.size))
    have m0 := (hb2.cell (p := ⟨w.heap.size, 0, none⟩) hs1).trans k0
    have m1 := (hb2.cell (p := ⟨w.heap.size, 1, none⟩) hs1).trans k1
    have hs2 : w.heap.size < w2.heap.size := Nat.lt_of_lt_of_le hs1 hb2.size
    clear hb2 k0 k1
    by_cases hn4 : (nodesF (thin (segsI N E))).length ≤ 400
    ·obtain ⟨nv, ev, rfl, o1, o2⟩ := hq.1 hn4
     have HR1 := hide (own_rd o1 (fun _ => rfl))
     have HR2 := hide (own_rd o2 (fun _ => rfl))
     have HEL : Hid ((edI (edgesF (thin (segsI N E)))).length ≤ 800) := hide (by
      have := edges_len (htB (thin (segsI N E))) (vtB (thin (segsI N E))) (nodesF (thin (segsI N E)))
      unfold edI edgesF
      rw [List.length_map]
      omega)
     have HC : Hid (chkC N E = if (decide (nodesF (thin (segsI N E)) = N) && decide (edI (edgesF (thin (segsI N E))) = E)) = true then 0 else 8) := hide (by
      rw [HC0.out, if_neg (fun h => h HV.out)]
      by_cases a : nodesF (thin (segsI N E)) = N <;> by_cases b : edI (edgesF (thin (segsI N E))) = E <;> simp [a, b] <;> (rw [a] at hn4; omega))
     have HN4 := hide hn4
     obtain ⟨A3, c3, rfl⟩ := own_form o1
     obtain ⟨A4, c4, rfl⟩ := own_form o2
     clear hq o1 o2 hn4
     go_wp2_with (fail)
     have hba : Below w2.heap.size w2 (w2.alloc (.cells #[.slice A3 (nodesF (thin (segsI N E))).length c3, .slice A4 (edI (edgesF (thin (segsI N E)))).length c4] 63)) := (Below.refl _ _).alloc (Nat.le_refl _) _
     have hwa := HB2.out.trans (hba.mono (Nat.le_of_lt hs2))
     refine (strSame_any ((HR1.out.below hba).mono hba.size) ((HR2.out.below hba).mono hba.size) ((HN.out.below hwa).mono (Nat.le_trans (Nat.le_of_lt hs2) hba.size)) ((HE.out.below hwa).mono (Nat.le_trans (Nat.le_of_lt hs2) hba.size)) (Nat.le_trans HN4.out (by omega)) (Nat.le_trans HEL.out (by omega))).mono ?_
     rintro e w3 ⟨rfl, hb3⟩
     have HB3 := hide (hwa.trans (hb3.mono (Nat.le_trans (Nat.le_of_lt hs2) hba.size)))
     clear hb3 hwa hba m0 m1
     generalize (decide (nodesF (thin (segsI N E)) = N) && decide (edI (edgesF (thin (segsI N E))) = E)) = r at *
     cases r
     ·go_wp2
      go_ret
      exact ⟨ret_eq (by rw [HC.out]; rfl), HB3.out⟩
     ·go_wp2
      go_ret
      exact ⟨ret_eq (by rw [HC.out]; rfl), HB3.out⟩
    ·have hq := hq.2 (by omega)
     subst hq
     have HC : Hid (chkC N E = 8) := hide (by
      rw [HC0.out, if_neg (fun h => h HV.out), if_neg (fun h => hn4 h.1)])
     clear hn4
     go_wp2
     go_ret
     exact ⟨ret_eq (by rw [HC.out]; rfl), HB2.out.alloc (Nat.le_of_lt hs2) _⟩
   ·have hf := hq2 hv
    subst hf
    have HC : Hid (chkC N E = 8) := hide (by rw [HC0.out, if_pos hv])
    clear hq1 hq2 hv hb1
    go_wp2
    go_ret
    exact ⟨ret_eq (by rw [HC.out]; rfl), HB1.out⟩
end Go.Proofs.YtikojiciilambaaGreat

/- street.Segments: the walk. -/
namespace Go.Proofs.YtikojiciilambaaGreat
open Go.RowKit Go.Maps
set_option linter.unusedVariables false
set_option linter.unusedSimpArgs false
def SegsQ (w w' : World) (N : List Pt) (E : List Ei) (e : Ending) : Prop := ∃ ov, e = .returned (.tuple #[ov, .int .i64 (chkN N E)]) ∧ (chkN N E = 0 → w'.ownsRow w.heap.size 106 4 ov (segsI N E).length ((segsI N E).flatMap encSg)) ∧ (chkN N E ≠ 0 → ov = .slice none 0 0)
set_option maxRecDepth 100000 in
set_option maxHeartbeats 8000000 in
theorem Segments_any {w : World} {nv ev : Value} {N : List Pt} {E : List Ei} (hn : RdK encS 2 w w.heap.size nv N) (he : RdK encS 2 w w.heap.size ev E) :
  Calls Tryz.prog 64 #[.agg #[nv, ev]] w fun e w' => SegsQ w w' N E e ∧ Below w.heap.size w w' := by
 have HN := hide hn
 have HE := hide he
 obtain ⟨An, cn, rfl, _⟩ := hn
 obtain ⟨Ae, ce, rfl, _⟩ := he
 have hb0 : Below w.heap.size w (w.alloc (.cells #[.slice An N.length cn, .slice Ae E.length ce] 63)) := (Below.refl _ _).alloc (Nat.le_refl _) _
 have HB0 := hide hb0
 have x0 : (w.alloc (.cells #[.slice An N.length cn, .slice Ae E.length ce] 63)).cell? ⟨w.heap.size, 0, none⟩ = some (.slice An N.length cn) := by simp [go_sem]
 have x1 : (w.alloc (.cells #[.slice An N.length cn, .slice Ae E.length ce] 63)).cell? ⟨w.heap.size, 1, none⟩ = some (.slice Ae E.length ce) := by simp [go_sem]
 have HX := hide (And.intro x0 x1)
 have s0 : w.heap.size < (w.alloc (.cells #[.slice An N.length cn, .slice Ae E.length ce] 63)).heap.size := by simp
 have HS0 := hide s0
 clear hb0 x0 x1 s0
 go_enter Tryz.func64, Tryz.ntmps64
 go_wp2_with (fail)
 refine (Check_any ((HN.out.below HB0.out).mono HB0.out.size) ((HE.out.below HB0.out).mono HB0.out.size)).mono ?_
 rintro e w1 ⟨rfl, hb1⟩
 rw [chkC_eq]
 have HB1 := hide (HB0.out.trans (hb1.mono HB0.out.size))
 have k0 := (hb1.cell (p := ⟨w.heap.size, 0, none⟩) HS0.out).trans HX.out.1
 have k1 := (hb1.cell (p := ⟨w.heap.size, 1, none⟩) HS0.out).trans HX.out.2
 have hs1 : w.heap.size < w1.heap.size := Nat.lt_of_lt_of_le HS0.out hb1.size
 clear hb1
 obtain ⟨r, hr⟩ : ∃ r, chkN N E = r := ⟨_, rfl⟩
 rw [hr]
 have HR := hide hr
 clear hr
 by_cases h0 : r = 0
 ·subst h0
  obtain ⟨g1, g2, g3, _⟩ := chkN_ok HR.out
  have HOK := hide g3
  have HL := hide (And.intro g1 g2)
  clear g1 g2 g3
  go_wp2_with (fail)
  refine (drawn_any ((HN.out.below HB1.out).mono HB1.out.size) ((HE.out.below HB1.out).mono HB1.out.size) HL.out.1 HL.out.2).mono ?_
  rintro e w2 ⟨⟨ov, ok, rfl, hq1, _⟩, hb2⟩
  obtain ⟨rfl, ho⟩ := hq1 HOK.out
  have hsl : (segsI N E).length = E.length := by unfold segsI; simp
  rw [← hsl] at ho
  have HO := hide (own_base ho (Nat.le_of_lt hs1))
  have HB2 := hide (HB1.out.trans (hb2.mono HB1.out.size))
  obtain ⟨Ao, co, rfl⟩ := own_form ho
  clear hq1 ho hb2 hsl k0 k1
  go_wp2
  go_ret2
  exact ⟨⟨_, by rw [HR.out]; rfl, fun _ => HO.out, fun h => absurd HR.out h⟩, HB2.out⟩
 ·have hz : (r != 0) = true := by simpa using h0
  have HZ := hide h0
  clear h0
  go_wp2
  go_ret2
  exact ⟨⟨_, by rw [HR.out]; rfl, fun h => absurd (HR.out.symm.trans h) HZ.out, fun _ => rfl⟩, HB1.out⟩
end Go.Proofs.YtikojiciilambaaGreat

/- The reference's networks: Check, Segments, Great. -/
namespace Go.Proofs.YtikojiciilambaaGreat
open Go.RowKit Go.Maps
set_option linter.unusedVariables false
set_option linter.unusedSimpArgs false
set_option maxRecDepth 100000 in
set_option maxHeartbeats 8000000 in
theorem rCheck34_any {w : World} {nv ev : Value} {N : List Pt} {E : List Ei} (hn : RdK encS 2 w w.heap.size nv N) (he : RdK encS 2 w w.heap.size ev E) :
  Calls Tryz.prog 75 #[.agg #[nv, ev]] w fun e w' => e = .returned (.int .i64 (chkN N E)) ∧ Below w.heap.size w w' := by
 have HN := hide hn
 have HE := hide he
 obtain ⟨An, cn, rfl, _⟩ := hn
 obtain ⟨Ae, ce, rfl, _⟩ := he
 have hb0 : Below w.heap.size w (w.alloc (.cells #[.slice An N.length cn, .slice Ae E.length ce] 63)) := (Below.refl _ _).alloc (Nat.le_refl _) _
 have HB0 := hide hb0
 have x0 : (w.alloc (.cells #[.slice An N.length cn, .slice Ae E.length ce] 63)).cell? ⟨w.heap.size, 0, none⟩ = some (.slice An N.length cn) := by simp [go_sem]
 have x1 : (w.alloc (.cells #[.slice An N.length cn, .slice Ae E.length ce] 63)).cell? ⟨w.heap.size, 1, none⟩ = some (.slice Ae E.length ce) := by simp [go_sem]
 have HX := hide (And.intro x0 x1)
 have s0 : w.heap.size < (w.alloc (.cells #[.slice An N.length cn, .slice Ae E.length ce] 63)).heap.size := by simp
 have HS0 := hide s0
 clear hb0 x0 x1 s0
 by_cases h1 : 400 < N.length
 ·have z1 : (400 : Int) < (N.length : Int) := by omega
  have HC : Hid (chkN N E = 4) := hide (by unfold chkN; rw [if_pos (.inl h1)])
  clear h1
  go_enter Tryz.func75, Tryz.ntmps75
  go_wp2
  go_ret
  exact ⟨ret_eq (by rw [HC.out]; rfl), HB0.out⟩
 ·have z1 : ¬ (400 : Int) < (N.length : Int) := by omega
  by_cases h2 : 800 < E.length
  ·have z2 : (800 : Int) < (E.length : Int) := by omega
   have HC : Hid (chkN N E = 4) := hide (by unfold chkN; rw [if_pos (.inr h2)])
   clear h1 h2
   go_enter Tryz.func75, Tryz.ntmps75
   go_wp2
   go_ret
   exact ⟨ret_eq (by rw [HC.out]; rfl), HB0.out⟩
  ·have z2 : ¬ (800 : Int) < (E.length : Int) := by omega
   have H1 := hide (show N.length ≤ 400 by omega)
   have H2 := hide (show E.length ≤ 800 by omega)
   have HC0 : Hid (chkN N E = if ¬ (∀ e ∈ E, okEi N e) then 8 else if (nodesF (segsI N E)).length ≤ 400 ∧ nodesF (segsI N E) = N ∧ edI (edgesF (segsI N E)) = E then 0 else 8) := hide (by unfold chkN; rw [if_neg (by omega)])
   clear h1 h2
   go_enter Tryz.func75, Tryz.ntmps75
   go_wp2_with (fail)
   refine (rdrawn34_any ((HN.out.below HB0.out).mono HB0.out.size) ((HE.out.below HB0.out).mono HB0.out.size) H1.out H2.out).mono ?_
   rintro e w1 ⟨⟨ov, ok, rfl, hq1, hq2⟩, hb1⟩
   have HB1 := hide (HB0.out.trans (hb1.mono HB0.out.size))
   have k0 := (hb1.cell (p := ⟨w.heap.size, 0, none⟩) HS0.out).trans HX.out.1
   have k1 := (hb1.cell (p := ⟨w.heap.size, 1, none⟩) HS0.out).trans HX.out.2
   have hs1 : w.heap.size < w1.heap.size := Nat.lt_of_lt_of_le HS0.out hb1.size
   by_cases hv : ∀ e ∈ E, okEi N e
   ·obtain ⟨rfl, ho⟩ := hq1 hv
    have hsl : (segsI N E).length = E.length := by unfold segsI; simp
    rw [← hsl] at ho
    have HRD := hide (own_rd ho (fun _ => rfl))
    have HSL := hide hsl
    have HOK : Hid (∀ s ∈ segsI N E, okSg s) := hide (fun s hs => by
     obtain ⟨e, he, rfl⟩ := List.mem_map.1 hs
     exact (hv e he).2)
    have HV := hide hv
    clear hq1 hq2 hb1 ho hsl hv
    go_wp2_with (fail)
    refine (rOf34_any HRD.out HOK.out (by rw [HSL.out]; exact Nat.le_trans H2.out (by omega))).mono ?_
    rintro e w2 ⟨hq, hb2⟩
    have HB2 := hide (HB1.out.trans (hb2.mono HB1.out.size))
    have m0 := (hb2.cell (p := ⟨w.heap.size, 0, none⟩) hs1).trans k0
    have m1 := (hb2.cell (p := ⟨w.heap.size, 1, none⟩) hs1).trans k1
    have hs2 : w.heap.size < w2.heap.size := Nat.lt_of_lt_of_le hs1 hb2.size
    clear hb2 k0 k1
    by_cases hn4 : (nodesF (segsI N E)).length ≤ 400
    ·obtain ⟨nv, ev, rfl, o1, o2⟩ := hq.1 hn4
     have HR1 := hide (own_rd o1 (fun _ => rfl))
     have HR2 := hide (own_rd o2 (fun _ => rfl))
     have HEL : Hid ((edI (edgesF (segsI N E))).length ≤ 800) := hide (by
      have := edges_len (htB (segsI N E)) (vtB (segsI N E)) (nodesF (segsI N E))
      unfold edI edgesF
      rw [List.length_map]
      omega)
     have HC : Hid (chkN N E = if (decide (nodesF (segsI N E) = N) && decide (edI (edgesF (segsI N E)) = E)) = true then 0 else 8) := hide (by
      rw [HC0.out, if_neg (fun h => h HV.out)]
      by_cases a : nodesF (segsI N E) = N <;> by_cases b : edI (edgesF (segsI N E)) = E <;> simp [a, b] <;> (rw [a] at hn4; omega))
     have HN4 := hide hn4
     obtain ⟨A3, c3, rfl⟩ := own_form o1
     obtain ⟨A4, c4, rfl⟩ := own_form o2
     clear hq o1 o2 hn4
     go_wp2_with (fail)
     have hba : Below w2.heap.size w2 (w2.alloc (.cells #[.slice A3 (nodesF (segsI N E)).length c3, .slice A4 (edI (edgesF (segsI N E))).length c4] 63)) := (Below.refl _ _).alloc (Nat.le_refl _) _
     have hwa := HB2.out.trans (hba.mono (Nat.le_of_lt hs2))
     refine (rSame34_any ((HR1.out.below hba).mono hba.size) ((HR2.out.below hba).mono hba.size) ((HN.out.below hwa).mono (Nat.le_trans (Nat.le_of_lt hs2) hba.size)) ((HE.out.below hwa).mono (Nat.le_trans (Nat.le_of_lt hs2) hba.size)) (Nat.le_trans HN4.out (by omega)) (Nat.le_trans HEL.out (by omega))).mono ?_
     rintro e w3 ⟨rfl, hb3⟩
     have HB3 := hide (hwa.trans (hb3.mono (Nat.le_trans (Nat.le_of_lt hs2) hba.size)))
     clear hb3 hwa hba m0 m1
     generalize (decide (nodesF (segsI N E) = N) && decide (edI (edgesF (segsI N E)) = E)) = r at *
     cases r
     ·go_wp2
      go_ret
      exact ⟨ret_eq (by rw [HC.out]; rfl), HB3.out⟩
     ·go_wp2
      go_ret
      exact ⟨ret_eq (by rw [HC.out]; rfl), HB3.out⟩
    ·have hq := hq.2 (by omega)
     subst hq
     have HC : Hid (chkN N E = 8) := hide (by
      rw [HC0.out, if_neg (fun h => h HV.out), if_neg (fun h => hn4 h.1)])
     clear hn4
     go_wp2
     go_ret
     exact ⟨ret_eq (by rw [HC.out]; rfl), HB2.out.alloc (Nat.le_of_lt hs2) _⟩
   ·have hf := hq2 hv
    subst hf
    have HC : Hid (chkN N E = 8) := hide (by rw [HC0.out, if_pos hv])
    clear hq1 hq2 hv hb1
    go_wp2
    go_ret
    exact ⟨ret_eq (by rw [HC.out]; rfl), HB1.out⟩
set_option maxRecDepth 100000 in
set_option maxHeartbeats 8000000 in
theorem rSegments34_any {w : World} {nv ev : Value} {N : List Pt} {E : List Ei} (hn : RdK encS 2 w w.heap.size nv N) (he : RdK encS 2 w w.heap.size ev E) :
  Calls Tryz.prog 66 #[.agg #[nv, ev]] w fun e w' => SegsQ w w' N E e ∧ Below w.heap.size w w' := by
 have HN := hide hn
 have HE := hide he
 obtain ⟨An, cn, rfl, _⟩ := hn
 obtain ⟨Ae, ce, rfl, _⟩ := he
 have hb0 : Below w.heap.size w (w.alloc (.cells #[.slice An N.length cn, .slice Ae E.length ce] 63)) := (Below.refl _ _).alloc (Nat.le_refl _) _
 have HB0 := hide hb0
 have x0 : (w.alloc (.cells #[.slice An N.length cn, .slice Ae E.length ce] 63)).cell? ⟨w.heap.size, 0, none⟩ = some (.slice An N.length cn) := by simp [go_sem]
 have x1 : (w.alloc (.cells #[.slice An N.length cn, .slice Ae E.length ce] 63)).cell? ⟨w.heap.size, 1, none⟩ = some (.slice Ae E.length ce) := by simp [go_sem]
 have HX := hide (And.intro x0 x1)
 have s0 : w.heap.size < (w.alloc (.cells #[.slice An N.length cn, .slice Ae E.length ce] 63)).heap.size := by simp
 have HS0 := hide s0
 clear hb0 x0 x1 s0
 go_enter Tryz.func66, Tryz.ntmps66
 go_wp2_with (fail)
 refine (rCheck34_any ((HN.out.below HB0.out).mono HB0.out.size) ((HE.out.below HB0.out).mono HB0.out.size)).mono ?_
 rintro e w1 ⟨rfl, hb1⟩
 have HB1 := hide (HB0.out.trans (hb1.mono HB0.out.size))
 have k0 := (hb1.cell (p := ⟨w.heap.size, 0, none⟩) HS0.out).trans HX.out.1
 have k1 := (hb1.cell (p := ⟨w.heap.size, 1, none⟩) HS0.out).trans HX.out.2
 have hs1 : w.heap.size < w1.heap.size := Nat.lt_of_lt_of_le HS0.out hb1.size
 clear hb1
 obtain ⟨r, hr⟩ : ∃ r, chkN N E = r := ⟨_, rfl⟩
 rw [hr]
 have HR := hide hr
 clear hr
 by_cases h0 : r = 0
 ·subst h0
  obtain ⟨g1, g2, g3, _⟩ := chkN_ok HR.out
  have HOK := hide g3
  have HL := hide (And.intro g1 g2)
  clear g1 g2 g3
  go_wp2_with (fail)
  refine (rdrawn34_any ((HN.out.below HB1.out).mono HB1.out.size) ((HE.out.below HB1.out).mono HB1.out.size) HL.out.1 HL.out.2).mono ?_
  rintro e w2 ⟨⟨ov, ok, rfl, hq1, _⟩, hb2⟩
  obtain ⟨rfl, ho⟩ := hq1 HOK.out
  have hsl : (segsI N E).length = E.length := by unfold segsI; simp
  rw [← hsl] at ho
  have HO := hide (own_base ho (Nat.le_of_lt hs1))
  have HB2 := hide (HB1.out.trans (hb2.mono HB1.out.size))
  obtain ⟨Ao, co, rfl⟩ := own_form ho
  clear hq1 ho hb2 hsl k0 k1
  go_wp2
  go_ret2
  exact ⟨⟨_, by rw [HR.out]; rfl, fun _ => HO.out, fun h => absurd HR.out h⟩, HB2.out⟩
 ·have hz : (r != 0) = true := by simpa using h0
  have HZ := hide h0
  clear h0
  go_wp2_with (fail)
  refine (rCheck34_any ((HN.out.below HB1.out).mono HB1.out.size) ((HE.out.below HB1.out).mono HB1.out.size)).mono ?_
  rintro e w2 ⟨rfl, hb2⟩
  have HB2 := hide (HB1.out.trans (hb2.mono HB1.out.size))
  clear hb2 k0 k1
  rw [HR.out]
  go_wp2
  go_ret2
  exact ⟨⟨_, by rw [HR.out]; rfl, fun h => absurd (HR.out.symm.trans h) HZ.out, fun _ => rfl⟩, HB2.out⟩
def greatF (n e : Nat) : Bool := if 400 < n ∨ 800 < e then decide (420 < n) || decide (820 < e) else decide (40 < n) || decide (60 < e)
set_option maxRecDepth 100000 in
set_option maxHeartbeats 4000000 in
theorem rGreat34_any {w : World} {A1 A2 : Option Addr} {n e c1 c2 : Nat} :
  Calls Tryz.prog 32 #[.agg #[.slice A1 n c1, .slice A2 e c2]] w fun e' w' => e' = .returned (.bool (greatF n e)) ∧ Below w.heap.size w w' := by
 have HB : Hid (Below w.heap.size w (w.alloc (.cells #[.slice A1 n c1, .slice A2 e c2] 63))) := hide ((Below.refl _ _).alloc (Nat.le_refl _) _)
 by_cases h1 : 400 < n
 ·have z1 : (400 : Int) < (n : Int) := by omega
  by_cases h2 : 420 < n
  ·have z2 : (420 : Int) < (n : Int) := by omega
   have HG : Hid (greatF n e = true) := hide (by unfold greatF; rw [if_pos (.inl h1), decide_eq_true h2]; rfl)
   clear h1 h2
   go_enter Tryz.func32, Tryz.ntmps32
   go_wp2
   go_ret
   exact ⟨ret_eq (bool_eq (by rw [HG.out])), HB.out⟩
  ·have z2 : ¬ (420 : Int) < (n : Int) := by omega
   have HG : Hid (greatF n e = decide ((820 : Int) < (e : Int))) := hide (by unfold greatF; rw [if_pos (.inl h1), decide_eq_false h2]; simp; omega)
   clear h1 h2
   go_enter Tryz.func32, Tryz.ntmps32
   go_wp2
   go_ret
   exact ⟨ret_eq (bool_eq (by rw [HG.out])), HB.out⟩
 ·have z1 : ¬ (400 : Int) < (n : Int) := by omega
  by_cases h2 : 800 < e
  ·have z2 : (800 : Int) < (e : Int) := by omega
   have z3 : ¬ (420 : Int) < (n : Int) := by omega
   have HG : Hid (greatF n e = decide ((820 : Int) < (e : Int))) := hide (by unfold greatF; rw [if_pos (.inr h2), decide_eq_false (show ¬ 420 < n by omega)]; simp; omega)
   clear h1 h2
   go_enter Tryz.func32, Tryz.ntmps32
   go_wp2
   go_ret
   exact ⟨ret_eq (bool_eq (by rw [HG.out])), HB.out⟩
  ·have z2 : ¬ (800 : Int) < (e : Int) := by omega
   by_cases h3 : 40 < n
   ·have z3 : (40 : Int) < (n : Int) := by omega
    have HG : Hid (greatF n e = true) := hide (by unfold greatF; rw [if_neg (by omega), decide_eq_true h3]; rfl)
    clear h1 h2 h3
    go_enter Tryz.func32, Tryz.ntmps32
    go_wp2
    go_ret
    exact ⟨ret_eq (bool_eq (by rw [HG.out])), HB.out⟩
   ·have z3 : ¬ (40 : Int) < (n : Int) := by omega
    have HG : Hid (greatF n e = decide ((60 : Int) < (e : Int))) := hide (by unfold greatF; rw [if_neg (by omega), decide_eq_false h3]; simp; omega)
    clear h1 h2 h3
    go_enter Tryz.func32, Tryz.ntmps32
    go_wp2
    go_ret
    exact ⟨ret_eq (bool_eq (by rw [HG.out])), HB.out⟩
end Go.Proofs.YtikojiciilambaaGreat

/- block.Streets: the walk. -/
namespace Go.Proofs.YtikojiciilambaaGreat
open Go.RowKit Go.Maps
set_option linter.unusedVariables false
set_option linter.unusedSimpArgs false
def fitR (r : R4) : Prop := ¬ min r.x0 r.y0 < -1000000 ∧ ¬ 1000000 < max r.x1 r.y1
instance (r : R4) : Decidable (fitR r) := by unfold fitR; infer_instance
def strF (N : List Pt) (E : List Ei) (d : Int) : List R4 × Int := if chkN N E ≠ 0 then ([], chkN N E) else if d < 1 ∨ 1000 < d then ([], 2) else if 400 < E.length then ([], 4) else if ¬ ∀ s ∈ segsI N E, fitR (thickS d s) then ([], 16) else makeF ((segsI N E).map (thickS d))
set_option maxRecDepth 100000 in
set_option maxHeartbeats 8000000 in
theorem streets_any {w : World} {nv ev : Value} {N : List Pt} {E : List Ei} {d : Int} (hn : RdK encS 2 w w.heap.size nv N) (he : RdK encS 2 w w.heap.size ev E) :
  Calls Tryz.prog 34 #[.agg #[nv, ev], .int .i64 d] w fun e w' => RegRet w.heap.size (strF N E d) e w' ∧ Below w.heap.size w w' := by
 have HN := hide hn
 have HE := hide he
 obtain ⟨An, cn, rfl, _⟩ := hn
 obtain ⟨Ae, ce, rfl, _⟩ := he
 obtain ⟨i2, fi, fz0, fz1, fz2⟩ := info_parts infoRc
 have hb0 : Below w.heap.size w (w.alloc (.cells #[.slice An N.length cn, .slice Ae E.length ce] 63)) := (Below.refl _ _).alloc (Nat.le_refl _) _
 have HB0 := hide hb0
 clear hb0
 go_enter Tryz.func34, Tryz.ntmps34
 go_wp2_with (fail)
 refine (Segments_any ((HN.out.below HB0.out).mono HB0.out.size) ((HE.out.below HB0.out).mono HB0.out.size)).mono ?_
 rintro e w1 ⟨⟨ov, rfl, hq1, hq2⟩, hb1⟩
 have HB1 := hide (HB0.out.trans (hb1.mono HB0.out.size))
 by_cases h0 : chkN N E = 0
 ·have ho := hq1 h0
  rw [h0]
  have HO := hide (own_rd ho (fun _ => rfl))
  have hsl : (segsI N E).length = E.length := by unfold segsI; simp
  have HSL := hide hsl
  have HOK : Hid (∀ s ∈ segsI N E, okSg s) := hide (fun s hs => by
   obtain ⟨e, he, rfl⟩ := List.mem_map.1 hs
   exact ((chkN_ok h0).2.2.1 e he).2)
  have hl8 : (segsI N E).length ≤ 800 := by rw [hsl]; exact (chkN_ok h0).2.1
  have HF0 : Hid (strF N E d = if d < 1 ∨ 1000 < d then ([], 2) else if 400 < (segsI N E).length then ([], 4) else if ¬ ∀ s ∈ segsI N E, fitR (thickS d s) then ([], 16) else makeF ((segsI N E).map (thickS d))) := hide (by unfold strF; rw [if_neg (fun h => h h0), hsl])
  clear hq1 hq2 h0 ho hb1 hsl HSL
  generalize segsI N E = l at *
  obtain ⟨A, c, rfl, hc⟩ := HO.out
  have HRC := hide hc
  clear hc HO
  by_cases h1 : d < 1
  ·have HF : Hid (strF N E d = ([], 2)) := hide (by rw [HF0.out, if_pos (.inl h1)])
   have z1 : decide (d < 1) = true := decide_eq_true h1
   clear h1
   go_wp2
   go_ret2
   exact ⟨⟨none, 0, by rw [HF.out]; rfl, by rw [HF.out]; exact World.ownsRow_nil _ _ _ _⟩, HB1.out⟩
  ·have z1 : decide (d < 1) = false := decide_eq_false h1
   by_cases h2 : 1000 < d
   ·have HF : Hid (strF N E d = ([], 2)) := hide (by rw [HF0.out, if_pos (.inr h2)])
    have z2 : decide (1000 < d) = true := decide_eq_true h2
    clear h1 h2
    go_wp2
    go_ret2
    exact ⟨⟨none, 0, by rw [HF.out]; rfl, by rw [HF.out]; exact World.ownsRow_nil _ _ _ _⟩, HB1.out⟩
   ·have z2 : decide (1000 < d) = false := decide_eq_false h2
    by_cases h3 : 400 < l.length
    ·have HF : Hid (strF N E d = ([], 4)) := hide (by rw [HF0.out, if_neg (by omega), if_pos h3])
     have z3 : (400 : Int) < (l.length : Int) := by omega
     clear h1 h2 h3
     go_wp2
     go_ret2
     exact ⟨⟨none, 0, by rw [HF.out]; rfl, by rw [HF.out]; exact World.ownsRow_nil _ _ _ _⟩, HB1.out⟩
    ·have z3 : ¬ (400 : Int) < (l.length : Int) := by omega
     have HF1 : Hid (strF N E d = if ¬ ∀ s ∈ l, fitR (thickS d s) then ([], 16) else makeF (l.map (thickS d))) := hide (by rw [HF0.out, if_neg (by omega), if_neg h3])
     have hd1 : 1 ≤ d := by omega
     have hd2 : d ≤ 1000 := by omega
     clear h1 h2 h3 HF0
     go_wp2
     clear z1 z2 z3
     go_loopw [8, 31] (fun o i wr => ∃ (m : Nat) (Ao : Option Addr) (co : Nat), m ≤ l.length ∧ i = .int .i64 (m : Int) ∧ o = .slice Ao m co ∧ Hid (Below w1.heap.size w1 wr) ∧ Hid (wr.ownsRow w1.heap.size 49 4 (.slice Ao m co) m (((l.map (thickS d)).take m).flatMap encR)) ∧ Hid (∀ s ∈ l.take m, fitR (thickS d s))) (fun _ i _ => l.length - (intOf i).toNat)
     case atStart => exact ⟨0, none, 0, Nat.zero_le _, rfl, rfl, hide (Below.refl _ _), hide (World.ownsRow_nil _ _ _ _), hide (by simp)⟩
     case round =>
      obtain ⟨m, Ao, co, hm, rfl, rfl, HB, HO, HV⟩ := hrel
      by_cases hlt : m < l.length
      ·obtain ⟨s, hs⟩ : ∃ p, l[m]? = some p := ⟨_, List.getElem?_eq_getElem hlt⟩
       obtain ⟨b, o, rfl, hbl, k⟩ := HRC.out (by intro e; rw [e] at hlt; simp at hlt)
       have hb := HB.out
       have d0 : wr.cell? ⟨b, o + m * 4, none⟩ = some (.int .i64 s.ax) := (hb.cell (p := ⟨b, _, none⟩) hbl).trans (k m _ hs 0 _ rfl)
       have d1 : wr.cell? ⟨b, o + m * 4 + 1, none⟩ = some (.int .i64 s.ay) := (hb.cell (p := ⟨b, _, none⟩) hbl).trans (k m _ hs 1 _ rfl)
       have d2 : wr.cell? ⟨b, o + m * 4 + 2, none⟩ = some (.int .i64 s.cx) := (hb.cell (p := ⟨b, _, none⟩) hbl).trans (k m _ hs 2 _ rfl)
       have d3 : wr.cell? ⟨b, o + m * 4 + 3, none⟩ = some (.int .i64 s.cy) := (hb.cell (p := ⟨b, _, none⟩) hbl).trans (k m _ hs 3 _ rfl)
       obtain ⟨⟨⟨a1, a2⟩, ⟨a3, a4⟩, ⟨a5, a6⟩, a7, a8⟩, _⟩ := HOK.out s (List.mem_of_getElem? hs)
       have mz : (m : Int) < (l.length : Int) := by omega
       have HS := hide hs
       clear k hs hb
       have t0 : IntKind.i64.wrap (min s.ax s.cx - d) = min s.ax s.cx - d := by simp [IntKind.wrap, IntKind.bits, IntKind.signed]; omega
       have t1 : IntKind.i64.wrap (min s.ay s.cy - d) = min s.ay s.cy - d := by simp [IntKind.wrap, IntKind.bits, IntKind.signed]; omega
       have t2 : IntKind.i64.wrap (max s.ax s.cx + d) = max s.ax s.cx + d := by simp [IntKind.wrap, IntKind.bits, IntKind.signed]; omega
       have t3 : IntKind.i64.wrap (max s.ay s.cy + d) = max s.ay s.cy + d := by simp [IntKind.wrap, IntKind.bits, IntKind.signed]; omega
       clear a1 a2 a3 a4 a5 a6 a7 a8
       go_upto_region 13 with fail
       refine wp_name fun w5 hw5 => ?_
       obtain ⟨g5, hg5⟩ : ∃ g, g = wr.heap.size + 1 := ⟨_, rfl⟩
       have hb5 : Below wr.heap.size wr w5 := by
        rw [hw5]
        repeat (first | with_reducible exact Below.refl _ _ | with_reducible refine Below.setCell ?_ (by first | (simp; done) | (simp; omega)) _ | with_reducible refine Below.alloc ?_ (by first | omega | (simp; omega) | simp) _)
       have p0 : w5.cell? ⟨g5, 0, none⟩ = some (.int .i64 (min s.ax s.cx - d)) := by rw [hw5, hg5]; simp [go_sem]
       have p1 : w5.cell? ⟨g5, 1, none⟩ = some (.int .i64 (min s.ay s.cy - d)) := by rw [hw5, hg5]; simp [go_sem]
       have p2 : w5.cell? ⟨g5, 2, none⟩ = some (.int .i64 (max s.ax s.cx + d)) := by rw [hw5, hg5]; simp [go_sem]
       have p3 : w5.cell? ⟨g5, 3, none⟩ = some (.int .i64 (max s.ay s.cy + d)) := by rw [hw5, hg5]; simp [go_sem]
       have HTH : Hid (thickS d s = ⟨min s.ax s.cx - d, min s.ay s.cy - d, max s.ax s.cx + d, max s.ay s.cy + d⟩) := hide rfl
       have HB5 := hide (HB.out.trans (hb5.mono HB.out.size))
       have HO5 := hide (HO.out.kept (below_grow hb5) own_none_or)
       rw [← hg5]
       clear hw5 hb5 hg5 d0 d1 d2 d3 t0 t1 t2 t3 HB HO
       generalize min s.ax s.cx - d = X0 at *
       generalize min s.ay s.cy - d = Y0 at *
       generalize max s.ax s.cx + d = X1 at *
       generalize max s.ay s.cy + d = Y1 at *
       by_cases f1 : min X0 Y0 < -1000000
       ·have z1 : decide (min X0 Y0 < -1000000) = true := decide_eq_true f1
        have HF : Hid (strF N E d = ([], 16)) := hide (by
         rw [HF1.out, if_pos]
         intro h
         have := (h s (List.mem_of_getElem? HS.out)).1
         rw [HTH.out] at this
         exact this f1)
        clear f1
        go_wp2
        go_ret2
        exact ⟨⟨none, 0, by rw [HF.out]; rfl, by rw [HF.out]; exact World.ownsRow_nil _ _ _ _⟩, HB1.out.trans (HB5.out.mono HB1.out.size)⟩
       ·have z1 : decide (min X0 Y0 < -1000000) = false := decide_eq_false f1
        by_cases f2 : 1000000 < max X1 Y1
        ·have z2 : decide (1000000 < max X1 Y1) = true := decide_eq_true f2
         have HF : Hid (strF N E d = ([], 16)) := hide (by
          rw [HF1.out, if_pos]
          intro h
          have := (h s (List.mem_of_getElem? HS.out)).2
          rw [HTH.out] at this
          exact this f2)
         clear f1 f2
         go_wp2
         go_ret2
         exact ⟨⟨none, 0, by rw [HF.out]; rfl, by rw [HF.out]; exact World.ownsRow_nil _ _ _ _⟩, HB1.out.trans (HB5.out.mono HB1.out.size)⟩
        ·have z2 : decide (1000000 < max X1 Y1) = false := decide_eq_false f2
         have HFI : Hid (fitR (thickS d s)) := hide (by rw [HTH.out]; exact ⟨f1, f2⟩)
         have hw5 : w1.heap.size ≤ w5.heap.size := HB5.out.size
         have hml : m < 800 := by omega
         clear f1 f2
         go_wp2_with (at_builtin; go_loud (refine wpList_append_lies _ rfl (.tmp 86) (.tmp 88) 22 rfl w1.heap.size 49 i2 (.agg #[.int .i64 0, .int .i64 0, .int .i64 0, .int .i64 0]) 4 32 Tryz.underlying22 fi fz0 fz1 fz2 rfl (by decide) _ m _ rfl (World.ownsRow.alloc HO5.out _) ⟨w5.heap.size, 0, none⟩ 1 1 [.int .i64 X0, .int .i64 Y0, .int .i64 X1, .int .i64 Y1] rfl rfl (news_new w5 _ _ _ (by simp)) (ints_one rfl) (by omega) (by unfold maxLen; omega) (by omega) (by simp; omega) _ rfl ?_))
         intro g9 cap9 w9 hown9 hgrow9 hor9 hlt9
         have hal : Below w5.heap.size w5 (w5.alloc (.cells #[.int .i64 X0, .int .i64 Y0, .int .i64 X1, .int .i64 Y1] 49)) := (Below.refl _ _).alloc (Nat.le_refl _) _
         have HB9 : Hid (Below w1.heap.size w1 w9) := hide ((HB5.out.trans (hal.mono hw5)).grown hgrow9 (by simp; omega) (fun q hq => (HO5.out.lt q hq).1))
         have hx9 : ((l.map (thickS d)).take m).flatMap encR ++ [.int .i64 X0, .int .i64 Y0, .int .i64 X1, .int .i64 Y1] = ((l.map (thickS d)).take (m + 1)).flatMap encR := by
          rw [List.take_add_one, List.getElem?_map, HS.out, Option.map_some, Option.toList_some, List.flatMap_append, HTH.out]
          simp only [List.flatMap_cons, List.flatMap_nil, List.append_nil, encR]
         rw [hx9] at hown9
         have HO9 := hide hown9
         have HV9 : Hid (∀ s ∈ l.take (m + 1), fitR (thickS d s)) := hide (by
          intro q hq
          rw [List.take_add_one, HS.out, Option.toList_some, List.mem_append, List.mem_singleton] at hq
          rcases hq with hq | rfl
          ·exact HV.out q hq
          ·exact HFI.out)
         clear hown9 hgrow9 hor9 hlt9 hal hx9 p0 p1 p2 p3 z1 z2 HB5 HO5
         go_wp2
         go_roundw
         case rel => exact ⟨m + 1, _, cap9, by omega, by go_num, rfl, HB9, HO9, HV9⟩
         case measure => simp [intOf]; omega
      ·have mz : ¬ (m : Int) < (l.length : Int) := by omega
       obtain rfl : m = l.length := by omega
       have ht : l.take l.length = l := List.take_length
       have ht2 : (l.map (thickS d)).take l.length = l.map (thickS d) := List.take_of_length_le (by simp)
       rw [ht2] at HO
       rw [ht] at HV
       have HF : Hid (strF N E d = makeF (l.map (thickS d))) := hide (by rw [HF1.out, if_neg (fun h => h HV.out)])
       clear ht ht2
       go_wp2_with (fail)
       have ho := HO.out
       have e1 : (l.map (thickS d)).length = l.length := by simp
       rw [← e1] at ho ⊢
       refine (make_any (own_rd ho (fun _ => rfl)) (by rw [e1]; omega)).mono ?_
       rintro e w9 ⟨⟨A9, c9, rfl, o9⟩, hb9⟩
       have HB9 := hide (HB1.out.trans ((HB.out.trans (hb9.mono HB.out.size)).mono HB1.out.size))
       have HO9 := hide (own_base o9 (Nat.le_trans HB1.out.size HB.out.size))
       clear ho o9 hb9
       rw [← HF.out] at *
       go_wp2
       go_ret2
       exact ⟨⟨A9, c9, rfl, HO9.out⟩, HB9.out⟩
 ·have hov := hq2 h0
  subst hov
  have HF : Hid (strF N E d = ([], chkN N E)) := hide (by unfold strF; rw [if_pos h0])
  have hz : (chkN N E != 0) = true := by simpa using h0
  clear hq1 hq2 h0 hb1
  go_wp2
  go_ret2
  exact ⟨⟨none, 0, by rw [HF.out]; rfl, by rw [HF.out]; exact World.ownsRow_nil _ _ _ _⟩, HB1.out⟩
end Go.Proofs.YtikojiciilambaaGreat

/- region.slabs at Region, and its iterator. -/
namespace Go.Proofs.YtikojiciilambaaGreat
open Go.RowKit
set_option linter.unusedVariables false
set_option linter.unusedSimpArgs false
attribute [local go_sem] Oper.semAt_some
set_option maxHeartbeats 2000000 in
theorem slabsB_any (ls : List (List R4)) (L c : Nat) (w : World) (hL : L < w.heap.size) (hv : ∀ k l, ls[k]? = some l → ∃ v, w.cell? ⟨L, k, none⟩ = some v ∧ RdK encR 4 w w.heap.size v l) (hn : (ls.flatMap cutsL).length ≤ 100000000) (hls : ls.length ≤ 1000) :
  Calls Tryz.prog 158 #[.slice (some ⟨L, 0, none⟩) ls.length c] w fun e w' => ∃ v, e = .returned (.func (.func 198) #[] #[.pointer (some ⟨w.heap.size + 1, 0, none⟩), .pointer (some ⟨w.heap.size, 0, none⟩)]) ∧
   w'.cell? ⟨w.heap.size, 0, none⟩ = some (.slice (some ⟨L, 0, none⟩) ls.length c) ∧ w'.cell? ⟨w.heap.size + 1, 0, none⟩ = some v ∧ w'.ownsRow (w.heap.size + 2) 3 1 v (cutsOf (ls.flatMap cutsL)).length ((cutsOf (ls.flatMap cutsL)).map iv) ∧ Below w.heap.size w w' := by
 obtain ⟨i0, hi, hz0, hz1, hz2⟩ := info_parts infoIA
 have HV := hide hv
 clear hv
 go_enter Tryz.func158, Tryz.ntmps158
 go_wp2
 go_loopw [10] (fun i wr => ∃ k : Nat, k ≤ ls.length ∧ i = .int .i64 k ∧ ∃ v, wr.cell? ⟨w.heap.size + 1, 0, none⟩ = some v ∧ wr.frozen? ⟨w.heap.size + 1, 0, none⟩ = false ∧ wr.cell? ⟨w.heap.size, 0, none⟩ = some (.slice (some ⟨L, 0, none⟩) ls.length c) ∧
   wr.ownsRow (w.heap.size + 2) 3 1 v ((ls.take k).flatMap cutsL).length (((ls.take k).flatMap cutsL).map iv) ∧ Below w.heap.size w wr ∧ w.heap.size + 2 ≤ wr.heap.size)
  (fun i _ => ls.length - (intOf i).toNat)
 case atStart =>
  refine ⟨0, Nat.zero_le _, rfl, .slice none 0 0, by simp [go_sem], by simp [go_sem], by simp [go_sem], World.ownsRow_nil _ _ _ _, ((Below.refl _ _).alloc (Nat.le_refl _) _).alloc (by simp) _, by simp⟩
 case round =>
  obtain ⟨k, hk, rfl, v, hc1, hf1, hc0, hown, hb, hsz⟩ := hrel
  by_cases hlt : k < ls.length
  ·obtain ⟨l, hlk⟩ : ∃ l, ls[k]? = some l := ⟨_, List.getElem?_eq_getElem hlt⟩
   obtain ⟨vl, hcl, A, c0, rfl, hrd⟩ := HV.out k l hlk
   have hcl' : wr.cell? ⟨L, k, none⟩ = some (.slice A l.length c0) := (hb.cell (p := ⟨L, k, none⟩) hL).trans hcl
   have hle := len_take ls k l hlk
   have HK := hide (flat_take ls k l hlk)
   have HR := hide hrd
   have hkz : (k : Int) < (ls.length : Int) := by omega
   rw [cutsL_len] at hle
   generalize (ls.take k).flatMap cutsL = P at *
   generalize wr = w1 at *
   clear hcl hrd
   go_wp2
   go_loopw [16] (fun j wi => ∃ m : Nat, m ≤ l.length ∧ j = .int .i64 m ∧ ∃ v, wi.cell? ⟨w.heap.size + 1, 0, none⟩ = some v ∧ wi.frozen? ⟨w.heap.size + 1, 0, none⟩ = false ∧ wi.cell? ⟨w.heap.size, 0, none⟩ = some (.slice (some ⟨L, 0, none⟩) ls.length c) ∧
     wi.ownsRow (w.heap.size + 2) 3 1 v (P ++ cutsL (l.take m)).length ((P ++ cutsL (l.take m)).map iv) ∧ Below w.heap.size w wi ∧ w.heap.size + 2 ≤ wi.heap.size)
    (fun j _ => l.length - (intOf j).toNat)
   case atStart => exact ⟨0, by omega, rfl, v, hc1, hf1, hc0, by simpa [cutsL] using hown, hb, hsz⟩
   case round =>
    clear hc1 hf1 hc0 hown
    obtain ⟨m, hm, rfl, v, hc1, hf1, hc0, hownm, hbm, hszm⟩ := hrel
    by_cases hml : m < l.length
    ·obtain ⟨⟨x0, y0, x1, y1⟩, hp⟩ : ∃ p, l[m]? = some p := ⟨_, List.getElem?_eq_getElem hml⟩
     have hne : l ≠ [] := by intro e; rw [e] at hml; simp at hml
     obtain ⟨bk, off, rfl, hbk, hcell⟩ := HR.out hne
     have d0 : wr.cell? ⟨bk, off + m * 4, none⟩ = some (.int .i64 x0) := (hbm.cell hbk).trans (hcell m _ hp 0 _ rfl)
     have d1 : wr.cell? ⟨bk, off + m * 4 + 1, none⟩ = some (.int .i64 y0) := (hbm.cell hbk).trans (hcell m _ hp 1 _ rfl)
     have d2 : wr.cell? ⟨bk, off + m * 4 + 2, none⟩ = some (.int .i64 x1) := (hbm.cell hbk).trans (hcell m _ hp 2 _ rfl)
     have d3 : wr.cell? ⟨bk, off + m * 4 + 3, none⟩ = some (.int .i64 y1) := (hbm.cell hbk).trans (hcell m _ hp 3 _ rfl)
     have hmz : (m : Int) < (l.length : Int) := by omega
     have hlenE : (P ++ cutsL (l.take m)).length ≤ 100000000 := by rw [List.length_append, cutsL_len, List.length_take]; omega
     have HE : Hid (P ++ cutsL (l.take (m + 1)) = P ++ cutsL (l.take m) ++ [x0, x1]) := hide (by rw [cutsL_take l m _ hp, List.append_assoc])
     obtain ⟨Av, cv, rfl⟩ := own_form hownm
     have hlt1 : w.heap.size + 1 < wr.heap.size := by omega
     have hlt0 : w.heap.size < wr.heap.size := by omega
     clear hcell
     generalize P ++ cutsL (l.take m) = E0 at *
     go_wp2_with (at_builtin; go_loud (refine wpList_append_lies _ rfl (.tmp 20) (.tmp 25) 133 rfl (w.heap.size + 2) 3 i0 (.int .i64 0) 1 8 Tryz.underlying133 hi hz0 hz1 hz2 rfl (by decide) _ _ _ rfl ((hownm.alloc _).alloc _) ⟨wr.heap.size + 1, 0, none⟩ 2 2 [.int .i64 x0, .int .i64 x1] rfl rfl (news_new (wr.alloc _) _ _ _ (by simp)) (ints_one rfl) (by omega) (by unfold maxLen; omega) (by omega) (by simp; omega) _ rfl ?_))
     intro g cap w2 hown2 hgrow _ _
     have hx2 : E0.map iv ++ [.int .i64 x0, .int .i64 x1] = (E0 ++ [x0, x1]).map iv := by simp
     have HL : Hid (E0.length + 2 = (P ++ cutsL (l.take (m + 1))).length) := hide (by rw [HE.out]; simp)
     rw [hx2, ← HE.out] at hown2
     obtain ⟨k3, k4, HF⟩ := box_fin hszm (Nat.lt_succ_self _) hc1 hf1 (((Below.refl _ wr).alloc (Nat.le_refl _) _).alloc (by simp) _) hgrow (fun k h => (hownm.lt k h).1) hown2
     have HC := hide hc0
     clear hown2 hgrow hownm hx2 hc1 hf1 hc0 d0 d1 d2 d3
     go_wp2
     go_roundw
     case rel =>
      obtain ⟨z1, z2, z3, z4, z5, z6⟩ := HF.out
      exact ⟨m + 1, by omega, by go_num, _, z1, z2, (z5 _ _ (by omega) (by omega)).trans HC.out, own_n z3 HL.out, hbm.trans (z4.mono (by omega)), by omega⟩
     case measure => simp [intOf]; omega
    ·have hme : ¬ (m : Int) < (l.length : Int) := by omega
     have hmt : l.take m = l := List.take_of_length_le (by omega)
     rw [hmt, ← HK.out] at hownm
     have HO := hide hownm
     clear hmt hownm
     go_wp2
     go_roundw
     case rel => exact ⟨k + 1, by omega, by go_num, v, hc1, hf1, hc0, HO.out, hbm, hszm⟩
     case measure => simp [intOf]; omega
  ·have hkz : ¬ (k : Int) < (ls.length : Int) := by omega
   have hkt : ls.take k = ls := List.take_of_length_le (by omega)
   rw [hkt] at hown
   have HO := hide hown
   clear hkt hown
   have hl : (ls.flatMap cutsL).length < 4611686018427387904 := by omega
   have hlm : ((ls.flatMap cutsL).mergeSort fun x y => decide (x ≤ y)).length = (ls.flatMap cutsL).length := List.length_mergeSort _
   have HM := hide hlm
   have HC0 := hide hc0
   clear hc0 hlm
   go_wp2_with (first
    | (go_at_call 86; refine (sortI_any _ v _ wr HO.out hl).mono ?_; rintro e w1 ⟨rfl, ho1, hg1⟩; have hb1 : Below (w.heap.size + 2) wr w1 := (Below.refl _ _).grown hg1 hsz (fun k h => (HO.out.lt k h).1); have e1 := (hb1.cell (p := ⟨w.heap.size + 1, 0, none⟩) (Nat.lt_succ_self _)).trans hc1; have HO1 := hide ho1; have HB1 := hide hb1; clear ho1 hg1 hb1)
    | (go_at_call 87; refine (compI_any _ v _ w1 (own_n HO1.out HM.out.symm) (by rw [HM.out]; exact hl)).mono ?_; rintro e w2 ⟨v2, rfl, hv2, ho2, hg2⟩; have hb2 : Below (w.heap.size + 2) w1 w2 := (Below.refl _ _).grown hg2 (Nat.le_trans hsz HB1.out.size) (fun k h => (HO1.out.lt k h).1); have e2 := (hb2.cell (p := ⟨w.heap.size + 1, 0, none⟩) (Nat.lt_succ_self _)).trans e1; have f2 := ((HB1.out.trans hb2).frozen (p := ⟨w.heap.size + 1, 0, none⟩) (Nat.lt_succ_self _)).trans hf1; have HO2 := hide ho2; have HB2 := hide hb2; clear ho2 hg2 hb2; obtain ⟨Av, cv, hv2⟩ := own_form HO2.out; subst hv2))
   go_ret
   have hB : Below (w.heap.size + 2) wr w2 := HB1.out.trans HB2.out
   refine ⟨_, rfl, ?_, by simp [go_sem, e2], ownsRow_setCell_below HO2.out (Nat.lt_succ_self _) _, (hb.trans (hB.mono (by omega))).setCell (p := ⟨w.heap.size + 1, 0, none⟩) (Nat.le_succ _) _⟩
   exact (World.cell?_of_block (w := w2) (a := ⟨w.heap.size, 0, none⟩) (Below.heap_setCell _ _ _ _ (Nat.ne_of_lt (Nat.lt_succ_self _)))).trans ((hB.cell (p := ⟨w.heap.size, 0, none⟩) (by show w.heap.size < _; omega)).trans HC0.out)
set_option maxRecDepth 100000 in
set_option maxHeartbeats 4000000 in
theorem slabsItB (ls : List (List R4)) (cs : List Int) (bc bl L cc cv bb base : Nat) (A : Option Addr) (w0 : World) (hbl : bl < w0.heap.size) (hbc : bc < w0.heap.size) (hLs : L < w0.heap.size) (n1 : bl ≠ bb) (n2 : bc ≠ bb) (n3 : L ≠ bb) (n4 : bb < base) (n5 : bb ≤ w0.heap.size)
  (hlb : w0.cell? ⟨bl, 0, none⟩ = some (.slice (some ⟨L, 0, none⟩) ls.length cc)) (hcb : w0.cell? ⟨bc, 0, none⟩ = some (.slice A cs.length cv)) (hown : w0.ownsRow base 3 1 (.slice A cs.length cv) cs.length (cs.map iv))
  (hv : ∀ k l, ls[k]? = some l → l.length ≤ 100000000 ∧ ∃ v, w0.cell? ⟨L, k, none⟩ = some v ∧ RdK encR 4 w0 bb v l) (hls : ls.length ≤ 1000) (hcs : cs.length ≤ 100000000) :
  Iter Tryz.prog 198 #[.pointer (some ⟨bc, 0, none⟩), .pointer (some ⟨bl, 0, none⟩)] (prs cs) (OkSlab ls) (KpX bb w0.heap.size) w0 := by
 intro l J Jx W hW hJ hY h0
 obtain ⟨i0, hi, hz0, hz1, hz2⟩ := info_parts infoSS
 obtain ⟨i1, gi, gz0, gz1, gz2⟩ := info_parts infoSp
 refine callsIn_of_wp Tryz.func198 rfl trivial ?_
 simp only [Tryz.ntmps198, List.size_toArray, List.length_cons, List.length_nil, Nat.reduceAdd, Nat.reduceSub, Array.replicate_succ, Array.replicate_zero, List.push_toArray, List.append_toArray, List.nil_append, List.cons_append]
 have HV := hide hv
 have HY := hide hY
 have HJ := hide hJ
 clear hv hY hJ
 gi_wp2
 gi_loopw [4] (fun p wr => ∃ k : Nat, k ≤ (prs cs).length ∧ p = .int .i64 ((k : Int) + 1) ∧ Hid (J ((prs cs).take k) wr) ∧ Hid (∀ b o, b < w0.heap.size → b ≠ bb → wr.cell? ⟨b, o, none⟩ = w0.cell? ⟨b, o, none⟩) ∧ w0.heap.size ≤ wr.heap.size)
  (fun p _ => ((prs cs).length + 1) - (intOf p).toNat)
 case atStart => exact ⟨0, Nat.zero_le _, rfl, hide (by simpa using h0), hide fun b o h _ => hW.cell (p := ⟨b, o, none⟩) h, hW.size⟩
 case round =>
  obtain ⟨k, hk, rfl, HJk, HC, hsz⟩ := hrel
  have hpl := prs_len cs
  have kb := (HC.out bl 0 hbl n1).trans hlb
  have kc := (HC.out bc 0 hbc n2).trans hcb
  by_cases hlt : k < (prs cs).length
  ·have hltz : (k : Int) + 1 < (cs.length : Int) := by omega
   obtain ⟨c, hc⟩ : ∃ c, cs[k]? = some c := ⟨_, List.getElem?_eq_getElem (by omega)⟩
   obtain ⟨d, hd⟩ : ∃ d, cs[k + 1]? = some d := ⟨_, List.getElem?_eq_getElem (by omega)⟩
   obtain ⟨g, cv', hf, hbg, hgw⟩ := hown.form (by omega)
   injection hf with e1 _ e3
   subst e1; subst e3
   have kc0 : wr.cell? ⟨g, k, none⟩ = some (.int .i64 c) := by
    have := (hown.cells (g := g) rfl) k (iv c) (by simp [hc])
    rw [addr_add] at this
    exact (HC.out g k hgw (by omega)).trans this
   have kc1 : wr.cell? ⟨g, k + 1, none⟩ = some (.int .i64 d) := by
    have := (hown.cells (g := g) rfl) (k + 1) (iv d) (by simp [hd])
    rw [addr_add] at this
    exact (HC.out g (k + 1) hgw (by omega)).trans this
   have HP := hide (prs_get cs k c d hc hd)
   gi_wp2
   obtain ⟨CS, hCS, hmk⟩ := make_ss ls.length hls
   have HS := hide hCS
   clear hCS
   refine wpIn_wide.2 ?_
   have q1 : (0 : Int) ≤ (k : Int) := by omega
   have q2 : (k : Int) < (cs.length : Int) := by omega
   have q3 : (0 : Int) ≤ (k : Int) + 1 := by omega
   have hcsz : (cs.length : Int) ≤ 100000000 := by omega
   have hw1 : IntKind.i64.wrap (k : Int) = k := by simp [IntKind.wrap, IntKind.bits, IntKind.signed]; omega
   have hw2 : IntKind.i64.wrap ((k : Int) + 1) = (k : Int) + 1 := by simp [IntKind.wrap, IntKind.bits, IntKind.signed]; omega
   have t1 : ((k : Int) + 1).toNat = k + 1 := by omega
   go_region_held3 (fun w' => w'.cell? ⟨bc, 0, none⟩ = some (.slice (some ⟨g, 0, none⟩) cs.length cv) ∧ w'.cell? ⟨bl, 0, none⟩ = some (.slice (some ⟨L, 0, none⟩) ls.length cc) ∧ w'.cell? ⟨g, k, none⟩ = some (.int .i64 c) ∧ w'.cell? ⟨g, k + 1, none⟩ = some (.int .i64 d)) (go_keep) (fail)
   case' refine_2.refine_3.refine_3.refine_3.refine_3.refine_3.refine_3.refine_3.refine_3.refine_3.refine_3.refine_3.refine_1.refine_2.refine_3.refine_1.refine_2.refine_1.refine_2 =>
    have M := smid_first1 (ls := ls) (c := c) (d := d) (w := wr) (t1 := 136) (t2 := 156) HS.out
    generalize World.drew (World.alloc (World.alloc _ _) _) = w3 at M ⊢
    obtain ⟨S, hS⟩ : ∃ S, wr.heap.size + 1 = S := ⟨_, rfl⟩
    obtain ⟨Rw, hR⟩ : ∃ Rw, wr.heap.size = Rw := ⟨_, rfl⟩
    rw [hS] at M ⊢
    rw [hR] at M ⊢
    clear hS hR
   case' refine_2.refine_3.refine_3.refine_3.refine_3.refine_3.refine_3.refine_3.refine_3.refine_3.refine_3.refine_3.refine_2.refine_1.refine_2.refine_1.refine_2.refine_3.refine_1.refine_2 =>
    have M := smid_first2 (ls := ls) (c := c) (d := d) (w := wr) (t1 := 136) (t2 := 156) HS.out
    generalize World.drew (World.alloc (World.alloc _ _) _) = w3 at M ⊢
    obtain ⟨Rw, hR⟩ : ∃ S, wr.heap.size + 1 = S := ⟨_, rfl⟩
    obtain ⟨S, hS⟩ : ∃ Rw, wr.heap.size = Rw := ⟨_, rfl⟩
    rw [hR] at M ⊢
    rw [hS] at M ⊢
    clear hS hR
   all_goals
    generalize wr = wi at *
    clear hlb hcb hmk q1 q2 q3 hw1 hw2 t1 kc kc0 kc1 hltz hown HS h0 hW
    have hlsz : (ls.length : Int) ≤ 1000 := by omega
    have hbl' : bl < wi.heap.size := by omega
    have m0 := (M.below.cell (p := ⟨bl, 0, none⟩) hbl').trans kb
    gi_wp2
    refine wpIn_wide.2 ?_
    go_loopw [31] (fun i wx => ∃ j : Nat, j ≤ ls.length ∧ i = .int .i64 j ∧ SMid ls c d Rw S j wi wx) (fun i _ => ls.length - (intOf i).toNat)
    case atStart => exact ⟨0, Nat.zero_le _, rfl, M⟩
    case round =>
     clear m0 M
     obtain ⟨j, hj, rfl, M⟩ := hrel
     by_cases hjl : j < ls.length
     ·have hjz : (j : Int) < (ls.length : Int) := by omega
      obtain ⟨r, hr⟩ : ∃ r, ls[j]? = some r := ⟨_, List.getElem?_eq_getElem hjl⟩
      obtain ⟨hrl, v, hvc, Av, cr, rfl, hrd⟩ := HV.out j r hr
      have hL2 : wr.cell? ⟨L, j, none⟩ = some (.slice Av r.length cr) := (M.below.cell (p := ⟨L, j, none⟩) (by show L < _; omega)).trans ((HC.out L j hLs n3).trans hvc)
      have HR := hide hrd
      clear hvc hrd
      go_wp2
      have hRk := M.topR
      have hSk := M.topS
      have hne := M.ne
      have hwk := M.below.size
      have hlR := M.lowR
      have SS := SIn.start (l := r) M hjl
      have HM := hide M
      have e0 := M.s0
      have e2 := M.s2
      clear M hL2
      generalize wr = wk at *
      go_loopw [38] (fun i wx => ∃ m : Nat, m ≤ r.length ∧ i = .int .i64 m ∧ SIn r c Rw j m wk wx) (fun i _ => r.length - (intOf i).toNat)
      case atStart => exact ⟨0, Nat.zero_le _, rfl, SS⟩
      case round =>
       clear SS
       obtain ⟨m, hm, rfl, SS⟩ := hrel
       by_cases hml : m < r.length
       ·obtain ⟨⟨x0, y0, x1, y1⟩, hp⟩ : ∃ p, r[m]? = some p := ⟨_, List.getElem?_eq_getElem hml⟩
        have hner : r ≠ [] := by intro e; rw [e] at hml; simp at hml
        obtain ⟨bk, off, rfl, hbk, hcell⟩ := HR.out hner
        have tr : ∀ o, wr.cell? ⟨bk, o, none⟩ = w0.cell? ⟨bk, o, none⟩ := fun o =>
         (SS.upd.cell (by omega) (by omega) (by simp)).trans ((HM.out.below.cell (p := ⟨bk, o, none⟩) (by show bk < _; omega)).trans (HC.out bk o (by omega) (by omega)))
        have d0 : wr.cell? ⟨bk, off + m * 4, none⟩ = some (.int .i64 x0) := (tr _).trans (hcell m _ hp 0 _ rfl)
        have d1 : wr.cell? ⟨bk, off + m * 4 + 1, none⟩ = some (.int .i64 y0) := (tr _).trans (hcell m _ hp 1 _ rfl)
        have d2 : wr.cell? ⟨bk, off + m * 4 + 2, none⟩ = some (.int .i64 x1) := (tr _).trans (hcell m _ hp 2 _ rfl)
        have d3 : wr.cell? ⟨bk, off + m * 4 + 3, none⟩ = some (.int .i64 y1) := (tr _).trans (hcell m _ hp 3 _ rfl)
        have f0 := (SS.upd.cell (off := 0) hSk hne (by simp)).trans e0
        have f2 := (SS.upd.cell (off := 2) hSk hne (by simp)).trans e2
        have hws := SS.upd.size
        have hmz : (m : Int) < (r.length : Int) := by omega
        have HE0 := hide e0
        have HE2 := hide e2
        have HSS := hide SS
        have hSw : S < wr.heap.size := by omega
        clear hcell tr e0 e2 SS
        by_cases c1 : x0 ≤ c
        ·by_cases c2 : c < x1
         ·go_wp2
          obtain ⟨wb, hwb⟩ : ∃ wb, wb = wr.alloc (.cells #[.int .i64 x0, .int .i64 y0, .int .i64 x1, .int .i64 y1] 49) := ⟨_, rfl⟩
          rw [← hwb]
          obtain ⟨v, v1, v2⟩ := HSS.out.cur
          obtain ⟨Av2, cv2, hv2⟩ := own_form v2
          subst hv2
          have hRw : Rw < wr.heap.size := by omega
          have hj63 : (0 : Int) ≤ (j : Int) := by omega
          have g2 : wb.cell? ⟨S, 2, none⟩ = some (.slice (some ⟨Rw, 0, none⟩) ls.length ls.length) := by rw [hwb]; exact (World.cell?_alloc_lt _ _ ⟨S, 2, none⟩ hSw).trans f2
          have gv : wb.cell? ⟨Rw, j, none⟩ = some (.slice Av2 (crossL (r.take m) c).length cv2) := by rw [hwb]; exact (World.cell?_alloc_lt _ _ ⟨Rw, j, none⟩ hRw).trans v1
          have gy0 : wb.cell? ⟨wr.heap.size, 1, none⟩ = some (.int .i64 y0) := by rw [hwb]; simp [go_sem]
          have gy1 : wb.cell? ⟨wr.heap.size, 3, none⟩ = some (.int .i64 y1) := by rw [hwb]; simp [go_sem]
          have gs : wb.heap.size = wr.heap.size + 1 := by rw [hwb]; simp
          have hbw : Below wr.heap.size wr wb := by rw [hwb]; exact (Below.refl _ _).alloc (Nat.le_refl _) _
          have gown : wb.ownsRow wk.heap.size 141 2 (.slice Av2 (crossL (r.take m) c).length cv2) (crossL (r.take m) c).length ((crossL (r.take m) c).flatMap encS) := by rw [hwb]; exact v2.alloc _
          have hcl : (crossL (r.take m) c).length ≤ 100000000 := by
           unfold crossL
           rw [List.length_map]
           refine Nat.le_trans (List.length_filter_le _ _) ?_
           rw [List.length_take]; omega
          have HFZ := hide (HM.out.fz j)
          have HV1 := hide v1
          have HV2 := hide v2
          have HGV := hide gv
          have HBW := hide hbw
          have HG2 := hide g2
          have HY0 := hide gy0
          have HY1 := hide gy1
          have HO := hide gown
          have HGS := hide gs
          have hRwb : Rw < wb.heap.size := by omega
          have hSwb : S < wb.heap.size := by omega
          have hwrb : wr.heap.size < wb.heap.size := by omega
          have nR1 : Rw ≠ S := fun e => hne e.symm
          have nR2 : Rw ≠ wr.heap.size := by omega
          have hwkb : wk.heap.size ≤ wb.heap.size := by omega
          clear gs d0 d1 d2 d3 f0 f2 v1 v2 gown hwb
          refine wp_region_reads 13 (fun w' => w'.cell? ⟨S, 2, none⟩ = some (.slice (some ⟨Rw, 0, none⟩) ls.length ls.length) ∧ w'.cell? ⟨Rw, j, none⟩ = some (.slice Av2 (crossL (r.take m) c).length cv2) ∧ w'.cell? ⟨wr.heap.size, 1, none⟩ = some (.int .i64 y0) ∧ w'.cell? ⟨wr.heap.size, 3, none⟩ = some (.int .i64 y1)) (by kernel_rfl) (by kernel_rfl) ⟨g2, gv, gy0, gy1⟩ ?_
          simp only [List.take_succ_cons, List.take_zero, List.drop_succ_cons, List.drop_zero]
          iterate 13
           refine ⟨?_, Or.inl ⟨by rfl, ?_⟩, ?_⟩
           rotate_left 1
           ·intro w' hSw
            obtain ⟨z1, z2, z3, z4⟩ := hSw
            go_simp
            first | done | with_reducible rfl
           simp only [Act.put, List.setIfInBounds_toArray, List.set_cons_zero, List.set_cons_succ]
          simp only [wpReads]
          intro K hK
          go_simp
          refine hK _ _ (fun _ => ⟨by go_keep, by go_keep, by go_keep, by go_keep⟩) ?_
          clear hK K
          intro K hK
          refine step_append_lies _ rfl (.tmp 61) (.tmp 67) 136 rfl wk.heap.size 141 i1 (.agg #[.int .i64 0, .int .i64 0]) 2 16 Tryz.underlying136 gi gz0 gz1 gz2 rfl (by decide) (.slice Av2 (crossL (r.take m) c).length cv2) (crossL (r.take m) c).length _ rfl (own_drew (World.ownsRow.alloc (w := wb) HO.out _)) ⟨wb.heap.size, 0, none⟩ 1 1 [.int .i64 y0, .int .i64 y1] rfl rfl (news_drew wb _ _ _ rfl) (ints_one rfl) (by omega) (by unfold maxLen; omega) (by omega) (by simp; omega) _ rfl ?_
          intro g9 cap9 w9 hown9 hgrow9 _ _
          obtain ⟨s1, s2, s3, s4, s5, HF9⟩ := app_after HSS.out hp ⟨c1, c2⟩ HV1.out hRk HBW.out _ HV2.out hgrow9 hown9 HFZ.out hSk HG2.out HY0.out HY1.out
          clear hown9 hgrow9
          refine hK _ _ (fun _ => ⟨s1, s2, s3, s4⟩) ?_
          clear hK K
          intro K hK
          simp only [Act.put, List.setIfInBounds_toArray, List.set_cons_zero, List.set_cons_succ] at hK ⊢
          go_simp
          refine hK _ _ (fun _ => ⟨s1, s2, s3, s4⟩) ?_
          clear hK K
          intro K hK
          simp only [Act.put, List.setIfInBounds_toArray, List.set_cons_zero, List.set_cons_succ] at hK ⊢
          go_simp
          refine hK _ _ (fun h => absurd rfl h) ?_
          clear hK K
          refine NoPanic.normal ?_
          have HF9' := hide HF9.out
          go_wp2
          go_roundw
          case rel => exact ⟨m + 1, by omega, by go_num, HF9'.out⟩
          case measure => simp [intOf]; omega
         ·have c2' : x1 ≤ c := by omega
          go_wp2
          go_roundw
          case rel => exact ⟨m + 1, by omega, by go_num, HSS.out.skip hp (fun h => by have := h.2; simp at this; omega) ((Below.refl _ _).alloc (Nat.le_refl _) _) (by omega)⟩
          case measure => simp [intOf]; omega
        ·have c1' : c < x0 := by omega
         go_wp2
         go_roundw
         case rel => exact ⟨m + 1, by omega, by go_num, HSS.out.skip hp (fun h => by have := h.1; simp at this; omega) ((Below.refl _ _).alloc (Nat.le_refl _) _) (by omega)⟩
         case measure => simp [intOf]; omega
       ·obtain rfl : m = r.length := by omega
        have hmz : ¬ (r.length : Int) < (r.length : Int) := by omega
        have HF := hide (SIn.fin HM.out hr SS)
        clear SS e0 e2
        go_wp2
        go_roundw
        case rel => exact ⟨j + 1, by omega, by go_num, HF.out⟩
        case measure => simp [intOf]; omega
     ·obtain rfl : j = ls.length := by omega
      have hjz : ¬ (ls.length : Int) < (ls.length : Int) := by omega
      have e0 := M.s0
      have e1 := M.s1
      have e2 := M.s2
      have hJ2 := HJ.out _ _ _ HJk.out M.below
      have hx : (prs cs)[k]? = some (c, d) := HP.out
      obtain ⟨hkp, hxe⟩ := List.getElem?_eq_some_iff.1 hx
      have hfi : (prs cs).take (k + 1) = (prs cs).take k ++ [(c, d)] := by rw [List.take_succ_eq_append_getElem hkp, hxe]
      have hpost : ∃ post, prs cs = (prs cs).take k ++ (c, d) :: post := ⟨(prs cs).drop (k + 1), by rw [← hxe, ← List.drop_eq_getElem_cons hkp, List.take_append_drop]⟩
      have hok : OkSlab ls (c, d) #[.agg #[.int .i64 c, .int .i64 d, .slice (some ⟨Rw, 0, none⟩) ls.length ls.length]] wr := by
       refine ⟨Rw, rfl, M.topR, fun q l hl => ?_⟩
       obtain ⟨v, v1, v2⟩ := M.done q l (List.getElem?_eq_some_iff.1 hl).1 hl
       exact ⟨v, v1, own_rd v2 (fun _ => rfl)⟩
      obtain ⟨fn, tmps, assign, body, hy, hR⟩ := HY.out ((prs cs).take k) (c, d) #[.agg #[.int .i64 c, .int .i64 d, .slice (some ⟨Rw, 0, none⟩) ls.length ls.length]] wr hJ2 hpost hok
      have FI := hide hfi
      have HM := hide M
      clear hx hxe hfi hpost hJ2 hok HJ HY M
      have hk2 : (k : Int) + 1 + 1 ≤ 100000001 := by omega
      have hk3' : (0 : Int) ≤ (k : Int) := by omega
      go_wp2
      gi_wp2
      refine ⟨rfl, hR.mono ?_⟩
      rintro e W3 (⟨rfl, hJ3, hk3⟩ | ⟨rfl, hJx3⟩)
      ·have HJ3 := hide hJ3
       have HK3 := hide hk3
       clear hJ3 hk3 hR
       gi_wp2
       go_roundw
       case rel =>
        refine ⟨k + 1, by omega, by go_num, hide (by rw [FI.out]; exact HJ3.out), hide fun b o h1 h2 => (HK3.out.2 b o h1 h2).trans ((HM.out.below.cell (p := ⟨b, o, none⟩) (by show b < _; omega)).trans (HC.out b o h1 h2)), ?_⟩
        have := HK3.out.1
        have := HM.out.below.size
        omega
       case measure => simp [intOf]; omega
      ·have HJx := hide hJx3
       clear hJx3 hR
       gi_wp2
       refine bodyPost_ret (results_none rfl _ _ _) rfl ?_
       exact ⟨⟨_, rfl⟩, .inr ⟨_, HJx.out⟩⟩
  ·have hltz : ¬ (k : Int) + 1 < (cs.length : Int) := by omega
   have hk' : (prs cs).take k = prs cs := List.take_of_length_le (by omega)
   have HK := hide hk'
   clear hk' HJ HY h0
   gi_wp2
   go_end0
   exact ⟨⟨_, rfl⟩, .inl (by have := HJk.out; rw [HK.out] at this; exact this)⟩
end Go.Proofs.YtikojiciilambaaGreat
