/- Texts laid together: SlabA, SlabItA, SlabWA, Add, RefS, RefX, RefC, RefA, RefF, RefJ, RefE, Made, EqR. Lemmas for the statements of this seat; no condition. -/
import Derived.Test.YtdolpeljengpaaaGreatPk2
import Derived.Test.YtdolpeljengpaaaGreatPk1
import Derived.OwnWalk
import Derived.Laws.EntriesVeiled
import Derived.StillTactics
import Derived.Deep.RegionHeld3
import Derived.RangeFuncOwn
import Derived.Laws.CopyOwn
import Derived.Laws.StructEq
import Derived.Deep.QuietTactic
import Derived.BigQuiet

/- region.slabs: the cuts of some lists, and the iterator bound to them. -/
namespace Go.Proofs.YtdolpeljengpaaaGreat
open Go.RowKit
set_option linter.unusedVariables false
set_option linter.unusedSimpArgs false

theorem infoIA : (Tryz.prog.info? 3).map (fun i => (i.zero, i.size, i.bytes)) = some (some (.int .i64 0), 1, 8) := by kernel_rfl
theorem cutsL_take (l : List R4) (m : Nat) (r : R4) (h : l[m]? = some r) : cutsL (l.take (m + 1)) = cutsL (l.take m) ++ [r.x0, r.x1] := by
  obtain ⟨hm, hp⟩ := List.getElem?_eq_some_iff.1 h
  rw [List.take_succ_eq_append_getElem hm, hp]
  simp [cutsL]
theorem cutsL_len (l : List R4) : (cutsL l).length = 2 * l.length := by
  induction l with
  | nil => rfl
  | cons p s ih => simp [cutsL] at ih ⊢; omega
theorem flat_take (ls : List (List R4)) (k : Nat) (l : List R4) (h : ls[k]? = some l) : (ls.take (k + 1)).flatMap cutsL = (ls.take k).flatMap cutsL ++ cutsL l := by
  obtain ⟨hm, hp⟩ := List.getElem?_eq_some_iff.1 h
  rw [List.take_succ_eq_append_getElem hm, hp]
  simp
theorem len_take (ls : List (List R4)) (k : Nat) (l : List R4) (h : ls[k]? = some l) : ((ls.take k).flatMap cutsL).length + (cutsL l).length ≤ (ls.flatMap cutsL).length := by
  rw [← List.length_append, ← flat_take ls k l h]
  conv => rhs; rw [← List.take_append_drop (k + 1) ls]
  rw [List.flatMap_append, List.length_append]; omega

/-- 'x = append(x, ..)' at a variable in a box o, ahead of whose rows (from B on) it lies. -/
theorem box_fin {B o : Nat} {w1 wa w2 : World} {row : Option Nat} {v2 x : Value} {e : TypeId} {size n : Nat} {xs : List Value} (ks : B ≤ w1.heap.size) (hoB : o < B) (k3 : w1.cell? ⟨o, 0, none⟩ = some x) (k4 : w1.frozen? ⟨o, 0, none⟩ = false)
    (ha : Below w1.heap.size w1 wa) (hgrow : wa.grownBy w2 row) (hr : ∀ k, row = some k → B ≤ k) (hown2 : w2.ownsRow B e size v2 n xs) :
    w2.cell? ⟨o, 0, none⟩ = some x ∧ w2.frozen? ⟨o, 0, none⟩ = false ∧ Hid ((w2.setCell ⟨o, 0, none⟩ v2).cell? ⟨o, 0, none⟩ = some v2 ∧ (w2.setCell ⟨o, 0, none⟩ v2).frozen? ⟨o, 0, none⟩ = false ∧
      (w2.setCell ⟨o, 0, none⟩ v2).ownsRow B e size v2 n xs ∧ Below o w1 (w2.setCell ⟨o, 0, none⟩ v2) ∧ (∀ q off, q < B → q ≠ o → (w2.setCell ⟨o, 0, none⟩ v2).cell? ⟨q, off, none⟩ = w1.cell? ⟨q, off, none⟩) ∧ w1.heap.size ≤ (w2.setCell ⟨o, 0, none⟩ v2).heap.size) := by
  have hb : Below B w1 w2 := (ha.mono ks).grown hgrow (by have := ha.size; omega) hr
  have c := (hb.cell (p := ⟨o, 0, none⟩) hoB).trans k3
  have f := (hb.frozen (p := ⟨o, 0, none⟩) hoB).trans k4
  refine ⟨c, f, hide ⟨by simp [go_sem, c], by simp [go_sem, f], ownsRow_setCell_below hown2 hoB _, (hb.mono (Nat.le_of_lt hoB)).setCell (p := ⟨o, 0, none⟩) (Nat.le_refl o) _, fun q off hq hne => ?_, ?_⟩⟩
  · refine (World.cell?_of_block (w := w2) (a := ⟨q, off, none⟩) (Below.heap_setCell _ _ _ _ hne)).trans (hb.cell (p := ⟨q, off, none⟩) hq)
  · have := hb.size
    simpa [World.setCell] using this

set_option maxHeartbeats 2000000 in
theorem slabsA_any (ls : List (List R4)) (L c : Nat) (w : World) (hL : L < w.heap.size) (hv : ∀ k l, ls[k]? = some l → ∃ v, w.cell? ⟨L, k, none⟩ = some v ∧ RdK encR 4 w w.heap.size v l) (hn : (ls.flatMap cutsL).length ≤ 100000000) (hls : ls.length ≤ 1000) :
    Calls Tryz.prog 142 #[.slice (some ⟨L, 0, none⟩) ls.length c] w fun e w' => ∃ v, e = .returned (.func (.func 180) #[] #[.pointer (some ⟨w.heap.size + 1, 0, none⟩), .pointer (some ⟨w.heap.size, 0, none⟩)]) ∧
      w'.cell? ⟨w.heap.size, 0, none⟩ = some (.slice (some ⟨L, 0, none⟩) ls.length c) ∧ w'.cell? ⟨w.heap.size + 1, 0, none⟩ = some v ∧ w'.ownsRow (w.heap.size + 2) 3 1 v (cutsOf (ls.flatMap cutsL)).length ((cutsOf (ls.flatMap cutsL)).map iv) ∧ Below w.heap.size w w' := by
  obtain ⟨i0, hi, hz0, hz1, hz2⟩ := info_parts infoIA
  have HV := hide hv
  clear hv
  go_enter Tryz.func142, Tryz.ntmps142
  go_wp2
  go_loopw [10] (fun i wr => ∃ k : Nat, k ≤ ls.length ∧ i = .int .i64 k ∧ ∃ v, wr.cell? ⟨w.heap.size + 1, 0, none⟩ = some v ∧ wr.frozen? ⟨w.heap.size + 1, 0, none⟩ = false ∧ wr.cell? ⟨w.heap.size, 0, none⟩ = some (.slice (some ⟨L, 0, none⟩) ls.length c) ∧
      wr.ownsRow (w.heap.size + 2) 3 1 v ((ls.take k).flatMap cutsL).length (((ls.take k).flatMap cutsL).map iv) ∧ Below w.heap.size w wr ∧ w.heap.size + 2 ≤ wr.heap.size)
    (fun i _ => ls.length - (intOf i).toNat)
  case atStart =>
    refine ⟨0, Nat.zero_le _, rfl, .slice none 0 0, by simp [go_sem], by simp [go_sem], by simp [go_sem], World.ownsRow_nil _ _ _ _, ((Below.refl _ _).alloc (Nat.le_refl _) _).alloc (by simp) _, by simp⟩
  case round =>
    obtain ⟨k, hk, rfl, v, hc1, hf1, hc0, hown, hb, hsz⟩ := hrel
    by_cases hlt : k < ls.length
    · obtain ⟨l, hlk⟩ : ∃ l, ls[k]? = some l := ⟨_, List.getElem?_eq_getElem hlt⟩
      obtain ⟨vl, hcl, A, c0, rfl, hrd⟩ := HV.out k l hlk
      have hcl' : wr.cell? ⟨L, k, none⟩ = some (.slice A l.length c0) := (hb.cell (p := ⟨L, k, none⟩) hL).trans hcl
      have hle := len_take ls k l hlk
      have HK := hide (flat_take ls k l hlk)
      have HR := hide hrd
      have hkz : (k : Int) < (ls.length : Int) := by omega
      rw [cutsL_len] at hle
      generalize (ls.take k).flatMap cutsL = P at *
      generalize wr = w1 at *
      clear hcl hrd
      go_wp2
      go_loopw [16] (fun j wi => ∃ m : Nat, m ≤ l.length ∧ j = .int .i64 m ∧ ∃ v, wi.cell? ⟨w.heap.size + 1, 0, none⟩ = some v ∧ wi.frozen? ⟨w.heap.size + 1, 0, none⟩ = false ∧ wi.cell? ⟨w.heap.size, 0, none⟩ = some (.slice (some ⟨L, 0, none⟩) ls.length c) ∧
          wi.ownsRow (w.heap.size + 2) 3 1 v (P ++ cutsL (l.take m)).length ((P ++ cutsL (l.take m)).map iv) ∧ Below w.heap.size w wi ∧ w.heap.size + 2 ≤ wi.heap.size)
        (fun j _ => l.length - (intOf j).toNat)
      case atStart => exact ⟨0, by omega, rfl, v, hc1, hf1, hc0, by simpa [cutsL] using hown, hb, hsz⟩
      case round =>
        clear hc1 hf1 hc0 hown
        obtain ⟨m, hm, rfl, v, hc1, hf1, hc0, hownm, hbm, hszm⟩ := hrel
        by_cases hml : m < l.length
        · obtain ⟨⟨x0, y0, x1, y1⟩, hp⟩ : ∃ p, l[m]? = some p := ⟨_, List.getElem?_eq_getElem hml⟩
          have hne : l ≠ [] := by intro e; rw [e] at hml; simp at hml
          obtain ⟨bk, off, rfl, hbk, hcell⟩ := HR.out hne
          have d0 : wr.cell? ⟨bk, off + m * 4, none⟩ = some (.int .i64 x0) := (hbm.cell hbk).trans (hcell m _ hp 0 _ rfl)
          have d1 : wr.cell? ⟨bk, off + m * 4 + 1, none⟩ = some (.int .i64 y0) := (hbm.cell hbk).trans (hcell m _ hp 1 _ rfl)
          have d2 : wr.cell? ⟨bk, off + m * 4 + 2, none⟩ = some (.int .i64 x1) := (hbm.cell hbk).trans (hcell m _ hp 2 _ rfl)
          have d3 : wr.cell? ⟨bk, off + m * 4 + 3, none⟩ = some (.int .i64 y1) := (hbm.cell hbk).trans (hcell m _ hp 3 _ rfl)
          have hmz : (m : Int) < (l.length : Int) := by omega
          have hlenE : (P ++ cutsL (l.take m)).length ≤ 100000000 := by rw [List.length_append, cutsL_len, List.length_take]; omega
          have HE : Hid (P ++ cutsL (l.take (m + 1)) = P ++ cutsL (l.take m) ++ [x0, x1]) := hide (by rw [cutsL_take l m _ hp, List.append_assoc])
          obtain ⟨Av, cv, rfl⟩ := own_form hownm
          have hlt1 : w.heap.size + 1 < wr.heap.size := by omega
          have hlt0 : w.heap.size < wr.heap.size := by omega
          clear hcell
          generalize P ++ cutsL (l.take m) = E0 at *
          go_wp2_with (at_builtin; go_loud (refine wpList_append_lies _ rfl (.tmp 20) (.tmp 25) 156 rfl (w.heap.size + 2) 3 i0 (.int .i64 0) 1 8 Tryz.underlying156 hi hz0 hz1 hz2 rfl (by decide) _ _ _ rfl ((hownm.alloc _).alloc _) ⟨wr.heap.size + 1, 0, none⟩ 2 2 [.int .i64 x0, .int .i64 x1] rfl rfl (news_new (wr.alloc _) _ _ _ (by simp)) (ints_one rfl) (by omega) (by unfold maxLen; omega) (by omega) (by simp; omega) _ rfl ?_))
          intro g cap w2 hown2 hgrow _ _
          have hx2 : E0.map iv ++ [.int .i64 x0, .int .i64 x1] = (E0 ++ [x0, x1]).map iv := by simp
          have HL : Hid (E0.length + 2 = (P ++ cutsL (l.take (m + 1))).length) := hide (by rw [HE.out]; simp)
          rw [hx2, ← HE.out] at hown2
          obtain ⟨k3, k4, HF⟩ := box_fin hszm (Nat.lt_succ_self _) hc1 hf1 (((Below.refl _ wr).alloc (Nat.le_refl _) _).alloc (by simp) _) hgrow (fun k h => (hownm.lt k h).1) hown2
          have HC := hide hc0
          clear hown2 hgrow hownm hx2 hc1 hf1 hc0 d0 d1 d2 d3
          go_wp2
          go_roundw
          case rel =>
            obtain ⟨z1, z2, z3, z4, z5, z6⟩ := HF.out
            exact ⟨m + 1, by omega, by go_num, _, z1, z2, (z5 _ _ (by omega) (by omega)).trans HC.out, own_n z3 HL.out, hbm.trans (z4.mono (by omega)), by omega⟩
          case measure => simp [intOf]; omega
        · have hme : ¬ (m : Int) < (l.length : Int) := by omega
          have hmt : l.take m = l := List.take_of_length_le (by omega)
          rw [hmt, ← HK.out] at hownm
          have HO := hide hownm
          clear hmt hownm
          go_wp2
          go_roundw
          case rel => exact ⟨k + 1, by omega, by go_num, v, hc1, hf1, hc0, HO.out, hbm, hszm⟩
          case measure => simp [intOf]; omega
    · have hkz : ¬ (k : Int) < (ls.length : Int) := by omega
      have hkt : ls.take k = ls := List.take_of_length_le (by omega)
      rw [hkt] at hown
      have HO := hide hown
      clear hkt hown
      have hl : (ls.flatMap cutsL).length < 4611686018427387904 := by omega
      have hlm : ((ls.flatMap cutsL).mergeSort fun x y => decide (x ≤ y)).length = (ls.flatMap cutsL).length := List.length_mergeSort _
      have HM := hide hlm
      have HC0 := hide hc0
      clear hc0 hlm
      go_wp2_with (first
        | (go_at_call 178; refine (sortI_any _ v _ wr HO.out hl).mono ?_; rintro e w1 ⟨rfl, ho1, hg1⟩; have hb1 : Below (w.heap.size + 2) wr w1 := (Below.refl _ _).grown hg1 hsz (fun k h => (HO.out.lt k h).1); have e1 := (hb1.cell (p := ⟨w.heap.size + 1, 0, none⟩) (Nat.lt_succ_self _)).trans hc1; have HO1 := hide ho1; have HB1 := hide hb1; clear ho1 hg1 hb1)
        | (go_at_call 179; refine (compI_any _ v _ w1 (own_n HO1.out HM.out.symm) (by rw [HM.out]; exact hl)).mono ?_; rintro e w2 ⟨v2, rfl, hv2, ho2, hg2⟩; have hb2 : Below (w.heap.size + 2) w1 w2 := (Below.refl _ _).grown hg2 (Nat.le_trans hsz HB1.out.size) (fun k h => (HO1.out.lt k h).1); have e2 := (hb2.cell (p := ⟨w.heap.size + 1, 0, none⟩) (Nat.lt_succ_self _)).trans e1; have f2 := ((HB1.out.trans hb2).frozen (p := ⟨w.heap.size + 1, 0, none⟩) (Nat.lt_succ_self _)).trans hf1; have HO2 := hide ho2; have HB2 := hide hb2; clear ho2 hg2 hb2; obtain ⟨Av, cv, hv2⟩ := own_form HO2.out; subst hv2))
      go_ret
      have hB : Below (w.heap.size + 2) wr w2 := HB1.out.trans HB2.out
      refine ⟨_, rfl, ?_, by simp [go_sem, e2], ownsRow_setCell_below HO2.out (Nat.lt_succ_self _) _, (hb.trans (hB.mono (by omega))).setCell (p := ⟨w.heap.size + 1, 0, none⟩) (Nat.le_succ _) _⟩
      exact (World.cell?_of_block (w := w2) (a := ⟨w.heap.size, 0, none⟩) (Below.heap_setCell _ _ _ _ (Nat.ne_of_lt (Nat.lt_succ_self _)))).trans ((hB.cell (p := ⟨w.heap.size, 0, none⟩) (by show w.heap.size < _; omega)).trans HC0.out)
end Go.Proofs.YtdolpeljengpaaaGreat

/- region.slabs's iterator: the slabs between neighbouring cuts. -/
namespace Go.Proofs.YtdolpeljengpaaaGreat
open Go.RowKit
set_option linter.unusedVariables false
set_option linter.unusedSimpArgs false
attribute [local go_sem] Oper.semAt_some

/-- What a round keeps for an iterator: the old blocks, but for bb. -/
def KpX (bb n : Nat) (A B : World) : Prop := A.heap.size ≤ B.heap.size ∧ ∀ b o, b < n → b ≠ bb → B.cell? ⟨b, o, none⟩ = A.cell? ⟨b, o, none⟩
theorem KpX.trans {b n : Nat} {A B C : World} (h : KpX b n A B) (k : KpX b n B C) : KpX b n A C := ⟨Nat.le_trans h.1 k.1, fun q o h1 h2 => (k.2 q o h1 h2).trans (h.2 q o h1 h2)⟩

/-- What a round is handed: the slab from x.1 to x.2, with the cross-sections of the lists. -/
def OkSlab (ls : List (List R4)) (x : Int × Int) (args : Array Value) (W : World) : Prop :=
  ∃ Rw, args = #[.agg #[.int .i64 x.1, .int .i64 x.2, .slice (some ⟨Rw, 0, none⟩) ls.length ls.length]] ∧ Rw < W.heap.size ∧ ∀ k l, ls[k]? = some l → ∃ v, W.cell? ⟨Rw, k, none⟩ = some v ∧ RdK encS 2 W W.heap.size v (crossL l x.1)

/-- Between two lists of a round: the slab's cells, and the cross-sections gathered so far. -/
structure SMid (ls : List (List R4)) (c d : Int) (Rw S k : Nat) (wi wr : World) : Prop where
  ne : S ≠ Rw
  lowR : wi.heap.size ≤ Rw
  lowS : wi.heap.size ≤ S
  topR : Rw < wr.heap.size
  topS : S < wr.heap.size
  below : Below wi.heap.size wi wr
  s0 : wr.cell? ⟨S, 0, none⟩ = some (.int .i64 c)
  s1 : wr.cell? ⟨S, 1, none⟩ = some (.int .i64 d)
  s2 : wr.cell? ⟨S, 2, none⟩ = some (.slice (some ⟨Rw, 0, none⟩) ls.length ls.length)
  done : ∀ j l, j < k → ls[j]? = some l → ∃ v, wr.cell? ⟨Rw, j, none⟩ = some v ∧ wr.ownsRow (Rw + 1) 188 2 v (crossL l c).length ((crossL l c).flatMap encS)
  left : ∀ j, k ≤ j → j < ls.length → wr.cell? ⟨Rw, j, none⟩ = some (.slice none 0 0)
  fz : ∀ j, wr.frozen? ⟨Rw, j, none⟩ = false
/-- Between two rectangles of list l = ls[k]: wk, the world ahead of the list. -/
structure SIn (l : List R4) (c : Int) (Rw k m : Nat) (wk wr : World) : Prop where
  upd : Upd Rw none wk wr
  oth : ∀ j, j ≠ k → wr.cell? ⟨Rw, j, none⟩ = wk.cell? ⟨Rw, j, none⟩
  fz : ∀ j, wr.frozen? ⟨Rw, j, none⟩ = wk.frozen? ⟨Rw, j, none⟩
  cur : ∃ v, wr.cell? ⟨Rw, k, none⟩ = some v ∧ wr.ownsRow wk.heap.size 188 2 v (crossL (l.take m) c).length ((crossL (l.take m) c).flatMap encS)

theorem SIn.start {ls : List (List R4)} {l : List R4} {c d : Int} {Rw S k : Nat} {wi wk : World} (h : SMid ls c d Rw S k wi wk) (hk : k < ls.length) : SIn l c Rw k 0 wk wk :=
  ⟨Upd.refl _ _ _, fun _ _ => rfl, fun _ => rfl, ⟨_, h.left k (Nat.le_refl _) hk, World.ownsRow_nil _ _ _ _⟩⟩
theorem SIn.fin {ls : List (List R4)} {l : List R4} {c d : Int} {Rw S k : Nat} {wi wk wr : World} (h : SMid ls c d Rw S k wi wk) (hl : ls[k]? = some l) (g : SIn l c Rw k l.length wk wr) : SMid ls c d Rw S (k + 1) wi wr := by
  have hne := h.ne
  have hlR := h.lowR
  have htR := h.topR
  have hbs := h.below.size
  have key : ∀ {b o v}, b ≠ Rw → wk.cell? ⟨b, o, none⟩ = some v → wr.cell? ⟨b, o, none⟩ = some v := fun {b o v} hb e => (g.upd.cell (lt_of_cell e) hb (by simp)).trans e
  refine ⟨hne, hlR, h.lowS, Nat.lt_of_lt_of_le htR g.upd.size, Nat.lt_of_lt_of_le h.topS g.upd.size, h.below.trans (g.upd.below hlR hbs (by simp)), key hne h.s0, key hne h.s1, key hne h.s2, ?_, ?_, fun j => (g.fz j).trans (h.fz j)⟩
  · intro j l' hj hl'
    by_cases hjk : j = k
    · subst hjk
      rw [hl] at hl'
      injection hl' with hl'
      subst hl'
      obtain ⟨v, c1, c2⟩ := g.cur
      rw [List.take_length] at c2
      exact ⟨v, c1, own_base c2 (by omega)⟩
    · obtain ⟨v, c1, c2⟩ := h.done j l' (by omega) hl'
      refine ⟨v, (g.oth j hjk).trans c1, c2.1, ?_⟩
      rcases c2.2 with hn | ⟨gg, cap, cur, hv, hg, hh, r⟩
      · exact .inl hn
      · exact .inr ⟨gg, cap, cur, hv, hg, (g.upd.block gg (Array.getElem?_eq_some_iff.1 hh).1 (by omega) (by simp)).trans hh, r⟩
  · intro j hj hjn
    exact (g.oth j (by omega)).trans (h.left j (by omega) hjn)
theorem crossL_take {l : List R4} {c : Int} {m : Nat} {r : R4} (h : l[m]? = some r) : crossL (l.take (m + 1)) c = crossL (l.take m) c ++ (if r.x0 ≤ c ∧ c < r.x1 then [(r.y0, r.y1)] else []) := by
  obtain ⟨hm, hp⟩ := List.getElem?_eq_some_iff.1 h
  rw [List.take_succ_eq_append_getElem hm, hp]
  unfold crossL
  rw [List.filter_append, List.map_append]
  congr 1
  by_cases hc : r.x0 ≤ c ∧ c < r.x1
  · simp [hc.1, hc.2]
  · rw [if_neg hc]
    have : (decide (r.x0 ≤ c) && decide (c < r.x1)) = false := by
      rw [Bool.and_eq_false_iff]
      by_cases h1 : r.x0 ≤ c
      · exact .inr (decide_eq_false fun h2 => hc ⟨h1, h2⟩)
      · exact .inl (decide_eq_false h1)
    simp [List.filter_cons, this]
theorem SIn.skip {l : List R4} {c : Int} {Rw k m : Nat} {wk wr wr' : World} {r : R4} (g : SIn l c Rw k m wk wr) (hr : l[m]? = some r) (hc : ¬ (r.x0 ≤ c ∧ c < r.x1)) (hb : Below wr.heap.size wr wr') (hR : Rw < wr.heap.size) : SIn l c Rw k (m + 1) wk wr' := by
  obtain ⟨v, c1, c2⟩ := g.cur
  refine ⟨g.upd.trans (Upd.of_below hb), fun j hj => (hb.cell (p := ⟨Rw, j, none⟩) hR).trans (g.oth j hj), fun j => (hb.frozen (p := ⟨Rw, j, none⟩) hR).trans (g.fz j), v, (hb.cell (p := ⟨Rw, k, none⟩) hR).trans c1, ?_⟩
  rw [crossL_take hr, if_neg hc, List.append_nil]
  refine ⟨c2.1, ?_⟩
  rcases c2.2 with hn | ⟨gg, cap, cur, hv, hg, hh, r⟩
  · exact .inl hn
  · exact .inr ⟨gg, cap, cur, hv, hg, (hb.block gg (Array.getElem?_eq_some_iff.1 hh).1).trans hh, r⟩
theorem SIn.push {l : List R4} {c : Int} {Rw k m n : Nat} {wk wr wa w2 : World} {r : R4} {v v2 : Value} (g : SIn l c Rw k m wk wr) (hr : l[m]? = some r) (hc : r.x0 ≤ c ∧ c < r.x1) (hv : wr.cell? ⟨Rw, k, none⟩ = some v) (hR : Rw < wk.heap.size)
    (ha : Below wr.heap.size wr wa) (hgrow : wa.grownBy w2 v.ownBlock) (hrow : ∀ k, v.ownBlock = some k → wk.heap.size ≤ k) (hown2 : w2.ownsRow wk.heap.size 188 2 v2 n ((crossL (l.take m) c ++ [(r.y0, r.y1)]).flatMap encS)) (hf : wk.frozen? ⟨Rw, k, none⟩ = false) :
    w2.cell? ⟨Rw, k, none⟩ = some v ∧ w2.frozen? ⟨Rw, k, none⟩ = false ∧ Hid (SIn l c Rw k (m + 1) wk (w2.setCell ⟨Rw, k, none⟩ v2)) := by
  have hws := g.upd.size
  have hb : Below wk.heap.size wr w2 := (ha.mono hws).grown hgrow (by have := ha.size; omega) hrow
  have hcell : ∀ j, w2.cell? ⟨Rw, j, none⟩ = wr.cell? ⟨Rw, j, none⟩ := fun j => hb.cell (p := ⟨Rw, j, none⟩) hR
  have hfr : ∀ j, w2.frozen? ⟨Rw, j, none⟩ = wk.frozen? ⟨Rw, j, none⟩ := fun j => (hb.frozen (p := ⟨Rw, j, none⟩) hR).trans (g.fz j)
  have hk2 := (hcell k).trans hv
  refine ⟨hk2, (hfr k).trans hf, hide ⟨?_, fun j hj => ?_, fun j => ?_, v2, by simp [go_sem, hk2], ?_⟩⟩
  · refine Upd.setCell ⟨hb.os.trans g.upd.os, hb.tape.trans g.upd.tape, hb.output.trans g.upd.output, Nat.le_trans hws hb.size, fun b h1 h2 h3 => (hb.block b h1).trans (g.upd.block b h1 h2 h3)⟩ _ _
  · refine Eq.trans ?_ ((hcell j).trans (g.oth j hj))
    simp [go_sem, hj]
  · rw [World.frozen?_setCell]; exact hfr j
  · have hl := own_len (k := 2) hown2 (fun _ => rfl) (by omega)
    subst hl
    rw [crossL_take hr, if_pos hc]
    exact ownsRow_setCell_below hown2 hR _
/-- The slab as it is laid, in either order. -/
theorem smid_first1 {ls : List (List R4)} {c d : Int} {w : World} {CS : Array Value} {t1 t2 : TypeId} (hCS : ∀ j, j < ls.length → CS[j]? = some (.slice none 0 0)) :
    SMid ls c d w.heap.size (w.heap.size + 1) 0 w ((w.alloc (.cells CS t1)).alloc (.cells #[.int .i64 c, .int .i64 d, .slice (some ⟨w.heap.size, 0, none⟩) ls.length ls.length] t2)).drew := by
  refine ⟨by omega, Nat.le_refl _, by omega, by simp; omega, by simp, (((Below.refl _ _).alloc (Nat.le_refl _) _).alloc (by simp) _).drew, by simp [go_sem], by simp [go_sem], by simp [go_sem], fun j _ h => by omega, fun j _ hj => ?_, fun j => by simp [go_sem]⟩
  refine (World.cell?_alloc_lt (w.alloc (.cells CS t1)) _ ⟨w.heap.size, j, none⟩ (by simp)).trans ?_
  have := news_new w CS.toList t1 w.heap.size rfl j _ (by simpa using hCS j hj)
  rw [addr_add] at this
  simpa using this
theorem smid_first2 {ls : List (List R4)} {c d : Int} {w : World} {CS : Array Value} {t1 t2 : TypeId} (hCS : ∀ j, j < ls.length → CS[j]? = some (.slice none 0 0)) :
    SMid ls c d (w.heap.size + 1) w.heap.size 0 w ((w.alloc (.cells #[.int .i64 c, .int .i64 d, .slice (some ⟨w.heap.size + 1, 0, none⟩) ls.length ls.length] t2)).alloc (.cells CS t1)).drew := by
  refine ⟨by omega, by omega, Nat.le_refl _, by simp, by simp; omega, (((Below.refl _ _).alloc (Nat.le_refl _) _).alloc (by simp) _).drew, by simp [go_sem], by simp [go_sem], by simp [go_sem], fun j _ h => by omega, fun j _ hj => ?_, fun j => by simp [go_sem]⟩
  have := news_new (w.alloc (.cells #[.int .i64 c, .int .i64 d, .slice (some ⟨w.heap.size + 1, 0, none⟩) ls.length ls.length] t2)) CS.toList t1 (w.heap.size + 1) (by simp) j _ (by simpa using hCS j hj)
  rw [addr_add] at this
  simpa using this
end Go.Proofs.YtdolpeljengpaaaGreat

/- region.slabs's iterator: the walk. -/
namespace Go.Proofs.YtdolpeljengpaaaGreat
open Go.RowKit
set_option linter.unusedVariables false
set_option linter.unusedSimpArgs false
attribute [local go_sem] Oper.semAt_some

theorem infoSS : (Tryz.prog.info? 182).map (fun i => (i.zero, i.size, i.bytes)) = some (some (.slice none 0 0), 1, 24) := by kernel_rfl
theorem infoSp : (Tryz.prog.info? 188).map (fun i => (i.zero, i.size, i.bytes)) = some (some (.agg #[.int .i64 0, .int .i64 0]), 2, 16) := by kernel_rfl

theorem own_drew {w : World} {base size : Nat} {e : TypeId} {v : Value} {n : Nat} {xs : List Value} (h : w.ownsRow base e size v n xs) : w.drew.ownsRow base e size v n xs := h
theorem news_drew (w : World) (cs : List Value) (t : TypeId) (B : Nat) (hB : w.heap.size = B) : ∀ j u, cs[j]? = some u → (w.alloc (.cells cs.toArray t)).drew.cell? ((⟨B, 0, none⟩ : Addr).add j) = some u := news_new w cs t B hB
theorem app_after {l : List R4} {c : Int} {Rw k m n S : Nat} {wk wr wb w2 : World} {r : R4} {v v2 a b1 b3 : Value} (g : SIn l c Rw k m wk wr) (hr : l[m]? = some r) (hc : r.x0 ≤ c ∧ c < r.x1) (hv : wr.cell? ⟨Rw, k, none⟩ = some v) (hR : Rw < wk.heap.size) (hbw : Below wr.heap.size wr wb) (o : Obj)
    (hvo : wr.ownsRow wk.heap.size 188 2 v (crossL (l.take m) c).length ((crossL (l.take m) c).flatMap encS)) (hgrow : (wb.alloc o).drew.grownBy w2 v.ownBlock) (hown2 : w2.ownsRow wk.heap.size 188 2 v2 n ((crossL (l.take m) c).flatMap encS ++ [.int .i64 r.y0, .int .i64 r.y1])) (hf : wk.frozen? ⟨Rw, k, none⟩ = false)
    (hS : S < wk.heap.size) (f2 : wb.cell? ⟨S, 2, none⟩ = some a) (f1 : wb.cell? ⟨wr.heap.size, 1, none⟩ = some b1) (f3 : wb.cell? ⟨wr.heap.size, 3, none⟩ = some b3) :
    w2.cell? ⟨S, 2, none⟩ = some a ∧ w2.cell? ⟨Rw, k, none⟩ = some v ∧ w2.cell? ⟨wr.heap.size, 1, none⟩ = some b1 ∧ w2.cell? ⟨wr.heap.size, 3, none⟩ = some b3 ∧ w2.frozen? ⟨Rw, k, none⟩ = false ∧ Hid (SIn l c Rw k (m + 1) wk (w2.setCell ⟨Rw, k, none⟩ v2)) := by
  have hrow := hvo.lt
  have ha : Below wr.heap.size wr (wb.alloc o).drew := (hbw.alloc hbw.size o).drew
  have hx : (crossL (l.take m) c).flatMap encS ++ [.int .i64 r.y0, .int .i64 r.y1] = (crossL (l.take m) c ++ [(r.y0, r.y1)]).flatMap encS := by simp [encS]
  rw [hx] at hown2
  obtain ⟨p1, p2, p3⟩ := g.push hr hc hv hR ha hgrow (fun q hq => (hrow q hq).1) hown2 hf
  have far : ∀ (q i : Nat) (u : Value), wb.cell? ⟨q, i, none⟩ = some u → v.ownBlock ≠ some q → w2.cell? ⟨q, i, none⟩ = some u := fun q i u hu hq =>
    World.grownBy.cell hgrow (a := ⟨q, i, none⟩) ((World.cell?_alloc_lt wb o ⟨q, i, none⟩ (lt_of_cell hu)).trans hu) (fun e => hq e.symm)
  exact ⟨far S 2 a f2 (fun e => by have := hrow S e; omega), p1, far _ 1 b1 f1 (fun e => by have := hrow _ e; omega), far _ 3 b3 f3 (fun e => by have := hrow _ e; omega), p2, p3⟩
/-- 'make([][]Span, n)', to the cell. -/
theorem make_ss (n : Nat) (hn : n ≤ 1000) : ∃ CS : Array Value, (∀ j, j < n → CS[j]? = some (.slice none 0 0)) ∧ ∀ W : World, (Instr.makeSlice 208 (.int .i64 (n : Int)) (.int .i64 (n : Int))).run Tryz.prog W = .ok (.slice (some ⟨W.heap.size, 0, none⟩) n n) (W.alloc (.cells CS 182)) := by
  obtain ⟨i0, hi, hz0, hz1, hz2⟩ := info_parts infoSS
  refine ⟨madeCells (Value.slice none 0 0).cells (n * i0.size), ?_, fun W => ?_⟩
  · intro j hj
    rw [hz1]
    have : (madeCells #[Value.slice none 0 0] n).toList[j]? = some (.slice none 0 0) := by rw [toList_madeCells_one]; simp [hj]
    rw [Nat.mul_one]
    rw [Array.getElem?_toList] at this
    exact this
  · have := run_make (P := Tryz.prog) W 208 182 i0 _ Tryz.underlying208 hi hz0 .i64 .i64 (n : Int) (n : Int) (by omega) (Int.le_refl _) (by rw [hz2]; omega) (by omega)
    simpa using this

set_option maxRecDepth 100000 in
set_option maxHeartbeats 4000000 in
theorem slabsItA (ls : List (List R4)) (cs : List Int) (bc bl L cc cv bb base : Nat) (A : Option Addr) (w0 : World) (hbl : bl < w0.heap.size) (hbc : bc < w0.heap.size) (hLs : L < w0.heap.size) (n1 : bl ≠ bb) (n2 : bc ≠ bb) (n3 : L ≠ bb) (n4 : bb < base) (n5 : bb ≤ w0.heap.size)
    (hlb : w0.cell? ⟨bl, 0, none⟩ = some (.slice (some ⟨L, 0, none⟩) ls.length cc)) (hcb : w0.cell? ⟨bc, 0, none⟩ = some (.slice A cs.length cv)) (hown : w0.ownsRow base 3 1 (.slice A cs.length cv) cs.length (cs.map iv))
    (hv : ∀ k l, ls[k]? = some l → l.length ≤ 100000000 ∧ ∃ v, w0.cell? ⟨L, k, none⟩ = some v ∧ RdK encR 4 w0 bb v l) (hls : ls.length ≤ 1000) (hcs : cs.length ≤ 100000000) :
    Iter Tryz.prog 180 #[.pointer (some ⟨bc, 0, none⟩), .pointer (some ⟨bl, 0, none⟩)] (prs cs) (OkSlab ls) (KpX bb w0.heap.size) w0 := by
  intro l J Jx W hW hJ hY h0
  obtain ⟨i0, hi, hz0, hz1, hz2⟩ := info_parts infoSS
  obtain ⟨i1, gi, gz0, gz1, gz2⟩ := info_parts infoSp
  refine callsIn_of_wp Tryz.func180 rfl trivial ?_
  simp only [Tryz.ntmps180, List.size_toArray, List.length_cons, List.length_nil, Nat.reduceAdd, Nat.reduceSub, Array.replicate_succ, Array.replicate_zero, List.push_toArray, List.append_toArray, List.nil_append, List.cons_append]
  have HV := hide hv
  have HY := hide hY
  have HJ := hide hJ
  clear hv hY hJ
  gi_wp2
  gi_loopw [4] (fun p wr => ∃ k : Nat, k ≤ (prs cs).length ∧ p = .int .i64 ((k : Int) + 1) ∧ Hid (J ((prs cs).take k) wr) ∧ Hid (∀ b o, b < w0.heap.size → b ≠ bb → wr.cell? ⟨b, o, none⟩ = w0.cell? ⟨b, o, none⟩) ∧ w0.heap.size ≤ wr.heap.size)
    (fun p _ => ((prs cs).length + 1) - (intOf p).toNat)
  case atStart => exact ⟨0, Nat.zero_le _, rfl, hide (by simpa using h0), hide fun b o h _ => hW.cell (p := ⟨b, o, none⟩) h, hW.size⟩
  case round =>
    obtain ⟨k, hk, rfl, HJk, HC, hsz⟩ := hrel
    have hpl := prs_len cs
    have kb := (HC.out bl 0 hbl n1).trans hlb
    have kc := (HC.out bc 0 hbc n2).trans hcb
    by_cases hlt : k < (prs cs).length
    · have hltz : (k : Int) + 1 < (cs.length : Int) := by omega
      obtain ⟨c, hc⟩ : ∃ c, cs[k]? = some c := ⟨_, List.getElem?_eq_getElem (by omega)⟩
      obtain ⟨d, hd⟩ : ∃ d, cs[k + 1]? = some d := ⟨_, List.getElem?_eq_getElem (by omega)⟩
      obtain ⟨g, cv', hf, hbg, hgw⟩ := hown.form (by omega)
      injection hf with e1 _ e3
      subst e1; subst e3
      have kc0 : wr.cell? ⟨g, k, none⟩ = some (.int .i64 c) := by
        have := (hown.cells (g := g) rfl) k (iv c) (by simp [hc])
        rw [addr_add] at this
        exact (HC.out g k hgw (by omega)).trans this
      have kc1 : wr.cell? ⟨g, k + 1, none⟩ = some (.int .i64 d) := by
        have := (hown.cells (g := g) rfl) (k + 1) (iv d) (by simp [hd])
        rw [addr_add] at this
        exact (HC.out g (k + 1) hgw (by omega)).trans this
      have HP := hide (prs_get cs k c d hc hd)
      gi_wp2
      obtain ⟨CS, hCS, hmk⟩ := make_ss ls.length hls
      have HS := hide hCS
      clear hCS
      refine wpIn_wide.2 ?_
      have q1 : (0 : Int) ≤ (k : Int) := by omega
      have q2 : (k : Int) < (cs.length : Int) := by omega
      have q3 : (0 : Int) ≤ (k : Int) + 1 := by omega
      have hcsz : (cs.length : Int) ≤ 100000000 := by omega
      have hw1 : IntKind.i64.wrap (k : Int) = k := by simp [IntKind.wrap, IntKind.bits, IntKind.signed]; omega
      have hw2 : IntKind.i64.wrap ((k : Int) + 1) = (k : Int) + 1 := by simp [IntKind.wrap, IntKind.bits, IntKind.signed]; omega
      have t1 : ((k : Int) + 1).toNat = k + 1 := by omega
      go_region_held3 (fun w' => w'.cell? ⟨bc, 0, none⟩ = some (.slice (some ⟨g, 0, none⟩) cs.length cv) ∧ w'.cell? ⟨bl, 0, none⟩ = some (.slice (some ⟨L, 0, none⟩) ls.length cc) ∧ w'.cell? ⟨g, k, none⟩ = some (.int .i64 c) ∧ w'.cell? ⟨g, k + 1, none⟩ = some (.int .i64 d)) (go_keep) (fail)
      case' refine_2.refine_3.refine_3.refine_3.refine_3.refine_3.refine_3.refine_3.refine_3.refine_3.refine_3.refine_3.refine_1.refine_2.refine_3.refine_1.refine_2.refine_1.refine_2 =>
        have M := smid_first1 (ls := ls) (c := c) (d := d) (w := wr) (t1 := 182) (t2 := 210) HS.out
        generalize World.drew (World.alloc (World.alloc _ _) _) = w3 at M ⊢
        obtain ⟨S, hS⟩ : ∃ S, wr.heap.size + 1 = S := ⟨_, rfl⟩
        obtain ⟨Rw, hR⟩ : ∃ Rw, wr.heap.size = Rw := ⟨_, rfl⟩
        rw [hS] at M ⊢
        rw [hR] at M ⊢
        clear hS hR
      case' refine_2.refine_3.refine_3.refine_3.refine_3.refine_3.refine_3.refine_3.refine_3.refine_3.refine_3.refine_3.refine_2.refine_1.refine_2.refine_1.refine_2.refine_3.refine_1.refine_2 =>
        have M := smid_first2 (ls := ls) (c := c) (d := d) (w := wr) (t1 := 182) (t2 := 210) HS.out
        generalize World.drew (World.alloc (World.alloc _ _) _) = w3 at M ⊢
        obtain ⟨Rw, hR⟩ : ∃ S, wr.heap.size + 1 = S := ⟨_, rfl⟩
        obtain ⟨S, hS⟩ : ∃ Rw, wr.heap.size = Rw := ⟨_, rfl⟩
        rw [hR] at M ⊢
        rw [hS] at M ⊢
        clear hS hR
      all_goals
        generalize wr = wi at *
        clear hlb hcb hmk q1 q2 q3 hw1 hw2 t1 kc kc0 kc1 hltz hown HS h0 hW
        have hlsz : (ls.length : Int) ≤ 1000 := by omega
        have hbl' : bl < wi.heap.size := by omega
        have m0 := (M.below.cell (p := ⟨bl, 0, none⟩) hbl').trans kb
        gi_wp2
        refine wpIn_wide.2 ?_
        go_loopw [31] (fun i wx => ∃ j : Nat, j ≤ ls.length ∧ i = .int .i64 j ∧ SMid ls c d Rw S j wi wx) (fun i _ => ls.length - (intOf i).toNat)
        case atStart => exact ⟨0, Nat.zero_le _, rfl, M⟩
        case round =>
          clear m0 M
          obtain ⟨j, hj, rfl, M⟩ := hrel
          by_cases hjl : j < ls.length
          · have hjz : (j : Int) < (ls.length : Int) := by omega
            obtain ⟨r, hr⟩ : ∃ r, ls[j]? = some r := ⟨_, List.getElem?_eq_getElem hjl⟩
            obtain ⟨hrl, v, hvc, Av, cr, rfl, hrd⟩ := HV.out j r hr
            have hL2 : wr.cell? ⟨L, j, none⟩ = some (.slice Av r.length cr) := (M.below.cell (p := ⟨L, j, none⟩) (by show L < _; omega)).trans ((HC.out L j hLs n3).trans hvc)
            have HR := hide hrd
            clear hvc hrd
            go_wp2
            have hRk := M.topR
            have hSk := M.topS
            have hne := M.ne
            have hwk := M.below.size
            have hlR := M.lowR
            have SS := SIn.start (l := r) M hjl
            have HM := hide M
            have e0 := M.s0
            have e2 := M.s2
            clear M hL2
            generalize wr = wk at *
            go_loopw [38] (fun i wx => ∃ m : Nat, m ≤ r.length ∧ i = .int .i64 m ∧ SIn r c Rw j m wk wx) (fun i _ => r.length - (intOf i).toNat)
            case atStart => exact ⟨0, Nat.zero_le _, rfl, SS⟩
            case round =>
              clear SS
              obtain ⟨m, hm, rfl, SS⟩ := hrel
              by_cases hml : m < r.length
              · obtain ⟨⟨x0, y0, x1, y1⟩, hp⟩ : ∃ p, r[m]? = some p := ⟨_, List.getElem?_eq_getElem hml⟩
                have hner : r ≠ [] := by intro e; rw [e] at hml; simp at hml
                obtain ⟨bk, off, rfl, hbk, hcell⟩ := HR.out hner
                have tr : ∀ o, wr.cell? ⟨bk, o, none⟩ = w0.cell? ⟨bk, o, none⟩ := fun o =>
                  (SS.upd.cell (by omega) (by omega) (by simp)).trans ((HM.out.below.cell (p := ⟨bk, o, none⟩) (by show bk < _; omega)).trans (HC.out bk o (by omega) (by omega)))
                have d0 : wr.cell? ⟨bk, off + m * 4, none⟩ = some (.int .i64 x0) := (tr _).trans (hcell m _ hp 0 _ rfl)
                have d1 : wr.cell? ⟨bk, off + m * 4 + 1, none⟩ = some (.int .i64 y0) := (tr _).trans (hcell m _ hp 1 _ rfl)
                have d2 : wr.cell? ⟨bk, off + m * 4 + 2, none⟩ = some (.int .i64 x1) := (tr _).trans (hcell m _ hp 2 _ rfl)
                have d3 : wr.cell? ⟨bk, off + m * 4 + 3, none⟩ = some (.int .i64 y1) := (tr _).trans (hcell m _ hp 3 _ rfl)
                have f0 := (SS.upd.cell (off := 0) hSk hne (by simp)).trans e0
                have f2 := (SS.upd.cell (off := 2) hSk hne (by simp)).trans e2
                have hws := SS.upd.size
                have hmz : (m : Int) < (r.length : Int) := by omega
                have HE0 := hide e0
                have HE2 := hide e2
                have HSS := hide SS
                have hSw : S < wr.heap.size := by omega
                clear hcell tr e0 e2 SS
                by_cases c1 : x0 ≤ c
                · by_cases c2 : c < x1
                  · go_wp2
                    obtain ⟨wb, hwb⟩ : ∃ wb, wb = wr.alloc (.cells #[.int .i64 x0, .int .i64 y0, .int .i64 x1, .int .i64 y1] 69) := ⟨_, rfl⟩
                    rw [← hwb]
                    obtain ⟨v, v1, v2⟩ := HSS.out.cur
                    obtain ⟨Av2, cv2, hv2⟩ := own_form v2
                    subst hv2
                    have hRw : Rw < wr.heap.size := by omega
                    have hj63 : (0 : Int) ≤ (j : Int) := by omega
                    have g2 : wb.cell? ⟨S, 2, none⟩ = some (.slice (some ⟨Rw, 0, none⟩) ls.length ls.length) := by rw [hwb]; exact (World.cell?_alloc_lt _ _ ⟨S, 2, none⟩ hSw).trans f2
                    have gv : wb.cell? ⟨Rw, j, none⟩ = some (.slice Av2 (crossL (r.take m) c).length cv2) := by rw [hwb]; exact (World.cell?_alloc_lt _ _ ⟨Rw, j, none⟩ hRw).trans v1
                    have gy0 : wb.cell? ⟨wr.heap.size, 1, none⟩ = some (.int .i64 y0) := by rw [hwb]; simp [go_sem]
                    have gy1 : wb.cell? ⟨wr.heap.size, 3, none⟩ = some (.int .i64 y1) := by rw [hwb]; simp [go_sem]
                    have gs : wb.heap.size = wr.heap.size + 1 := by rw [hwb]; simp
                    have hbw : Below wr.heap.size wr wb := by rw [hwb]; exact (Below.refl _ _).alloc (Nat.le_refl _) _
                    have gown : wb.ownsRow wk.heap.size 188 2 (.slice Av2 (crossL (r.take m) c).length cv2) (crossL (r.take m) c).length ((crossL (r.take m) c).flatMap encS) := by rw [hwb]; exact v2.alloc _
                    have hcl : (crossL (r.take m) c).length ≤ 100000000 := by
                      unfold crossL
                      rw [List.length_map]
                      refine Nat.le_trans (List.length_filter_le _ _) ?_
                      rw [List.length_take]; omega
                    have HFZ := hide (HM.out.fz j)
                    have HV1 := hide v1
                    have HV2 := hide v2
                    have HGV := hide gv
                    have HBW := hide hbw
                    have HG2 := hide g2
                    have HY0 := hide gy0
                    have HY1 := hide gy1
                    have HO := hide gown
                    have HGS := hide gs
                    have hRwb : Rw < wb.heap.size := by omega
                    have hSwb : S < wb.heap.size := by omega
                    have hwrb : wr.heap.size < wb.heap.size := by omega
                    have nR1 : Rw ≠ S := fun e => hne e.symm
                    have nR2 : Rw ≠ wr.heap.size := by omega
                    have hwkb : wk.heap.size ≤ wb.heap.size := by omega
                    clear gs d0 d1 d2 d3 f0 f2 v1 v2 gown hwb
                    refine wp_region_reads 13 (fun w' => w'.cell? ⟨S, 2, none⟩ = some (.slice (some ⟨Rw, 0, none⟩) ls.length ls.length) ∧ w'.cell? ⟨Rw, j, none⟩ = some (.slice Av2 (crossL (r.take m) c).length cv2) ∧ w'.cell? ⟨wr.heap.size, 1, none⟩ = some (.int .i64 y0) ∧ w'.cell? ⟨wr.heap.size, 3, none⟩ = some (.int .i64 y1)) (by kernel_rfl) (by kernel_rfl) ⟨g2, gv, gy0, gy1⟩ ?_
                    simp only [List.take_succ_cons, List.take_zero, List.drop_succ_cons, List.drop_zero]
                    iterate 13
                      refine ⟨?_, Or.inl ⟨by rfl, ?_⟩, ?_⟩
                      rotate_left 1
                      · intro w' hSw
                        obtain ⟨z1, z2, z3, z4⟩ := hSw
                        go_simp
                        first | done | with_reducible rfl
                      simp only [Act.put, List.setIfInBounds_toArray, List.set_cons_zero, List.set_cons_succ]
                    simp only [wpReads]
                    intro K hK
                    go_simp
                    refine hK _ _ (fun _ => ⟨by go_keep, by go_keep, by go_keep, by go_keep⟩) ?_
                    clear hK K
                    intro K hK
                    refine step_append_lies _ rfl (.tmp 61) (.tmp 67) 182 rfl wk.heap.size 188 i1 (.agg #[.int .i64 0, .int .i64 0]) 2 16 Tryz.underlying182 gi gz0 gz1 gz2 rfl (by decide) (.slice Av2 (crossL (r.take m) c).length cv2) (crossL (r.take m) c).length _ rfl (own_drew (World.ownsRow.alloc (w := wb) HO.out _)) ⟨wb.heap.size, 0, none⟩ 1 1 [.int .i64 y0, .int .i64 y1] rfl rfl (news_drew wb _ _ _ rfl) (ints_one rfl) (by omega) (by unfold maxLen; omega) (by omega) (by simp; omega) _ rfl ?_
                    intro g9 cap9 w9 hown9 hgrow9 _ _
                    obtain ⟨s1, s2, s3, s4, s5, HF9⟩ := app_after HSS.out hp ⟨c1, c2⟩ HV1.out hRk HBW.out _ HV2.out hgrow9 hown9 HFZ.out hSk HG2.out HY0.out HY1.out
                    clear hown9 hgrow9
                    refine hK _ _ (fun _ => ⟨s1, s2, s3, s4⟩) ?_
                    clear hK K
                    intro K hK
                    simp only [Act.put, List.setIfInBounds_toArray, List.set_cons_zero, List.set_cons_succ] at hK ⊢
                    go_simp
                    refine hK _ _ (fun _ => ⟨s1, s2, s3, s4⟩) ?_
                    clear hK K
                    intro K hK
                    simp only [Act.put, List.setIfInBounds_toArray, List.set_cons_zero, List.set_cons_succ] at hK ⊢
                    go_simp
                    refine hK _ _ (fun h => absurd rfl h) ?_
                    clear hK K
                    refine NoPanic.normal ?_
                    have HF9' := hide HF9.out
                    go_wp2
                    go_roundw
                    case rel => exact ⟨m + 1, by omega, by go_num, HF9'.out⟩
                    case measure => simp [intOf]; omega
                  · have c2' : x1 ≤ c := by omega
                    go_wp2
                    go_roundw
                    case rel => exact ⟨m + 1, by omega, by go_num, HSS.out.skip hp (fun h => by have := h.2; simp at this; omega) ((Below.refl _ _).alloc (Nat.le_refl _) _) (by omega)⟩
                    case measure => simp [intOf]; omega
                · have c1' : c < x0 := by omega
                  go_wp2
                  go_roundw
                  case rel => exact ⟨m + 1, by omega, by go_num, HSS.out.skip hp (fun h => by have := h.1; simp at this; omega) ((Below.refl _ _).alloc (Nat.le_refl _) _) (by omega)⟩
                  case measure => simp [intOf]; omega
              · obtain rfl : m = r.length := by omega
                have hmz : ¬ (r.length : Int) < (r.length : Int) := by omega
                have HF := hide (SIn.fin HM.out hr SS)
                clear SS e0 e2
                go_wp2
                go_roundw
                case rel => exact ⟨j + 1, by omega, by go_num, HF.out⟩
                case measure => simp [intOf]; omega
          · obtain rfl : j = ls.length := by omega
            have hjz : ¬ (ls.length : Int) < (ls.length : Int) := by omega
            have e0 := M.s0
            have e1 := M.s1
            have e2 := M.s2
            have hJ2 := HJ.out _ _ _ HJk.out M.below
            have hx : (prs cs)[k]? = some (c, d) := HP.out
            obtain ⟨hkp, hxe⟩ := List.getElem?_eq_some_iff.1 hx
            have hfi : (prs cs).take (k + 1) = (prs cs).take k ++ [(c, d)] := by rw [List.take_succ_eq_append_getElem hkp, hxe]
            have hpost : ∃ post, prs cs = (prs cs).take k ++ (c, d) :: post := ⟨(prs cs).drop (k + 1), by rw [← hxe, ← List.drop_eq_getElem_cons hkp, List.take_append_drop]⟩
            have hok : OkSlab ls (c, d) #[.agg #[.int .i64 c, .int .i64 d, .slice (some ⟨Rw, 0, none⟩) ls.length ls.length]] wr := by
              refine ⟨Rw, rfl, M.topR, fun q l hl => ?_⟩
              obtain ⟨v, v1, v2⟩ := M.done q l (List.getElem?_eq_some_iff.1 hl).1 hl
              exact ⟨v, v1, own_rd v2 (fun _ => rfl)⟩
            obtain ⟨fn, tmps, assign, body, hy, hR⟩ := HY.out ((prs cs).take k) (c, d) #[.agg #[.int .i64 c, .int .i64 d, .slice (some ⟨Rw, 0, none⟩) ls.length ls.length]] wr hJ2 hpost hok
            have FI := hide hfi
            have HM := hide M
            clear hx hxe hfi hpost hJ2 hok HJ HY M
            have hk2 : (k : Int) + 1 + 1 ≤ 100000001 := by omega
            have hk3' : (0 : Int) ≤ (k : Int) := by omega
            go_wp2
            gi_wp2
            refine ⟨rfl, hR.mono ?_⟩
            rintro e W3 (⟨rfl, hJ3, hk3⟩ | ⟨rfl, hJx3⟩)
            · have HJ3 := hide hJ3
              have HK3 := hide hk3
              clear hJ3 hk3 hR
              gi_wp2
              go_roundw
              case rel =>
                refine ⟨k + 1, by omega, by go_num, hide (by rw [FI.out]; exact HJ3.out), hide fun b o h1 h2 => (HK3.out.2 b o h1 h2).trans ((HM.out.below.cell (p := ⟨b, o, none⟩) (by show b < _; omega)).trans (HC.out b o h1 h2)), ?_⟩
                have := HK3.out.1
                have := HM.out.below.size
                omega
              case measure => simp [intOf]; omega
            · have HJx := hide hJx3
              clear hJx3 hR
              gi_wp2
              refine bodyPost_ret (results_none rfl _ _ _) rfl ?_
              exact ⟨⟨_, rfl⟩, .inr ⟨_, HJx.out⟩⟩
    · have hltz : ¬ (k : Int) + 1 < (cs.length : Int) := by omega
      have hk' : (prs cs).take k = prs cs := List.take_of_length_le (by omega)
      have HK := hide hk'
      clear hk' HJ HY h0
      gi_wp2
      go_end0
      exact ⟨⟨_, rfl⟩, .inl (by have := HJk.out; rw [HK.out] at this; exact this)⟩
end Go.Proofs.YtdolpeljengpaaaGreat

/- builder.add: one more slab. -/
namespace Go.Proofs.YtdolpeljengpaaaGreat
open Go.RowKit
set_option linter.unusedVariables false
set_option linter.unusedSimpArgs false

theorem own_below {w w1 : World} {B : Nat} {e : TypeId} {size : Nat} {v : Value} {n : Nat} {xs : List Value} (h : w.ownsRow B e size v n xs) (hb : Below w.heap.size w w1) : w1.ownsRow B e size v n xs := by
  refine ⟨h.1, ?_⟩
  rcases h.2 with hn | ⟨g, cap, cur, hv, hg, hh, r⟩
  · exact .inl hn
  · exact .inr ⟨g, cap, cur, hv, hg, (hb.block g (Array.getElem?_eq_some_iff.1 hh).1).trans hh, r⟩
theorem own_apart {w : World} {B B' : Nat} {e e' : TypeId} {size size' : Nat} {v v' : Value} {n n' : Nat} {xs xs' : List Value} (h : w.ownsRow B e size v n xs) (h' : w.ownsRow B' e' size' v' n' xs') (hne : e ≠ e') : v.ownBlock = none ∨ v.ownBlock ≠ v'.ownBlock := by
  rcases h.2 with ⟨rfl, _⟩ | ⟨g, cap, cur, rfl, _, hg, _⟩
  · exact .inl rfl
  · right
    intro he
    rcases h'.2 with ⟨rfl, _⟩ | ⟨g', cap', cur', rfl, _, hg', _⟩
    · simp [Value.ownBlock] at he
    · simp [Value.ownBlock] at he
      subst he
      rw [hg] at hg'
      injection hg' with hg'
      injection hg' with _ h2
      exact hne h2
theorem grown_refl (w : World) (row : Option Nat) : w.grownBy w row := ⟨rfl, rfl, rfl, Nat.le_refl _, fun _ _ _ => rfl⟩
theorem infoRc : (Tryz.prog.info? 69).map (fun i => (i.zero, i.size, i.bytes)) = some (some (.agg #[.int .i64 0, .int .i64 0, .int .i64 0, .int .i64 0]), 4, 32) := by kernel_rfl
/-- 'l[k].X1 = t', cell by cell. -/
theorem flat_set (t : Int) : ∀ (l : List R4) (k : Nat) (r : R4), l[k]? = some r → (l.flatMap encR).set (k * 4 + 2) (.int .i64 t) = (l.set k { r with x1 := t }).flatMap encR
  | [], k, r, h => by simp at h
  | a :: l, 0, r, h => by
    simp at h; subst h
    rfl
  | a :: l, k + 1, r, h => by
    have := flat_set t l k r (by simpa using h)
    rw [List.set_cons_succ, List.flatMap_cons, List.flatMap_cons, ← this, List.set_append_right _ _ (by show 4 ≤ _; omega)]
    congr 2
    show (k + 1) * 4 + 2 - 4 = _
    omega
/-- The rectangles from place m on, up to place k, end at t. -/
def upTo (t : Int) (m k : Nat) (l : List R4) : List R4 := l.mapIdx fun i r => if m ≤ i ∧ i < k then { r with x1 := t } else r
theorem upTo_len (t : Int) (m k : Nat) (l : List R4) : (upTo t m k l).length = l.length := by simp [upTo]
theorem upTo_start (t : Int) (m : Nat) (l : List R4) : upTo t m m l = l := by
  apply List.ext_getElem?
  intro i
  simp only [upTo, List.getElem?_mapIdx]
  cases l[i]? with
  | none => rfl
  | some r => simp; omega
theorem upTo_step (t : Int) (m k : Nat) (l : List R4) (r : R4) (hm : m ≤ k) (h : (upTo t m k l)[k]? = some r) : (upTo t m k l).set k { r with x1 := t } = upTo t m (k + 1) l := by
  apply List.ext_getElem?
  intro i
  rw [List.getElem?_set]
  have hk : k < (upTo t m k l).length := (List.getElem?_eq_some_iff.1 h).1
  by_cases hik : k = i
  · subst hik
    rw [if_pos rfl, if_pos hk]
    simp only [upTo, List.getElem?_mapIdx] at h ⊢
    cases hl : l[k]? with
    | none => rw [hl] at h; simp at h
    | some q =>
      rw [hl] at h
      simp at h
      subst h
      simp [hm]
  · rw [if_neg hik]
    simp only [upTo, List.getElem?_mapIdx]
    cases l[i]? with
    | none => rfl
    | some q =>
      have : (m ≤ i ∧ i < k) ↔ (m ≤ i ∧ i < k + 1) := by omega
      simp only [Option.map_some]
      by_cases hc : m ≤ i ∧ i < k
      · rw [if_pos hc, if_pos (this.1 hc)]
      · rw [if_neg hc, if_neg (fun g => hc (this.2 g))]
theorem upTo_end (S0 : List Slab) (f0 e t : Int) (s : List Sp) : upTo t (flat S0).length (flat (S0 ++ [⟨f0, e, s⟩])).length (flat (S0 ++ [⟨f0, e, s⟩])) = flat (S0 ++ [⟨f0, t, s⟩]) := by
  rw [flat_append, flat_one, flat_append, flat_one]
  apply List.ext_getElem?
  intro i
  simp only [upTo, List.getElem?_mapIdx, List.length_append]
  by_cases hi : i < (flat S0).length
  · rw [List.getElem?_append_left hi, List.getElem?_append_left hi]
    cases (flat S0)[i]? with
    | none => rfl
    | some q => simp; omega
  · rw [List.getElem?_append_right (by omega), List.getElem?_append_right (by omega)]
    simp only [flat1, List.getElem?_map, List.length_map]
    cases hq : s[i - (flat S0).length]? with
    | none => rfl
    | some q =>
      have := (List.getElem?_eq_some_iff.1 hq).1
      simp only [Option.map_some]
      rw [if_pos (by omega)]

/-- In the builder's second loop: the rectangles put out so far are L. -/
structure AddR (bb Bo : Nat) (w0 : World) (L : List R4) (vs : Value) (s : List Sp) (n : Nat) (t : Int) (wr : World) : Prop where
  low : bb < Bo
  size : Bo ≤ wr.heap.size
  out : ∃ vo, wr.cell? ⟨bb, 0, none⟩ = some vo ∧ wr.ownsRow Bo 69 4 vo L.length (L.flatMap encR)
  c1 : wr.cell? ⟨bb, 1, none⟩ = some vs
  c2 : wr.cell? ⟨bb, 2, none⟩ = some (.int .i64 n)
  c3 : wr.cell? ⟨bb, 3, none⟩ = some (.int .i64 t)
  fz : ∀ j, wr.frozen? ⟨bb, j, none⟩ = false
  own : wr.ownsRow Bo 188 2 vs s.length (s.flatMap encS)
  os : wr.os = w0.os
  tape : wr.tape = w0.tape
  output : wr.output = w0.output
  grow : w0.heap.size ≤ wr.heap.size
  block : ∀ q, q < Bo → q ≠ bb → wr.heap[q]? = w0.heap[q]?
  keep : KeepsOthers w0 wr
theorem keeps_below {w w1 : World} (h : Below w.heap.size w w1) : KeepsOthers w w1 := ⟨h.size, fun k o hk _ => (h.block k (Array.getElem?_eq_some_iff.1 hk).1).trans hk⟩
theorem own_cells {w : World} {B : Nat} {e : TypeId} {size : Nat} {v : Value} {n : Nat} {xs : List Value} (h : w.ownsRow B e size v n xs) : ∀ (j : Nat) (o : Obj), v.ownBlock = some j → w.heap[j]? = some o → o.isCells = true := by
  intro j o hj ho
  rcases h.2 with ⟨rfl, _⟩ | ⟨g, cap, cur, rfl, _, hg, _⟩
  · simp [Value.ownBlock] at hj
  · simp [Value.ownBlock] at hj
    subst hj
    rw [hg] at ho
    injection ho with ho
    subst ho; rfl
theorem AddR.start {bb Bo : Nat} {S : List Slab} {last s : List Sp} {first : Nat} {e t : Int} {vs : Value} {w w1 : World} (h : BW bb Bo S last first e w) (hb : Below w.heap.size w w1) (hs : w.ownsRow Bo 188 2 vs s.length (s.flatMap encS)) :
    AddR bb Bo w (flat S) vs s (flat S).length t (((w1.setCell ⟨bb, 2, none⟩ (.int .i64 ((flat S).length : Nat))).setCell ⟨bb, 1, none⟩ vs).setCell ⟨bb, 3, none⟩ (.int .i64 t)) := by
  have hlow := h.low
  have hbs : bb < w.heap.size := Nat.lt_of_lt_of_le h.low h.size
  obtain ⟨vo, o1, o2⟩ := h.out
  obtain ⟨vl, l1, l2⟩ := h.la
  have hc : ∀ o, w1.cell? ⟨bb, o, none⟩ = w.cell? ⟨bb, o, none⟩ := fun o => hb.cell (p := ⟨bb, o, none⟩) hbs
  have hf : ∀ o, w1.frozen? ⟨bb, o, none⟩ = w.frozen? ⟨bb, o, none⟩ := fun o => hb.frozen (p := ⟨bb, o, none⟩) hbs
  have c2 := h.fi
  have c3 := h.en
  refine ⟨hlow, ?_, ⟨vo, by simp [go_sem, hc, o1], ownsRow_setCell_below (ownsRow_setCell_below (ownsRow_setCell_below (own_below o2 hb) hlow _) hlow _) hlow _⟩, by simp [go_sem, hc, l1], by simp [go_sem, hc, c2], by simp [go_sem, hc, c3], fun j => ?_,
    ownsRow_setCell_below (ownsRow_setCell_below (ownsRow_setCell_below (own_below hs hb) hlow _) hlow _) hlow _, hb.os, hb.tape, hb.output, ?_, fun q h1 h2 => ?_, (((keeps_below hb).trans (KeepsOthers.setCell _ _ _)).trans (KeepsOthers.setCell _ _ _)).trans (KeepsOthers.setCell _ _ _)⟩
  · have := hb.size; have := h.size; simp [World.setCell]; omega
  · rw [World.frozen?_setCell, World.frozen?_setCell, World.frozen?_setCell, hf]; exact h.fz j
  · have := hb.size; simp [World.setCell]; omega
  · have := h.size
    exact (Below.heap_setCell _ _ _ _ h2).trans ((Below.heap_setCell _ _ _ _ h2).trans ((Below.heap_setCell _ _ _ _ h2).trans (hb.block q (by omega))))
/-- One rectangle more: behind the append, and behind the store into the builder's field. -/
theorem AddR.push {bb Bo : Nat} {w0 wr wa w2 : World} {L : List R4} {r : R4} {vs vo v2 : Value} {s : List Sp} {n k : Nat} {t : Int} (h : AddR bb Bo w0 L vs s n t wr) (hvo : wr.cell? ⟨bb, 0, none⟩ = some vo) (how : wr.ownsRow Bo 69 4 vo L.length (L.flatMap encR))
    (ha : Below wr.heap.size wr wa) (hg : wa.grownBy w2 vo.ownBlock) (hown2 : w2.ownsRow Bo 69 4 v2 k ((L ++ [r]).flatMap encR)) :
    w2.cell? ⟨bb, 0, none⟩ = some vo ∧ w2.frozen? ⟨bb, 0, none⟩ = false ∧ Hid (AddR bb Bo w0 (L ++ [r]) vs s n t (w2.setCell ⟨bb, 0, none⟩ v2)) := by
  have hlow := h.low
  have hsz := h.size
  have hB : Below Bo wr w2 := (ha.mono hsz).grown hg (Nat.le_trans hsz ha.size) fun q hq => (how.lt q hq).1
  have hc : ∀ o, w2.cell? ⟨bb, o, none⟩ = wr.cell? ⟨bb, o, none⟩ := fun o => hB.cell (p := ⟨bb, o, none⟩) hlow
  have hf : ∀ o, w2.frozen? ⟨bb, o, none⟩ = wr.frozen? ⟨bb, o, none⟩ := fun o => hB.frozen (p := ⟨bb, o, none⟩) hlow
  have k0 := (hc 0).trans hvo
  have hk := own_len (k := 4) hown2 (fun _ => rfl) (by omega)
  subst hk
  refine ⟨k0, (hf 0).trans (h.fz 0), hide ⟨hlow, ?_, ⟨v2, by simp [go_sem, k0], ownsRow_setCell_below hown2 hlow _⟩, ?_, ?_, ?_, fun j => ?_, ownsRow_setCell_below ((own_below h.own ha).kept hg ?_) hlow _, hB.os.trans h.os, hB.tape.trans h.tape, hB.output.trans h.output, ?_, fun q h1 h2 => ?_, ((h.keep.trans (keeps_below ha)).trans (KeepsOthers.of_grownBy hg fun j o hj ho => ?_)).trans (KeepsOthers.setCell _ _ _)⟩⟩
  · have := hB.size; simp [World.setCell]; omega
  · simp [go_sem, hc, h.c1]
  · simp [go_sem, hc, h.c2]
  · simp [go_sem, hc, h.c3]
  · rw [World.frozen?_setCell, hf]; exact h.fz j
  · exact own_apart h.own how (by decide)
  · have := hB.size; have := h.grow; simp [World.setCell]; omega
  · exact (Below.heap_setCell _ _ _ _ h2).trans ((hB.block q h1).trans (h.block q h1 h2))
  · exact own_cells (own_below how ha) j o hj ho

/-- One rectangle more, behind a box of two cells and the row of one that append reads. -/
theorem AddR.push2 {bb Bo : Nat} {w0 wr wb w2 : World} {L : List R4} {r : R4} {vs vo v2 b0 b1 : Value} {s : List Sp} {n k : Nat} {t : Int} (h : AddR bb Bo w0 L vs s n t wr) (hvo : wr.cell? ⟨bb, 0, none⟩ = some vo) (how : wr.ownsRow Bo 69 4 vo L.length (L.flatMap encR))
    (hbw : Below wr.heap.size wr wb) (o : Obj) (hg : (wb.alloc o).drew.grownBy w2 vo.ownBlock) (hown2 : w2.ownsRow Bo 69 4 v2 k (L.flatMap encR ++ encR r)) (f0 : wb.cell? ⟨wr.heap.size, 0, none⟩ = some b0) (f1 : wb.cell? ⟨wr.heap.size, 1, none⟩ = some b1) :
    w2.cell? ⟨bb, 0, none⟩ = some vo ∧ w2.cell? ⟨wr.heap.size, 0, none⟩ = some b0 ∧ w2.cell? ⟨wr.heap.size, 1, none⟩ = some b1 ∧ w2.frozen? ⟨bb, 0, none⟩ = false ∧ Hid (AddR bb Bo w0 (L ++ [r]) vs s n t (w2.setCell ⟨bb, 0, none⟩ v2)) := by
  have ha : Below wr.heap.size wr (wb.alloc o).drew := (hbw.alloc hbw.size o).drew
  have hx : L.flatMap encR ++ encR r = (L ++ [r]).flatMap encR := by simp
  rw [hx] at hown2
  obtain ⟨p1, p2, p3⟩ := h.push hvo how ha hg hown2
  have far : ∀ (q i : Nat) (u : Value), wb.cell? ⟨q, i, none⟩ = some u → vo.ownBlock ≠ some q → w2.cell? ⟨q, i, none⟩ = some u := fun q i u hu hq =>
    World.grownBy.cell hg (a := ⟨q, i, none⟩) ((World.cell?_alloc_lt wb o ⟨q, i, none⟩ (lt_of_cell hu)).trans hu) (fun e => hq e.symm)
  exact ⟨p1, far _ 0 b0 f0 (fun e => by have := how.lt _ e; omega), far _ 1 b1 f1 (fun e => by have := how.lt _ e; omega), p2, p3⟩

set_option maxRecDepth 100000 in
set_option maxHeartbeats 4000000 in
theorem add_any {bb Bo : Nat} {S : List Slab} {last s : List Sp} {first : Nat} {e f t : Int} {vs : Value} {w : World} (h : BW bb Bo S last first e w) (hs : w.ownsRow Bo 188 2 vs s.length (s.flatMap encS)) (hn : (flat S).length ≤ 100000000) (hsn : s.length ≤ 100000000) (hln : last.length ≤ 100000000)
    (hef : S = [] ∨ e ≤ f) (hft : f < t) :
    Calls Tryz.prog 144 #[.pointer (some ⟨bb, 0, none⟩), .int .i64 f, .int .i64 t, vs] w fun r w' => r = .returned (.tuple #[]) ∧ ∃ first', BW bb Bo (addS S f t s) s first' t w' ∧ Below bb w w' ∧ (∀ k, k < Bo → k ≠ bb → w'.heap[k]? = w.heap[k]?) ∧ KeepsOthers w w' := by
  obtain ⟨vo, o1, o2⟩ := h.out
  obtain ⟨vl, l1, l2⟩ := h.la
  obtain ⟨Ao, co, hvo, _⟩ := own_rd o2 (fun _ => rfl)
  obtain ⟨Al, cl, hvl, hrl⟩ := own_rd l2 (fun _ => rfl)
  obtain ⟨As, cs, hvs, hrs⟩ := own_rd hs (fun _ => rfl)
  subst hvo; subst hvl; subst hvs
  have c2 := h.fi
  have c3 := h.en
  have z0 := h.fz 0
  have z1 := h.fz 1
  have z2 := h.fz 2
  have z3 := h.fz 3
  by_cases hc : s ≠ [] ∧ e = f ∧ last = s
  · obtain ⟨hsne, rfl, rfl⟩ := hc
    obtain ⟨S0, f0, hS, hfi, hadd, hinv⟩ := BInv.join (t := t) h.inv hsne rfl rfl
    have heq := fun W (hb : Below w.heap.size w W) => eqSpan_any (w := W) (B := w.heap.size) (C := w.heap.size) ((own_rd l2 (fun _ => rfl)).below hb) ((own_rd hs (fun _ => rfl)).below hb) hln hb.size hb.size
    have hd : decide (last = last) = true := decide_eq_true rfl
    rw [hd] at heq
    have HEQ := hide heq
    have hbs : bb < w.heap.size := Nat.lt_of_lt_of_le h.low h.size
    have hfl : first < (flat S).length := by
      rw [hS, flat_append, flat_one, List.length_append, hfi]
      have := List.length_pos_iff.2 hsne
      simp [flat1]; omega
    obtain ⟨g, cap, hvo, hBg, hgw⟩ := o2.form (by omega)
    injection hvo with e1 _ e3
    subst e1; subst e3
    have hlow := h.low
    have hlp : (0 : Int) < (last.length : Int) := by have := List.length_pos_iff.2 hsne; omega
    have hee : (e == e) = true := by simp
    have HO := hide o2
    have HL := hide l2
    have HH := hide h
    have HI := hide hinv
    have HS := hide hS
    have HF := hide hfi
    have HA := hide hadd
    clear hd heq o2 l2 hs h hinv hS hfi hadd hrl hrs
    go_enter Tryz.func144, Tryz.ntmps144
    go_wp2_with (go_at_call 186; refine (HEQ.out _ (Below.refl _ _)).mono ?_; rintro r w1 ⟨rfl, hb1⟩; have d0 := (hb1.cell (p := ⟨bb, 0, none⟩) hbs).trans o1; have d2 := (hb1.cell (p := ⟨bb, 2, none⟩) hbs).trans c2; have d3 := (hb1.cell (p := ⟨bb, 3, none⟩) hbs).trans c3; have g3 := (hb1.frozen (p := ⟨bb, 3, none⟩) hbs).trans z3)
    go_loopw [8] (fun i wr => ∃ k : Nat, first ≤ k ∧ k ≤ (flat S).length ∧ i = .int .i64 k ∧ wr.cell? ⟨bb, 0, none⟩ = some (.slice (some ⟨g, 0, none⟩) (flat S).length co) ∧ wr.cell? ⟨bb, 3, none⟩ = some (.int .i64 e) ∧ wr.frozen? ⟨bb, 3, none⟩ = false ∧
        Hid (wr.ownsRow Bo 69 4 (.slice (some ⟨g, 0, none⟩) (flat S).length co) (flat S).length ((upTo t first k (flat S)).flatMap encR)) ∧ Hid (w1.grownBy wr (Value.slice (some ⟨g, 0, none⟩) (flat S).length co).ownBlock)) (fun i _ => (flat S).length - (intOf i).toNat)
    case atStart => exact ⟨first, Nat.le_refl _, by omega, rfl, d0, d3, g3, hide (by rw [upTo_start]; exact own_below HO.out hb1), hide (grown_refl _ _)⟩
    case round =>
      clear d0 d3 g3
      obtain ⟨k, hk1, hk2, rfl, d0, d3, g3, HR, HG⟩ := hrel
      by_cases hlt : k < (flat S).length
      · have hkz : (k : Int) < ((flat S).length : Int) := by omega
        obtain ⟨r, hr⟩ : ∃ r, (upTo t first k (flat S))[k]? = some r := ⟨_, List.getElem?_eq_getElem (by rw [upTo_len]; exact hlt)⟩
        have x1 : wr.cell? ⟨g, k * 4 + 2, none⟩ = some (.int .i64 r.x1) := by
          have := (HR.out.cells (g := g) rfl) _ _ (flat_get (k := 4) (fun _ => rfl) _ k r 2 _ hr rfl)
          rwa [addr_add] at this
        have f1 : wr.frozen? ⟨g, k * 4 + 2, none⟩ = false := HR.out.frozenAt _
        have hst := HR.out.stored (k * 4 + 2) (.int .i64 t)
        rw [flat_set t _ k r hr, upTo_step t first k _ r hk1 hr] at hst
        have HST := hide hst
        have nbg : bb ≠ g := by omega
        have ngb : g ≠ bb := by omega
        clear hr hst
        go_wp2
        go_roundw
        case rel => exact ⟨k + 1, by omega, by omega, by go_num, by simp [go_sem, d0, nbg, ngb], by simp [go_sem, d3, nbg, ngb], by simp [go_sem, g3], hide HST.out.1, hide (HG.out.trans HST.out.2)⟩
        case measure => simp [intOf]; omega
      · obtain rfl : k = (flat S).length := by omega
        have hkz : ¬ ((flat S).length : Int) < ((flat S).length : Int) := by omega
        go_wp2
        refine bodyPost_ret (results_none rfl _ _ _) rfl ?_
        have hend := upTo_end S0 f0 e t last
        rw [← HS.out, ← HF.out, ← HA.out] at hend
        have hlen : (flat (addS S e t last)).length = (flat S).length := by rw [← hend, upTo_len]
        have R := HR.out
        rw [hend] at R
        have hGB : Below Bo w1 wr := (Below.refl Bo w1).grown HG.out (Nat.le_trans HH.out.size hb1.size) (fun q hq => (R.lt q hq).1)
        have hsz : Bo ≤ w.heap.size := HH.out.size
        have hW : ∀ q, q < Bo → q ≠ bb → (wr.setCell ⟨bb, 3, none⟩ (.int .i64 t)).heap[q]? = w.heap[q]? := fun q h1 h2 => (Below.heap_setCell _ _ _ _ h2).trans ((hGB.block q h1).trans (hb1.block q (by omega)))
        have hbw : Below w.heap.size w w1 := hb1
        have hcell : ∀ o, wr.cell? ⟨bb, o, none⟩ = w.cell? ⟨bb, o, none⟩ := fun o => (hGB.cell (p := ⟨bb, o, none⟩) hlow).trans (hb1.cell (p := ⟨bb, o, none⟩) hbs)
        have hfr : ∀ o, wr.frozen? ⟨bb, o, none⟩ = w.frozen? ⟨bb, o, none⟩ := fun o => (hGB.frozen (p := ⟨bb, o, none⟩) hlow).trans (hb1.frozen (p := ⟨bb, o, none⟩) hbs)
        refine ⟨rfl, ⟨first, hlow, ?_, ⟨_, ?_, own_n (ownsRow_setCell_below R (by exact hlow) _) hlen.symm⟩, ⟨_, ?_, ownsRow_setCell_below ((own_below HL.out hb1).kept HG.out ?_) (by exact hlow) _⟩, ?_, ?_, ?_, HI.out⟩, ?_, hW, ((keeps_below hb1).trans (KeepsOthers.of_grownBy HG.out fun j o hj ho => own_cells (own_below HO.out hb1) j o hj ho)).trans (KeepsOthers.setCell _ _ _)⟩
        · have := HG.out.size
          have := hb1.size
          simp [World.setCell]; omega
        · simp [go_sem, d0]
        · simp [go_sem, hcell, l1]
        · exact own_apart HL.out HO.out (by decide)
        · simp [go_sem, hcell, c2]
        · simp [go_sem, d3]
        · intro j
          rw [World.frozen?_setCell, hfr]
          exact HH.out.fz j
        · refine (Below.setCell ?_ (p := ⟨bb, 3, none⟩) (Nat.le_refl bb) _)
          exact (hb1.mono (by omega)).trans (hGB.mono (by omega))
  · obtain ⟨hfl, hinv⟩ := BInv.push (t := t) h.inv hef hft hc
    have hbs : bb < w.heap.size := Nat.lt_of_lt_of_le h.low h.size
    have HC := hide hc
    have HO := hide o2
    have HL := hide l2
    have HS := hide hs
    have HH := hide h
    have HI := hide hinv
    have HF := hide hfl
    have HRS := hide hrs
    have heq := fun W (hb : Below w.heap.size w W) => eqSpan_any (w := W) (B := w.heap.size) (C := w.heap.size) ((own_rd l2 (fun _ => rfl)).below hb) ((own_rd hs (fun _ => rfl)).below hb) hln hb.size hb.size
    have HEQ := hide heq
    clear hc o2 l2 hs h hinv hfl hrl hrs heq
    go_enter Tryz.func144, Tryz.ntmps144
    have hlow := HH.out.low
    have AW := hide (AddR.start (t := t) HH.out (Below.refl _ w) HS.out)
    obtain ⟨w1, hw1⟩ : ∃ w1, w1 = w := ⟨_, rfl⟩
    obtain ⟨i1, gi, gz0, gz1, gz2⟩ := info_parts infoRc
    by_cases hs0 : s = []
    · have hlp : ¬ (0 : Int) < (s.length : Int) := by simp [hs0]
      have HS0 : Hid (s.length = 0) := hide (by simp [hs0])
      clear hs0
      go_wp2
      clear o1 l1 c2 c3 z0 z1 z2 z3 hlp
      go_loopw [73] (fun i wr => ∃ m : Nat, m ≤ s.length ∧ i = .int .i64 m ∧ Hid (AddR bb Bo w (flat S ++ (s.take m).map (fun p => ⟨f, p.1, t, p.2⟩)) (.slice As s.length cs) s (flat S).length t wr)) (fun i _ => s.length - (intOf i).toNat)
      case atStart => exact ⟨0, Nat.zero_le _, rfl, hide (by rw [List.take_zero, List.map_nil, List.append_nil]; exact AW.out)⟩
      case round =>
        clear AW
        obtain ⟨m, hm, rfl, HA⟩ := hrel
        by_cases hlt : m < s.length
        · exact absurd hlt (by have := HS0.out; omega)
        · obtain rfl : m = s.length := by omega
          have hmz : ¬ (s.length : Int) < (s.length : Int) := by omega
          have A := HA.out
          rw [List.take_length, ← HF.out] at A
          have HA2 := hide A
          clear A
          go_wp2
          go_end0
          have A := HA2.out
          obtain ⟨vo, a1, a2⟩ := A.out
          exact ⟨rfl, ⟨_, A.low, A.size, ⟨vo, a1, a2⟩, ⟨_, A.c1, A.own⟩, A.c2, A.c3, A.fz, HI.out⟩, ⟨A.os, A.tape, A.output, Nat.le_trans (by omega) A.grow, fun q hq => A.block q (by omega) (by omega)⟩, A.block, A.keep⟩
    · have hlp : (0 : Int) < (s.length : Int) := by have := List.length_pos_iff.2 hs0; omega
      by_cases hef2 : e = f
      · have hee : (e == f) = true := by simpa using hef2
        have hd : decide (last = s) = false := decide_eq_false fun g => HC.out ⟨hs0, hef2, g⟩
        have HD := hide hd
        clear hd hef2 hs0
        go_wp2_with (first | (go_at_call 186; refine (HEQ.out _ (Below.refl _ _)).mono ?_; rintro r w1 ⟨rfl, hb1⟩; rw [HD.out]; have d0 := (hb1.cell (p := ⟨bb, 0, none⟩) hbs).trans o1; have d1 := (hb1.cell (p := ⟨bb, 1, none⟩) hbs).trans l1; have d2 := (hb1.cell (p := ⟨bb, 2, none⟩) hbs).trans c2; have d3 := (hb1.cell (p := ⟨bb, 3, none⟩) hbs).trans c3; have g0 := (hb1.frozen (p := ⟨bb, 0, none⟩) hbs).trans z0; have g1 := (hb1.frozen (p := ⟨bb, 1, none⟩) hbs).trans z1; have g2 := (hb1.frozen (p := ⟨bb, 2, none⟩) hbs).trans z2; have g3 := (hb1.frozen (p := ⟨bb, 3, none⟩) hbs).trans z3))
        clear AW
        have AW := hide (AddR.start (t := t) HH.out hb1 HS.out)
        clear o1 l1 c2 c3 z0 z1 z2 z3 hlp
        go_loopw [73] (fun i wr => ∃ m : Nat, m ≤ s.length ∧ i = .int .i64 m ∧ Hid (AddR bb Bo w (flat S ++ (s.take m).map (fun p => ⟨f, p.1, t, p.2⟩)) (.slice As s.length cs) s (flat S).length t wr)) (fun i _ => s.length - (intOf i).toNat)
        case atStart => exact ⟨0, Nat.zero_le _, rfl, hide (by rw [List.take_zero, List.map_nil, List.append_nil]; exact AW.out)⟩
        case round =>
          clear AW
          obtain ⟨m, hm, rfl, HA⟩ := hrel
          by_cases hlt : m < s.length
          · have hmz : (m : Int) < (s.length : Int) := by omega
            obtain ⟨g2, cap2, hvs, hB2, hg2⟩ := HA.out.own.form (by omega)
            injection hvs with e1 _ e3
            subst e1; subst e3
            obtain ⟨⟨p1, p2⟩, hp⟩ : ∃ p, s[m]? = some p := ⟨_, List.getElem?_eq_getElem hlt⟩
            have x0 : wr.cell? ⟨g2, m * 2, none⟩ = some (.int .i64 p1) := by
              have := (HA.out.own.cells (g := g2) rfl) _ _ (flat_get (k := 2) (fun _ => rfl) _ m _ 0 _ hp rfl)
              rwa [addr_add] at this
            have x1 : wr.cell? ⟨g2, m * 2 + 1, none⟩ = some (.int .i64 p2) := by
              have := (HA.out.own.cells (g := g2) rfl) _ _ (flat_get (k := 2) (fun _ => rfl) _ m _ 1 _ hp rfl)
              rwa [addr_add] at this
            have HT : Hid ((s.take (m + 1)).map (fun p : Sp => (⟨f, p.1, t, p.2⟩ : R4)) = (s.take m).map (fun p : Sp => (⟨f, p.1, t, p.2⟩ : R4)) ++ [⟨f, p1, t, p2⟩]) := hide (by
              obtain ⟨hk, hpe⟩ := List.getElem?_eq_some_iff.1 hp
              rw [List.take_succ_eq_append_getElem hk, List.map_append, hpe]; rfl)
            have hL : (flat S ++ (s.take m).map (fun p : Sp => (⟨f, p.1, t, p.2⟩ : R4))).length ≤ 200000000 := by
              rw [List.length_append, List.length_map, List.length_take]; omega
            clear hp
            go_wp2
            obtain ⟨wb, hwb⟩ : ∃ wb, wb = wr.alloc (.cells #[.int .i64 p1, .int .i64 p2] 188) := ⟨_, rfl⟩
            rw [← hwb]
            obtain ⟨vo, v1, v2⟩ := HA.out.out
            obtain ⟨Av, cv, hv⟩ := own_rd v2 (fun _ => rfl)
            obtain ⟨hv, _⟩ := hv
            subst hv
            have hbw : Below wr.heap.size wr wb := by rw [hwb]; exact (Below.refl _ _).alloc (Nat.le_refl _) _
            have hbbw : bb < wr.heap.size := Nat.lt_of_lt_of_le hlow HA.out.size
            have gv : wb.cell? ⟨bb, 0, none⟩ = some (.slice Av (flat S ++ (s.take m).map (fun p : Sp => (⟨f, p.1, t, p.2⟩ : R4))).length cv) := by rw [hwb]; exact (World.cell?_alloc_lt _ _ ⟨bb, 0, none⟩ hbbw).trans v1
            have gy0 : wb.cell? ⟨wr.heap.size, 0, none⟩ = some (.int .i64 p1) := by rw [hwb]; simp [go_sem]
            have gy1 : wb.cell? ⟨wr.heap.size, 1, none⟩ = some (.int .i64 p2) := by rw [hwb]; simp [go_sem]
            have gs : wb.heap.size = wr.heap.size + 1 := by rw [hwb]; simp
            have gown : wb.ownsRow Bo 69 4 (.slice Av (flat S ++ (s.take m).map (fun p : Sp => (⟨f, p.1, t, p.2⟩ : R4))).length cv) (flat S ++ (s.take m).map (fun p : Sp => (⟨f, p.1, t, p.2⟩ : R4))).length ((flat S ++ (s.take m).map (fun p : Sp => (⟨f, p.1, t, p.2⟩ : R4))).flatMap encR) := by rw [hwb]; exact v2.alloc _
            have HV1 := hide v1
            have HV2 := hide v2
            have HBW := hide hbw
            have HY0 := hide gy0
            have HY1 := hide gy1
            have HO2 := hide gown
            have HT2 : Hid (flat S ++ (s.take (m + 1)).map (fun p : Sp => (⟨f, p.1, t, p.2⟩ : R4)) = (flat S ++ (s.take m).map (fun p : Sp => (⟨f, p.1, t, p.2⟩ : R4))) ++ [⟨f, p1, t, p2⟩]) := hide (by rw [HT.out, List.append_assoc])
            have hbws : bb < wb.heap.size := by omega
            have hbne : wr.heap.size < wb.heap.size := by omega
            have hBow : Bo ≤ wb.heap.size := by have := HA.out.size; omega
            have HA2 := hide HA.out
            clear gs v1 v2 gown hwb hbw x0 x1 HA HT
            generalize flat S ++ (s.take m).map (fun p : Sp => (⟨f, p.1, t, p.2⟩ : R4)) = L at *
            refine wp_region_reads 12 (fun w' => w'.cell? ⟨bb, 0, none⟩ = some (.slice Av L.length cv) ∧ w'.cell? ⟨wr.heap.size, 0, none⟩ = some (.int .i64 p1) ∧ w'.cell? ⟨wr.heap.size, 1, none⟩ = some (.int .i64 p2)) (by kernel_rfl) (by kernel_rfl) ⟨gv, gy0, gy1⟩ ?_
            simp only [List.take_succ_cons, List.take_zero, List.drop_succ_cons, List.drop_zero]
            iterate 12
              refine ⟨?_, Or.inl ⟨by rfl, ?_⟩, ?_⟩
              rotate_left 1
              · intro w' hSw
                obtain ⟨z1, z2, z3⟩ := hSw
                go_simp
                first | done | with_reducible rfl
              simp only [Act.put, List.setIfInBounds_toArray, List.set_cons_zero, List.set_cons_succ]
            simp only [wpReads]
            intro K hK
            go_simp
            refine hK _ _ (fun _ => ⟨by go_keep, by go_keep, by go_keep⟩) ?_
            clear hK K
            intro K hK
            refine step_append_lies _ rfl (.tmp 81) (.tmp 89) 27 rfl Bo 69 i1 (.agg #[.int .i64 0, .int .i64 0, .int .i64 0, .int .i64 0]) 4 32 Tryz.underlying27 gi gz0 gz1 gz2 rfl (by decide) (.slice Av L.length cv) L.length _ rfl (own_drew (World.ownsRow.alloc (w := wb) HO2.out _)) ⟨wb.heap.size, 0, none⟩ 1 1 [.int .i64 f, .int .i64 p1, .int .i64 t, .int .i64 p2] rfl rfl (news_drew wb _ _ _ rfl) (ints_one rfl) (by omega) (by unfold maxLen; omega) (by omega) (by simp; omega) _ rfl ?_
            intro g9 cap9 w9 hown9 hgrow9 _ _
            obtain ⟨s1, s2, s3, s4, HF9⟩ := HA2.out.push2 (r := ⟨f, p1, t, p2⟩) HV1.out HV2.out HBW.out _ hgrow9 hown9 HY0.out HY1.out
            clear hown9 hgrow9
            refine hK _ _ (fun _ => ⟨s1, s2, s3⟩) ?_
            clear hK K
            intro K hK
            simp only [Act.put, List.setIfInBounds_toArray, List.set_cons_zero, List.set_cons_succ] at hK ⊢
            go_simp
            refine hK _ _ (fun _ => ⟨s1, s2, s3⟩) ?_
            clear hK K
            intro K hK
            simp only [Act.put, List.setIfInBounds_toArray, List.set_cons_zero, List.set_cons_succ] at hK ⊢
            go_simp
            refine hK _ _ (fun _ => ⟨s1, s2, s3⟩) ?_
            clear hK K
            intro K hK
            simp only [Act.put, List.setIfInBounds_toArray, List.set_cons_zero, List.set_cons_succ] at hK ⊢
            go_simp
            refine hK _ _ (fun h => absurd rfl h) ?_
            clear hK K
            refine NoPanic.normal ?_
            go_wp2
            go_roundw
            case rel => exact ⟨m + 1, by omega, by go_num, hide (by rw [HT2.out]; exact HF9.out)⟩
            case measure => simp [intOf]; omega
          · obtain rfl : m = s.length := by omega
            have hmz : ¬ (s.length : Int) < (s.length : Int) := by omega
            have A := HA.out
            rw [List.take_length, ← HF.out] at A
            have HA2 := hide A
            clear A
            go_wp2
            go_end0
            have A := HA2.out
            obtain ⟨vo, a1, a2⟩ := A.out
            exact ⟨rfl, ⟨_, A.low, A.size, ⟨vo, a1, a2⟩, ⟨_, A.c1, A.own⟩, A.c2, A.c3, A.fz, HI.out⟩, ⟨A.os, A.tape, A.output, Nat.le_trans (by omega) A.grow, fun q hq => A.block q (by omega) (by omega)⟩, A.block, A.keep⟩
      · have hee : (e == f) = false := by simpa using hef2
        clear hef2 hs0
        go_wp2
        clear o1 l1 c2 c3 z0 z1 z2 z3 hlp
        go_loopw [73] (fun i wr => ∃ m : Nat, m ≤ s.length ∧ i = .int .i64 m ∧ Hid (AddR bb Bo w (flat S ++ (s.take m).map (fun p => ⟨f, p.1, t, p.2⟩)) (.slice As s.length cs) s (flat S).length t wr)) (fun i _ => s.length - (intOf i).toNat)
        case atStart => exact ⟨0, Nat.zero_le _, rfl, hide (by rw [List.take_zero, List.map_nil, List.append_nil]; exact AW.out)⟩
        case round =>
          clear AW
          obtain ⟨m, hm, rfl, HA⟩ := hrel
          by_cases hlt : m < s.length
          · have hmz : (m : Int) < (s.length : Int) := by omega
            obtain ⟨g2, cap2, hvs, hB2, hg2⟩ := HA.out.own.form (by omega)
            injection hvs with e1 _ e3
            subst e1; subst e3
            obtain ⟨⟨p1, p2⟩, hp⟩ : ∃ p, s[m]? = some p := ⟨_, List.getElem?_eq_getElem hlt⟩
            have x0 : wr.cell? ⟨g2, m * 2, none⟩ = some (.int .i64 p1) := by
              have := (HA.out.own.cells (g := g2) rfl) _ _ (flat_get (k := 2) (fun _ => rfl) _ m _ 0 _ hp rfl)
              rwa [addr_add] at this
            have x1 : wr.cell? ⟨g2, m * 2 + 1, none⟩ = some (.int .i64 p2) := by
              have := (HA.out.own.cells (g := g2) rfl) _ _ (flat_get (k := 2) (fun _ => rfl) _ m _ 1 _ hp rfl)
              rwa [addr_add] at this
            have HT : Hid ((s.take (m + 1)).map (fun p : Sp => (⟨f, p.1, t, p.2⟩ : R4)) = (s.take m).map (fun p : Sp => (⟨f, p.1, t, p.2⟩ : R4)) ++ [⟨f, p1, t, p2⟩]) := hide (by
              obtain ⟨hk, hpe⟩ := List.getElem?_eq_some_iff.1 hp
              rw [List.take_succ_eq_append_getElem hk, List.map_append, hpe]; rfl)
            have hL : (flat S ++ (s.take m).map (fun p : Sp => (⟨f, p.1, t, p.2⟩ : R4))).length ≤ 200000000 := by
              rw [List.length_append, List.length_map, List.length_take]; omega
            clear hp
            go_wp2
            obtain ⟨wb, hwb⟩ : ∃ wb, wb = wr.alloc (.cells #[.int .i64 p1, .int .i64 p2] 188) := ⟨_, rfl⟩
            rw [← hwb]
            obtain ⟨vo, v1, v2⟩ := HA.out.out
            obtain ⟨Av, cv, hv⟩ := own_rd v2 (fun _ => rfl)
            obtain ⟨hv, _⟩ := hv
            subst hv
            have hbw : Below wr.heap.size wr wb := by rw [hwb]; exact (Below.refl _ _).alloc (Nat.le_refl _) _
            have hbbw : bb < wr.heap.size := Nat.lt_of_lt_of_le hlow HA.out.size
            have gv : wb.cell? ⟨bb, 0, none⟩ = some (.slice Av (flat S ++ (s.take m).map (fun p : Sp => (⟨f, p.1, t, p.2⟩ : R4))).length cv) := by rw [hwb]; exact (World.cell?_alloc_lt _ _ ⟨bb, 0, none⟩ hbbw).trans v1
            have gy0 : wb.cell? ⟨wr.heap.size, 0, none⟩ = some (.int .i64 p1) := by rw [hwb]; simp [go_sem]
            have gy1 : wb.cell? ⟨wr.heap.size, 1, none⟩ = some (.int .i64 p2) := by rw [hwb]; simp [go_sem]
            have gs : wb.heap.size = wr.heap.size + 1 := by rw [hwb]; simp
            have gown : wb.ownsRow Bo 69 4 (.slice Av (flat S ++ (s.take m).map (fun p : Sp => (⟨f, p.1, t, p.2⟩ : R4))).length cv) (flat S ++ (s.take m).map (fun p : Sp => (⟨f, p.1, t, p.2⟩ : R4))).length ((flat S ++ (s.take m).map (fun p : Sp => (⟨f, p.1, t, p.2⟩ : R4))).flatMap encR) := by rw [hwb]; exact v2.alloc _
            have HV1 := hide v1
            have HV2 := hide v2
            have HBW := hide hbw
            have HY0 := hide gy0
            have HY1 := hide gy1
            have HO2 := hide gown
            have HT2 : Hid (flat S ++ (s.take (m + 1)).map (fun p : Sp => (⟨f, p.1, t, p.2⟩ : R4)) = (flat S ++ (s.take m).map (fun p : Sp => (⟨f, p.1, t, p.2⟩ : R4))) ++ [⟨f, p1, t, p2⟩]) := hide (by rw [HT.out, List.append_assoc])
            have hbws : bb < wb.heap.size := by omega
            have hbne : wr.heap.size < wb.heap.size := by omega
            have hBow : Bo ≤ wb.heap.size := by have := HA.out.size; omega
            have HA2 := hide HA.out
            clear gs v1 v2 gown hwb hbw x0 x1 HA HT
            generalize flat S ++ (s.take m).map (fun p : Sp => (⟨f, p.1, t, p.2⟩ : R4)) = L at *
            refine wp_region_reads 12 (fun w' => w'.cell? ⟨bb, 0, none⟩ = some (.slice Av L.length cv) ∧ w'.cell? ⟨wr.heap.size, 0, none⟩ = some (.int .i64 p1) ∧ w'.cell? ⟨wr.heap.size, 1, none⟩ = some (.int .i64 p2)) (by kernel_rfl) (by kernel_rfl) ⟨gv, gy0, gy1⟩ ?_
            simp only [List.take_succ_cons, List.take_zero, List.drop_succ_cons, List.drop_zero]
            iterate 12
              refine ⟨?_, Or.inl ⟨by rfl, ?_⟩, ?_⟩
              rotate_left 1
              · intro w' hSw
                obtain ⟨z1, z2, z3⟩ := hSw
                go_simp
                first | done | with_reducible rfl
              simp only [Act.put, List.setIfInBounds_toArray, List.set_cons_zero, List.set_cons_succ]
            simp only [wpReads]
            intro K hK
            go_simp
            refine hK _ _ (fun _ => ⟨by go_keep, by go_keep, by go_keep⟩) ?_
            clear hK K
            intro K hK
            refine step_append_lies _ rfl (.tmp 81) (.tmp 89) 27 rfl Bo 69 i1 (.agg #[.int .i64 0, .int .i64 0, .int .i64 0, .int .i64 0]) 4 32 Tryz.underlying27 gi gz0 gz1 gz2 rfl (by decide) (.slice Av L.length cv) L.length _ rfl (own_drew (World.ownsRow.alloc (w := wb) HO2.out _)) ⟨wb.heap.size, 0, none⟩ 1 1 [.int .i64 f, .int .i64 p1, .int .i64 t, .int .i64 p2] rfl rfl (news_drew wb _ _ _ rfl) (ints_one rfl) (by omega) (by unfold maxLen; omega) (by omega) (by simp; omega) _ rfl ?_
            intro g9 cap9 w9 hown9 hgrow9 _ _
            obtain ⟨s1, s2, s3, s4, HF9⟩ := HA2.out.push2 (r := ⟨f, p1, t, p2⟩) HV1.out HV2.out HBW.out _ hgrow9 hown9 HY0.out HY1.out
            clear hown9 hgrow9
            refine hK _ _ (fun _ => ⟨s1, s2, s3⟩) ?_
            clear hK K
            intro K hK
            simp only [Act.put, List.setIfInBounds_toArray, List.set_cons_zero, List.set_cons_succ] at hK ⊢
            go_simp
            refine hK _ _ (fun _ => ⟨s1, s2, s3⟩) ?_
            clear hK K
            intro K hK
            simp only [Act.put, List.setIfInBounds_toArray, List.set_cons_zero, List.set_cons_succ] at hK ⊢
            go_simp
            refine hK _ _ (fun _ => ⟨s1, s2, s3⟩) ?_
            clear hK K
            intro K hK
            simp only [Act.put, List.setIfInBounds_toArray, List.set_cons_zero, List.set_cons_succ] at hK ⊢
            go_simp
            refine hK _ _ (fun h => absurd rfl h) ?_
            clear hK K
            refine NoPanic.normal ?_
            go_wp2
            go_roundw
            case rel => exact ⟨m + 1, by omega, by go_num, hide (by rw [HT2.out]; exact HF9.out)⟩
            case measure => simp [intOf]; omega
          · obtain rfl : m = s.length := by omega
            have hmz : ¬ (s.length : Int) < (s.length : Int) := by omega
            have A := HA.out
            rw [List.take_length, ← HF.out] at A
            have HA2 := hide A
            clear A
            go_wp2
            go_end0
            have A := HA2.out
            obtain ⟨vo, a1, a2⟩ := A.out
            exact ⟨rfl, ⟨_, A.low, A.size, ⟨vo, a1, a2⟩, ⟨_, A.c1, A.own⟩, A.c2, A.c3, A.fz, HI.out⟩, ⟨A.os, A.tape, A.output, Nat.le_trans (by omega) A.grow, fun q hq => A.block q (by omega) (by omega)⟩, A.block, A.keep⟩
end Go.Proofs.YtdolpeljengpaaaGreat

/- The reference's Sorted. -/
namespace Go.Proofs.YtdolpeljengpaaaGreat
open Go.RowKit
set_option linter.unusedVariables false
set_option linter.unusedSimpArgs false

def encI (x : Int) : List Value := [iv x]
theorem below_drewN {B : Nat} {w W : World} (h : Below B w W) (n : Nat) : Below B w (W.drewN n) := h.trans ⟨rfl, rfl, rfl, Nat.le_refl _, fun _ _ => rfl⟩
theorem name_exit {Q : Exit → Act → World → Prop} {e : Exit} {a : Act} {W : World} (h : ∀ w, w = W → Q e a w) : Q e a W := h W rfl
end Go.Proofs.YtdolpeljengpaaaGreat

/- The reference's cuts: Xs and Ys. -/
namespace Go.Proofs.YtdolpeljengpaaaGreat
open Go.RowKit
set_option linter.unusedVariables false
set_option linter.unusedSimpArgs false

end Go.Proofs.YtdolpeljengpaaaGreat

/- The reference's Canon. -/
namespace Go.Proofs.YtdolpeljengpaaaGreat
open Go.RowKit
set_option linter.unusedVariables false
set_option linter.unusedSimpArgs false

def encBo (x : Bool) : List Value := [.bool x]
/-- The canonical list behind m cuts. -/
def canP (cs : List Int) (bs : List Bool) (m : Nat) : List Sp := (((prs cs).zip bs).take m).foldl (fun out x => if x.2 then sext out x.1.1 x.1.2 else out) []
end Go.Proofs.YtdolpeljengpaaaGreat

/- The reference's small functions: In, Valid, Has, Holds, Great. -/
namespace Go.Proofs.YtdolpeljengpaaaGreat
open Go.RowKit
set_option linter.unusedVariables false
set_option linter.unusedSimpArgs false

instance (x : Int) : Decidable (fineP x) := by unfold fineP; infer_instance
def hk (k : Int) (a b : Bool) : Bool := if k = 1 then a && b else if k = 2 then a || b else a && !b
def greatP (n : Nat) : Prop := (60 < n ∧ n ≤ 400) ∨ 420 < n
instance (n : Nat) : Decidable (greatP n) := by unfold greatP; infer_instance
end Go.Proofs.YtdolpeljengpaaaGreat

/- The reference's Same of spans: two lists are one. -/
namespace Go.Proofs.YtdolpeljengpaaaGreat
open Go.RowKit
set_option linter.unusedVariables false
set_option linter.unusedSimpArgs false

end Go.Proofs.YtdolpeljengpaaaGreat

/- The reference's Joined. -/
namespace Go.Proofs.YtdolpeljengpaaaGreat
open Go.RowKit
set_option linter.unusedVariables false
set_option linter.unusedSimpArgs false

/-- The rows of the call's own: the cuts, what is put out, and the cross-section before. -/
structure RJ (w : World) (vx vy vo vl : Value) (xs ys : List Int) (L : List R4) (last : List Sp) (wr : World) : Prop where
  low : Below w.heap.size w wr
  x : wr.ownsRow w.heap.size 3 1 vx xs.length (xs.map iv)
  y : wr.ownsRow w.heap.size 3 1 vy ys.length (ys.map iv)
  o : wr.ownsRow w.heap.size 69 4 vo L.length (L.flatMap encR)
  l : wr.ownsRow w.heap.size 188 2 vl last.length (last.flatMap encS)
section
variable {w wr w2 : World} {vx vy vo vl v2 : Value} {xs ys : List Int} {L L' : List R4} {ll : List Sp}
theorem RJ.below (h : RJ w vx vy vo vl xs ys L ll wr) (hb : Below wr.heap.size wr w2) : RJ w vx vy vo vl xs ys L ll w2 :=
  ⟨h.low.trans (hb.mono h.low.size), own_below h.x hb, own_below h.y hb, own_below h.o hb, own_below h.l hb⟩
theorem RJ.last (h : RJ w vx vy vo vl xs ys L ll wr) {s : List Sp} (hs : wr.ownsRow w.heap.size 188 2 v2 s.length (s.flatMap encS)) : RJ w vx vy vo v2 xs ys L s wr := ⟨h.low, h.x, h.y, h.o, hs⟩
end
end Go.Proofs.YtdolpeljengpaaaGreat

/- The reference's SameRects: two lists are one. -/
namespace Go.Proofs.YtdolpeljengpaaaGreat
open Go.RowKit
set_option linter.unusedVariables false
set_option linter.unusedSimpArgs false

end Go.Proofs.YtdolpeljengpaaaGreat

/- region.made: the region of a list of valid rectangles. -/
namespace Go.Proofs.YtdolpeljengpaaaGreat
open Go.RowKit
set_option linter.unusedVariables false
set_option linter.unusedSimpArgs false
attribute [local go_sem] Oper.semAt_some

/-- A region and an error code come back; the region's row lies at or above B. -/
def RegRet (B : Nat) (x : List R4 × Int) (e : Ending) (w' : World) : Prop :=
  ∃ A c, e = .returned (.tuple #[.slice A x.1.length c, .int .i64 x.2]) ∧ w'.ownsRow B 69 4 (.slice A x.1.length c) x.1.length (x.1.flatMap encR)

theorem BW.below {bb Bo : Nat} {S : List Slab} {last : List Sp} {first : Nat} {e : Int} {A B : World} (h : BW bb Bo S last first e A) (hb : Below A.heap.size A B) : BW bb Bo S last first e B := by
  have hbs : bb < A.heap.size := Nat.lt_of_lt_of_le h.low h.size
  have hc : ∀ o, B.cell? ⟨bb, o, none⟩ = A.cell? ⟨bb, o, none⟩ := fun o => hb.cell (p := ⟨bb, o, none⟩) hbs
  have hf : ∀ o, B.frozen? ⟨bb, o, none⟩ = A.frozen? ⟨bb, o, none⟩ := fun o => hb.frozen (p := ⟨bb, o, none⟩) hbs
  obtain ⟨vo, o1, o2⟩ := h.out
  obtain ⟨vl, l1, l2⟩ := h.la
  exact ⟨h.low, Nat.le_trans h.size hb.size, ⟨vo, (hc 0).trans o1, own_below o2 hb⟩, ⟨vl, (hc 1).trans l1, own_below l2 hb⟩, (hc 2).trans h.fi, (hc 3).trans h.en, fun j => (hf j).trans (h.fz j), h.inv⟩
theorem BW.putObj {bb Bo : Nat} {S : List Slab} {last : List Sp} {first : Nat} {e : Int} {A : World} (h : BW bb Bo S last first e A) {l : Nat} {o o' : Obj} (hl : A.heap[l]? = some o) (ho : o.isCells = false) (ho' : o'.isCells = false) : BW bb Bo S last first e (A.putObj l o') := by
  have hc := cell_putObj (o' := o') hl ho ho'
  obtain ⟨vo, o1, o2⟩ := h.out
  obtain ⟨vl, l1, l2⟩ := h.la
  exact ⟨h.low, by simpa using h.size, ⟨vo, (hc _).1.trans o1, own_putObj o2 hl ho⟩, ⟨vl, (hc _).1.trans l1, own_putObj l2 hl ho⟩, (hc _).1.trans h.fi, (hc _).1.trans h.en, fun j => (hc _).2.trans (h.fz j), h.inv⟩
theorem KpX.below {bb n : Nat} {A B : World} (hn : n ≤ A.heap.size) (hb : Below A.heap.size A B) : KpX bb n A B := ⟨hb.size, fun b o h _ => hb.cell (p := ⟨b, o, none⟩) (by show b < _; omega)⟩

theorem KeepsFrom.of_below' {n : Nat} {A B : World} (hb : Below A.heap.size A B) : KeepsFrom n A B := (keeps_below hb).from n
theorem BW.grown {bb Bo : Nat} {S : List Slab} {last : List Sp} {first : Nat} {e : Int} {A B : World} (h : BW bb Bo S last first e A) {l : Nat} {o : Obj} (hg : A.grownBy B (some l)) (hl : A.heap[l]? = some o) (ho : o.isCells = false) : BW bb Bo S last first e B := by
  have hbs : bb < A.heap.size := Nat.lt_of_lt_of_le h.low h.size
  have hne : bb ≠ l := by
    rintro rfl
    obtain ⟨ob, h1, h2⟩ := cells_of_cell h.fi
    rw [hl] at h1
    injection h1 with h1
    subst h1
    rw [ho] at h2; cases h2
  have hbk := hg.block bb hbs (fun e => by injection e with e; exact hne e)
  have hc : ∀ o, B.cell? ⟨bb, o, none⟩ = A.cell? ⟨bb, o, none⟩ := fun o => World.cell?_of_block (w := A) hbk
  have hf : ∀ o, B.frozen? ⟨bb, o, none⟩ = A.frozen? ⟨bb, o, none⟩ := fun o => World.frozen?_of_block (w := A) hbk
  have key : ∀ {t size v n xs}, A.ownsRow Bo t size v n xs → B.ownsRow Bo t size v n xs := fun {t size v n xs} hw => hw.kept hg (by
    right
    intro e
    have := own_cells hw l o e hl
    rw [ho] at this; cases this)
  obtain ⟨vo, o1, o2⟩ := h.out
  obtain ⟨vl, l1, l2⟩ := h.la
  exact ⟨h.low, Nat.le_trans h.size hg.size, ⟨vo, (hc 0).trans o1, key o2⟩, ⟨vl, (hc 1).trans l1, key l2⟩, (hc 2).trans h.fi, (hc 3).trans h.en, fun j => (hf j).trans (h.fz j), h.inv⟩

/-- Behind some rounds. -/
structure MI (bb Bo : Nat) (g : Int → List Sp) (m : Nat) (w : World) (pre : List (Int × Int)) (W : World) : Prop where
  bw : ∃ last first e, BW bb Bo (swp g pre) last first e W ∧ last.length ≤ m ∧ (pre = [] ∨ ∃ p, pre.getLast? = some p ∧ e = p.2)
  low : Below w.heap.size w W
theorem MI.below {bb Bo : Nat} {g : Int → List Sp} {m : Nat} {w : World} {pre : List (Int × Int)} {A B : World} (h : MI bb Bo g m w pre A) (hb : Below A.heap.size A B) : MI bb Bo g m w pre B := by
  obtain ⟨last, first, e, h1, h2, h3⟩ := h.bw
  exact ⟨⟨last, first, e, h1.below hb, h2, h3⟩, h.low.trans (hb.mono h.low.size)⟩
theorem MI.putObj {bb Bo : Nat} {g : Int → List Sp} {m : Nat} {w : World} {pre : List (Int × Int)} {A : World} (h : MI bb Bo g m w pre A) {l : Nat} {o o' : Obj} (hw : w.heap.size ≤ l) (hl : A.heap[l]? = some o) (ho : o.isCells = false) (ho' : o'.isCells = false) : MI bb Bo g m w pre (A.putObj l o') := by
  obtain ⟨last, first, e, h1, h2, h3⟩ := h.bw
  exact ⟨⟨last, first, e, h1.putObj hl ho ho', h2, h3⟩, below_putObj h.low hw _⟩

theorem MI.grown {bb Bo : Nat} {g : Int → List Sp} {m : Nat} {w : World} {pre : List (Int × Int)} {A B : World} (h : MI bb Bo g m w pre A) {l : Nat} {o : Obj} (hw : w.heap.size ≤ l) (hg : A.grownBy B (some l)) (hl : A.heap[l]? = some o) (ho : o.isCells = false) : MI bb Bo g m w pre B := by
  obtain ⟨last, first, e, h1, h2, h3⟩ := h.bw
  exact ⟨⟨last, first, e, h1.grown hg hl ho, h2, h3⟩, h.low.grown hg h.low.size (fun k hk => by injection hk with hk; omega)⟩

set_option maxRecDepth 100000 in
set_option maxHeartbeats 4000000 in
theorem made_any {l : List R4} {v : Value} {w : World} (hr : RdK encR 4 w w.heap.size v l) (hl : l.length ≤ 400) (hv : ∀ r ∈ l, valid4 r) :
    Calls Tryz.prog 93 #[v] w fun e w' => RegRet w.heap.size (madeF l) e w' ∧ Below w.heap.size w w' := by
  have hwf : ∀ r ∈ l, wf4 r := fun r h => ⟨(hv r h).1, (hv r h).2.1⟩
  have hcl : (List.flatMap cutsL [l]).length ≤ 100000000 := by simp [cutsL_len]; omega
  have hcs := cutsOf_ok (List.flatMap cutsL [l])
  have hcn := cutsOf_len (List.flatMap cutsL [l])
  have hfin := swp_join (h := hFst) rfl hwf (b := []) (by simp) hcs.1 (fun c hc => (hcs.2 c).2 (by simpa using hc)) (by simp [cutsL])
  have hgl : ∀ c, (sjoin hFst (crossL l c) (crossL [] c)).length ≤ 1000 := by
    intro c
    have h1 := sjoin_len hFst (crossL l c) (crossL [] c)
    have h2 := crossL_len l c
    have h3 : (crossL [] c).length = 0 := rfl
    omega
  have hslab : ∀ (W : World) (L : Nat), L < W.heap.size → (∃ v, W.cell? ⟨L, 0, none⟩ = some v ∧ RdK encR 4 W W.heap.size v l) → _ := fun W L h1 h2 =>
    slabsA_any [l] L 1 W h1 (fun k l' hk => by
      have : k = 0 ∧ l = l' := by
        cases k with
        | zero => simpa using hk
        | succ k => simp at hk
      obtain ⟨rfl, rfl⟩ := this
      exact h2) hcl (by simp)
  simp only [List.length_singleton] at hslab
  generalize hcsd : cutsOf (List.flatMap cutsL [l]) = cs at *
  clear hcsd
  have HR := hide hr
  have HV := hide hv
  have HS := hide hslab
  have HF := hide hfin
  have HG := hide hgl
  have HC := hide hcs
  clear hr hv hslab hfin hgl hcs hwf
  obtain ⟨A0, c0, hv0, _⟩ := HR.out
  subst hv0
  refine (callsIn_wide (n := 0)).1 ?_
  refine callsIn_of_wp_marks Tryz.func93 rfl trivial ?_
  simp only [Tryz.ntmps93, List.size_toArray, List.length_cons, List.length_nil, Nat.reduceAdd, Nat.reduceSub, Array.replicate_succ, Array.replicate_zero, List.push_toArray, List.append_toArray, List.nil_append, List.cons_append]
  refine wpIn_wide.2 ?_
  go_wp2_with (fail)
  have hb1 : Below w.heap.size w ((w.alloc (.cells #[.slice none 0 0, .slice none 0 0, .int .i64 0, .int .i64 0] 205)).alloc (.cells #[.slice A0 l.length c0] 26)) := ((Below.refl _ _).alloc (Nat.le_refl _) _).alloc (by simp) _
  have hL1 : ((w.alloc (.cells #[.slice none 0 0, .slice none 0 0, .int .i64 0, .int .i64 0] 205)).alloc (.cells #[.slice A0 l.length c0] 26)).cell? ⟨w.heap.size + 1, 0, none⟩ = some (.slice A0 l.length c0) := by simp [go_sem]
  have hs := HS.out ((w.alloc (.cells #[.slice none 0 0, .slice none 0 0, .int .i64 0, .int .i64 0] 205)).alloc (.cells #[.slice A0 l.length c0] 26)) (w.heap.size + 1) (by simp) ⟨_, hL1, (HR.out.below hb1).mono hb1.size⟩
  simp only [World.size_alloc, Nat.add_assoc, Nat.reduceAdd] at hs
  have hbc : ∀ j u, (#[Value.slice none 0 0, .slice none 0 0, .int .i64 0, .int .i64 0] : Array Value)[j]? = some u → ((w.alloc (.cells #[.slice none 0 0, .slice none 0 0, .int .i64 0, .int .i64 0] 205)).alloc (.cells #[.slice A0 l.length c0] 26)).cell? ⟨w.heap.size, j, none⟩ = some u := by
    intro j u hj
    refine (World.cell?_alloc_lt (w.alloc _) _ ⟨w.heap.size, j, none⟩ (by simp)).trans ?_
    have := news_new w [Value.slice none 0 0, .slice none 0 0, .int .i64 0, .int .i64 0] 205 w.heap.size rfl j u (by simpa using hj)
    rwa [addr_add] at this
  refine hs.mono ?_
  clear hs
  rintro e wS ⟨vc, rfl, hbl, hbc2, hown, hbS⟩
  have hsz1 : ((w.alloc (.cells #[.slice none 0 0, .slice none 0 0, .int .i64 0, .int .i64 0] 205)).alloc (.cells #[.slice A0 l.length c0] 26)).heap.size = w.heap.size + 2 := by simp
  have hz1 : ∀ j, ((w.alloc (.cells #[.slice none 0 0, .slice none 0 0, .int .i64 0, .int .i64 0] 205)).alloc (.cells #[.slice A0 l.length c0] 26)).frozen? ⟨w.heap.size, j, none⟩ = false := fun j => by simp [go_sem]
  go_wp2_with (fail)
  obtain ⟨w1, hw1⟩ : ∃ w1, (w.alloc (.cells #[.slice none 0 0, .slice none 0 0, .int .i64 0, .int .i64 0] 205)).alloc (.cells #[.slice A0 l.length c0] 26) = w1 := ⟨_, rfl⟩
  rw [hw1] at hb1 hL1 hbc hbS hsz1 hz1
  clear hw1
  have hcsz := hbS.size
  obtain ⟨Ac, cc, hvc⟩ := own_form hown
  subst hvc
  have hbS2 : Below (w.heap.size + 2) w1 wS := hbS.mono (by omega)
  have hlow : Below w.heap.size w wS := hb1.trans (hbS.mono (by omega))
  have kS : ∀ j, wS.cell? ⟨w.heap.size, j, none⟩ = w1.cell? ⟨w.heap.size, j, none⟩ := fun j => hbS2.cell (p := ⟨w.heap.size, j, none⟩) (by show w.heap.size < _; omega)
  have zS : ∀ j, wS.frozen? ⟨w.heap.size, j, none⟩ = w1.frozen? ⟨w.heap.size, j, none⟩ := fun j => hbS2.frozen (p := ⟨w.heap.size, j, none⟩) (by show w.heap.size < _; omega)
  have hbw0 : BW w.heap.size wS.heap.size (swp (fun c => sjoin hFst (crossL l c) (crossL [] c)) []) [] 0 0 wS :=
    ⟨by omega, Nat.le_refl _, ⟨_, (kS 0).trans (hbc 0 _ rfl), World.ownsRow_nil _ _ _ _⟩, ⟨_, (kS 1).trans (hbc 1 _ rfl), World.ownsRow_nil _ _ _ _⟩, (kS 2).trans (hbc 2 _ rfl), (kS 3).trans (hbc 3 _ rfl), fun j => (zS j).trans (hz1 j), BInv.start⟩
  have hL1S := (hbS2.cell (p := ⟨w.heap.size + 1, 0, none⟩) (by show w.heap.size + 1 < _; omega)).trans hL1
  have hit := slabsItA [l] cs (w.heap.size + 3) (w.heap.size + 2) (w.heap.size + 1) 1 cc w.heap.size (w.heap.size + 4) Ac wS (lt_of_cell hbl) (lt_of_cell hbc2) (by omega) (by omega) (by omega) (by omega) (by omega) (by omega)
    hbl hbc2 hown (fun k l' hk => by
      have : k = 0 ∧ l = l' := by
        cases k with
        | zero => simpa using hk
        | succ k => simp at hk
      obtain ⟨rfl, rfl⟩ := this
      exact ⟨by omega, _, hL1S, (HR.out.below (hb1.trans (hbS.mono (by omega))))⟩) (by simp) (by simp [cutsL_len] at hcn hcl; omega)
  have hws : w.heap.size + 4 ≤ wS.heap.size := lt_of_cell hbc2
  have hI0 : MI w.heap.size wS.heap.size (fun c => sjoin hFst (crossL l c) (crossL [] c)) 1000 w [] wS := ⟨⟨[], 0, 0, hbw0, by simp, .inl rfl⟩, hlow⟩
  clear hb1 hL1 hbc hbS hsz1 hz1 hcsz hbS2 hlow kS zS hbw0 hL1S hbl hbc2 hown
  refine (wpIn_wide (n := 0)).1 ?_
  refine wp_range rfl (enters_of Tryz.func180 (by kernel_rfl) rfl) hit (Below.refl _ _) (fun x args A hx => by obtain ⟨Rw, rfl, _⟩ := hx; rfl) KpX.trans ?_
    (MI w.heap.size wS.heap.size (fun c => sjoin hFst (crossL l c) (crossL [] c)) 1000 w) (fun _ _ => False) (fun pre A B h hb => h.below hb) (fun pre A l o o' h hw hl ho ho' => h.putObj (by omega) hl ho ho') (fun _ _ _ _ _ h => h.elim) hI0 ?_ ?_ (fun _ _ _ _ h => h.elim)
  · intro A l o o' _ h1 h2 h3
    exact ⟨by simp, fun b off _ _ => (cell_putObj h1 h2 h3 _).1⟩
  · rintro l2 pre ⟨c, d⟩ args A hMI ⟨post, hpost⟩ ⟨Rw, rfl, hRw, hrows⟩ hl1 ⟨ol, hl2, hl3⟩
    have hll : l2 < A.heap.size := (Array.getElem?_eq_some_iff.1 hl2).1
    obtain ⟨vx, hx1, hx2⟩ := hrows 0 l rfl
    have hlo := hMI.low.size
    have hBoA : wS.heap.size ≤ A.heap.size := by obtain ⟨_, _, _, h1, _⟩ := hMI.bw; exact h1.size
    have hM := hide hMI
    have HX1 := hide hx1
    have HX2 := hide hx2
    have HL2 := hide hl2
    have HP := hide hpost
    clear hMI hrows hx1 hx2 hit hI0 hl2 hpost
    simp only [List.length_singleton]
    gi_wp2
    refine ⟨KeepsFrom.of_below' ((Below.refl _ _).alloc (Nat.le_refl _) _), KpX.below hBoA ((Below.refl _ _).alloc (Nat.le_refl _) _), ?_⟩
    intro A2 g2 s2 e2 f2
    have c20 : A2.cell? ⟨A.heap.size, 0, none⟩ = some (.int .i64 c) := (e2 _).trans (by simp [go_sem])
    have c21 : A2.cell? ⟨A.heap.size, 1, none⟩ = some (.int .i64 d) := (e2 _).trans (by simp [go_sem])
    have c22 : A2.cell? ⟨A.heap.size, 2, none⟩ = some (.slice (some ⟨Rw, 0, none⟩) 1 1) := (e2 _).trans (by simp [go_sem])
    have s3 : A2.heap.size = A.heap.size + 1 := by rw [s2]; simp
    have cRw : A2.cell? ⟨Rw, 0, none⟩ = some vx := (e2 _).trans ((World.cell?_alloc_lt A _ ⟨Rw, 0, none⟩ hRw).trans HX1.out)
    have rd : RdK encS 2 A2 A2.heap.size vx (crossL l c) := (HX2.out.keep fun b o hb => (e2 _).trans (World.cell?_alloc_lt A _ ⟨b, o, none⟩ hb)).mono (by omega)
    have M2 := (hM.out.below ((Below.refl _ _).alloc (Nat.le_refl _) (.cells #[.int .i64 c, .int .i64 d, .slice (some ⟨Rw, 0, none⟩) 1 1] 210))).grown (by omega) g2 ((Below.heap_alloc _ _ _ hll).trans HL2.out) hl3
    have hmk := spanMake_ok rd (Nat.le_trans (crossL_len l c) hl) (fun p hp => by
      obtain ⟨r, hr, rfl⟩ := List.mem_map.1 hp
      have hvr := HV.out r (List.mem_filter.1 hr).1
      exact ⟨hvr.2.1, hvr.2.2.2.2.1.1, hvr.2.2.2.2.2.2⟩)
    obtain ⟨last, first, e, B2, q1, q2⟩ := M2.bw
    have hprs := HP.out
    have hlt := prs_lt cs HC.out.1 (c, d) (by rw [hprs]; simp)
    have hnx := prs_next cs pre (c, d) post hprs
    have hplen : pre.length ≤ 800 := by
      have h1 := prs_len cs
      rw [hprs] at h1
      simp [cutsL_len] at h1 hcn
      omega
    have hfl := swp_len (fun c => sjoin hFst (crossL l c) (crossL [] c)) 1000 HG.out pre
    have hsl := HG.out c
    have hef : swp (fun c => sjoin hFst (crossL l c) (crossL [] c)) pre = [] ∨ e ≤ c := by
      rcases q2 with rfl | ⟨p, hp, rfl⟩
      · exact .inl rfl
      · exact .inr (by rw [hnx p hp]; exact Int.le_refl _)
    have hadd : ∀ (A3 : World) (Am : Option Addr) (cm : Nat), Below A2.heap.size A2 A3 → A3.ownsRow A2.heap.size 188 2 (.slice Am (sjoin hFst (crossL l c) []).length cm) (sjoin hFst (crossL l c) []).length ((sjoin hFst (crossL l c) []).flatMap encS) → _ := fun A3 Am cm hb ho =>
      add_any (s := sjoin hFst (crossL l c) []) (f := c) (t := d) (B2.below hb) (own_base ho (by omega)) (by omega) (Nat.le_trans hsl (by omega)) (by omega) hef hlt.1
    have HA := hide hadd
    have HB2 := hide B2
    have HM2 := hide M2.low
    have HR2 := hide rd
    have HN := hide hnx
    clear g2 s2 e2 f2 M2 B2 hadd rd hlt hnx hef hprs q2
    obtain ⟨av, cv, hvx, _⟩ := HR2.out
    subst hvx
    gi_wp2_with (first
      | (refine ⟨trivial, rfl, ?_⟩)
      | (gi_at_call 143; refine (CallsIn.inRound l2 (callsIn_wide.2 hmk)).mono ?_; rintro e' A3 ⟨Am, cm, rfl, ho3, hb3⟩; have d0 := (hb3.cell (p := ⟨A.heap.size, 0, none⟩) (by show A.heap.size < _; omega)).trans c20; have d1 := (hb3.cell (p := ⟨A.heap.size, 1, none⟩) (by show A.heap.size < _; omega)).trans c21; have hadd := HA.out A3 Am cm hb3 ho3; have HO3 := hide ho3; have HB3 := hide hb3; clear ho3 hb3 c20 c21 c22 cRw hmk)
      | (gi_at_call 144; refine (CallsIn.inRound l2 (callsIn_wide.2 hadd)).mono ?_; rintro e' A4 ⟨rfl, first', hbw4, hb4, hblk4, hk4⟩))
    have hb3 := HB3.out
    refine ⟨(KeepsFrom.of_below' hb3).trans (hk4.from _), (KpX.below (by omega) hb3).trans ⟨hk4.size, fun b o h1 h2 => World.cell?_of_block (w := A3) (hblk4 b h1 h2)⟩, ⟨_, first', d, by rw [swp_snoc]; exact hbw4, hsl, .inr ⟨(c, d), by simp, rfl⟩⟩, ?_⟩
    exact (HM2.out.trans (hb3.mono (by omega))).trans hb4
  · rintro D W hD hMI hK
    obtain ⟨last, first, e, hB, _, _⟩ := hMI.bw
    have hplen : (prs cs).length ≤ 800 := by
      have h1 := prs_len cs
      simp [cutsL_len] at hcn
      omega
    have hfl := swp_len (fun c => sjoin hFst (crossL l c) (crossL [] c)) 1000 HG.out (prs cs)
    have hres := result_any hB (by omega)
    rw [HF.out] at hres
    have hws2 := hB.size
    have HM := hide hMI.low
    have HK := hide hK
    have hD2 : D < W.heap.size := (Array.getElem?_eq_some_iff.1 hK).1
    clear hB hMI hfl hit hI0 hK
    simp only [Exit.inBlock, Exit.then]
    by_cases h4 : 400 < (rjoin hFst l []).length
    · have hm : madeF l = ([], 4) := if_pos h4
      have HMF := hide hm
      clear hm
      go_wp2_with (go_at_call 145; refine hres.mono ?_; rintro e' w' ⟨rfl, hq⟩; obtain rfl : e' = .returned (.tuple #[.slice none 0 0, .int .i64 4]) := hq.elim (fun q => q.2) (fun q => absurd q.1 (by omega)); clear hq)
      refine ⟨by simp, .inl ⟨_, _, rfl, run_takeDeferred HK.out, ?_⟩⟩
      refine ⟨_, results_tmp2 rfl _ _ _, ⟨none, 0, by rw [HMF.out]; rfl, by rw [HMF.out]; exact World.ownsRow_nil _ _ _ _⟩, below_putObj HM.out (by omega) _⟩
    · have hm : madeF l = (rjoin hFst l [], 0) := if_neg h4
      have HMF := hide hm
      clear hm
      generalize rjoin hFst l [] = R at *
      go_wp2_with (go_at_call 145; refine hres.mono ?_; rintro e' w' ⟨rfl, hq⟩; obtain ⟨Ar, cr, rfl, hor⟩ := hq.elim (fun q => absurd q.1 h4) (fun q => q.2); have HOR := hide hor; clear hq hor)
      refine ⟨by simp, .inl ⟨_, _, rfl, run_takeDeferred HK.out, ?_⟩⟩
      refine ⟨_, results_tmp2 rfl _ _ _, ⟨Ar, cr, by rw [HMF.out]; rfl, by rw [HMF.out]; exact own_base (own_putObj HOR.out HK.out rfl) (by omega)⟩, below_putObj HM.out (by omega) _⟩
end Go.Proofs.YtdolpeljengpaaaGreat

/- slices.Equal at Region: two lists are one. -/
namespace Go.Proofs.YtdolpeljengpaaaGreat
open Go.RowKit
set_option linter.unusedVariables false
set_option linter.unusedSimpArgs false

set_option maxHeartbeats 4000000 in
theorem eqRect_any {w : World} {vs vt : Value} {s t : List R4} {B C : Nat} (hs : RdK encR 4 w B vs s) (ht : RdK encR 4 w C vt t) (ns : s.length ≤ 100000000) (hB : B ≤ w.heap.size) (hC : C ≤ w.heap.size) :
    Calls Tryz.prog 115 #[vs, vt] w fun e w' => e = .returned (.bool (decide (s = t))) ∧ Below w.heap.size w w' := by
  obtain ⟨A1, c1, rfl, h1⟩ := hs
  obtain ⟨A2, c2, rfl, h2⟩ := ht
  have g : Tryz.prog.eqGuardType Tryz.prog.depth 69 = false := by kernel_rfl
  have H1 := hide h1
  have H2 := hide h2
  clear h1 h2
  go_enter Tryz.func115, Tryz.ntmps115
  by_cases hl : s.length = t.length
  · have hne : ((s.length : Int) != (t.length : Int)) = false := by rw [hl]; simp
    have HL := hide hl
    clear hl
    go_wp2
    go_loopw [13] (fun i wr => ∃ k : Nat, k ≤ s.length ∧ i = .int .i64 k ∧ Hid (s.take k = t.take k) ∧ Below w.heap.size w wr) (fun i _ => s.length - (intOf i).toNat)
    case atStart => exact ⟨0, Nat.zero_le _, rfl, hide rfl, Below.refl _ _⟩
    case round =>
      obtain ⟨k, hk, rfl, HT, hb⟩ := hrel
      by_cases hlt : k < s.length
      · obtain ⟨⟨a0, a1, a2, a3⟩, hp⟩ : ∃ p, s[k]? = some p := ⟨_, List.getElem?_eq_getElem hlt⟩
        have hlt2 : k < t.length := by rw [← HL.out]; exact hlt
        obtain ⟨⟨b0, b1, b2, b3⟩, hq⟩ : ∃ p, t[k]? = some p := ⟨_, List.getElem?_eq_getElem hlt2⟩
        obtain ⟨p1, o1, rfl, hp1, k1⟩ := H1.out (by intro e; rw [e] at hlt; simp at hlt)
        obtain ⟨p2, o2, rfl, hp2, k2⟩ := H2.out (by intro e; rw [e] at hlt2; simp at hlt2)
        have x0 : wr.cell? ⟨p1, o1 + k * 4, none⟩ = some (.int .i64 a0) := (hb.cell (p := ⟨p1, _, none⟩) (by show p1 < _; omega)).trans (k1 k _ hp 0 _ rfl)
        have y0 : wr.cell? ⟨p2, o2 + k * 4, none⟩ = some (.int .i64 b0) := (hb.cell (p := ⟨p2, _, none⟩) (by show p2 < _; omega)).trans (k2 k _ hq 0 _ rfl)
        have x1 : wr.cell? ⟨p1, o1 + k * 4 + 1, none⟩ = some (.int .i64 a1) := (hb.cell (p := ⟨p1, _, none⟩) (by show p1 < _; omega)).trans (k1 k _ hp 1 _ rfl)
        have y1 : wr.cell? ⟨p2, o2 + k * 4 + 1, none⟩ = some (.int .i64 b1) := (hb.cell (p := ⟨p2, _, none⟩) (by show p2 < _; omega)).trans (k2 k _ hq 1 _ rfl)
        have x2 : wr.cell? ⟨p1, o1 + k * 4 + 2, none⟩ = some (.int .i64 a2) := (hb.cell (p := ⟨p1, _, none⟩) (by show p1 < _; omega)).trans (k1 k _ hp 2 _ rfl)
        have y2 : wr.cell? ⟨p2, o2 + k * 4 + 2, none⟩ = some (.int .i64 b2) := (hb.cell (p := ⟨p2, _, none⟩) (by show p2 < _; omega)).trans (k2 k _ hq 2 _ rfl)
        have x3 : wr.cell? ⟨p1, o1 + k * 4 + 3, none⟩ = some (.int .i64 a3) := (hb.cell (p := ⟨p1, _, none⟩) (by show p1 < _; omega)).trans (k1 k _ hp 3 _ rfl)
        have y3 : wr.cell? ⟨p2, o2 + k * 4 + 3, none⟩ = some (.int .i64 b3) := (hb.cell (p := ⟨p2, _, none⟩) (by show p2 < _; omega)).trans (k2 k _ hq 3 _ rfl)
        have z1 : (k : Int) < (s.length : Int) := by omega
        have z2 : (k : Int) < (t.length : Int) := by omega
        have HP := hide hp
        have HQ := hide hq
        clear hp hq k1 k2
        by_cases e0 : a0 = b0
        rotate_left 1
        · have hd : decide (s = t) = false := decide_eq_false fun e => by
            subst e
            have := HP.out.symm.trans HQ.out
            simp only [Option.some.injEq, R4.mk.injEq] at this
            omega
          have HD := hide hd
          clear hd
          go_wp2
          go_region
          go_wp2
          go_ret
          exact ⟨ret_eq (bool_eq HD.out.symm), hb.drew⟩
        by_cases e1 : a1 = b1
        rotate_left 1
        · have hd : decide (s = t) = false := decide_eq_false fun e => by
            subst e
            have := HP.out.symm.trans HQ.out
            simp only [Option.some.injEq, R4.mk.injEq] at this
            omega
          have HD := hide hd
          clear hd
          subst e0
          go_wp2
          go_region
          go_wp2
          go_ret
          exact ⟨ret_eq (bool_eq HD.out.symm), hb.drew⟩
        by_cases e2 : a2 = b2
        rotate_left 1
        · have hd : decide (s = t) = false := decide_eq_false fun e => by
            subst e
            have := HP.out.symm.trans HQ.out
            simp only [Option.some.injEq, R4.mk.injEq] at this
            omega
          have HD := hide hd
          clear hd
          subst e0
          subst e1
          go_wp2
          go_region
          go_wp2
          go_ret
          exact ⟨ret_eq (bool_eq HD.out.symm), hb.drew⟩
        by_cases e3 : a3 = b3
        rotate_left 1
        · have hd : decide (s = t) = false := decide_eq_false fun e => by
            subst e
            have := HP.out.symm.trans HQ.out
            simp only [Option.some.injEq, R4.mk.injEq] at this
            omega
          have HD := hide hd
          clear hd
          subst e0
          subst e1
          subst e2
          go_wp2
          go_region
          go_wp2
          go_ret
          exact ⟨ret_eq (bool_eq HD.out.symm), hb.drew⟩
        subst e0
        subst e1
        subst e2
        subst e3
        go_wp2
        go_region
        go_wp2
        go_roundw
        case rel =>
          refine ⟨k + 1, by omega, by go_num, hide ?_, hb.drew⟩
          obtain ⟨i1, e1⟩ := List.getElem?_eq_some_iff.1 HP.out
          obtain ⟨i2, e2⟩ := List.getElem?_eq_some_iff.1 HQ.out
          rw [List.take_succ_eq_append_getElem i1, List.take_succ_eq_append_getElem i2, HT.out, e1, e2]
        case measure => simp [intOf]; omega
      · have hlz : ¬ (k : Int) < (s.length : Int) := by omega
        have hd : decide (s = t) = true := decide_eq_true (by
          have := HT.out
          rw [List.take_of_length_le (by omega), List.take_of_length_le (by rw [← HL.out]; omega)] at this
          exact this)
        have HD := hide hd
        clear hd
        go_wp2
        go_ret
        exact ⟨ret_eq (bool_eq HD.out.symm), hb⟩
  · have hne : ((s.length : Int) != (t.length : Int)) = true := by simp; omega
    have hd : decide (s = t) = false := decide_eq_false fun e => hl (by rw [e])
    rw [hd]
    clear hl hd
    go_wp2
    go_ret
    exact ⟨rfl, Below.refl _ _⟩
end Go.Proofs.YtdolpeljengpaaaGreat
