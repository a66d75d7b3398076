/- region.slabs's iterator: the slabs between neighbouring cuts. -/
import Derived.Test.YtamnaojheecopaaSlabA
import Derived.Test.YtamnaojheecopaaClose
import Derived.Test.YtamnaojheecopaaRange
import Derived.StillTactics
namespace Go.Proofs.Ytamnaojheecopaa
open Go.RowKit
set_option linter.unusedVariables false
set_option linter.unusedSimpArgs false
attribute [local go_sem] Oper.semAt_some

/-- What a round keeps for an iterator: the old blocks, but for bb. -/
def KpX (bb n : Nat) (A B : World) : Prop := A.heap.size ≤ B.heap.size ∧ ∀ b o, b < n → b ≠ bb → B.cell? ⟨b, o, none⟩ = A.cell? ⟨b, o, none⟩
theorem KpX.trans {b n : Nat} {A B C : World} (h : KpX b n A B) (k : KpX b n B C) : KpX b n A C := ⟨Nat.le_trans h.1 k.1, fun q o h1 h2 => (k.2 q o h1 h2).trans (h.2 q o h1 h2)⟩

/-- What a round is handed: the slab from x.1 to x.2, with the cross-sections of the lists. -/
def OkSlab (ls : List (List R4)) (x : Int × Int) (args : Array Value) (W : World) : Prop :=
  ∃ Rw, args = #[.agg #[.int .i64 x.1, .int .i64 x.2, .slice (some ⟨Rw, 0, none⟩) ls.length ls.length]] ∧ Rw < W.heap.size ∧ ∀ k l, ls[k]? = some l → ∃ v, W.cell? ⟨Rw, k, none⟩ = some v ∧ RdK encS 2 W W.heap.size v (crossL l x.1)

/-- Between two lists of a round: the slab's cells, and the cross-sections gathered so far. -/
structure SMid (ls : List (List R4)) (c d : Int) (Rw S k : Nat) (wi wr : World) : Prop where
  ne : S ≠ Rw
  lowR : wi.heap.size ≤ Rw
  lowS : wi.heap.size ≤ S
  topR : Rw < wr.heap.size
  topS : S < wr.heap.size
  below : Below wi.heap.size wi wr
  s0 : wr.cell? ⟨S, 0, none⟩ = some (.int .i64 c)
  s1 : wr.cell? ⟨S, 1, none⟩ = some (.int .i64 d)
  s2 : wr.cell? ⟨S, 2, none⟩ = some (.slice (some ⟨Rw, 0, none⟩) ls.length ls.length)
  done : ∀ j l, j < k → ls[j]? = some l → ∃ v, wr.cell? ⟨Rw, j, none⟩ = some v ∧ wr.ownsRow (Rw + 1) 78 2 v (crossL l c).length ((crossL l c).flatMap encS)
  left : ∀ j, k ≤ j → j < ls.length → wr.cell? ⟨Rw, j, none⟩ = some (.slice none 0 0)
  fz : ∀ j, wr.frozen? ⟨Rw, j, none⟩ = false
/-- Between two rectangles of list l = ls[k]: wk, the world ahead of the list. -/
structure SIn (l : List R4) (c : Int) (Rw k m : Nat) (wk wr : World) : Prop where
  upd : Upd Rw none wk wr
  oth : ∀ j, j ≠ k → wr.cell? ⟨Rw, j, none⟩ = wk.cell? ⟨Rw, j, none⟩
  fz : ∀ j, wr.frozen? ⟨Rw, j, none⟩ = wk.frozen? ⟨Rw, j, none⟩
  cur : ∃ v, wr.cell? ⟨Rw, k, none⟩ = some v ∧ wr.ownsRow wk.heap.size 78 2 v (crossL (l.take m) c).length ((crossL (l.take m) c).flatMap encS)

theorem SIn.start {ls : List (List R4)} {l : List R4} {c d : Int} {Rw S k : Nat} {wi wk : World} (h : SMid ls c d Rw S k wi wk) (hk : k < ls.length) : SIn l c Rw k 0 wk wk :=
  ⟨Upd.refl _ _ _, fun _ _ => rfl, fun _ => rfl, ⟨_, h.left k (Nat.le_refl _) hk, World.ownsRow_nil _ _ _ _⟩⟩
theorem SIn.fin {ls : List (List R4)} {l : List R4} {c d : Int} {Rw S k : Nat} {wi wk wr : World} (h : SMid ls c d Rw S k wi wk) (hl : ls[k]? = some l) (g : SIn l c Rw k l.length wk wr) : SMid ls c d Rw S (k + 1) wi wr := by
  have hne := h.ne
  have hlR := h.lowR
  have htR := h.topR
  have hbs := h.below.size
  have key : ∀ {b o v}, b ≠ Rw → wk.cell? ⟨b, o, none⟩ = some v → wr.cell? ⟨b, o, none⟩ = some v := fun {b o v} hb e => (g.upd.cell (lt_of_cell e) hb (by simp)).trans e
  refine ⟨hne, hlR, h.lowS, Nat.lt_of_lt_of_le htR g.upd.size, Nat.lt_of_lt_of_le h.topS g.upd.size, h.below.trans (g.upd.below hlR hbs (by simp)), key hne h.s0, key hne h.s1, key hne h.s2, ?_, ?_, fun j => (g.fz j).trans (h.fz j)⟩
  · intro j l' hj hl'
    by_cases hjk : j = k
    · subst hjk
      rw [hl] at hl'
      injection hl' with hl'
      subst hl'
      obtain ⟨v, c1, c2⟩ := g.cur
      rw [List.take_length] at c2
      exact ⟨v, c1, own_base c2 (by omega)⟩
    · obtain ⟨v, c1, c2⟩ := h.done j l' (by omega) hl'
      refine ⟨v, (g.oth j hjk).trans c1, c2.1, ?_⟩
      rcases c2.2 with hn | ⟨gg, cap, cur, hv, hg, hh, r⟩
      · exact .inl hn
      · exact .inr ⟨gg, cap, cur, hv, hg, (g.upd.block gg (Array.getElem?_eq_some_iff.1 hh).1 (by omega) (by simp)).trans hh, r⟩
  · intro j hj hjn
    exact (g.oth j (by omega)).trans (h.left j (by omega) hjn)
theorem crossL_take {l : List R4} {c : Int} {m : Nat} {r : R4} (h : l[m]? = some r) : crossL (l.take (m + 1)) c = crossL (l.take m) c ++ (if r.x0 ≤ c ∧ c < r.x1 then [(r.y0, r.y1)] else []) := by
  obtain ⟨hm, hp⟩ := List.getElem?_eq_some_iff.1 h
  rw [List.take_succ_eq_append_getElem hm, hp]
  unfold crossL
  rw [List.filter_append, List.map_append]
  congr 1
  by_cases hc : r.x0 ≤ c ∧ c < r.x1
  · simp [hc.1, hc.2]
  · rw [if_neg hc]
    have : (decide (r.x0 ≤ c) && decide (c < r.x1)) = false := by
      rw [Bool.and_eq_false_iff]
      by_cases h1 : r.x0 ≤ c
      · exact .inr (decide_eq_false fun h2 => hc ⟨h1, h2⟩)
      · exact .inl (decide_eq_false h1)
    simp [List.filter_cons, this]
theorem SIn.skip {l : List R4} {c : Int} {Rw k m : Nat} {wk wr wr' : World} {r : R4} (g : SIn l c Rw k m wk wr) (hr : l[m]? = some r) (hc : ¬ (r.x0 ≤ c ∧ c < r.x1)) (hb : Below wr.heap.size wr wr') (hR : Rw < wr.heap.size) : SIn l c Rw k (m + 1) wk wr' := by
  obtain ⟨v, c1, c2⟩ := g.cur
  refine ⟨g.upd.trans (Upd.of_below hb), fun j hj => (hb.cell (p := ⟨Rw, j, none⟩) hR).trans (g.oth j hj), fun j => (hb.frozen (p := ⟨Rw, j, none⟩) hR).trans (g.fz j), v, (hb.cell (p := ⟨Rw, k, none⟩) hR).trans c1, ?_⟩
  rw [crossL_take hr, if_neg hc, List.append_nil]
  refine ⟨c2.1, ?_⟩
  rcases c2.2 with hn | ⟨gg, cap, cur, hv, hg, hh, r⟩
  · exact .inl hn
  · exact .inr ⟨gg, cap, cur, hv, hg, (hb.block gg (Array.getElem?_eq_some_iff.1 hh).1).trans hh, r⟩
theorem SIn.push {l : List R4} {c : Int} {Rw k m n : Nat} {wk wr wa w2 : World} {r : R4} {v v2 : Value} (g : SIn l c Rw k m wk wr) (hr : l[m]? = some r) (hc : r.x0 ≤ c ∧ c < r.x1) (hv : wr.cell? ⟨Rw, k, none⟩ = some v) (hR : Rw < wk.heap.size)
    (ha : Below wr.heap.size wr wa) (hgrow : wa.grownBy w2 v.ownBlock) (hrow : ∀ k, v.ownBlock = some k → wk.heap.size ≤ k) (hown2 : w2.ownsRow wk.heap.size 78 2 v2 n ((crossL (l.take m) c ++ [(r.y0, r.y1)]).flatMap encS)) (hf : wk.frozen? ⟨Rw, k, none⟩ = false) :
    w2.cell? ⟨Rw, k, none⟩ = some v ∧ w2.frozen? ⟨Rw, k, none⟩ = false ∧ Hid (SIn l c Rw k (m + 1) wk (w2.setCell ⟨Rw, k, none⟩ v2)) := by
  have hws := g.upd.size
  have hb : Below wk.heap.size wr w2 := (ha.mono hws).grown hgrow (by have := ha.size; omega) hrow
  have hcell : ∀ j, w2.cell? ⟨Rw, j, none⟩ = wr.cell? ⟨Rw, j, none⟩ := fun j => hb.cell (p := ⟨Rw, j, none⟩) hR
  have hfr : ∀ j, w2.frozen? ⟨Rw, j, none⟩ = wk.frozen? ⟨Rw, j, none⟩ := fun j => (hb.frozen (p := ⟨Rw, j, none⟩) hR).trans (g.fz j)
  have hk2 := (hcell k).trans hv
  refine ⟨hk2, (hfr k).trans hf, hide ⟨?_, fun j hj => ?_, fun j => ?_, v2, by simp [go_sem, hk2], ?_⟩⟩
  · refine Upd.setCell ⟨hb.os.trans g.upd.os, hb.tape.trans g.upd.tape, hb.output.trans g.upd.output, Nat.le_trans hws hb.size, fun b h1 h2 h3 => (hb.block b h1).trans (g.upd.block b h1 h2 h3)⟩ _ _
  · refine Eq.trans ?_ ((hcell j).trans (g.oth j hj))
    simp [go_sem, hj]
  · rw [World.frozen?_setCell]; exact hfr j
  · have hl := own_len (k := 2) hown2 (fun _ => rfl) (by omega)
    subst hl
    rw [crossL_take hr, if_pos hc]
    exact ownsRow_setCell_below hown2 hR _
/-- The slab as it is laid, in either order. -/
theorem smid_first1 {ls : List (List R4)} {c d : Int} {w : World} {CS : Array Value} {t1 t2 : TypeId} (hCS : ∀ j, j < ls.length → CS[j]? = some (.slice none 0 0)) :
    SMid ls c d w.heap.size (w.heap.size + 1) 0 w ((w.alloc (.cells CS t1)).alloc (.cells #[.int .i64 c, .int .i64 d, .slice (some ⟨w.heap.size, 0, none⟩) ls.length ls.length] t2)).drew := by
  refine ⟨by omega, Nat.le_refl _, by omega, by simp; omega, by simp, (((Below.refl _ _).alloc (Nat.le_refl _) _).alloc (by simp) _).drew, by simp [go_sem], by simp [go_sem], by simp [go_sem], fun j _ h => by omega, fun j _ hj => ?_, fun j => by simp [go_sem]⟩
  refine (World.cell?_alloc_lt (w.alloc (.cells CS t1)) _ ⟨w.heap.size, j, none⟩ (by simp)).trans ?_
  have := news_new w CS.toList t1 w.heap.size rfl j _ (by simpa using hCS j hj)
  rw [addr_add] at this
  simpa using this
theorem smid_first2 {ls : List (List R4)} {c d : Int} {w : World} {CS : Array Value} {t1 t2 : TypeId} (hCS : ∀ j, j < ls.length → CS[j]? = some (.slice none 0 0)) :
    SMid ls c d (w.heap.size + 1) w.heap.size 0 w ((w.alloc (.cells #[.int .i64 c, .int .i64 d, .slice (some ⟨w.heap.size + 1, 0, none⟩) ls.length ls.length] t2)).alloc (.cells CS t1)).drew := by
  refine ⟨by omega, by omega, Nat.le_refl _, by simp, by simp; omega, (((Below.refl _ _).alloc (Nat.le_refl _) _).alloc (by simp) _).drew, by simp [go_sem], by simp [go_sem], by simp [go_sem], fun j _ h => by omega, fun j _ hj => ?_, fun j => by simp [go_sem]⟩
  have := news_new (w.alloc (.cells #[.int .i64 c, .int .i64 d, .slice (some ⟨w.heap.size + 1, 0, none⟩) ls.length ls.length] t2)) CS.toList t1 (w.heap.size + 1) (by simp) j _ (by simpa using hCS j hj)
  rw [addr_add] at this
  simpa using this
end Go.Proofs.Ytamnaojheecopaa
