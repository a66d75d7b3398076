/- Texts laid together: SlabItA, SlabWA, Add, RefS. Lemmas for the statements of this seat; no condition. -/
import Derived.Test.YtdfpbhlnlkjjlaaGreatPk2
import Derived.Test.YtdfpbhlnlkjjlaaGreatPk1
import Derived.StillTactics
import Derived.Deep.RegionHeld3
import Derived.RangeFuncOwn
import Derived.Laws.CopyOwn

/- region.slabs's iterator: the slabs between neighbouring cuts. -/
namespace Go.Proofs.YtdfpbhlnlkjjlaaGreat
open Go.RowKit
set_option linter.unusedVariables false
set_option linter.unusedSimpArgs false
attribute [local go_sem] Oper.semAt_some
def KpX (bb n : Nat) (A B : World) : Prop := A.heap.size ≤ B.heap.size ∧ ∀ b o, b < n → b ≠ bb → B.cell? ⟨b, o, none⟩ = A.cell? ⟨b, o, none⟩
theorem KpX.trans {b n : Nat} {A B C : World} (h : KpX b n A B) (k : KpX b n B C) : KpX b n A C := ⟨Nat.le_trans h.1 k.1, fun q o h1 h2 => (k.2 q o h1 h2).trans (h.2 q o h1 h2)⟩
def OkSlab (ls : List (List R4)) (x : Int × Int) (args : Array Value) (W : World) : Prop :=
 ∃ Rw, args = #[.agg #[.int .i64 x.1, .int .i64 x.2, .slice (some ⟨Rw, 0, none⟩) ls.length ls.length]] ∧ Rw < W.heap.size ∧ ∀ k l, ls[k]? = some l → ∃ v, W.cell? ⟨Rw, k, none⟩ = some v ∧ RdK encS 2 W W.heap.size v (crossL l x.1)
structure SMid (ls : List (List R4)) (c d : Int) (Rw S k : Nat) (wi wr : World) : Prop where
 ne : S ≠ Rw
 lowR : wi.heap.size ≤ Rw
 lowS : wi.heap.size ≤ S
 topR : Rw < wr.heap.size
 topS : S < wr.heap.size
 below : Below wi.heap.size wi wr
 s0 : wr.cell? ⟨S, 0, none⟩ = some (.int .i64 c)
 s1 : wr.cell? ⟨S, 1, none⟩ = some (.int .i64 d)
 s2 : wr.cell? ⟨S, 2, none⟩ = some (.slice (some ⟨Rw, 0, none⟩) ls.length ls.length)
 done : ∀ j l, j < k → ls[j]? = some l → ∃ v, wr.cell? ⟨Rw, j, none⟩ = some v ∧ wr.ownsRow (Rw + 1) 104 2 v (crossL l c).length ((crossL l c).flatMap encS)
 left : ∀ j, k ≤ j → j < ls.length → wr.cell? ⟨Rw, j, none⟩ = some (.slice none 0 0)
 fz : ∀ j, wr.frozen? ⟨Rw, j, none⟩ = false
structure SIn (l : List R4) (c : Int) (Rw k m : Nat) (wk wr : World) : Prop where
 upd : Upd Rw none wk wr
 oth : ∀ j, j ≠ k → wr.cell? ⟨Rw, j, none⟩ = wk.cell? ⟨Rw, j, none⟩
 fz : ∀ j, wr.frozen? ⟨Rw, j, none⟩ = wk.frozen? ⟨Rw, j, none⟩
 cur : ∃ v, wr.cell? ⟨Rw, k, none⟩ = some v ∧ wr.ownsRow wk.heap.size 104 2 v (crossL (l.take m) c).length ((crossL (l.take m) c).flatMap encS)
theorem SIn.start {ls : List (List R4)} {l : List R4} {c d : Int} {Rw S k : Nat} {wi wk : World} (h : SMid ls c d Rw S k wi wk) (hk : k < ls.length) : SIn l c Rw k 0 wk wk :=
 ⟨Upd.refl _ _ _, fun _ _ => rfl, fun _ => rfl, ⟨_, h.left k (Nat.le_refl _) hk, World.ownsRow_nil _ _ _ _⟩⟩
theorem SIn.fin {ls : List (List R4)} {l : List R4} {c d : Int} {Rw S k : Nat} {wi wk wr : World} (h : SMid ls c d Rw S k wi wk) (hl : ls[k]? = some l) (g : SIn l c Rw k l.length wk wr) : SMid ls c d Rw S (k + 1) wi wr := by
 have hne := h.ne
 have hlR := h.lowR
 have htR := h.topR
 have hbs := h.below.size
 have key : ∀ {b o v}, b ≠ Rw → wk.cell? ⟨b, o, none⟩ = some v → wr.cell? ⟨b, o, none⟩ = some v := fun {b o v} hb e => (g.upd.cell (lt_of_cell e) hb (by simp)).trans e
 refine ⟨hne, hlR, h.lowS, Nat.lt_of_lt_of_le htR g.upd.size, Nat.lt_of_lt_of_le h.topS g.upd.size, h.below.trans (g.upd.below hlR hbs (by simp)), key hne h.s0, key hne h.s1, key hne h.s2, ?_, ?_, fun j => (g.fz j).trans (h.fz j)⟩
 ·intro j l' hj hl'
  by_cases hjk : j = k
  ·subst hjk
   rw [hl] at hl'
   injection hl' with hl'
   subst hl'
   obtain ⟨v, c1, c2⟩ := g.cur
   rw [List.take_length] at c2
   exact ⟨v, c1, own_base c2 (by omega)⟩
  ·obtain ⟨v, c1, c2⟩ := h.done j l' (by omega) hl'
   refine ⟨v, (g.oth j hjk).trans c1, c2.1, ?_⟩
   rcases c2.2 with hn | ⟨gg, cap, cur, hv, hg, hh, r⟩
   ·exact .inl hn
   ·exact .inr ⟨gg, cap, cur, hv, hg, (g.upd.block gg (Array.getElem?_eq_some_iff.1 hh).1 (by omega) (by simp)).trans hh, r⟩
 ·intro j hj hjn
  exact (g.oth j (by omega)).trans (h.left j (by omega) hjn)
theorem crossL_take {l : List R4} {c : Int} {m : Nat} {r : R4} (h : l[m]? = some r) : crossL (l.take (m + 1)) c = crossL (l.take m) c ++ (if r.x0 ≤ c ∧ c < r.x1 then [(r.y0, r.y1)] else []) := by
 obtain ⟨hm, hp⟩ := List.getElem?_eq_some_iff.1 h
 rw [List.take_succ_eq_append_getElem hm, hp]
 unfold crossL
 rw [List.filter_append, List.map_append]
 congr 1
 by_cases hc : r.x0 ≤ c ∧ c < r.x1
 ·simp [hc.1, hc.2]
 ·rw [if_neg hc]
  have : (decide (r.x0 ≤ c) && decide (c < r.x1)) = false := by
   rw [Bool.and_eq_false_iff]
   by_cases h1 : r.x0 ≤ c
   ·exact .inr (decide_eq_false fun h2 => hc ⟨h1, h2⟩)
   ·exact .inl (decide_eq_false h1)
  simp [List.filter_cons, this]
theorem SIn.skip {l : List R4} {c : Int} {Rw k m : Nat} {wk wr wr' : World} {r : R4} (g : SIn l c Rw k m wk wr) (hr : l[m]? = some r) (hc : ¬ (r.x0 ≤ c ∧ c < r.x1)) (hb : Below wr.heap.size wr wr') (hR : Rw < wr.heap.size) : SIn l c Rw k (m + 1) wk wr' := by
 obtain ⟨v, c1, c2⟩ := g.cur
 refine ⟨g.upd.trans (Upd.of_below hb), fun j hj => (hb.cell (p := ⟨Rw, j, none⟩) hR).trans (g.oth j hj), fun j => (hb.frozen (p := ⟨Rw, j, none⟩) hR).trans (g.fz j), v, (hb.cell (p := ⟨Rw, k, none⟩) hR).trans c1, ?_⟩
 rw [crossL_take hr, if_neg hc, List.append_nil]
 refine ⟨c2.1, ?_⟩
 rcases c2.2 with hn | ⟨gg, cap, cur, hv, hg, hh, r⟩
 ·exact .inl hn
 ·exact .inr ⟨gg, cap, cur, hv, hg, (hb.block gg (Array.getElem?_eq_some_iff.1 hh).1).trans hh, r⟩
theorem SIn.push {l : List R4} {c : Int} {Rw k m n : Nat} {wk wr wa w2 : World} {r : R4} {v v2 : Value} (g : SIn l c Rw k m wk wr) (hr : l[m]? = some r) (hc : r.x0 ≤ c ∧ c < r.x1) (hv : wr.cell? ⟨Rw, k, none⟩ = some v) (hR : Rw < wk.heap.size)
  (ha : Below wr.heap.size wr wa) (hgrow : wa.grownBy w2 v.ownBlock) (hrow : ∀ k, v.ownBlock = some k → wk.heap.size ≤ k) (hown2 : w2.ownsRow wk.heap.size 104 2 v2 n ((crossL (l.take m) c ++ [(r.y0, r.y1)]).flatMap encS)) (hf : wk.frozen? ⟨Rw, k, none⟩ = false) :
  w2.cell? ⟨Rw, k, none⟩ = some v ∧ w2.frozen? ⟨Rw, k, none⟩ = false ∧ Hid (SIn l c Rw k (m + 1) wk (w2.setCell ⟨Rw, k, none⟩ v2)) := by
 have hws := g.upd.size
 have hb : Below wk.heap.size wr w2 := (ha.mono hws).grown hgrow (by have := ha.size; omega) hrow
 have hcell : ∀ j, w2.cell? ⟨Rw, j, none⟩ = wr.cell? ⟨Rw, j, none⟩ := fun j => hb.cell (p := ⟨Rw, j, none⟩) hR
 have hfr : ∀ j, w2.frozen? ⟨Rw, j, none⟩ = wk.frozen? ⟨Rw, j, none⟩ := fun j => (hb.frozen (p := ⟨Rw, j, none⟩) hR).trans (g.fz j)
 have hk2 := (hcell k).trans hv
 refine ⟨hk2, (hfr k).trans hf, hide ⟨?_, fun j hj => ?_, fun j => ?_, v2, by simp [go_sem, hk2], ?_⟩⟩
 ·refine Upd.setCell ⟨hb.os.trans g.upd.os, hb.tape.trans g.upd.tape, hb.output.trans g.upd.output, Nat.le_trans hws hb.size, fun b h1 h2 h3 => (hb.block b h1).trans (g.upd.block b h1 h2 h3)⟩ _ _
 ·refine Eq.trans ?_ ((hcell j).trans (g.oth j hj))
  simp [go_sem, hj]
 ·rw [World.frozen?_setCell]; exact hfr j
 ·have hl := own_len (k := 2) hown2 (fun _ => rfl) (by omega)
  subst hl
  rw [crossL_take hr, if_pos hc]
  exact ownsRow_setCell_below hown2 hR _
theorem smid_first1 {ls : List (List R4)} {c d : Int} {w : World} {CS : Array Value} {t1 t2 : TypeId} (hCS : ∀ j, j < ls.length → CS[j]? = some (.slice none 0 0)) :
  SMid ls c d w.heap.size (w.heap.size + 1) 0 w ((w.alloc (.cells CS t1)).alloc (.cells #[.int .i64 c, .int .i64 d, .slice (some ⟨w.heap.size, 0, none⟩) ls.length ls.length] t2)).drew := by
 refine ⟨by omega, Nat.le_refl _, by omega, by simp; omega, by simp, (((Below.refl _ _).alloc (Nat.le_refl _) _).alloc (by simp) _).drew, by simp [go_sem], by simp [go_sem], by simp [go_sem], fun j _ h => by omega, fun j _ hj => ?_, fun j => by simp [go_sem]⟩
 refine (World.cell?_alloc_lt (w.alloc (.cells CS t1)) _ ⟨w.heap.size, j, none⟩ (by simp)).trans ?_
 have := news_new w CS.toList t1 w.heap.size rfl j _ (by simpa using hCS j hj)
 rw [addr_add] at this
 simpa using this
theorem smid_first2 {ls : List (List R4)} {c d : Int} {w : World} {CS : Array Value} {t1 t2 : TypeId} (hCS : ∀ j, j < ls.length → CS[j]? = some (.slice none 0 0)) :
  SMid ls c d (w.heap.size + 1) w.heap.size 0 w ((w.alloc (.cells #[.int .i64 c, .int .i64 d, .slice (some ⟨w.heap.size + 1, 0, none⟩) ls.length ls.length] t2)).alloc (.cells CS t1)).drew := by
 refine ⟨by omega, by omega, Nat.le_refl _, by simp, by simp; omega, (((Below.refl _ _).alloc (Nat.le_refl _) _).alloc (by simp) _).drew, by simp [go_sem], by simp [go_sem], by simp [go_sem], fun j _ h => by omega, fun j _ hj => ?_, fun j => by simp [go_sem]⟩
 have := news_new (w.alloc (.cells #[.int .i64 c, .int .i64 d, .slice (some ⟨w.heap.size + 1, 0, none⟩) ls.length ls.length] t2)) CS.toList t1 (w.heap.size + 1) (by simp) j _ (by simpa using hCS j hj)
 rw [addr_add] at this
 simpa using this
end Go.Proofs.YtdfpbhlnlkjjlaaGreat

/- region.slabs's iterator: the walk. -/
namespace Go.Proofs.YtdfpbhlnlkjjlaaGreat
open Go.RowKit
set_option linter.unusedVariables false
set_option linter.unusedSimpArgs false
attribute [local go_sem] Oper.semAt_some
theorem infoSS : (Tryz.prog.info? 99).map (fun i => (i.zero, i.size, i.bytes)) = some (some (.slice none 0 0), 1, 24) := by kernel_rfl
theorem infoSp : (Tryz.prog.info? 104).map (fun i => (i.zero, i.size, i.bytes)) = some (some (.agg #[.int .i64 0, .int .i64 0]), 2, 16) := by kernel_rfl
theorem own_drew {w : World} {base size : Nat} {e : TypeId} {v : Value} {n : Nat} {xs : List Value} (h : w.ownsRow base e size v n xs) : w.drew.ownsRow base e size v n xs := h
theorem news_drew (w : World) (cs : List Value) (t : TypeId) (B : Nat) (hB : w.heap.size = B) : ∀ j u, cs[j]? = some u → (w.alloc (.cells cs.toArray t)).drew.cell? ((⟨B, 0, none⟩ : Addr).add j) = some u := news_new w cs t B hB
theorem app_after {l : List R4} {c : Int} {Rw k m n S : Nat} {wk wr wb w2 : World} {r : R4} {v v2 a b1 b3 : Value} (g : SIn l c Rw k m wk wr) (hr : l[m]? = some r) (hc : r.x0 ≤ c ∧ c < r.x1) (hv : wr.cell? ⟨Rw, k, none⟩ = some v) (hR : Rw < wk.heap.size) (hbw : Below wr.heap.size wr wb) (o : Obj)
  (hvo : wr.ownsRow wk.heap.size 104 2 v (crossL (l.take m) c).length ((crossL (l.take m) c).flatMap encS)) (hgrow : (wb.alloc o).drew.grownBy w2 v.ownBlock) (hown2 : w2.ownsRow wk.heap.size 104 2 v2 n ((crossL (l.take m) c).flatMap encS ++ [.int .i64 r.y0, .int .i64 r.y1])) (hf : wk.frozen? ⟨Rw, k, none⟩ = false)
  (hS : S < wk.heap.size) (f2 : wb.cell? ⟨S, 2, none⟩ = some a) (f1 : wb.cell? ⟨wr.heap.size, 1, none⟩ = some b1) (f3 : wb.cell? ⟨wr.heap.size, 3, none⟩ = some b3) :
  w2.cell? ⟨S, 2, none⟩ = some a ∧ w2.cell? ⟨Rw, k, none⟩ = some v ∧ w2.cell? ⟨wr.heap.size, 1, none⟩ = some b1 ∧ w2.cell? ⟨wr.heap.size, 3, none⟩ = some b3 ∧ w2.frozen? ⟨Rw, k, none⟩ = false ∧ Hid (SIn l c Rw k (m + 1) wk (w2.setCell ⟨Rw, k, none⟩ v2)) := by
 have hrow := hvo.lt
 have ha : Below wr.heap.size wr (wb.alloc o).drew := (hbw.alloc hbw.size o).drew
 have hx : (crossL (l.take m) c).flatMap encS ++ [.int .i64 r.y0, .int .i64 r.y1] = (crossL (l.take m) c ++ [(r.y0, r.y1)]).flatMap encS := by simp [encS]
 rw [hx] at hown2
 obtain ⟨p1, p2, p3⟩ := g.push hr hc hv hR ha hgrow (fun q hq => (hrow q hq).1) hown2 hf
 have far : ∀ (q i : Nat) (u : Value), wb.cell? ⟨q, i, none⟩ = some u → v.ownBlock ≠ some q → w2.cell? ⟨q, i, none⟩ = some u := fun q i u hu hq =>
  World.grownBy.cell hgrow (a := ⟨q, i, none⟩) ((World.cell?_alloc_lt wb o ⟨q, i, none⟩ (lt_of_cell hu)).trans hu) (fun e => hq e.symm)
 exact ⟨far S 2 a f2 (fun e => by have := hrow S e; omega), p1, far _ 1 b1 f1 (fun e => by have := hrow _ e; omega), far _ 3 b3 f3 (fun e => by have := hrow _ e; omega), p2, p3⟩
theorem make_ss (n : Nat) (hn : n ≤ 1000) : ∃ CS : Array Value, (∀ j, j < n → CS[j]? = some (.slice none 0 0)) ∧ ∀ W : World, (Instr.makeSlice 117 (.int .i64 (n : Int)) (.int .i64 (n : Int))).run Tryz.prog W = .ok (.slice (some ⟨W.heap.size, 0, none⟩) n n) (W.alloc (.cells CS 99)) := by
 obtain ⟨i0, hi, hz0, hz1, hz2⟩ := info_parts infoSS
 refine ⟨madeCells (Value.slice none 0 0).cells (n * i0.size), ?_, fun W => ?_⟩
 ·intro j hj
  rw [hz1]
  have : (madeCells #[Value.slice none 0 0] n).toList[j]? = some (.slice none 0 0) := by rw [toList_madeCells_one]; simp [hj]
  rw [Nat.mul_one]
  rw [Array.getElem?_toList] at this
  exact this
 ·have := run_make (P := Tryz.prog) W 117 99 i0 _ Tryz.underlying117 hi hz0 .i64 .i64 (n : Int) (n : Int) (by omega) (Int.le_refl _) (by rw [hz2]; omega) (by omega)
  simpa using this
set_option maxRecDepth 100000 in
set_option maxHeartbeats 4000000 in
theorem slabsItA (ls : List (List R4)) (cs : List Int) (bc bl L cc cv bb base : Nat) (A : Option Addr) (w0 : World) (hbl : bl < w0.heap.size) (hbc : bc < w0.heap.size) (hLs : L < w0.heap.size) (n1 : bl ≠ bb) (n2 : bc ≠ bb) (n3 : L ≠ bb) (n4 : bb < base) (n5 : bb ≤ w0.heap.size)
  (hlb : w0.cell? ⟨bl, 0, none⟩ = some (.slice (some ⟨L, 0, none⟩) ls.length cc)) (hcb : w0.cell? ⟨bc, 0, none⟩ = some (.slice A cs.length cv)) (hown : w0.ownsRow base 3 1 (.slice A cs.length cv) cs.length (cs.map iv))
  (hv : ∀ k l, ls[k]? = some l → l.length ≤ 100000000 ∧ ∃ v, w0.cell? ⟨L, k, none⟩ = some v ∧ RdK encR 4 w0 bb v l) (hls : ls.length ≤ 1000) (hcs : cs.length ≤ 100000000) :
  Iter Tryz.prog 109 #[.pointer (some ⟨bc, 0, none⟩), .pointer (some ⟨bl, 0, none⟩)] (prs cs) (OkSlab ls) (KpX bb w0.heap.size) w0 := by
 intro l J Jx W hW hJ hY h0
 obtain ⟨i0, hi, hz0, hz1, hz2⟩ := info_parts infoSS
 obtain ⟨i1, gi, gz0, gz1, gz2⟩ := info_parts infoSp
 refine callsIn_of_wp Tryz.func109 rfl trivial ?_
 simp only [Tryz.ntmps109, List.size_toArray, List.length_cons, List.length_nil, Nat.reduceAdd, Nat.reduceSub, Array.replicate_succ, Array.replicate_zero, List.push_toArray, List.append_toArray, List.nil_append, List.cons_append]
 have HV := hide hv
 have HY := hide hY
 have HJ := hide hJ
 clear hv hY hJ
 gi_wp2
 gi_loopw [4] (fun p wr => ∃ k : Nat, k ≤ (prs cs).length ∧ p = .int .i64 ((k : Int) + 1) ∧ Hid (J ((prs cs).take k) wr) ∧ Hid (∀ b o, b < w0.heap.size → b ≠ bb → wr.cell? ⟨b, o, none⟩ = w0.cell? ⟨b, o, none⟩) ∧ w0.heap.size ≤ wr.heap.size)
  (fun p _ => ((prs cs).length + 1) - (intOf p).toNat)
 case atStart => exact ⟨0, Nat.zero_le _, rfl, hide (by simpa using h0), hide fun b o h _ => hW.cell (p := ⟨b, o, none⟩) h, hW.size⟩
 case round =>
  obtain ⟨k, hk, rfl, HJk, HC, hsz⟩ := hrel
  have hpl := prs_len cs
  have kb := (HC.out bl 0 hbl n1).trans hlb
  have kc := (HC.out bc 0 hbc n2).trans hcb
  by_cases hlt : k < (prs cs).length
  ·have hltz : (k : Int) + 1 < (cs.length : Int) := by omega
   obtain ⟨c, hc⟩ : ∃ c, cs[k]? = some c := ⟨_, List.getElem?_eq_getElem (by omega)⟩
   obtain ⟨d, hd⟩ : ∃ d, cs[k + 1]? = some d := ⟨_, List.getElem?_eq_getElem (by omega)⟩
   obtain ⟨g, cv', hf, hbg, hgw⟩ := hown.form (by omega)
   injection hf with e1 _ e3
   subst e1; subst e3
   have kc0 : wr.cell? ⟨g, k, none⟩ = some (.int .i64 c) := by
    have := (hown.cells (g := g) rfl) k (iv c) (by simp [hc])
    rw [addr_add] at this
    exact (HC.out g k hgw (by omega)).trans this
   have kc1 : wr.cell? ⟨g, k + 1, none⟩ = some (.int .i64 d) := by
    have := (hown.cells (g := g) rfl) (k + 1) (iv d) (by simp [hd])
    rw [addr_add] at this
    exact (HC.out g (k + 1) hgw (by omega)).trans this
   have HP := hide (prs_get cs k c d hc hd)
   gi_wp2
   obtain ⟨CS, hCS, hmk⟩ := make_ss ls.length hls
   have HS := hide hCS
   clear hCS
   refine wpIn_wide.2 ?_
   have q1 : (0 : Int) ≤ (k : Int) := by omega
   have q2 : (k : Int) < (cs.length : Int) := by omega
   have q3 : (0 : Int) ≤ (k : Int) + 1 := by omega
   have hcsz : (cs.length : Int) ≤ 100000000 := by omega
   have hw1 : IntKind.i64.wrap (k : Int) = k := by simp [IntKind.wrap, IntKind.bits, IntKind.signed]; omega
   have hw2 : IntKind.i64.wrap ((k : Int) + 1) = (k : Int) + 1 := by simp [IntKind.wrap, IntKind.bits, IntKind.signed]; omega
   have t1 : ((k : Int) + 1).toNat = k + 1 := by omega
   go_region_held3 (fun w' => w'.cell? ⟨bc, 0, none⟩ = some (.slice (some ⟨g, 0, none⟩) cs.length cv) ∧ w'.cell? ⟨bl, 0, none⟩ = some (.slice (some ⟨L, 0, none⟩) ls.length cc) ∧ w'.cell? ⟨g, k, none⟩ = some (.int .i64 c) ∧ w'.cell? ⟨g, k + 1, none⟩ = some (.int .i64 d)) (go_keep) (fail)
   case' refine_2.refine_3.refine_3.refine_3.refine_3.refine_3.refine_3.refine_3.refine_3.refine_3.refine_3.refine_3.refine_1.refine_2.refine_3.refine_1.refine_2.refine_1.refine_2 =>
    have M := smid_first1 (ls := ls) (c := c) (d := d) (w := wr) (t1 := 99) (t2 := 119) HS.out
    generalize World.drew (World.alloc (World.alloc _ _) _) = w3 at M ⊢
    obtain ⟨S, hS⟩ : ∃ S, wr.heap.size + 1 = S := ⟨_, rfl⟩
    obtain ⟨Rw, hR⟩ : ∃ Rw, wr.heap.size = Rw := ⟨_, rfl⟩
    rw [hS] at M ⊢
    rw [hR] at M ⊢
    clear hS hR
   case' refine_2.refine_3.refine_3.refine_3.refine_3.refine_3.refine_3.refine_3.refine_3.refine_3.refine_3.refine_3.refine_2.refine_1.refine_2.refine_1.refine_2.refine_3.refine_1.refine_2 =>
    have M := smid_first2 (ls := ls) (c := c) (d := d) (w := wr) (t1 := 99) (t2 := 119) HS.out
    generalize World.drew (World.alloc (World.alloc _ _) _) = w3 at M ⊢
    obtain ⟨Rw, hR⟩ : ∃ S, wr.heap.size + 1 = S := ⟨_, rfl⟩
    obtain ⟨S, hS⟩ : ∃ Rw, wr.heap.size = Rw := ⟨_, rfl⟩
    rw [hR] at M ⊢
    rw [hS] at M ⊢
    clear hS hR
   all_goals
    generalize wr = wi at *
    clear hlb hcb hmk q1 q2 q3 hw1 hw2 t1 kc kc0 kc1 hltz hown HS h0 hW
    have hlsz : (ls.length : Int) ≤ 1000 := by omega
    have hbl' : bl < wi.heap.size := by omega
    have m0 := (M.below.cell (p := ⟨bl, 0, none⟩) hbl').trans kb
    gi_wp2
    refine wpIn_wide.2 ?_
    go_loopw [31] (fun i wx => ∃ j : Nat, j ≤ ls.length ∧ i = .int .i64 j ∧ SMid ls c d Rw S j wi wx) (fun i _ => ls.length - (intOf i).toNat)
    case atStart => exact ⟨0, Nat.zero_le _, rfl, M⟩
    case round =>
     clear m0 M
     obtain ⟨j, hj, rfl, M⟩ := hrel
     by_cases hjl : j < ls.length
     ·have hjz : (j : Int) < (ls.length : Int) := by omega
      obtain ⟨r, hr⟩ : ∃ r, ls[j]? = some r := ⟨_, List.getElem?_eq_getElem hjl⟩
      obtain ⟨hrl, v, hvc, Av, cr, rfl, hrd⟩ := HV.out j r hr
      have hL2 : wr.cell? ⟨L, j, none⟩ = some (.slice Av r.length cr) := (M.below.cell (p := ⟨L, j, none⟩) (by show L < _; omega)).trans ((HC.out L j hLs n3).trans hvc)
      have HR := hide hrd
      clear hvc hrd
      go_wp2
      have hRk := M.topR
      have hSk := M.topS
      have hne := M.ne
      have hwk := M.below.size
      have hlR := M.lowR
      have SS := SIn.start (l := r) M hjl
      have HM := hide M
      have e0 := M.s0
      have e2 := M.s2
      clear M hL2
      generalize wr = wk at *
      go_loopw [38] (fun i wx => ∃ m : Nat, m ≤ r.length ∧ i = .int .i64 m ∧ SIn r c Rw j m wk wx) (fun i _ => r.length - (intOf i).toNat)
      case atStart => exact ⟨0, Nat.zero_le _, rfl, SS⟩
      case round =>
       clear SS
       obtain ⟨m, hm, rfl, SS⟩ := hrel
       by_cases hml : m < r.length
       ·obtain ⟨⟨x0, y0, x1, y1⟩, hp⟩ : ∃ p, r[m]? = some p := ⟨_, List.getElem?_eq_getElem hml⟩
        have hner : r ≠ [] := by intro e; rw [e] at hml; simp at hml
        obtain ⟨bk, off, rfl, hbk, hcell⟩ := HR.out hner
        have tr : ∀ o, wr.cell? ⟨bk, o, none⟩ = w0.cell? ⟨bk, o, none⟩ := fun o =>
         (SS.upd.cell (by omega) (by omega) (by simp)).trans ((HM.out.below.cell (p := ⟨bk, o, none⟩) (by show bk < _; omega)).trans (HC.out bk o (by omega) (by omega)))
        have d0 : wr.cell? ⟨bk, off + m * 4, none⟩ = some (.int .i64 x0) := (tr _).trans (hcell m _ hp 0 _ rfl)
        have d1 : wr.cell? ⟨bk, off + m * 4 + 1, none⟩ = some (.int .i64 y0) := (tr _).trans (hcell m _ hp 1 _ rfl)
        have d2 : wr.cell? ⟨bk, off + m * 4 + 2, none⟩ = some (.int .i64 x1) := (tr _).trans (hcell m _ hp 2 _ rfl)
        have d3 : wr.cell? ⟨bk, off + m * 4 + 3, none⟩ = some (.int .i64 y1) := (tr _).trans (hcell m _ hp 3 _ rfl)
        have f0 := (SS.upd.cell (off := 0) hSk hne (by simp)).trans e0
        have f2 := (SS.upd.cell (off := 2) hSk hne (by simp)).trans e2
        have hws := SS.upd.size
        have hmz : (m : Int) < (r.length : Int) := by omega
        have HE0 := hide e0
        have HE2 := hide e2
        have HSS := hide SS
        have hSw : S < wr.heap.size := by omega
        clear hcell tr e0 e2 SS
        by_cases c1 : x0 ≤ c
        ·by_cases c2 : c < x1
         ·go_wp2
          obtain ⟨wb, hwb⟩ : ∃ wb, wb = wr.alloc (.cells #[.int .i64 x0, .int .i64 y0, .int .i64 x1, .int .i64 y1] 49) := ⟨_, rfl⟩
          rw [← hwb]
          obtain ⟨v, v1, v2⟩ := HSS.out.cur
          obtain ⟨Av2, cv2, hv2⟩ := own_form v2
          subst hv2
          have hRw : Rw < wr.heap.size := by omega
          have hj63 : (0 : Int) ≤ (j : Int) := by omega
          have g2 : wb.cell? ⟨S, 2, none⟩ = some (.slice (some ⟨Rw, 0, none⟩) ls.length ls.length) := by rw [hwb]; exact (World.cell?_alloc_lt _ _ ⟨S, 2, none⟩ hSw).trans f2
          have gv : wb.cell? ⟨Rw, j, none⟩ = some (.slice Av2 (crossL (r.take m) c).length cv2) := by rw [hwb]; exact (World.cell?_alloc_lt _ _ ⟨Rw, j, none⟩ hRw).trans v1
          have gy0 : wb.cell? ⟨wr.heap.size, 1, none⟩ = some (.int .i64 y0) := by rw [hwb]; simp [go_sem]
          have gy1 : wb.cell? ⟨wr.heap.size, 3, none⟩ = some (.int .i64 y1) := by rw [hwb]; simp [go_sem]
          have gs : wb.heap.size = wr.heap.size + 1 := by rw [hwb]; simp
          have hbw : Below wr.heap.size wr wb := by rw [hwb]; exact (Below.refl _ _).alloc (Nat.le_refl _) _
          have gown : wb.ownsRow wk.heap.size 104 2 (.slice Av2 (crossL (r.take m) c).length cv2) (crossL (r.take m) c).length ((crossL (r.take m) c).flatMap encS) := by rw [hwb]; exact v2.alloc _
          have hcl : (crossL (r.take m) c).length ≤ 100000000 := by
           unfold crossL
           rw [List.length_map]
           refine Nat.le_trans (List.length_filter_le _ _) ?_
           rw [List.length_take]; omega
          have HFZ := hide (HM.out.fz j)
          have HV1 := hide v1
          have HV2 := hide v2
          have HGV := hide gv
          have HBW := hide hbw
          have HG2 := hide g2
          have HY0 := hide gy0
          have HY1 := hide gy1
          have HO := hide gown
          have HGS := hide gs
          have hRwb : Rw < wb.heap.size := by omega
          have hSwb : S < wb.heap.size := by omega
          have hwrb : wr.heap.size < wb.heap.size := by omega
          have nR1 : Rw ≠ S := fun e => hne e.symm
          have nR2 : Rw ≠ wr.heap.size := by omega
          have hwkb : wk.heap.size ≤ wb.heap.size := by omega
          clear gs d0 d1 d2 d3 f0 f2 v1 v2 gown hwb
          refine wp_region_reads 13 (fun w' => w'.cell? ⟨S, 2, none⟩ = some (.slice (some ⟨Rw, 0, none⟩) ls.length ls.length) ∧ w'.cell? ⟨Rw, j, none⟩ = some (.slice Av2 (crossL (r.take m) c).length cv2) ∧ w'.cell? ⟨wr.heap.size, 1, none⟩ = some (.int .i64 y0) ∧ w'.cell? ⟨wr.heap.size, 3, none⟩ = some (.int .i64 y1)) (by kernel_rfl) (by kernel_rfl) ⟨g2, gv, gy0, gy1⟩ ?_
          simp only [List.take_succ_cons, List.take_zero, List.drop_succ_cons, List.drop_zero]
          iterate 13
           refine ⟨?_, Or.inl ⟨by rfl, ?_⟩, ?_⟩
           rotate_left 1
           ·intro w' hSw
            obtain ⟨z1, z2, z3, z4⟩ := hSw
            go_simp
            first | done | with_reducible rfl
           simp only [Act.put, List.setIfInBounds_toArray, List.set_cons_zero, List.set_cons_succ]
          simp only [wpReads]
          intro K hK
          go_simp
          refine hK _ _ (fun _ => ⟨by go_keep, by go_keep, by go_keep, by go_keep⟩) ?_
          clear hK K
          intro K hK
          refine step_append_lies _ rfl (.tmp 61) (.tmp 67) 99 rfl wk.heap.size 104 i1 (.agg #[.int .i64 0, .int .i64 0]) 2 16 Tryz.underlying99 gi gz0 gz1 gz2 rfl (by decide) (.slice Av2 (crossL (r.take m) c).length cv2) (crossL (r.take m) c).length _ rfl (own_drew (World.ownsRow.alloc (w := wb) HO.out _)) ⟨wb.heap.size, 0, none⟩ 1 1 [.int .i64 y0, .int .i64 y1] rfl rfl (news_drew wb _ _ _ rfl) (ints_one rfl) (by omega) (by unfold maxLen; omega) (by omega) (by simp; omega) _ rfl ?_
          intro g9 cap9 w9 hown9 hgrow9 _ _
          obtain ⟨s1, s2, s3, s4, s5, HF9⟩ := app_after HSS.out hp ⟨c1, c2⟩ HV1.out hRk HBW.out _ HV2.out hgrow9 hown9 HFZ.out hSk HG2.out HY0.out HY1.out
          clear hown9 hgrow9
          refine hK _ _ (fun _ => ⟨s1, s2, s3, s4⟩) ?_
          clear hK K
          intro K hK
          simp only [Act.put, List.setIfInBounds_toArray, List.set_cons_zero, List.set_cons_succ] at hK ⊢
          go_simp
          refine hK _ _ (fun _ => ⟨s1, s2, s3, s4⟩) ?_
          clear hK K
          intro K hK
          simp only [Act.put, List.setIfInBounds_toArray, List.set_cons_zero, List.set_cons_succ] at hK ⊢
          go_simp
          refine hK _ _ (fun h => absurd rfl h) ?_
          clear hK K
          refine NoPanic.normal ?_
          have HF9' := hide HF9.out
          go_wp2
          go_roundw
          case rel => exact ⟨m + 1, by omega, by go_num, HF9'.out⟩
          case measure => simp [intOf]; omega
         ·have c2' : x1 ≤ c := by omega
          go_wp2
          go_roundw
          case rel => exact ⟨m + 1, by omega, by go_num, HSS.out.skip hp (fun h => by have := h.2; simp at this; omega) ((Below.refl _ _).alloc (Nat.le_refl _) _) (by omega)⟩
          case measure => simp [intOf]; omega
        ·have c1' : c < x0 := by omega
         go_wp2
         go_roundw
         case rel => exact ⟨m + 1, by omega, by go_num, HSS.out.skip hp (fun h => by have := h.1; simp at this; omega) ((Below.refl _ _).alloc (Nat.le_refl _) _) (by omega)⟩
         case measure => simp [intOf]; omega
       ·obtain rfl : m = r.length := by omega
        have hmz : ¬ (r.length : Int) < (r.length : Int) := by omega
        have HF := hide (SIn.fin HM.out hr SS)
        clear SS e0 e2
        go_wp2
        go_roundw
        case rel => exact ⟨j + 1, by omega, by go_num, HF.out⟩
        case measure => simp [intOf]; omega
     ·obtain rfl : j = ls.length := by omega
      have hjz : ¬ (ls.length : Int) < (ls.length : Int) := by omega
      have e0 := M.s0
      have e1 := M.s1
      have e2 := M.s2
      have hJ2 := HJ.out _ _ _ HJk.out M.below
      have hx : (prs cs)[k]? = some (c, d) := HP.out
      obtain ⟨hkp, hxe⟩ := List.getElem?_eq_some_iff.1 hx
      have hfi : (prs cs).take (k + 1) = (prs cs).take k ++ [(c, d)] := by rw [List.take_succ_eq_append_getElem hkp, hxe]
      have hpost : ∃ post, prs cs = (prs cs).take k ++ (c, d) :: post := ⟨(prs cs).drop (k + 1), by rw [← hxe, ← List.drop_eq_getElem_cons hkp, List.take_append_drop]⟩
      have hok : OkSlab ls (c, d) #[.agg #[.int .i64 c, .int .i64 d, .slice (some ⟨Rw, 0, none⟩) ls.length ls.length]] wr := by
       refine ⟨Rw, rfl, M.topR, fun q l hl => ?_⟩
       obtain ⟨v, v1, v2⟩ := M.done q l (List.getElem?_eq_some_iff.1 hl).1 hl
       exact ⟨v, v1, own_rd v2 (fun _ => rfl)⟩
      obtain ⟨fn, tmps, assign, body, hy, hR⟩ := HY.out ((prs cs).take k) (c, d) #[.agg #[.int .i64 c, .int .i64 d, .slice (some ⟨Rw, 0, none⟩) ls.length ls.length]] wr hJ2 hpost hok
      have FI := hide hfi
      have HM := hide M
      clear hx hxe hfi hpost hJ2 hok HJ HY M
      have hk2 : (k : Int) + 1 + 1 ≤ 100000001 := by omega
      have hk3' : (0 : Int) ≤ (k : Int) := by omega
      go_wp2
      gi_wp2
      refine ⟨rfl, hR.mono ?_⟩
      rintro e W3 (⟨rfl, hJ3, hk3⟩ | ⟨rfl, hJx3⟩)
      ·have HJ3 := hide hJ3
       have HK3 := hide hk3
       clear hJ3 hk3 hR
       gi_wp2
       go_roundw
       case rel =>
        refine ⟨k + 1, by omega, by go_num, hide (by rw [FI.out]; exact HJ3.out), hide fun b o h1 h2 => (HK3.out.2 b o h1 h2).trans ((HM.out.below.cell (p := ⟨b, o, none⟩) (by show b < _; omega)).trans (HC.out b o h1 h2)), ?_⟩
        have := HK3.out.1
        have := HM.out.below.size
        omega
       case measure => simp [intOf]; omega
      ·have HJx := hide hJx3
       clear hJx3 hR
       gi_wp2
       refine bodyPost_ret (results_none rfl _ _ _) rfl ?_
       exact ⟨⟨_, rfl⟩, .inr ⟨_, HJx.out⟩⟩
  ·have hltz : ¬ (k : Int) + 1 < (cs.length : Int) := by omega
   have hk' : (prs cs).take k = prs cs := List.take_of_length_le (by omega)
   have HK := hide hk'
   clear hk' HJ HY h0
   gi_wp2
   go_end0
   exact ⟨⟨_, rfl⟩, .inl (by have := HJk.out; rw [HK.out] at this; exact this)⟩
end Go.Proofs.YtdfpbhlnlkjjlaaGreat

/- builder.add: one more slab. -/
namespace Go.Proofs.YtdfpbhlnlkjjlaaGreat
open Go.RowKit
set_option linter.unusedVariables false
set_option linter.unusedSimpArgs false
theorem own_below {w w1 : World} {B : Nat} {e : TypeId} {size : Nat} {v : Value} {n : Nat} {xs : List Value} (h : w.ownsRow B e size v n xs) (hb : Below w.heap.size w w1) : w1.ownsRow B e size v n xs := by
 refine ⟨h.1, ?_⟩
 rcases h.2 with hn | ⟨g, cap, cur, hv, hg, hh, r⟩
 ·exact .inl hn
 ·exact .inr ⟨g, cap, cur, hv, hg, (hb.block g (Array.getElem?_eq_some_iff.1 hh).1).trans hh, r⟩
theorem own_apart {w : World} {B B' : Nat} {e e' : TypeId} {size size' : Nat} {v v' : Value} {n n' : Nat} {xs xs' : List Value} (h : w.ownsRow B e size v n xs) (h' : w.ownsRow B' e' size' v' n' xs') (hne : e ≠ e') : v.ownBlock = none ∨ v.ownBlock ≠ v'.ownBlock := by
 rcases h.2 with ⟨rfl, _⟩ | ⟨g, cap, cur, rfl, _, hg, _⟩
 ·exact .inl rfl
 ·right
  intro he
  rcases h'.2 with ⟨rfl, _⟩ | ⟨g', cap', cur', rfl, _, hg', _⟩
  ·simp [Value.ownBlock] at he
  ·simp [Value.ownBlock] at he
   subst he
   rw [hg] at hg'
   injection hg' with hg'
   injection hg' with _ h2
   exact hne h2
theorem grown_refl (w : World) (row : Option Nat) : w.grownBy w row := ⟨rfl, rfl, rfl, Nat.le_refl _, fun _ _ _ => rfl⟩
theorem infoRc : (Tryz.prog.info? 49).map (fun i => (i.zero, i.size, i.bytes)) = some (some (.agg #[.int .i64 0, .int .i64 0, .int .i64 0, .int .i64 0]), 4, 32) := by kernel_rfl
theorem flat_set (t : Int) : ∀ (l : List R4) (k : Nat) (r : R4), l[k]? = some r → (l.flatMap encR).set (k * 4 + 2) (.int .i64 t) = (l.set k { r with x1 := t }).flatMap encR
 | [], k, r, h => by simp at h
 | a :: l, 0, r, h => by
  simp at h; subst h
  rfl
 | a :: l, k + 1, r, h => by
  have := flat_set t l k r (by simpa using h)
  rw [List.set_cons_succ, List.flatMap_cons, List.flatMap_cons, ← this, List.set_append_right _ _ (by show 4 ≤ _; omega)]
  congr 2
  show (k + 1) * 4 + 2 - 4 = _
  omega
def upTo (t : Int) (m k : Nat) (l : List R4) : List R4 := l.mapIdx fun i r => if m ≤ i ∧ i < k then { r with x1 := t } else r
theorem upTo_len (t : Int) (m k : Nat) (l : List R4) : (upTo t m k l).length = l.length := by simp [upTo]
theorem upTo_start (t : Int) (m : Nat) (l : List R4) : upTo t m m l = l := by
 apply List.ext_getElem?
 intro i
 simp only [upTo, List.getElem?_mapIdx]
 cases l[i]? with
 | none => rfl
 | some r => simp; omega
theorem upTo_step (t : Int) (m k : Nat) (l : List R4) (r : R4) (hm : m ≤ k) (h : (upTo t m k l)[k]? = some r) : (upTo t m k l).set k { r with x1 := t } = upTo t m (k + 1) l := by
 apply List.ext_getElem?
 intro i
 rw [List.getElem?_set]
 have hk : k < (upTo t m k l).length := (List.getElem?_eq_some_iff.1 h).1
 by_cases hik : k = i
 ·subst hik
  rw [if_pos rfl, if_pos hk]
  simp only [upTo, List.getElem?_mapIdx] at h ⊢
  cases hl : l[k]? with
  | none => rw [hl] at h; simp at h
  | some q =>
   rw [hl] at h
   simp at h
   subst h
   simp [hm]
 ·rw [if_neg hik]
  simp only [upTo, List.getElem?_mapIdx]
  cases l[i]? with
  | none => rfl
  | some q =>
   have : (m ≤ i ∧ i < k) ↔ (m ≤ i ∧ i < k + 1) := by omega
   simp only [Option.map_some]
   by_cases hc : m ≤ i ∧ i < k
   ·rw [if_pos hc, if_pos (this.1 hc)]
   ·rw [if_neg hc, if_neg (fun g => hc (this.2 g))]
theorem upTo_end (S0 : List Slab) (f0 e t : Int) (s : List Sp) : upTo t (flat S0).length (flat (S0 ++ [⟨f0, e, s⟩])).length (flat (S0 ++ [⟨f0, e, s⟩])) = flat (S0 ++ [⟨f0, t, s⟩]) := by
 rw [flat_append, flat_one, flat_append, flat_one]
 apply List.ext_getElem?
 intro i
 simp only [upTo, List.getElem?_mapIdx, List.length_append]
 by_cases hi : i < (flat S0).length
 ·rw [List.getElem?_append_left hi, List.getElem?_append_left hi]
  cases (flat S0)[i]? with
  | none => rfl
  | some q => simp; omega
 ·rw [List.getElem?_append_right (by omega), List.getElem?_append_right (by omega)]
  simp only [flat1, List.getElem?_map, List.length_map]
  cases hq : s[i - (flat S0).length]? with
  | none => rfl
  | some q =>
   have := (List.getElem?_eq_some_iff.1 hq).1
   simp only [Option.map_some]
   rw [if_pos (by omega)]
structure AddR (bb Bo : Nat) (w0 : World) (L : List R4) (vs : Value) (s : List Sp) (n : Nat) (t : Int) (wr : World) : Prop where
 low : bb < Bo
 size : Bo ≤ wr.heap.size
 out : ∃ vo, wr.cell? ⟨bb, 0, none⟩ = some vo ∧ wr.ownsRow Bo 49 4 vo L.length (L.flatMap encR)
 c1 : wr.cell? ⟨bb, 1, none⟩ = some vs
 c2 : wr.cell? ⟨bb, 2, none⟩ = some (.int .i64 n)
 c3 : wr.cell? ⟨bb, 3, none⟩ = some (.int .i64 t)
 fz : ∀ j, wr.frozen? ⟨bb, j, none⟩ = false
 own : wr.ownsRow Bo 104 2 vs s.length (s.flatMap encS)
 os : wr.os = w0.os
 tape : wr.tape = w0.tape
 output : wr.output = w0.output
 grow : w0.heap.size ≤ wr.heap.size
 block : ∀ q, q < Bo → q ≠ bb → wr.heap[q]? = w0.heap[q]?
 keep : KeepsOthers w0 wr
theorem keeps_below {w w1 : World} (h : Below w.heap.size w w1) : KeepsOthers w w1 := ⟨h.size, fun k o hk _ => (h.block k (Array.getElem?_eq_some_iff.1 hk).1).trans hk⟩
theorem own_cells {w : World} {B : Nat} {e : TypeId} {size : Nat} {v : Value} {n : Nat} {xs : List Value} (h : w.ownsRow B e size v n xs) : ∀ (j : Nat) (o : Obj), v.ownBlock = some j → w.heap[j]? = some o → o.isCells = true := by
 intro j o hj ho
 rcases h.2 with ⟨rfl, _⟩ | ⟨g, cap, cur, rfl, _, hg, _⟩
 ·simp [Value.ownBlock] at hj
 ·simp [Value.ownBlock] at hj
  subst hj
  rw [hg] at ho
  injection ho with ho
  subst ho; rfl
theorem AddR.start {bb Bo : Nat} {S : List Slab} {last s : List Sp} {first : Nat} {e t : Int} {vs : Value} {w w1 : World} (h : BW bb Bo S last first e w) (hb : Below w.heap.size w w1) (hs : w.ownsRow Bo 104 2 vs s.length (s.flatMap encS)) :
  AddR bb Bo w (flat S) vs s (flat S).length t (((w1.setCell ⟨bb, 2, none⟩ (.int .i64 ((flat S).length : Nat))).setCell ⟨bb, 1, none⟩ vs).setCell ⟨bb, 3, none⟩ (.int .i64 t)) := by
 have hlow := h.low
 have hbs : bb < w.heap.size := Nat.lt_of_lt_of_le h.low h.size
 obtain ⟨vo, o1, o2⟩ := h.out
 obtain ⟨vl, l1, l2⟩ := h.la
 have hc : ∀ o, w1.cell? ⟨bb, o, none⟩ = w.cell? ⟨bb, o, none⟩ := fun o => hb.cell (p := ⟨bb, o, none⟩) hbs
 have hf : ∀ o, w1.frozen? ⟨bb, o, none⟩ = w.frozen? ⟨bb, o, none⟩ := fun o => hb.frozen (p := ⟨bb, o, none⟩) hbs
 have c2 := h.fi
 have c3 := h.en
 refine ⟨hlow, ?_, ⟨vo, by simp [go_sem, hc, o1], ownsRow_setCell_below (ownsRow_setCell_below (ownsRow_setCell_below (own_below o2 hb) hlow _) hlow _) hlow _⟩, by simp [go_sem, hc, l1], by simp [go_sem, hc, c2], by simp [go_sem, hc, c3], fun j => ?_,
  ownsRow_setCell_below (ownsRow_setCell_below (ownsRow_setCell_below (own_below hs hb) hlow _) hlow _) hlow _, hb.os, hb.tape, hb.output, ?_, fun q h1 h2 => ?_, (((keeps_below hb).trans (KeepsOthers.setCell _ _ _)).trans (KeepsOthers.setCell _ _ _)).trans (KeepsOthers.setCell _ _ _)⟩
 ·have := hb.size; have := h.size; simp [World.setCell]; omega
 ·rw [World.frozen?_setCell, World.frozen?_setCell, World.frozen?_setCell, hf]; exact h.fz j
 ·have := hb.size; simp [World.setCell]; omega
 ·have := h.size
  exact (Below.heap_setCell _ _ _ _ h2).trans ((Below.heap_setCell _ _ _ _ h2).trans ((Below.heap_setCell _ _ _ _ h2).trans (hb.block q (by omega))))
theorem AddR.push {bb Bo : Nat} {w0 wr wa w2 : World} {L : List R4} {r : R4} {vs vo v2 : Value} {s : List Sp} {n k : Nat} {t : Int} (h : AddR bb Bo w0 L vs s n t wr) (hvo : wr.cell? ⟨bb, 0, none⟩ = some vo) (how : wr.ownsRow Bo 49 4 vo L.length (L.flatMap encR))
  (ha : Below wr.heap.size wr wa) (hg : wa.grownBy w2 vo.ownBlock) (hown2 : w2.ownsRow Bo 49 4 v2 k ((L ++ [r]).flatMap encR)) :
  w2.cell? ⟨bb, 0, none⟩ = some vo ∧ w2.frozen? ⟨bb, 0, none⟩ = false ∧ Hid (AddR bb Bo w0 (L ++ [r]) vs s n t (w2.setCell ⟨bb, 0, none⟩ v2)) := by
 have hlow := h.low
 have hsz := h.size
 have hB : Below Bo wr w2 := (ha.mono hsz).grown hg (Nat.le_trans hsz ha.size) fun q hq => (how.lt q hq).1
 have hc : ∀ o, w2.cell? ⟨bb, o, none⟩ = wr.cell? ⟨bb, o, none⟩ := fun o => hB.cell (p := ⟨bb, o, none⟩) hlow
 have hf : ∀ o, w2.frozen? ⟨bb, o, none⟩ = wr.frozen? ⟨bb, o, none⟩ := fun o => hB.frozen (p := ⟨bb, o, none⟩) hlow
 have k0 := (hc 0).trans hvo
 have hk := own_len (k := 4) hown2 (fun _ => rfl) (by omega)
 subst hk
 refine ⟨k0, (hf 0).trans (h.fz 0), hide ⟨hlow, ?_, ⟨v2, by simp [go_sem, k0], ownsRow_setCell_below hown2 hlow _⟩, ?_, ?_, ?_, fun j => ?_, ownsRow_setCell_below ((own_below h.own ha).kept hg ?_) hlow _, hB.os.trans h.os, hB.tape.trans h.tape, hB.output.trans h.output, ?_, fun q h1 h2 => ?_, ((h.keep.trans (keeps_below ha)).trans (KeepsOthers.of_grownBy hg fun j o hj ho => ?_)).trans (KeepsOthers.setCell _ _ _)⟩⟩
 ·have := hB.size; simp [World.setCell]; omega
 ·simp [go_sem, hc, h.c1]
 ·simp [go_sem, hc, h.c2]
 ·simp [go_sem, hc, h.c3]
 ·rw [World.frozen?_setCell, hf]; exact h.fz j
 ·exact own_apart h.own how (by decide)
 ·have := hB.size; have := h.grow; simp [World.setCell]; omega
 ·exact (Below.heap_setCell _ _ _ _ h2).trans ((hB.block q h1).trans (h.block q h1 h2))
 ·exact own_cells (own_below how ha) j o hj ho
theorem AddR.push2 {bb Bo : Nat} {w0 wr wb w2 : World} {L : List R4} {r : R4} {vs vo v2 b0 b1 : Value} {s : List Sp} {n k : Nat} {t : Int} (h : AddR bb Bo w0 L vs s n t wr) (hvo : wr.cell? ⟨bb, 0, none⟩ = some vo) (how : wr.ownsRow Bo 49 4 vo L.length (L.flatMap encR))
  (hbw : Below wr.heap.size wr wb) (o : Obj) (hg : (wb.alloc o).drew.grownBy w2 vo.ownBlock) (hown2 : w2.ownsRow Bo 49 4 v2 k (L.flatMap encR ++ encR r)) (f0 : wb.cell? ⟨wr.heap.size, 0, none⟩ = some b0) (f1 : wb.cell? ⟨wr.heap.size, 1, none⟩ = some b1) :
  w2.cell? ⟨bb, 0, none⟩ = some vo ∧ w2.cell? ⟨wr.heap.size, 0, none⟩ = some b0 ∧ w2.cell? ⟨wr.heap.size, 1, none⟩ = some b1 ∧ w2.frozen? ⟨bb, 0, none⟩ = false ∧ Hid (AddR bb Bo w0 (L ++ [r]) vs s n t (w2.setCell ⟨bb, 0, none⟩ v2)) := by
 have ha : Below wr.heap.size wr (wb.alloc o).drew := (hbw.alloc hbw.size o).drew
 have hx : L.flatMap encR ++ encR r = (L ++ [r]).flatMap encR := by simp
 rw [hx] at hown2
 obtain ⟨p1, p2, p3⟩ := h.push hvo how ha hg hown2
 have far : ∀ (q i : Nat) (u : Value), wb.cell? ⟨q, i, none⟩ = some u → vo.ownBlock ≠ some q → w2.cell? ⟨q, i, none⟩ = some u := fun q i u hu hq =>
  World.grownBy.cell hg (a := ⟨q, i, none⟩) ((World.cell?_alloc_lt wb o ⟨q, i, none⟩ (lt_of_cell hu)).trans hu) (fun e => hq e.symm)
 exact ⟨p1, far _ 0 b0 f0 (fun e => by have := how.lt _ e; omega), far _ 1 b1 f1 (fun e => by have := how.lt _ e; omega), p2, p3⟩
set_option maxRecDepth 100000 in
set_option maxHeartbeats 4000000 in
theorem add_any {bb Bo : Nat} {S : List Slab} {last s : List Sp} {first : Nat} {e f t : Int} {vs : Value} {w : World} (h : BW bb Bo S last first e w) (hs : w.ownsRow Bo 104 2 vs s.length (s.flatMap encS)) (hn : (flat S).length ≤ 100000000) (hsn : s.length ≤ 100000000) (hln : last.length ≤ 100000000)
  (hef : S = [] ∨ e ≤ f) (hft : f < t) :
  Calls Tryz.prog 77 #[.pointer (some ⟨bb, 0, none⟩), .int .i64 f, .int .i64 t, vs] w fun r w' => r = .returned (.tuple #[]) ∧ ∃ first', BW bb Bo (addS S f t s) s first' t w' ∧ Below bb w w' ∧ (∀ k, k < Bo → k ≠ bb → w'.heap[k]? = w.heap[k]?) ∧ KeepsOthers w w' := by
 obtain ⟨vo, o1, o2⟩ := h.out
 obtain ⟨vl, l1, l2⟩ := h.la
 obtain ⟨Ao, co, hvo, _⟩ := own_rd o2 (fun _ => rfl)
 obtain ⟨Al, cl, hvl, hrl⟩ := own_rd l2 (fun _ => rfl)
 obtain ⟨As, cs, hvs, hrs⟩ := own_rd hs (fun _ => rfl)
 subst hvo; subst hvl; subst hvs
 have c2 := h.fi
 have c3 := h.en
 have z0 := h.fz 0
 have z1 := h.fz 1
 have z2 := h.fz 2
 have z3 := h.fz 3
 by_cases hc : s ≠ [] ∧ e = f ∧ last = s
 ·obtain ⟨hsne, rfl, rfl⟩ := hc
  obtain ⟨S0, f0, hS, hfi, hadd, hinv⟩ := BInv.join (t := t) h.inv hsne rfl rfl
  have heq := fun W (hb : Below w.heap.size w W) => eqSpan_any (w := W) (B := w.heap.size) (C := w.heap.size) ((own_rd l2 (fun _ => rfl)).below hb) ((own_rd hs (fun _ => rfl)).below hb) hln hb.size hb.size
  have hd : decide (last = last) = true := decide_eq_true rfl
  rw [hd] at heq
  have HEQ := hide heq
  have hbs : bb < w.heap.size := Nat.lt_of_lt_of_le h.low h.size
  have hfl : first < (flat S).length := by
   rw [hS, flat_append, flat_one, List.length_append, hfi]
   have := List.length_pos_iff.2 hsne
   simp [flat1]; omega
  obtain ⟨g, cap, hvo, hBg, hgw⟩ := o2.form (by omega)
  injection hvo with e1 _ e3
  subst e1; subst e3
  have hlow := h.low
  have hlp : (0 : Int) < (last.length : Int) := by have := List.length_pos_iff.2 hsne; omega
  have hee : (e == e) = true := by simp
  have HO := hide o2
  have HL := hide l2
  have HH := hide h
  have HI := hide hinv
  have HS := hide hS
  have HF := hide hfi
  have HA := hide hadd
  clear hd heq o2 l2 hs h hinv hS hfi hadd hrl hrs
  go_enter Tryz.func77, Tryz.ntmps77
  go_wp2_with (go_at_call 115; refine (HEQ.out _ (Below.refl _ _)).mono ?_; rintro r w1 ⟨rfl, hb1⟩; have d0 := (hb1.cell (p := ⟨bb, 0, none⟩) hbs).trans o1; have d2 := (hb1.cell (p := ⟨bb, 2, none⟩) hbs).trans c2; have d3 := (hb1.cell (p := ⟨bb, 3, none⟩) hbs).trans c3; have g3 := (hb1.frozen (p := ⟨bb, 3, none⟩) hbs).trans z3)
  go_loopw [8] (fun i wr => ∃ k : Nat, first ≤ k ∧ k ≤ (flat S).length ∧ i = .int .i64 k ∧ wr.cell? ⟨bb, 0, none⟩ = some (.slice (some ⟨g, 0, none⟩) (flat S).length co) ∧ wr.cell? ⟨bb, 3, none⟩ = some (.int .i64 e) ∧ wr.frozen? ⟨bb, 3, none⟩ = false ∧
    Hid (wr.ownsRow Bo 49 4 (.slice (some ⟨g, 0, none⟩) (flat S).length co) (flat S).length ((upTo t first k (flat S)).flatMap encR)) ∧ Hid (w1.grownBy wr (Value.slice (some ⟨g, 0, none⟩) (flat S).length co).ownBlock)) (fun i _ => (flat S).length - (intOf i).toNat)
  case atStart => exact ⟨first, Nat.le_refl _, by omega, rfl, d0, d3, g3, hide (by rw [upTo_start]; exact own_below HO.out hb1), hide (grown_refl _ _)⟩
  case round =>
   clear d0 d3 g3
   obtain ⟨k, hk1, hk2, rfl, d0, d3, g3, HR, HG⟩ := hrel
   by_cases hlt : k < (flat S).length
   ·have hkz : (k : Int) < ((flat S).length : Int) := by omega
    obtain ⟨r, hr⟩ : ∃ r, (upTo t first k (flat S))[k]? = some r := ⟨_, List.getElem?_eq_getElem (by rw [upTo_len]; exact hlt)⟩
    have x1 : wr.cell? ⟨g, k * 4 + 2, none⟩ = some (.int .i64 r.x1) := by
     have := (HR.out.cells (g := g) rfl) _ _ (flat_get (k := 4) (fun _ => rfl) _ k r 2 _ hr rfl)
     rwa [addr_add] at this
    have f1 : wr.frozen? ⟨g, k * 4 + 2, none⟩ = false := HR.out.frozenAt _
    have hst := HR.out.stored (k * 4 + 2) (.int .i64 t)
    rw [flat_set t _ k r hr, upTo_step t first k _ r hk1 hr] at hst
    have HST := hide hst
    have nbg : bb ≠ g := by omega
    have ngb : g ≠ bb := by omega
    clear hr hst
    go_wp2
    go_roundw
    case rel => exact ⟨k + 1, by omega, by omega, by go_num, by simp [go_sem, d0, nbg, ngb], by simp [go_sem, d3, nbg, ngb], by simp [go_sem, g3], hide HST.out.1, hide (HG.out.trans HST.out.2)⟩
    case measure => simp [intOf]; omega
   ·obtain rfl : k = (flat S).length := by omega
    have hkz : ¬ ((flat S).length : Int) < ((flat S).length : Int) := by omega
    go_wp2
    refine bodyPost_ret (results_none rfl _ _ _) rfl ?_
    have hend := upTo_end S0 f0 e t last
    rw [← HS.out, ← HF.out, ← HA.out] at hend
    have hlen : (flat (addS S e t last)).length = (flat S).length := by rw [← hend, upTo_len]
    have R := HR.out
    rw [hend] at R
    have hGB : Below Bo w1 wr := (Below.refl Bo w1).grown HG.out (Nat.le_trans HH.out.size hb1.size) (fun q hq => (R.lt q hq).1)
    have hsz : Bo ≤ w.heap.size := HH.out.size
    have hW : ∀ q, q < Bo → q ≠ bb → (wr.setCell ⟨bb, 3, none⟩ (.int .i64 t)).heap[q]? = w.heap[q]? := fun q h1 h2 => (Below.heap_setCell _ _ _ _ h2).trans ((hGB.block q h1).trans (hb1.block q (by omega)))
    have hbw : Below w.heap.size w w1 := hb1
    have hcell : ∀ o, wr.cell? ⟨bb, o, none⟩ = w.cell? ⟨bb, o, none⟩ := fun o => (hGB.cell (p := ⟨bb, o, none⟩) hlow).trans (hb1.cell (p := ⟨bb, o, none⟩) hbs)
    have hfr : ∀ o, wr.frozen? ⟨bb, o, none⟩ = w.frozen? ⟨bb, o, none⟩ := fun o => (hGB.frozen (p := ⟨bb, o, none⟩) hlow).trans (hb1.frozen (p := ⟨bb, o, none⟩) hbs)
    refine ⟨rfl, ⟨first, hlow, ?_, ⟨_, ?_, own_n (ownsRow_setCell_below R (by exact hlow) _) hlen.symm⟩, ⟨_, ?_, ownsRow_setCell_below ((own_below HL.out hb1).kept HG.out ?_) (by exact hlow) _⟩, ?_, ?_, ?_, HI.out⟩, ?_, hW, ((keeps_below hb1).trans (KeepsOthers.of_grownBy HG.out fun j o hj ho => own_cells (own_below HO.out hb1) j o hj ho)).trans (KeepsOthers.setCell _ _ _)⟩
    ·have := HG.out.size
     have := hb1.size
     simp [World.setCell]; omega
    ·simp [go_sem, d0]
    ·simp [go_sem, hcell, l1]
    ·exact own_apart HL.out HO.out (by decide)
    ·simp [go_sem, hcell, c2]
    ·simp [go_sem, d3]
    ·intro j
     rw [World.frozen?_setCell, hfr]
     exact HH.out.fz j
    ·refine (Below.setCell ?_ (p := ⟨bb, 3, none⟩) (Nat.le_refl bb) _)
     exact (hb1.mono (by omega)).trans (hGB.mono (by omega))
 ·obtain ⟨hfl, hinv⟩ := BInv.push (t := t) h.inv hef hft hc
  have hbs : bb < w.heap.size := Nat.lt_of_lt_of_le h.low h.size
  have HC := hide hc
  have HO := hide o2
  have HL := hide l2
  have HS := hide hs
  have HH := hide h
  have HI := hide hinv
  have HF := hide hfl
  have HRS := hide hrs
  have heq := fun W (hb : Below w.heap.size w W) => eqSpan_any (w := W) (B := w.heap.size) (C := w.heap.size) ((own_rd l2 (fun _ => rfl)).below hb) ((own_rd hs (fun _ => rfl)).below hb) hln hb.size hb.size
  have HEQ := hide heq
  clear hc o2 l2 hs h hinv hfl hrl hrs heq
  go_enter Tryz.func77, Tryz.ntmps77
  have hlow := HH.out.low
  have AW := hide (AddR.start (t := t) HH.out (Below.refl _ w) HS.out)
  obtain ⟨w1, hw1⟩ : ∃ w1, w1 = w := ⟨_, rfl⟩
  obtain ⟨i1, gi, gz0, gz1, gz2⟩ := info_parts infoRc
  by_cases hs0 : s = []
  ·have hlp : ¬ (0 : Int) < (s.length : Int) := by simp [hs0]
   have HS0 : Hid (s.length = 0) := hide (by simp [hs0])
   clear hs0
   go_wp2
   clear o1 l1 c2 c3 z0 z1 z2 z3 hlp
   go_loopw [73] (fun i wr => ∃ m : Nat, m ≤ s.length ∧ i = .int .i64 m ∧ Hid (AddR bb Bo w (flat S ++ (s.take m).map (fun p => ⟨f, p.1, t, p.2⟩)) (.slice As s.length cs) s (flat S).length t wr)) (fun i _ => s.length - (intOf i).toNat)
   case atStart => exact ⟨0, Nat.zero_le _, rfl, hide (by rw [List.take_zero, List.map_nil, List.append_nil]; exact AW.out)⟩
   case round =>
    clear AW
    obtain ⟨m, hm, rfl, HA⟩ := hrel
    by_cases hlt : m < s.length
    ·exact absurd hlt (by have := HS0.out; omega)
    ·obtain rfl : m = s.length := by omega
     have hmz : ¬ (s.length : Int) < (s.length : Int) := by omega
     have A := HA.out
     rw [List.take_length, ← HF.out] at A
     have HA2 := hide A
     clear A
     go_wp2
     go_end0
     have A := HA2.out
     obtain ⟨vo, a1, a2⟩ := A.out
     exact ⟨rfl, ⟨_, A.low, A.size, ⟨vo, a1, a2⟩, ⟨_, A.c1, A.own⟩, A.c2, A.c3, A.fz, HI.out⟩, ⟨A.os, A.tape, A.output, Nat.le_trans (by omega) A.grow, fun q hq => A.block q (by omega) (by omega)⟩, A.block, A.keep⟩
  ·have hlp : (0 : Int) < (s.length : Int) := by have := List.length_pos_iff.2 hs0; omega
   by_cases hef2 : e = f
   ·have hee : (e == f) = true := by simpa using hef2
    have hd : decide (last = s) = false := decide_eq_false fun g => HC.out ⟨hs0, hef2, g⟩
    have HD := hide hd
    clear hd hef2 hs0
    go_wp2_with (first | (go_at_call 115; refine (HEQ.out _ (Below.refl _ _)).mono ?_; rintro r w1 ⟨rfl, hb1⟩; rw [HD.out]; have d0 := (hb1.cell (p := ⟨bb, 0, none⟩) hbs).trans o1; have d1 := (hb1.cell (p := ⟨bb, 1, none⟩) hbs).trans l1; have d2 := (hb1.cell (p := ⟨bb, 2, none⟩) hbs).trans c2; have d3 := (hb1.cell (p := ⟨bb, 3, none⟩) hbs).trans c3; have g0 := (hb1.frozen (p := ⟨bb, 0, none⟩) hbs).trans z0; have g1 := (hb1.frozen (p := ⟨bb, 1, none⟩) hbs).trans z1; have g2 := (hb1.frozen (p := ⟨bb, 2, none⟩) hbs).trans z2; have g3 := (hb1.frozen (p := ⟨bb, 3, none⟩) hbs).trans z3))
    clear AW
    have AW := hide (AddR.start (t := t) HH.out hb1 HS.out)
    clear o1 l1 c2 c3 z0 z1 z2 z3 hlp
    go_loopw [73] (fun i wr => ∃ m : Nat, m ≤ s.length ∧ i = .int .i64 m ∧ Hid (AddR bb Bo w (flat S ++ (s.take m).map (fun p => ⟨f, p.1, t, p.2⟩)) (.slice As s.length cs) s (flat S).length t wr)) (fun i _ => s.length - (intOf i).toNat)
    case atStart => exact ⟨0, Nat.zero_le _, rfl, hide (by rw [List.take_zero, List.map_nil, List.append_nil]; exact AW.out)⟩
    case round =>
     clear AW
     obtain ⟨m, hm, rfl, HA⟩ := hrel
     by_cases hlt : m < s.length
     ·have hmz : (m : Int) < (s.length : Int) := by omega
      obtain ⟨g2, cap2, hvs, hB2, hg2⟩ := HA.out.own.form (by omega)
      injection hvs with e1 _ e3
      subst e1; subst e3
      obtain ⟨⟨p1, p2⟩, hp⟩ : ∃ p, s[m]? = some p := ⟨_, List.getElem?_eq_getElem hlt⟩
      have x0 : wr.cell? ⟨g2, m * 2, none⟩ = some (.int .i64 p1) := by
       have := (HA.out.own.cells (g := g2) rfl) _ _ (flat_get (k := 2) (fun _ => rfl) _ m _ 0 _ hp rfl)
       rwa [addr_add] at this
      have x1 : wr.cell? ⟨g2, m * 2 + 1, none⟩ = some (.int .i64 p2) := by
       have := (HA.out.own.cells (g := g2) rfl) _ _ (flat_get (k := 2) (fun _ => rfl) _ m _ 1 _ hp rfl)
       rwa [addr_add] at this
      have HT : Hid ((s.take (m + 1)).map (fun p : Sp => (⟨f, p.1, t, p.2⟩ : R4)) = (s.take m).map (fun p : Sp => (⟨f, p.1, t, p.2⟩ : R4)) ++ [⟨f, p1, t, p2⟩]) := hide (by
       obtain ⟨hk, hpe⟩ := List.getElem?_eq_some_iff.1 hp
       rw [List.take_succ_eq_append_getElem hk, List.map_append, hpe]; rfl)
      have hL : (flat S ++ (s.take m).map (fun p : Sp => (⟨f, p.1, t, p.2⟩ : R4))).length ≤ 200000000 := by
       rw [List.length_append, List.length_map, List.length_take]; omega
      clear hp
      go_wp2
      obtain ⟨wb, hwb⟩ : ∃ wb, wb = wr.alloc (.cells #[.int .i64 p1, .int .i64 p2] 104) := ⟨_, rfl⟩
      rw [← hwb]
      obtain ⟨vo, v1, v2⟩ := HA.out.out
      obtain ⟨Av, cv, hv⟩ := own_rd v2 (fun _ => rfl)
      obtain ⟨hv, _⟩ := hv
      subst hv
      have hbw : Below wr.heap.size wr wb := by rw [hwb]; exact (Below.refl _ _).alloc (Nat.le_refl _) _
      have hbbw : bb < wr.heap.size := Nat.lt_of_lt_of_le hlow HA.out.size
      have gv : wb.cell? ⟨bb, 0, none⟩ = some (.slice Av (flat S ++ (s.take m).map (fun p : Sp => (⟨f, p.1, t, p.2⟩ : R4))).length cv) := by rw [hwb]; exact (World.cell?_alloc_lt _ _ ⟨bb, 0, none⟩ hbbw).trans v1
      have gy0 : wb.cell? ⟨wr.heap.size, 0, none⟩ = some (.int .i64 p1) := by rw [hwb]; simp [go_sem]
      have gy1 : wb.cell? ⟨wr.heap.size, 1, none⟩ = some (.int .i64 p2) := by rw [hwb]; simp [go_sem]
      have gs : wb.heap.size = wr.heap.size + 1 := by rw [hwb]; simp
      have gown : wb.ownsRow Bo 49 4 (.slice Av (flat S ++ (s.take m).map (fun p : Sp => (⟨f, p.1, t, p.2⟩ : R4))).length cv) (flat S ++ (s.take m).map (fun p : Sp => (⟨f, p.1, t, p.2⟩ : R4))).length ((flat S ++ (s.take m).map (fun p : Sp => (⟨f, p.1, t, p.2⟩ : R4))).flatMap encR) := by rw [hwb]; exact v2.alloc _
      have HV1 := hide v1
      have HV2 := hide v2
      have HBW := hide hbw
      have HY0 := hide gy0
      have HY1 := hide gy1
      have HO2 := hide gown
      have HT2 : Hid (flat S ++ (s.take (m + 1)).map (fun p : Sp => (⟨f, p.1, t, p.2⟩ : R4)) = (flat S ++ (s.take m).map (fun p : Sp => (⟨f, p.1, t, p.2⟩ : R4))) ++ [⟨f, p1, t, p2⟩]) := hide (by rw [HT.out, List.append_assoc])
      have hbws : bb < wb.heap.size := by omega
      have hbne : wr.heap.size < wb.heap.size := by omega
      have hBow : Bo ≤ wb.heap.size := by have := HA.out.size; omega
      have HA2 := hide HA.out
      clear gs v1 v2 gown hwb hbw x0 x1 HA HT
      generalize flat S ++ (s.take m).map (fun p : Sp => (⟨f, p.1, t, p.2⟩ : R4)) = L at *
      refine wp_region_reads 12 (fun w' => w'.cell? ⟨bb, 0, none⟩ = some (.slice Av L.length cv) ∧ w'.cell? ⟨wr.heap.size, 0, none⟩ = some (.int .i64 p1) ∧ w'.cell? ⟨wr.heap.size, 1, none⟩ = some (.int .i64 p2)) (by kernel_rfl) (by kernel_rfl) ⟨gv, gy0, gy1⟩ ?_
      simp only [List.take_succ_cons, List.take_zero, List.drop_succ_cons, List.drop_zero]
      iterate 12
       refine ⟨?_, Or.inl ⟨by rfl, ?_⟩, ?_⟩
       rotate_left 1
       ·intro w' hSw
        obtain ⟨z1, z2, z3⟩ := hSw
        go_simp
        first | done | with_reducible rfl
       simp only [Act.put, List.setIfInBounds_toArray, List.set_cons_zero, List.set_cons_succ]
      simp only [wpReads]
      intro K hK
      go_simp
      refine hK _ _ (fun _ => ⟨by go_keep, by go_keep, by go_keep⟩) ?_
      clear hK K
      intro K hK
      refine step_append_lies _ rfl (.tmp 81) (.tmp 89) 34 rfl Bo 49 i1 (.agg #[.int .i64 0, .int .i64 0, .int .i64 0, .int .i64 0]) 4 32 Tryz.underlying34 gi gz0 gz1 gz2 rfl (by decide) (.slice Av L.length cv) L.length _ rfl (own_drew (World.ownsRow.alloc (w := wb) HO2.out _)) ⟨wb.heap.size, 0, none⟩ 1 1 [.int .i64 f, .int .i64 p1, .int .i64 t, .int .i64 p2] rfl rfl (news_drew wb _ _ _ rfl) (ints_one rfl) (by omega) (by unfold maxLen; omega) (by omega) (by simp; omega) _ rfl ?_
      intro g9 cap9 w9 hown9 hgrow9 _ _
      obtain ⟨s1, s2, s3, s4, HF9⟩ := HA2.out.push2 (r := ⟨f, p1, t, p2⟩) HV1.out HV2.out HBW.out _ hgrow9 hown9 HY0.out HY1.out
      clear hown9 hgrow9
      refine hK _ _ (fun _ => ⟨s1, s2, s3⟩) ?_
      clear hK K
      intro K hK
      simp only [Act.put, List.setIfInBounds_toArray, List.set_cons_zero, List.set_cons_succ] at hK ⊢
      go_simp
      refine hK _ _ (fun _ => ⟨s1, s2, s3⟩) ?_
      clear hK K
      intro K hK
      simp only [Act.put, List.setIfInBounds_toArray, List.set_cons_zero, List.set_cons_succ] at hK ⊢
      go_simp
      refine hK _ _ (fun _ => ⟨s1, s2, s3⟩) ?_
      clear hK K
      intro K hK
      simp only [Act.put, List.setIfInBounds_toArray, List.set_cons_zero, List.set_cons_succ] at hK ⊢
      go_simp
      refine hK _ _ (fun h => absurd rfl h) ?_
      clear hK K
      refine NoPanic.normal ?_
      go_wp2
      go_roundw
      case rel => exact ⟨m + 1, by omega, by go_num, hide (by rw [HT2.out]; exact HF9.out)⟩
      case measure => simp [intOf]; omega
     ·obtain rfl : m = s.length := by omega
      have hmz : ¬ (s.length : Int) < (s.length : Int) := by omega
      have A := HA.out
      rw [List.take_length, ← HF.out] at A
      have HA2 := hide A
      clear A
      go_wp2
      go_end0
      have A := HA2.out
      obtain ⟨vo, a1, a2⟩ := A.out
      exact ⟨rfl, ⟨_, A.low, A.size, ⟨vo, a1, a2⟩, ⟨_, A.c1, A.own⟩, A.c2, A.c3, A.fz, HI.out⟩, ⟨A.os, A.tape, A.output, Nat.le_trans (by omega) A.grow, fun q hq => A.block q (by omega) (by omega)⟩, A.block, A.keep⟩
   ·have hee : (e == f) = false := by simpa using hef2
    clear hef2 hs0
    go_wp2
    clear o1 l1 c2 c3 z0 z1 z2 z3 hlp
    go_loopw [73] (fun i wr => ∃ m : Nat, m ≤ s.length ∧ i = .int .i64 m ∧ Hid (AddR bb Bo w (flat S ++ (s.take m).map (fun p => ⟨f, p.1, t, p.2⟩)) (.slice As s.length cs) s (flat S).length t wr)) (fun i _ => s.length - (intOf i).toNat)
    case atStart => exact ⟨0, Nat.zero_le _, rfl, hide (by rw [List.take_zero, List.map_nil, List.append_nil]; exact AW.out)⟩
    case round =>
     clear AW
     obtain ⟨m, hm, rfl, HA⟩ := hrel
     by_cases hlt : m < s.length
     ·have hmz : (m : Int) < (s.length : Int) := by omega
      obtain ⟨g2, cap2, hvs, hB2, hg2⟩ := HA.out.own.form (by omega)
      injection hvs with e1 _ e3
      subst e1; subst e3
      obtain ⟨⟨p1, p2⟩, hp⟩ : ∃ p, s[m]? = some p := ⟨_, List.getElem?_eq_getElem hlt⟩
      have x0 : wr.cell? ⟨g2, m * 2, none⟩ = some (.int .i64 p1) := by
       have := (HA.out.own.cells (g := g2) rfl) _ _ (flat_get (k := 2) (fun _ => rfl) _ m _ 0 _ hp rfl)
       rwa [addr_add] at this
      have x1 : wr.cell? ⟨g2, m * 2 + 1, none⟩ = some (.int .i64 p2) := by
       have := (HA.out.own.cells (g := g2) rfl) _ _ (flat_get (k := 2) (fun _ => rfl) _ m _ 1 _ hp rfl)
       rwa [addr_add] at this
      have HT : Hid ((s.take (m + 1)).map (fun p : Sp => (⟨f, p.1, t, p.2⟩ : R4)) = (s.take m).map (fun p : Sp => (⟨f, p.1, t, p.2⟩ : R4)) ++ [⟨f, p1, t, p2⟩]) := hide (by
       obtain ⟨hk, hpe⟩ := List.getElem?_eq_some_iff.1 hp
       rw [List.take_succ_eq_append_getElem hk, List.map_append, hpe]; rfl)
      have hL : (flat S ++ (s.take m).map (fun p : Sp => (⟨f, p.1, t, p.2⟩ : R4))).length ≤ 200000000 := by
       rw [List.length_append, List.length_map, List.length_take]; omega
      clear hp
      go_wp2
      obtain ⟨wb, hwb⟩ : ∃ wb, wb = wr.alloc (.cells #[.int .i64 p1, .int .i64 p2] 104) := ⟨_, rfl⟩
      rw [← hwb]
      obtain ⟨vo, v1, v2⟩ := HA.out.out
      obtain ⟨Av, cv, hv⟩ := own_rd v2 (fun _ => rfl)
      obtain ⟨hv, _⟩ := hv
      subst hv
      have hbw : Below wr.heap.size wr wb := by rw [hwb]; exact (Below.refl _ _).alloc (Nat.le_refl _) _
      have hbbw : bb < wr.heap.size := Nat.lt_of_lt_of_le hlow HA.out.size
      have gv : wb.cell? ⟨bb, 0, none⟩ = some (.slice Av (flat S ++ (s.take m).map (fun p : Sp => (⟨f, p.1, t, p.2⟩ : R4))).length cv) := by rw [hwb]; exact (World.cell?_alloc_lt _ _ ⟨bb, 0, none⟩ hbbw).trans v1
      have gy0 : wb.cell? ⟨wr.heap.size, 0, none⟩ = some (.int .i64 p1) := by rw [hwb]; simp [go_sem]
      have gy1 : wb.cell? ⟨wr.heap.size, 1, none⟩ = some (.int .i64 p2) := by rw [hwb]; simp [go_sem]
      have gs : wb.heap.size = wr.heap.size + 1 := by rw [hwb]; simp
      have gown : wb.ownsRow Bo 49 4 (.slice Av (flat S ++ (s.take m).map (fun p : Sp => (⟨f, p.1, t, p.2⟩ : R4))).length cv) (flat S ++ (s.take m).map (fun p : Sp => (⟨f, p.1, t, p.2⟩ : R4))).length ((flat S ++ (s.take m).map (fun p : Sp => (⟨f, p.1, t, p.2⟩ : R4))).flatMap encR) := by rw [hwb]; exact v2.alloc _
      have HV1 := hide v1
      have HV2 := hide v2
      have HBW := hide hbw
      have HY0 := hide gy0
      have HY1 := hide gy1
      have HO2 := hide gown
      have HT2 : Hid (flat S ++ (s.take (m + 1)).map (fun p : Sp => (⟨f, p.1, t, p.2⟩ : R4)) = (flat S ++ (s.take m).map (fun p : Sp => (⟨f, p.1, t, p.2⟩ : R4))) ++ [⟨f, p1, t, p2⟩]) := hide (by rw [HT.out, List.append_assoc])
      have hbws : bb < wb.heap.size := by omega
      have hbne : wr.heap.size < wb.heap.size := by omega
      have hBow : Bo ≤ wb.heap.size := by have := HA.out.size; omega
      have HA2 := hide HA.out
      clear gs v1 v2 gown hwb hbw x0 x1 HA HT
      generalize flat S ++ (s.take m).map (fun p : Sp => (⟨f, p.1, t, p.2⟩ : R4)) = L at *
      refine wp_region_reads 12 (fun w' => w'.cell? ⟨bb, 0, none⟩ = some (.slice Av L.length cv) ∧ w'.cell? ⟨wr.heap.size, 0, none⟩ = some (.int .i64 p1) ∧ w'.cell? ⟨wr.heap.size, 1, none⟩ = some (.int .i64 p2)) (by kernel_rfl) (by kernel_rfl) ⟨gv, gy0, gy1⟩ ?_
      simp only [List.take_succ_cons, List.take_zero, List.drop_succ_cons, List.drop_zero]
      iterate 12
       refine ⟨?_, Or.inl ⟨by rfl, ?_⟩, ?_⟩
       rotate_left 1
       ·intro w' hSw
        obtain ⟨z1, z2, z3⟩ := hSw
        go_simp
        first | done | with_reducible rfl
       simp only [Act.put, List.setIfInBounds_toArray, List.set_cons_zero, List.set_cons_succ]
      simp only [wpReads]
      intro K hK
      go_simp
      refine hK _ _ (fun _ => ⟨by go_keep, by go_keep, by go_keep⟩) ?_
      clear hK K
      intro K hK
      refine step_append_lies _ rfl (.tmp 81) (.tmp 89) 34 rfl Bo 49 i1 (.agg #[.int .i64 0, .int .i64 0, .int .i64 0, .int .i64 0]) 4 32 Tryz.underlying34 gi gz0 gz1 gz2 rfl (by decide) (.slice Av L.length cv) L.length _ rfl (own_drew (World.ownsRow.alloc (w := wb) HO2.out _)) ⟨wb.heap.size, 0, none⟩ 1 1 [.int .i64 f, .int .i64 p1, .int .i64 t, .int .i64 p2] rfl rfl (news_drew wb _ _ _ rfl) (ints_one rfl) (by omega) (by unfold maxLen; omega) (by omega) (by simp; omega) _ rfl ?_
      intro g9 cap9 w9 hown9 hgrow9 _ _
      obtain ⟨s1, s2, s3, s4, HF9⟩ := HA2.out.push2 (r := ⟨f, p1, t, p2⟩) HV1.out HV2.out HBW.out _ hgrow9 hown9 HY0.out HY1.out
      clear hown9 hgrow9
      refine hK _ _ (fun _ => ⟨s1, s2, s3⟩) ?_
      clear hK K
      intro K hK
      simp only [Act.put, List.setIfInBounds_toArray, List.set_cons_zero, List.set_cons_succ] at hK ⊢
      go_simp
      refine hK _ _ (fun _ => ⟨s1, s2, s3⟩) ?_
      clear hK K
      intro K hK
      simp only [Act.put, List.setIfInBounds_toArray, List.set_cons_zero, List.set_cons_succ] at hK ⊢
      go_simp
      refine hK _ _ (fun _ => ⟨s1, s2, s3⟩) ?_
      clear hK K
      intro K hK
      simp only [Act.put, List.setIfInBounds_toArray, List.set_cons_zero, List.set_cons_succ] at hK ⊢
      go_simp
      refine hK _ _ (fun h => absurd rfl h) ?_
      clear hK K
      refine NoPanic.normal ?_
      go_wp2
      go_roundw
      case rel => exact ⟨m + 1, by omega, by go_num, hide (by rw [HT2.out]; exact HF9.out)⟩
      case measure => simp [intOf]; omega
     ·obtain rfl : m = s.length := by omega
      have hmz : ¬ (s.length : Int) < (s.length : Int) := by omega
      have A := HA.out
      rw [List.take_length, ← HF.out] at A
      have HA2 := hide A
      clear A
      go_wp2
      go_end0
      have A := HA2.out
      obtain ⟨vo, a1, a2⟩ := A.out
      exact ⟨rfl, ⟨_, A.low, A.size, ⟨vo, a1, a2⟩, ⟨_, A.c1, A.own⟩, A.c2, A.c3, A.fz, HI.out⟩, ⟨A.os, A.tape, A.output, Nat.le_trans (by omega) A.grow, fun q hq => A.block q (by omega) (by omega)⟩, A.block, A.keep⟩
end Go.Proofs.YtdfpbhlnlkjjlaaGreat

/- The reference's Sorted. -/
namespace Go.Proofs.YtdfpbhlnlkjjlaaGreat
open Go.RowKit
set_option linter.unusedVariables false
set_option linter.unusedSimpArgs false
def encI (x : Int) : List Value := [iv x]
theorem flat_encI (l : List Int) : l.flatMap encI = l.map iv := by
 induction l with
 | nil => rfl
 | cons a l ih => simp [List.flatMap_cons, encI, ih]
theorem own_rdI {w : World} {base : Nat} {e : TypeId} {v : Value} {l : List Int} (h : w.ownsRow base e 1 v l.length (l.map iv)) : RdK encI 1 w w.heap.size v l :=
 own_rd (enc := encI) (k := 1) (by rw [flat_encI]; exact h) (fun _ => rfl)
theorem infoInt : (Tryz.prog.info? 3).map (fun i => (i.zero, i.size, i.bytes)) = some (some (.int .i64 0), 1, 8) := by kernel_rfl
theorem below_drewN {B : Nat} {w W : World} (h : Below B w W) (n : Nat) : Below B w (W.drewN n) := h.trans ⟨rfl, rfl, rfl, Nat.le_refl _, fun _ _ => rfl⟩
theorem name_exit {Q : Exit → Act → World → Prop} {e : Exit} {a : Act} {W : World} (h : ∀ w, w = W → Q e a w) : Q e a W := h W rfl
theorem addr_add' (g o j : Nat) : (⟨g, o, none⟩ : Addr).add j = ⟨g, o + j, none⟩ := by unfold Addr.add; split <;> simp_all
theorem splice_take {α : Type} (L : List α) (off m : Nat) (cs : List α) (h : off + cs.length ≤ m) : (splice L off cs).take m = splice (L.take m) off cs := by
 unfold splice
 rw [List.take_append, List.take_append, List.take_take, List.take_take, List.drop_take]
 simp only [List.length_take]
 by_cases hl : off ≤ L.length
 ·have e1 : min off L.length = off := by omega
  rw [e1, Nat.min_eq_left (show off ≤ m by omega), Nat.min_eq_right (show off ≤ m by omega), List.take_of_length_le (show cs.length ≤ m - off by omega)]
  congr 3
  omega
 ·rw [List.drop_of_length_le (show L.length ≤ off + cs.length by omega), List.take_nil, List.take_nil, List.append_nil]
  rw [show min off m = off by omega, show min m off = off by omega, List.take_of_length_le (show cs.length ≤ _ by omega), List.append_nil]
theorem own_copied {w w' : World} {base : Nat} {e t : TypeId} {g n cap off : Nat} {xs cs cur : List Value} (h : w.ownsRow base e 1 (.slice (some ⟨g, 0, none⟩) n cap) n xs) (hg : w.heap[g]? = some (.cells cur.toArray t (0, 0))) (hg' : w'.heap[g]? = some (.cells (splice cur off cs).toArray t (0, 0))) (hfit : off + cs.length ≤ n) :
  w'.ownsRow base e 1 (.slice (some ⟨g, 0, none⟩) n cap) n (splice xs off cs) := by
 rcases h.2 with ⟨e0, _⟩ | ⟨g', cap', cur', e0, hb, hh, hn, hm, hs, ht⟩
 ·cases e0
 ·injection e0 with e1 _ e3
  injection e1 with e1
  injection e1 with e1
  subst e1; subst e3
  rw [hg] at hh
  injection hh with hh
  injection hh with h1 h2
  subst h1; subst h2
  rw [Nat.mul_one] at ht
  have hl : cur.length = cap := by simpa using hs
  have hx := h.1
  refine ⟨by rw [length_splice _ _ _ (by omega)]; exact hx, .inr ⟨g, cap, _, rfl, hb, hg', hn, hm, by rw [List.size_toArray, length_splice _ _ _ (by omega)]; omega, ?_⟩⟩
  rw [Nat.mul_one, splice_take _ _ _ _ hfit]
  rw [← ht]
theorem ins_splice (S : List Int) (x : Int) (k : Nat) (hk : k ≤ S.length) : (splice ((S ++ [0]).map iv) (k + 1) ((S.drop k).map iv)).set k (iv x) = (S.take k ++ x :: S.drop k).map iv := by
 unfold splice
 have hd : List.drop (k + 1 + ((S.drop k).map iv).length) ((S ++ [0]).map iv) = [] := List.drop_of_length_le (by simp; omega)
 rw [hd, List.append_nil, List.set_append_left _ _ (by simp; omega)]
 have hm : (S.take k ++ x :: S.drop k).map iv = (S.take k ++ [x]).map iv ++ (S.drop k).map iv := by simp
 rw [hm]
 congr 1
 apply List.ext_getElem?
 intro i
 by_cases hi : i = k
 ·subst hi
  rw [List.getElem?_set_self (by simp; omega), List.getElem?_map, List.getElem?_append_right (by simp; omega)]
  simp [Nat.min_eq_left hk]
 ·rw [List.getElem?_set_ne (by omega)]
  by_cases hlt : i < k
  ·rw [List.getElem?_take, if_pos (by omega), List.getElem?_map, List.getElem?_map, List.getElem?_append_left (by omega), List.getElem?_append_left (by simp; omega), List.getElem?_take, if_pos hlt]
  ·rw [List.getElem?_eq_none (by simp; omega), List.getElem?_eq_none (by simp; omega)]
set_option maxRecDepth 100000 in
set_option maxHeartbeats 4000000 in
theorem rSorted_any {w : World} {v : Value} {l : List Int} {B : Nat} (hr : RdK encI 1 w B v l) (hB : B ≤ w.heap.size) (hl : l.length ≤ 100000000) :
  Calls Tryz.prog 119 #[v] w fun e w' => ∃ vo, e = .returned vo ∧ w'.ownsRow w.heap.size 3 1 vo (srt l).length ((srt l).map iv) ∧ Below w.heap.size w w' := by
 obtain ⟨i1, gi, gz0, gz1, gz2⟩ := info_parts infoInt
 obtain ⟨A, c, rfl, hc⟩ := hr
 have HR := hide hc
 clear hc
 go_enter Tryz.func119, Tryz.ntmps119
 go_wp2
 go_loopw [3, 4, 5] (fun v i _ wr => ∃ m : Nat, m ≤ l.length ∧ i = .int .i64 m ∧ ∃ Av cv, v = .slice Av (srt (l.take m)).length cv ∧ Hid (wr.ownsRow w.heap.size 3 1 v (srt (l.take m)).length ((srt (l.take m)).map iv)) ∧ Hid (Below w.heap.size w wr)) (fun _ i _ _ => l.length - (intOf i).toNat)
 case atStart => exact ⟨0, Nat.zero_le _, rfl, none, 0, rfl, hide (World.ownsRow_nil _ _ _ _), hide (Below.refl _ _)⟩
 case round =>
  obtain ⟨m, hm, rfl, Av, cv, rfl, HO, HB⟩ := hrel
  by_cases hlt : m < l.length
  ·obtain ⟨x, hp⟩ : ∃ p, l[m]? = some p := ⟨_, List.getElem?_eq_getElem hlt⟩
   obtain ⟨b, o, rfl, hbl, k⟩ := HR.out (by intro e; rw [e] at hlt; simp at hlt)
   have d0 : ∀ W, Below w.heap.size w W → W.cell? ⟨b, o + m, none⟩ = some (.int .i64 x) := fun W hW => (hW.cell (p := ⟨b, _, none⟩) (by show b < _; omega)).trans (by have := k m _ hp 0 _ rfl; rwa [Nat.mul_one] at this)
   have D0 := hide d0
   have mz : (m : Int) < (l.length : Int) := by omega
   have hS := (srt_ok (l.take m)).1
   have hSl := srt_len (l.take m)
   rw [List.length_take] at hSl
   have HT : Hid (srt (l.take (m + 1)) = insI x (srt (l.take m))) := hide (by
    obtain ⟨i1, e1⟩ := List.getElem?_eq_some_iff.1 hp
    rw [List.take_succ_eq_append_getElem i1, e1, srt_snoc])
   generalize srt (l.take m) = S at *
   clear k hp d0
   generalize wr = w1 at *
   go_wp2
   go_loopw [5] (fun kk wr => ∃ k : Nat, k ≤ S.length ∧ kk = .int .i64 k ∧ Hid (∀ j y, k ≤ j → S[j]? = some y → x < y) ∧ Hid (Below w1.heap.size w1 wr)) (fun kk _ => (intOf kk).toNat)
   case atStart => exact ⟨S.length, Nat.le_refl _, rfl, hide (fun j y h1 h2 => by rw [List.getElem?_eq_none h1] at h2; cases h2), hide (Below.refl _ _)⟩
   case round =>
    obtain ⟨k, hk, rfl, HG, HB1⟩ := hrel
    have hB1 := HB1.out.size
    rcases Nat.eq_zero_or_pos k with rfl | hkp
    ·rw [show ((0 : Nat) : Int) = 0 from rfl]
     go_wp2
     go_quiet (fail)
     go_wp2
     go_quiet (fail)
     refine name_exit fun wd hwd => ?_
     have hbd : Below w1.heap.size w1 wd := by rw [hwd]; exact below_drewN (below_drewN HB1.out _) _
     have hod := own_below HO.out hbd
     have HOD := hide hod
     have hsz := HB.out.size
     have hsz2 := hbd.size
     have HBD := hide hbd
     clear hwd hod hbd
     go_wp2_with (at_builtin; go_loud (refine wpList_append_lies _ rfl (.tmp 44) (.tmp 45) 96 rfl w.heap.size 3 i1 (.int .i64 0) 1 8 Tryz.underlying96 gi gz0 gz1 gz2 rfl (by decide) _ _ _ rfl (HOD.out.alloc _) ⟨wd.heap.size, 0, none⟩ 1 1 [.int .i64 0] rfl rfl (news_new wd _ _ _ rfl) (ints_one rfl) (by omega) (by unfold maxLen; omega) (by omega) (by simp; omega) _ rfl ?_))
     intro g9 cap9 w2 hown2 hgrow hg9 _
     have hx2 : S.map iv ++ [.int .i64 0] = (S ++ [0]).map iv := by simp
     rw [hx2] at hown2
     have hb2 : Below w.heap.size w w2 := ((HB.out.trans (HBD.out.mono hsz)).alloc (by omega) _).grown hgrow (by simp; omega) (fun q hq => (HOD.out.lt q hq).1)
     obtain ⟨_, cap9', cur9, e9, hbg9, hh9, hn9, hm9, hs9, ht9⟩ : ∃ (g' cap' : Nat) (cur : Array Value), Value.slice (some ⟨g9, 0, none⟩) (S.length + 1) cap9 = .slice (some ⟨g', 0, none⟩) (S.length + 1) cap' ∧ w.heap.size ≤ g' ∧ w2.heap[g']? = some (.cells cur 3 (0, 0)) ∧ S.length + 1 ≤ cap' ∧ cap' ≤ maxLen ∧ cur.size = cap' * 1 ∧ cur.toList.take ((S.length + 1) * 1) = (S ++ [0]).map iv := by
      rcases hown2.2 with ⟨e0, _⟩ | q
      ·cases e0
      ·exact q
     injection e9 with e1 _ e3
     injection e1 with e1
     injection e1 with e1
     subst e1; subst e3
     have HX2 := hide hown2
     have HB2 := hide hb2
     have HH9 := hide hh9
     have HS9 := hide hs9
     unfold maxLen at hm9
     clear hown2 hgrow hb2 hx2 hg9 hh9 hs9 ht9
     go_wp2
     have r1 : IntKind.i64.wrap (1) = 1 := by simp [IntKind.wrap, IntKind.bits, IntKind.signed]
     have r2 : (0 : Int) ≤ 1 := by omega
     have r3 : (1 : Int) ≤ (S.length : Int) + 1 := by omega
     have r4 : (1 : Int).toNat = 0 + 1 := by omega
     have r5 : (0 : Int) ≤ 0 := by omega
     have r6 : (0 : Int) ≤ (S.length : Int) + 1 := by omega
     have r7 : (0 : Int).toNat = 0 := by omega
     refine wp_region_reads0 7 (by kernel_rfl) (by kernel_rfl) ?_
     simp only [List.take_succ_cons, List.take_zero, List.drop_succ_cons, List.drop_zero]
     iterate 7
      refine ⟨?_, Or.inl ⟨by rfl, ?_⟩, ?_⟩
      rotate_left 1
      ·intro w' _
       go_simp
       first | done | with_reducible rfl
      simp only [Act.put, List.setIfInBounds_toArray, List.set_cons_zero, List.set_cons_succ]
     clear r1 r2 r3 r4 r5 r6 r7
     simp only [wpReads]
     intro K hK
     have hcur : w2.drew.heap[g9]? = some (.cells cur9.toList.toArray 3 (0, 0)) := by show w2.heap[g9]? = _; simpa using HH9.out
     have hcl : cur9.toList.length = cap9 := by simpa using HS9.out
     refine step_copy_splice rfl (.tmp 50) (.tmp 53) 96 96 rfl 3 Tryz.underlying96 (by kernel_rfl) _ _ _ _ _ _ rfl rfl g9 (0 + 1) cur9.toList 3 hcur ((S.drop (0)).map iv) (by show _ = min _ _; simp only [List.length_map, List.length_drop]; omega) ?_ (by simp only [List.length_map, List.length_drop]; omega) (by intro u hu; obtain ⟨z, _, rfl⟩ := List.mem_map.1 hu; rfl) w.heap.size w (HB2.out.drew) hbg9 ?_
     ·intro hpos
      have hpl : 0 < S.length := by simp only [List.length_map, List.length_drop] at hpos; omega
      refine ⟨by first | rfl | rw [if_neg (by omega)], ⟨g9, 0, none⟩, by first | rfl | rw [if_neg (by omega)], fun i u hi => ?_⟩
      have hi2 : ((S ++ [0]).map iv)[0 + i]? = some u := by
       rw [List.getElem?_map] at hi ⊢
       rw [List.getElem?_drop] at hi
       have hlt3 : 0 + i < S.length := by
        rcases Nat.lt_or_ge (0 + i) S.length with h | h
        ·exact h
        ·rw [List.getElem?_eq_none h] at hi; cases hi
       rw [List.getElem?_append_left hlt3]
       exact hi
      have := (HX2.out.cells (g := g9) rfl) _ _ hi2
      rw [addr_add] at this
      rw [addr_add']
      exact this
     ·intro w3 hsp hb3
      have hx3 := own_copied HX2.out (by simpa using HH9.out) hsp.out (by simp only [List.length_map, List.length_drop]; omega)
      refine hK _ _ (fun _ => trivial) ?_
      clear hK K
      refine NoPanic.normal ?_
      obtain ⟨u3, c3⟩ : ∃ u, w3.cell? ⟨g9, 0, none⟩ = some u := by
       have := (hx3.cells (g := g9) rfl) (0) _ (List.getElem?_eq_getElem (by have := hx3.1; omega))
       rw [addr_add] at this
       exact ⟨_, this⟩
      have f3 : w3.frozen? ⟨g9, 0, none⟩ = false := hx3.frozenAt _
      have hst := hx3.stored (0) (.int .i64 x)
      rw [ins_splice S x (0) (by omega)] at hst
      have hins : insI x S = S.take (0) ++ x :: S.drop (0) := insI_at x S (0) hS (by omega) HG.out (fun y h => absurd rfl h)
      rw [← hins] at hst
      have HST := hide hst
      have HLEN : Hid (S.length + 1 = (srt (l.take (m + 1))).length) := hide (by rw [HT.out, hins]; simp only [List.length_append, List.length_cons, List.length_take, List.length_drop]; omega)
      have c4 := D0.out w3 hb3
      have HB3 := hide hb3
      clear hins hst hx3 hsp hb3 hcur hcl
      go_wp2
      go_roundw
      case rel => exact ⟨m + 1, by omega, by go_num, some ⟨g9, 0, none⟩, cap9, by rw [HLEN.out], hide (by rw [← HLEN.out, HT.out]; exact HST.out.1), hide (HB3.out.setCell hbg9 _)⟩
      case measure => simp [intOf]; omega
    ·obtain ⟨j, rfl⟩ : ∃ j, k = j + 1 := ⟨k - 1, by omega⟩
     obtain ⟨y, hy⟩ : ∃ y, S[j]? = some y := ⟨_, List.getElem?_eq_getElem (by omega)⟩
     obtain ⟨g, cap, hv, hBg, hgw⟩ := HO.out.form (by omega)
     injection hv with e1 _ e3
     subst e1; subst e3
     have c1 : wr.cell? ⟨g, j, none⟩ = some (.int .i64 y) := by
      have := (HO.out.cells (g := g) rfl) j (iv y) (by simp [hy])
      rw [addr_add] at this
      exact (HB1.out.cell (p := ⟨g, j, none⟩) hgw).trans this
     have c2 := D0.out wr (HB.out.trans (HB1.out.mono HB.out.size))
     have q1 : (0 : Int) < (j : Int) + 1 := by omega
     have q2 : (j : Int) < (S.length : Int) := by omega
     have q3 : IntKind.i64.wrap ((j : Int) + 1 - 1) = j := by simp [IntKind.wrap, IntKind.bits, IntKind.signed]; omega
     have q4 : (0 : Int) ≤ (j : Int) := by omega
     have HY := hide hy
     clear hy hkp
     rw [show ((j + 1 : Nat) : Int) = (j : Int) + 1 from rfl]
     by_cases hgt : x < y
     ·go_wp2
      go_quiet (fail)
      go_wp2
      go_roundw
      case rel =>
       refine ⟨j, by omega, by go_num, hide ?_, hide (below_drewN HB1.out _)⟩
       intro i z h1 h2
       by_cases hij : i = j
       ·subst hij
        rw [HY.out] at h2
        injection h2 with h2
        omega
       ·exact HG.out i z (by omega) h2
      case measure => simp [intOf]
     ·have hng : decide (x < y) = false := decide_eq_false hgt
      by_cases hxy : y = x
      ·subst hxy
       have e1 : (y == y) = true := by simp
       have HI : Hid (insI y S = S) := hide (insI_there y S hS (List.mem_of_getElem? HY.out))
       have HLEN : Hid (S.length = (srt (l.take (m + 1))).length) := hide (by rw [HT.out, HI.out])
       clear hgt
       go_wp2
       go_quiet (fail)
       go_wp2
       go_quiet (fail)
       refine name_exit fun wd hwd => ?_
       have hbd : Below w1.heap.size w1 wd := by rw [hwd]; exact below_drewN (below_drewN HB1.out _) _
       have hod := own_below HO.out hbd
       have HOD := hide hod
       have hsz := HB.out.size
       have HBD := hide hbd
       clear hwd hod hbd
       go_wp2
       go_roundw
       case rel => exact ⟨m + 1, by omega, by go_num, some ⟨g, 0, none⟩, cv, by rw [HLEN.out], hide (by rw [← HLEN.out, HT.out, HI.out]; exact HOD.out), hide (HB.out.trans (HBD.out.mono hsz))⟩
       case measure => simp [intOf]; omega
      ·have e1 : (y == x) = false := by simpa using hxy
       have hyx : y < x := by omega
       clear hgt hxy
       go_wp2
       go_quiet (fail)
       go_wp2
       go_quiet (fail)
       refine name_exit fun wd hwd => ?_
       have hbd : Below w1.heap.size w1 wd := by rw [hwd]; exact below_drewN (below_drewN HB1.out _) _
       have hod := own_below HO.out hbd
       have HOD := hide hod
       have hsz := HB.out.size
       have hsz2 := hbd.size
       have HBD := hide hbd
       clear hwd hod hbd
       go_wp2_with (at_builtin; go_loud (refine wpList_append_lies _ rfl (.tmp 44) (.tmp 45) 96 rfl w.heap.size 3 i1 (.int .i64 0) 1 8 Tryz.underlying96 gi gz0 gz1 gz2 rfl (by decide) _ _ _ rfl (HOD.out.alloc _) ⟨wd.heap.size, 0, none⟩ 1 1 [.int .i64 0] rfl rfl (news_new wd _ _ _ rfl) (ints_one rfl) (by omega) (by unfold maxLen; omega) (by omega) (by simp; omega) _ rfl ?_))
       intro g9 cap9 w2 hown2 hgrow hg9 _
       have hx2 : S.map iv ++ [.int .i64 0] = (S ++ [0]).map iv := by simp
       rw [hx2] at hown2
       have hb2 : Below w.heap.size w w2 := ((HB.out.trans (HBD.out.mono hsz)).alloc (by omega) _).grown hgrow (by simp; omega) (fun q hq => (HOD.out.lt q hq).1)
       obtain ⟨_, cap9', cur9, e9, hbg9, hh9, hn9, hm9, hs9, ht9⟩ : ∃ (g' cap' : Nat) (cur : Array Value), Value.slice (some ⟨g9, 0, none⟩) (S.length + 1) cap9 = .slice (some ⟨g', 0, none⟩) (S.length + 1) cap' ∧ w.heap.size ≤ g' ∧ w2.heap[g']? = some (.cells cur 3 (0, 0)) ∧ S.length + 1 ≤ cap' ∧ cap' ≤ maxLen ∧ cur.size = cap' * 1 ∧ cur.toList.take ((S.length + 1) * 1) = (S ++ [0]).map iv := by
        rcases hown2.2 with ⟨e0, _⟩ | q
        ·cases e0
        ·exact q
       injection e9 with e1 _ e3
       injection e1 with e1
       injection e1 with e1
       subst e1; subst e3
       have HX2 := hide hown2
       have HB2 := hide hb2
       have HH9 := hide hh9
       have HS9 := hide hs9
       unfold maxLen at hm9
       clear hown2 hgrow hb2 hx2 hg9 hh9 hs9 ht9
       go_wp2
       have r1 : IntKind.i64.wrap ((j : Int) + 1 + 1) = (j : Int) + 1 + 1 := by simp [IntKind.wrap, IntKind.bits, IntKind.signed]; omega
       have r2 : (0 : Int) ≤ (j : Int) + 1 + 1 := by omega
       have r3 : ((j : Int) + 1 + 1 : Int) ≤ (S.length : Int) + 1 := by omega
       have r4 : ((j : Int) + 1 + 1 : Int).toNat = (j + 1) + 1 := by omega
       have r5 : (0 : Int) ≤ ((j : Int) + 1) := by omega
       have r6 : (((j : Int) + 1) : Int) ≤ (S.length : Int) + 1 := by omega
       have r7 : (((j : Int) + 1) : Int).toNat = (j + 1) := by omega
       refine wp_region_reads0 7 (by kernel_rfl) (by kernel_rfl) ?_
       simp only [List.take_succ_cons, List.take_zero, List.drop_succ_cons, List.drop_zero]
       iterate 7
        refine ⟨?_, Or.inl ⟨by rfl, ?_⟩, ?_⟩
        rotate_left 1
        ·intro w' _
         go_simp
         first | done | with_reducible rfl
        simp only [Act.put, List.setIfInBounds_toArray, List.set_cons_zero, List.set_cons_succ]
       clear r1 r2 r3 r4 r5 r6 r7
       simp only [wpReads]
       intro K hK
       have hcur : w2.drew.heap[g9]? = some (.cells cur9.toList.toArray 3 (0, 0)) := by show w2.heap[g9]? = _; simpa using HH9.out
       have hcl : cur9.toList.length = cap9 := by simpa using HS9.out
       refine step_copy_splice rfl (.tmp 50) (.tmp 53) 96 96 rfl 3 Tryz.underlying96 (by kernel_rfl) _ _ _ _ _ _ rfl rfl g9 ((j + 1) + 1) cur9.toList 3 hcur ((S.drop ((j + 1))).map iv) (by show _ = min _ _; simp only [List.length_map, List.length_drop]; omega) ?_ (by simp only [List.length_map, List.length_drop]; omega) (by intro u hu; obtain ⟨z, _, rfl⟩ := List.mem_map.1 hu; rfl) w.heap.size w (HB2.out.drew) hbg9 ?_
       ·intro hpos
        have hpl : (j + 1) < S.length := by simp only [List.length_map, List.length_drop] at hpos; omega
        refine ⟨by first | rfl | rw [if_neg (by omega)], ⟨g9, (j + 1), none⟩, by first | rfl | rw [if_neg (by omega)], fun i u hi => ?_⟩
        have hi2 : ((S ++ [0]).map iv)[(j + 1) + i]? = some u := by
         rw [List.getElem?_map] at hi ⊢
         rw [List.getElem?_drop] at hi
         have hlt3 : (j + 1) + i < S.length := by
          rcases Nat.lt_or_ge ((j + 1) + i) S.length with h | h
          ·exact h
          ·rw [List.getElem?_eq_none h] at hi; cases hi
         rw [List.getElem?_append_left hlt3]
         exact hi
        have := (HX2.out.cells (g := g9) rfl) _ _ hi2
        rw [addr_add] at this
        rw [addr_add']
        exact this
       ·intro w3 hsp hb3
        have hx3 := own_copied HX2.out (by simpa using HH9.out) hsp.out (by simp only [List.length_map, List.length_drop]; omega)
        refine hK _ _ (fun _ => trivial) ?_
        clear hK K
        refine NoPanic.normal ?_
        obtain ⟨u3, c3⟩ : ∃ u, w3.cell? ⟨g9, (j + 1), none⟩ = some u := by
         have := (hx3.cells (g := g9) rfl) ((j + 1)) _ (List.getElem?_eq_getElem (by have := hx3.1; omega))
         rw [addr_add] at this
         exact ⟨_, this⟩
        have f3 : w3.frozen? ⟨g9, (j + 1), none⟩ = false := hx3.frozenAt _
        have hst := hx3.stored ((j + 1)) (.int .i64 x)
        rw [ins_splice S x ((j + 1)) (by omega)] at hst
        have hins : insI x S = S.take ((j + 1)) ++ x :: S.drop ((j + 1)) := insI_at x S ((j + 1)) hS (by omega) HG.out (fun z _ hz => by rw [show j + 1 - 1 = j from rfl, HY.out] at hz; injection hz with hz; omega)
        rw [← hins] at hst
        have HST := hide hst
        have HLEN : Hid (S.length + 1 = (srt (l.take (m + 1))).length) := hide (by rw [HT.out, hins]; simp only [List.length_append, List.length_cons, List.length_take, List.length_drop]; omega)
        have c4 := D0.out w3 hb3
        have HB3 := hide hb3
        clear hins hst hx3 hsp hb3 hcur hcl
        go_wp2
        go_roundw
        case rel => exact ⟨m + 1, by omega, by go_num, some ⟨g9, 0, none⟩, cap9, by rw [HLEN.out], hide (by rw [← HLEN.out, HT.out]; exact HST.out.1), hide (HB3.out.setCell hbg9 _)⟩
        case measure => simp [intOf]; omega
  ·have mz : ¬ (m : Int) < (l.length : Int) := by omega
   have ht : l.take m = l := List.take_of_length_le (by omega)
   rw [ht] at HO ⊢
   clear ht
   go_wp2
   go_ret
   exact ⟨_, rfl, HO.out, HB.out⟩
end Go.Proofs.YtdfpbhlnlkjjlaaGreat
