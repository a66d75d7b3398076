/- Texts laid together: Add, Made, EqR, IdxA, IdxB, Chk, RdLit, ParA, ParB, ParC. Lemmas for the statements of this seat; no condition. -/
import Derived.Test.YtgdlbaabdebclaaPk3
import Derived.RangeFuncOwn
import Derived.Test.YtgdlbaabdebclaaPk2
import Derived.Test.YtgdlbaabdebclaaPk1
import Derived.Laws.StructEq
import Derived.Deep.QuietTactic
import Derived.BigQuiet
import Derived.Deep.LoopGhost
import Derived.Shelf.Abstract

/- builder.add: one more slab. -/
namespace Go.Proofs.Ytgdlbaabdebclaa
open Go.RowKit
set_option linter.unusedVariables false
set_option linter.unusedSimpArgs false

theorem own_below {w w1 : World} {B : Nat} {e : TypeId} {size : Nat} {v : Value} {n : Nat} {xs : List Value} (h : w.ownsRow B e size v n xs) (hb : Below w.heap.size w w1) : w1.ownsRow B e size v n xs := by
  refine ⟨h.1, ?_⟩
  rcases h.2 with hn | ⟨g, cap, cur, hv, hg, hh, r⟩
  · exact .inl hn
  · exact .inr ⟨g, cap, cur, hv, hg, (hb.block g (Array.getElem?_eq_some_iff.1 hh).1).trans hh, r⟩
theorem own_apart {w : World} {B B' : Nat} {e e' : TypeId} {size size' : Nat} {v v' : Value} {n n' : Nat} {xs xs' : List Value} (h : w.ownsRow B e size v n xs) (h' : w.ownsRow B' e' size' v' n' xs') (hne : e ≠ e') : v.ownBlock = none ∨ v.ownBlock ≠ v'.ownBlock := by
  rcases h.2 with ⟨rfl, _⟩ | ⟨g, cap, cur, rfl, _, hg, _⟩
  · exact .inl rfl
  · right
    intro he
    rcases h'.2 with ⟨rfl, _⟩ | ⟨g', cap', cur', rfl, _, hg', _⟩
    · simp [Value.ownBlock] at he
    · simp [Value.ownBlock] at he
      subst he
      rw [hg] at hg'
      injection hg' with hg'
      injection hg' with _ h2
      exact hne h2
theorem grown_refl (w : World) (row : Option Nat) : w.grownBy w row := ⟨rfl, rfl, rfl, Nat.le_refl _, fun _ _ _ => rfl⟩
theorem infoRc : (Try.prog.info? 23).map (fun i => (i.zero, i.size, i.bytes)) = some (some (.agg #[.int .i64 0, .int .i64 0, .int .i64 0, .int .i64 0]), 4, 32) := by kernel_rfl
/-- 'l[k].X1 = t', cell by cell. -/
theorem flat_set (t : Int) : ∀ (l : List R4) (k : Nat) (r : R4), l[k]? = some r → (l.flatMap encR).set (k * 4 + 2) (.int .i64 t) = (l.set k { r with x1 := t }).flatMap encR
  | [], k, r, h => by simp at h
  | a :: l, 0, r, h => by
    simp at h; subst h
    rfl
  | a :: l, k + 1, r, h => by
    have := flat_set t l k r (by simpa using h)
    rw [List.set_cons_succ, List.flatMap_cons, List.flatMap_cons, ← this, List.set_append_right _ _ (by show 4 ≤ _; omega)]
    congr 2
    show (k + 1) * 4 + 2 - 4 = _
    omega
/-- The rectangles from place m on, up to place k, end at t. -/
def upTo (t : Int) (m k : Nat) (l : List R4) : List R4 := l.mapIdx fun i r => if m ≤ i ∧ i < k then { r with x1 := t } else r
theorem upTo_len (t : Int) (m k : Nat) (l : List R4) : (upTo t m k l).length = l.length := by simp [upTo]
theorem upTo_start (t : Int) (m : Nat) (l : List R4) : upTo t m m l = l := by
  apply List.ext_getElem?
  intro i
  simp only [upTo, List.getElem?_mapIdx]
  cases l[i]? with
  | none => rfl
  | some r => simp; omega
theorem upTo_step (t : Int) (m k : Nat) (l : List R4) (r : R4) (hm : m ≤ k) (h : (upTo t m k l)[k]? = some r) : (upTo t m k l).set k { r with x1 := t } = upTo t m (k + 1) l := by
  apply List.ext_getElem?
  intro i
  rw [List.getElem?_set]
  have hk : k < (upTo t m k l).length := (List.getElem?_eq_some_iff.1 h).1
  by_cases hik : k = i
  · subst hik
    rw [if_pos rfl, if_pos hk]
    simp only [upTo, List.getElem?_mapIdx] at h ⊢
    cases hl : l[k]? with
    | none => rw [hl] at h; simp at h
    | some q =>
      rw [hl] at h
      simp at h
      subst h
      simp [hm]
  · rw [if_neg hik]
    simp only [upTo, List.getElem?_mapIdx]
    cases l[i]? with
    | none => rfl
    | some q =>
      have : (m ≤ i ∧ i < k) ↔ (m ≤ i ∧ i < k + 1) := by omega
      simp only [Option.map_some]
      by_cases hc : m ≤ i ∧ i < k
      · rw [if_pos hc, if_pos (this.1 hc)]
      · rw [if_neg hc, if_neg (fun g => hc (this.2 g))]
theorem upTo_end (S0 : List Slab) (f0 e t : Int) (s : List Sp) : upTo t (flat S0).length (flat (S0 ++ [⟨f0, e, s⟩])).length (flat (S0 ++ [⟨f0, e, s⟩])) = flat (S0 ++ [⟨f0, t, s⟩]) := by
  rw [flat_append, flat_one, flat_append, flat_one]
  apply List.ext_getElem?
  intro i
  simp only [upTo, List.getElem?_mapIdx, List.length_append]
  by_cases hi : i < (flat S0).length
  · rw [List.getElem?_append_left hi, List.getElem?_append_left hi]
    cases (flat S0)[i]? with
    | none => rfl
    | some q => simp; omega
  · rw [List.getElem?_append_right (by omega), List.getElem?_append_right (by omega)]
    simp only [flat1, List.getElem?_map, List.length_map]
    cases hq : s[i - (flat S0).length]? with
    | none => rfl
    | some q =>
      have := (List.getElem?_eq_some_iff.1 hq).1
      simp only [Option.map_some]
      rw [if_pos (by omega)]

/-- In the builder's second loop: the rectangles put out so far are L. -/
structure AddR (bb Bo : Nat) (w0 : World) (L : List R4) (vs : Value) (s : List Sp) (n : Nat) (t : Int) (wr : World) : Prop where
  low : bb < Bo
  size : Bo ≤ wr.heap.size
  out : ∃ vo, wr.cell? ⟨bb, 0, none⟩ = some vo ∧ wr.ownsRow Bo 23 4 vo L.length (L.flatMap encR)
  c1 : wr.cell? ⟨bb, 1, none⟩ = some vs
  c2 : wr.cell? ⟨bb, 2, none⟩ = some (.int .i64 n)
  c3 : wr.cell? ⟨bb, 3, none⟩ = some (.int .i64 t)
  fz : ∀ j, wr.frozen? ⟨bb, j, none⟩ = false
  own : wr.ownsRow Bo 107 2 vs s.length (s.flatMap encS)
  os : wr.os = w0.os
  tape : wr.tape = w0.tape
  output : wr.output = w0.output
  grow : w0.heap.size ≤ wr.heap.size
  block : ∀ q, q < Bo → q ≠ bb → wr.heap[q]? = w0.heap[q]?
  keep : KeepsOthers w0 wr
theorem keeps_below {w w1 : World} (h : Below w.heap.size w w1) : KeepsOthers w w1 := ⟨h.size, fun k o hk _ => (h.block k (Array.getElem?_eq_some_iff.1 hk).1).trans hk⟩
theorem own_cells {w : World} {B : Nat} {e : TypeId} {size : Nat} {v : Value} {n : Nat} {xs : List Value} (h : w.ownsRow B e size v n xs) : ∀ (j : Nat) (o : Obj), v.ownBlock = some j → w.heap[j]? = some o → o.isCells = true := by
  intro j o hj ho
  rcases h.2 with ⟨rfl, _⟩ | ⟨g, cap, cur, rfl, _, hg, _⟩
  · simp [Value.ownBlock] at hj
  · simp [Value.ownBlock] at hj
    subst hj
    rw [hg] at ho
    injection ho with ho
    subst ho; rfl
theorem AddR.start {bb Bo : Nat} {S : List Slab} {last s : List Sp} {first : Nat} {e t : Int} {vs : Value} {w w1 : World} (h : BW bb Bo S last first e w) (hb : Below w.heap.size w w1) (hs : w.ownsRow Bo 107 2 vs s.length (s.flatMap encS)) :
    AddR bb Bo w (flat S) vs s (flat S).length t (((w1.setCell ⟨bb, 2, none⟩ (.int .i64 ((flat S).length : Nat))).setCell ⟨bb, 1, none⟩ vs).setCell ⟨bb, 3, none⟩ (.int .i64 t)) := by
  have hlow := h.low
  have hbs : bb < w.heap.size := Nat.lt_of_lt_of_le h.low h.size
  obtain ⟨vo, o1, o2⟩ := h.out
  obtain ⟨vl, l1, l2⟩ := h.la
  have hc : ∀ o, w1.cell? ⟨bb, o, none⟩ = w.cell? ⟨bb, o, none⟩ := fun o => hb.cell (p := ⟨bb, o, none⟩) hbs
  have hf : ∀ o, w1.frozen? ⟨bb, o, none⟩ = w.frozen? ⟨bb, o, none⟩ := fun o => hb.frozen (p := ⟨bb, o, none⟩) hbs
  have c2 := h.fi
  have c3 := h.en
  refine ⟨hlow, ?_, ⟨vo, by simp [go_sem, hc, o1], ownsRow_setCell_below (ownsRow_setCell_below (ownsRow_setCell_below (own_below o2 hb) hlow _) hlow _) hlow _⟩, by simp [go_sem, hc, l1], by simp [go_sem, hc, c2], by simp [go_sem, hc, c3], fun j => ?_,
    ownsRow_setCell_below (ownsRow_setCell_below (ownsRow_setCell_below (own_below hs hb) hlow _) hlow _) hlow _, hb.os, hb.tape, hb.output, ?_, fun q h1 h2 => ?_, (((keeps_below hb).trans (KeepsOthers.setCell _ _ _)).trans (KeepsOthers.setCell _ _ _)).trans (KeepsOthers.setCell _ _ _)⟩
  · have := hb.size; have := h.size; simp [World.setCell]; omega
  · rw [World.frozen?_setCell, World.frozen?_setCell, World.frozen?_setCell, hf]; exact h.fz j
  · have := hb.size; simp [World.setCell]; omega
  · have := h.size
    exact (Below.heap_setCell _ _ _ _ h2).trans ((Below.heap_setCell _ _ _ _ h2).trans ((Below.heap_setCell _ _ _ _ h2).trans (hb.block q (by omega))))
/-- One rectangle more: behind the append, and behind the store into the builder's field. -/
theorem AddR.push {bb Bo : Nat} {w0 wr wa w2 : World} {L : List R4} {r : R4} {vs vo v2 : Value} {s : List Sp} {n k : Nat} {t : Int} (h : AddR bb Bo w0 L vs s n t wr) (hvo : wr.cell? ⟨bb, 0, none⟩ = some vo) (how : wr.ownsRow Bo 23 4 vo L.length (L.flatMap encR))
    (ha : Below wr.heap.size wr wa) (hg : wa.grownBy w2 vo.ownBlock) (hown2 : w2.ownsRow Bo 23 4 v2 k ((L ++ [r]).flatMap encR)) :
    w2.cell? ⟨bb, 0, none⟩ = some vo ∧ w2.frozen? ⟨bb, 0, none⟩ = false ∧ Hid (AddR bb Bo w0 (L ++ [r]) vs s n t (w2.setCell ⟨bb, 0, none⟩ v2)) := by
  have hlow := h.low
  have hsz := h.size
  have hB : Below Bo wr w2 := (ha.mono hsz).grown hg (Nat.le_trans hsz ha.size) fun q hq => (how.lt q hq).1
  have hc : ∀ o, w2.cell? ⟨bb, o, none⟩ = wr.cell? ⟨bb, o, none⟩ := fun o => hB.cell (p := ⟨bb, o, none⟩) hlow
  have hf : ∀ o, w2.frozen? ⟨bb, o, none⟩ = wr.frozen? ⟨bb, o, none⟩ := fun o => hB.frozen (p := ⟨bb, o, none⟩) hlow
  have k0 := (hc 0).trans hvo
  have hk := own_len (k := 4) hown2 (fun _ => rfl) (by omega)
  subst hk
  refine ⟨k0, (hf 0).trans (h.fz 0), hide ⟨hlow, ?_, ⟨v2, by simp [go_sem, k0], ownsRow_setCell_below hown2 hlow _⟩, ?_, ?_, ?_, fun j => ?_, ownsRow_setCell_below ((own_below h.own ha).kept hg ?_) hlow _, hB.os.trans h.os, hB.tape.trans h.tape, hB.output.trans h.output, ?_, fun q h1 h2 => ?_, ((h.keep.trans (keeps_below ha)).trans (KeepsOthers.of_grownBy hg fun j o hj ho => ?_)).trans (KeepsOthers.setCell _ _ _)⟩⟩
  · have := hB.size; simp [World.setCell]; omega
  · simp [go_sem, hc, h.c1]
  · simp [go_sem, hc, h.c2]
  · simp [go_sem, hc, h.c3]
  · rw [World.frozen?_setCell, hf]; exact h.fz j
  · exact own_apart h.own how (by decide)
  · have := hB.size; have := h.grow; simp [World.setCell]; omega
  · exact (Below.heap_setCell _ _ _ _ h2).trans ((hB.block q h1).trans (h.block q h1 h2))
  · exact own_cells (own_below how ha) j o hj ho

/-- One rectangle more, behind a box of two cells and the row of one that append reads. -/
theorem AddR.push2 {bb Bo : Nat} {w0 wr wb w2 : World} {L : List R4} {r : R4} {vs vo v2 b0 b1 : Value} {s : List Sp} {n k : Nat} {t : Int} (h : AddR bb Bo w0 L vs s n t wr) (hvo : wr.cell? ⟨bb, 0, none⟩ = some vo) (how : wr.ownsRow Bo 23 4 vo L.length (L.flatMap encR))
    (hbw : Below wr.heap.size wr wb) (o : Obj) (hg : (wb.alloc o).drew.grownBy w2 vo.ownBlock) (hown2 : w2.ownsRow Bo 23 4 v2 k (L.flatMap encR ++ encR r)) (f0 : wb.cell? ⟨wr.heap.size, 0, none⟩ = some b0) (f1 : wb.cell? ⟨wr.heap.size, 1, none⟩ = some b1) :
    w2.cell? ⟨bb, 0, none⟩ = some vo ∧ w2.cell? ⟨wr.heap.size, 0, none⟩ = some b0 ∧ w2.cell? ⟨wr.heap.size, 1, none⟩ = some b1 ∧ w2.frozen? ⟨bb, 0, none⟩ = false ∧ Hid (AddR bb Bo w0 (L ++ [r]) vs s n t (w2.setCell ⟨bb, 0, none⟩ v2)) := by
  have ha : Below wr.heap.size wr (wb.alloc o).drew := (hbw.alloc hbw.size o).drew
  have hx : L.flatMap encR ++ encR r = (L ++ [r]).flatMap encR := by simp
  rw [hx] at hown2
  obtain ⟨p1, p2, p3⟩ := h.push hvo how ha hg hown2
  have far : ∀ (q i : Nat) (u : Value), wb.cell? ⟨q, i, none⟩ = some u → vo.ownBlock ≠ some q → w2.cell? ⟨q, i, none⟩ = some u := fun q i u hu hq =>
    World.grownBy.cell hg (a := ⟨q, i, none⟩) ((World.cell?_alloc_lt wb o ⟨q, i, none⟩ (lt_of_cell hu)).trans hu) (fun e => hq e.symm)
  exact ⟨p1, far _ 0 b0 f0 (fun e => by have := how.lt _ e; omega), far _ 1 b1 f1 (fun e => by have := how.lt _ e; omega), p2, p3⟩

set_option maxRecDepth 100000 in
set_option maxHeartbeats 4000000 in
theorem add_any {bb Bo : Nat} {S : List Slab} {last s : List Sp} {first : Nat} {e f t : Int} {vs : Value} {w : World} (h : BW bb Bo S last first e w) (hs : w.ownsRow Bo 107 2 vs s.length (s.flatMap encS)) (hn : (flat S).length ≤ 100000000) (hsn : s.length ≤ 100000000) (hln : last.length ≤ 100000000)
    (hef : S = [] ∨ e ≤ f) (hft : f < t) :
    Calls Try.prog 55 #[.pointer (some ⟨bb, 0, none⟩), .int .i64 f, .int .i64 t, vs] w fun r w' => r = .returned (.tuple #[]) ∧ ∃ first', BW bb Bo (addS S f t s) s first' t w' ∧ Below bb w w' ∧ (∀ k, k < Bo → k ≠ bb → w'.heap[k]? = w.heap[k]?) ∧ KeepsOthers w w' := by
  obtain ⟨vo, o1, o2⟩ := h.out
  obtain ⟨vl, l1, l2⟩ := h.la
  obtain ⟨Ao, co, hvo, _⟩ := own_rd o2 (fun _ => rfl)
  obtain ⟨Al, cl, hvl, hrl⟩ := own_rd l2 (fun _ => rfl)
  obtain ⟨As, cs, hvs, hrs⟩ := own_rd hs (fun _ => rfl)
  subst hvo; subst hvl; subst hvs
  have c2 := h.fi
  have c3 := h.en
  have z0 := h.fz 0
  have z1 := h.fz 1
  have z2 := h.fz 2
  have z3 := h.fz 3
  by_cases hc : s ≠ [] ∧ e = f ∧ last = s
  · obtain ⟨hsne, rfl, rfl⟩ := hc
    obtain ⟨S0, f0, hS, hfi, hadd, hinv⟩ := BInv.join (t := t) h.inv hsne rfl rfl
    have heq := fun W (hb : Below w.heap.size w W) => eqSpan_any (w := W) (B := w.heap.size) (C := w.heap.size) ((own_rd l2 (fun _ => rfl)).below hb) ((own_rd hs (fun _ => rfl)).below hb) hln hb.size hb.size
    have hd : decide (last = last) = true := decide_eq_true rfl
    rw [hd] at heq
    have HEQ := hide heq
    have hbs : bb < w.heap.size := Nat.lt_of_lt_of_le h.low h.size
    have hfl : first < (flat S).length := by
      rw [hS, flat_append, flat_one, List.length_append, hfi]
      have := List.length_pos_iff.2 hsne
      simp [flat1]; omega
    obtain ⟨g, cap, hvo, hBg, hgw⟩ := o2.form (by omega)
    injection hvo with e1 _ e3
    subst e1; subst e3
    have hlow := h.low
    have hlp : (0 : Int) < (last.length : Int) := by have := List.length_pos_iff.2 hsne; omega
    have hee : (e == e) = true := by simp
    have HO := hide o2
    have HL := hide l2
    have HH := hide h
    have HI := hide hinv
    have HS := hide hS
    have HF := hide hfi
    have HA := hide hadd
    clear hd heq o2 l2 hs h hinv hS hfi hadd hrl hrs
    go_enter Try.func55, Try.ntmps55
    go_wp2_with (go_at_call 69; refine (HEQ.out _ (Below.refl _ _)).mono ?_; rintro r w1 ⟨rfl, hb1⟩; have d0 := (hb1.cell (p := ⟨bb, 0, none⟩) hbs).trans o1; have d2 := (hb1.cell (p := ⟨bb, 2, none⟩) hbs).trans c2; have d3 := (hb1.cell (p := ⟨bb, 3, none⟩) hbs).trans c3; have g3 := (hb1.frozen (p := ⟨bb, 3, none⟩) hbs).trans z3)
    go_loopw [8] (fun i wr => ∃ k : Nat, first ≤ k ∧ k ≤ (flat S).length ∧ i = .int .i64 k ∧ wr.cell? ⟨bb, 0, none⟩ = some (.slice (some ⟨g, 0, none⟩) (flat S).length co) ∧ wr.cell? ⟨bb, 3, none⟩ = some (.int .i64 e) ∧ wr.frozen? ⟨bb, 3, none⟩ = false ∧
        Hid (wr.ownsRow Bo 23 4 (.slice (some ⟨g, 0, none⟩) (flat S).length co) (flat S).length ((upTo t first k (flat S)).flatMap encR)) ∧ Hid (w1.grownBy wr (Value.slice (some ⟨g, 0, none⟩) (flat S).length co).ownBlock)) (fun i _ => (flat S).length - (intOf i).toNat)
    case atStart => exact ⟨first, Nat.le_refl _, by omega, rfl, d0, d3, g3, hide (by rw [upTo_start]; exact own_below HO.out hb1), hide (grown_refl _ _)⟩
    case round =>
      clear d0 d3 g3
      obtain ⟨k, hk1, hk2, rfl, d0, d3, g3, HR, HG⟩ := hrel
      by_cases hlt : k < (flat S).length
      · have hkz : (k : Int) < ((flat S).length : Int) := by omega
        obtain ⟨r, hr⟩ : ∃ r, (upTo t first k (flat S))[k]? = some r := ⟨_, List.getElem?_eq_getElem (by rw [upTo_len]; exact hlt)⟩
        have x1 : wr.cell? ⟨g, k * 4 + 2, none⟩ = some (.int .i64 r.x1) := by
          have := (HR.out.cells (g := g) rfl) _ _ (flat_get (k := 4) (fun _ => rfl) _ k r 2 _ hr rfl)
          rwa [addr_add] at this
        have f1 : wr.frozen? ⟨g, k * 4 + 2, none⟩ = false := HR.out.frozenAt _
        have hst := HR.out.stored (k * 4 + 2) (.int .i64 t)
        rw [flat_set t _ k r hr, upTo_step t first k _ r hk1 hr] at hst
        have HST := hide hst
        have nbg : bb ≠ g := by omega
        have ngb : g ≠ bb := by omega
        clear hr hst
        go_wp2
        go_roundw
        case rel => exact ⟨k + 1, by omega, by omega, by go_num, by simp [go_sem, d0, nbg, ngb], by simp [go_sem, d3, nbg, ngb], by simp [go_sem, g3], hide HST.out.1, hide (HG.out.trans HST.out.2)⟩
        case measure => simp [intOf]; omega
      · obtain rfl : k = (flat S).length := by omega
        have hkz : ¬ ((flat S).length : Int) < ((flat S).length : Int) := by omega
        go_wp2
        refine bodyPost_ret (results_none rfl _ _ _) rfl ?_
        have hend := upTo_end S0 f0 e t last
        rw [← HS.out, ← HF.out, ← HA.out] at hend
        have hlen : (flat (addS S e t last)).length = (flat S).length := by rw [← hend, upTo_len]
        have R := HR.out
        rw [hend] at R
        have hGB : Below Bo w1 wr := (Below.refl Bo w1).grown HG.out (Nat.le_trans HH.out.size hb1.size) (fun q hq => (R.lt q hq).1)
        have hsz : Bo ≤ w.heap.size := HH.out.size
        have hW : ∀ q, q < Bo → q ≠ bb → (wr.setCell ⟨bb, 3, none⟩ (.int .i64 t)).heap[q]? = w.heap[q]? := fun q h1 h2 => (Below.heap_setCell _ _ _ _ h2).trans ((hGB.block q h1).trans (hb1.block q (by omega)))
        have hbw : Below w.heap.size w w1 := hb1
        have hcell : ∀ o, wr.cell? ⟨bb, o, none⟩ = w.cell? ⟨bb, o, none⟩ := fun o => (hGB.cell (p := ⟨bb, o, none⟩) hlow).trans (hb1.cell (p := ⟨bb, o, none⟩) hbs)
        have hfr : ∀ o, wr.frozen? ⟨bb, o, none⟩ = w.frozen? ⟨bb, o, none⟩ := fun o => (hGB.frozen (p := ⟨bb, o, none⟩) hlow).trans (hb1.frozen (p := ⟨bb, o, none⟩) hbs)
        refine ⟨rfl, ⟨first, hlow, ?_, ⟨_, ?_, own_n (ownsRow_setCell_below R (by exact hlow) _) hlen.symm⟩, ⟨_, ?_, ownsRow_setCell_below ((own_below HL.out hb1).kept HG.out ?_) (by exact hlow) _⟩, ?_, ?_, ?_, HI.out⟩, ?_, hW, ((keeps_below hb1).trans (KeepsOthers.of_grownBy HG.out fun j o hj ho => own_cells (own_below HO.out hb1) j o hj ho)).trans (KeepsOthers.setCell _ _ _)⟩
        · have := HG.out.size
          have := hb1.size
          simp [World.setCell]; omega
        · simp [go_sem, d0]
        · simp [go_sem, hcell, l1]
        · exact own_apart HL.out HO.out (by decide)
        · simp [go_sem, hcell, c2]
        · simp [go_sem, d3]
        · intro j
          rw [World.frozen?_setCell, hfr]
          exact HH.out.fz j
        · refine (Below.setCell ?_ (p := ⟨bb, 3, none⟩) (Nat.le_refl bb) _)
          exact (hb1.mono (by omega)).trans (hGB.mono (by omega))
  · obtain ⟨hfl, hinv⟩ := BInv.push (t := t) h.inv hef hft hc
    have hbs : bb < w.heap.size := Nat.lt_of_lt_of_le h.low h.size
    have HC := hide hc
    have HO := hide o2
    have HL := hide l2
    have HS := hide hs
    have HH := hide h
    have HI := hide hinv
    have HF := hide hfl
    have HRS := hide hrs
    have heq := fun W (hb : Below w.heap.size w W) => eqSpan_any (w := W) (B := w.heap.size) (C := w.heap.size) ((own_rd l2 (fun _ => rfl)).below hb) ((own_rd hs (fun _ => rfl)).below hb) hln hb.size hb.size
    have HEQ := hide heq
    clear hc o2 l2 hs h hinv hfl hrl hrs heq
    go_enter Try.func55, Try.ntmps55
    have hlow := HH.out.low
    have AW := hide (AddR.start (t := t) HH.out (Below.refl _ w) HS.out)
    obtain ⟨w1, hw1⟩ : ∃ w1, w1 = w := ⟨_, rfl⟩
    obtain ⟨i1, gi, gz0, gz1, gz2⟩ := info_parts infoRc
    by_cases hs0 : s = []
    · have hlp : ¬ (0 : Int) < (s.length : Int) := by simp [hs0]
      have HS0 : Hid (s.length = 0) := hide (by simp [hs0])
      clear hs0
      go_wp2
      clear o1 l1 c2 c3 z0 z1 z2 z3 hlp
      go_loopw [73] (fun i wr => ∃ m : Nat, m ≤ s.length ∧ i = .int .i64 m ∧ Hid (AddR bb Bo w (flat S ++ (s.take m).map (fun p => ⟨f, p.1, t, p.2⟩)) (.slice As s.length cs) s (flat S).length t wr)) (fun i _ => s.length - (intOf i).toNat)
      case atStart => exact ⟨0, Nat.zero_le _, rfl, hide (by rw [List.take_zero, List.map_nil, List.append_nil]; exact AW.out)⟩
      case round =>
        clear AW
        obtain ⟨m, hm, rfl, HA⟩ := hrel
        by_cases hlt : m < s.length
        · exact absurd hlt (by have := HS0.out; omega)
        · obtain rfl : m = s.length := by omega
          have hmz : ¬ (s.length : Int) < (s.length : Int) := by omega
          have A := HA.out
          rw [List.take_length, ← HF.out] at A
          have HA2 := hide A
          clear A
          go_wp2
          go_end0
          have A := HA2.out
          obtain ⟨vo, a1, a2⟩ := A.out
          exact ⟨rfl, ⟨_, A.low, A.size, ⟨vo, a1, a2⟩, ⟨_, A.c1, A.own⟩, A.c2, A.c3, A.fz, HI.out⟩, ⟨A.os, A.tape, A.output, Nat.le_trans (by omega) A.grow, fun q hq => A.block q (by omega) (by omega)⟩, A.block, A.keep⟩
    · have hlp : (0 : Int) < (s.length : Int) := by have := List.length_pos_iff.2 hs0; omega
      by_cases hef2 : e = f
      · have hee : (e == f) = true := by simpa using hef2
        have hd : decide (last = s) = false := decide_eq_false fun g => HC.out ⟨hs0, hef2, g⟩
        have HD := hide hd
        clear hd hef2 hs0
        go_wp2_with (first | (go_at_call 69; refine (HEQ.out _ (Below.refl _ _)).mono ?_; rintro r w1 ⟨rfl, hb1⟩; rw [HD.out]; have d0 := (hb1.cell (p := ⟨bb, 0, none⟩) hbs).trans o1; have d1 := (hb1.cell (p := ⟨bb, 1, none⟩) hbs).trans l1; have d2 := (hb1.cell (p := ⟨bb, 2, none⟩) hbs).trans c2; have d3 := (hb1.cell (p := ⟨bb, 3, none⟩) hbs).trans c3; have g0 := (hb1.frozen (p := ⟨bb, 0, none⟩) hbs).trans z0; have g1 := (hb1.frozen (p := ⟨bb, 1, none⟩) hbs).trans z1; have g2 := (hb1.frozen (p := ⟨bb, 2, none⟩) hbs).trans z2; have g3 := (hb1.frozen (p := ⟨bb, 3, none⟩) hbs).trans z3))
        clear AW
        have AW := hide (AddR.start (t := t) HH.out hb1 HS.out)
        clear o1 l1 c2 c3 z0 z1 z2 z3 hlp
        go_loopw [73] (fun i wr => ∃ m : Nat, m ≤ s.length ∧ i = .int .i64 m ∧ Hid (AddR bb Bo w (flat S ++ (s.take m).map (fun p => ⟨f, p.1, t, p.2⟩)) (.slice As s.length cs) s (flat S).length t wr)) (fun i _ => s.length - (intOf i).toNat)
        case atStart => exact ⟨0, Nat.zero_le _, rfl, hide (by rw [List.take_zero, List.map_nil, List.append_nil]; exact AW.out)⟩
        case round =>
          clear AW
          obtain ⟨m, hm, rfl, HA⟩ := hrel
          by_cases hlt : m < s.length
          · have hmz : (m : Int) < (s.length : Int) := by omega
            obtain ⟨g2, cap2, hvs, hB2, hg2⟩ := HA.out.own.form (by omega)
            injection hvs with e1 _ e3
            subst e1; subst e3
            obtain ⟨⟨p1, p2⟩, hp⟩ : ∃ p, s[m]? = some p := ⟨_, List.getElem?_eq_getElem hlt⟩
            have x0 : wr.cell? ⟨g2, m * 2, none⟩ = some (.int .i64 p1) := by
              have := (HA.out.own.cells (g := g2) rfl) _ _ (flat_get (k := 2) (fun _ => rfl) _ m _ 0 _ hp rfl)
              rwa [addr_add] at this
            have x1 : wr.cell? ⟨g2, m * 2 + 1, none⟩ = some (.int .i64 p2) := by
              have := (HA.out.own.cells (g := g2) rfl) _ _ (flat_get (k := 2) (fun _ => rfl) _ m _ 1 _ hp rfl)
              rwa [addr_add] at this
            have HT : Hid ((s.take (m + 1)).map (fun p : Sp => (⟨f, p.1, t, p.2⟩ : R4)) = (s.take m).map (fun p : Sp => (⟨f, p.1, t, p.2⟩ : R4)) ++ [⟨f, p1, t, p2⟩]) := hide (by
              obtain ⟨hk, hpe⟩ := List.getElem?_eq_some_iff.1 hp
              rw [List.take_succ_eq_append_getElem hk, List.map_append, hpe]; rfl)
            have hL : (flat S ++ (s.take m).map (fun p : Sp => (⟨f, p.1, t, p.2⟩ : R4))).length ≤ 200000000 := by
              rw [List.length_append, List.length_map, List.length_take]; omega
            clear hp
            go_wp2
            obtain ⟨wb, hwb⟩ : ∃ wb, wb = wr.alloc (.cells #[.int .i64 p1, .int .i64 p2] 107) := ⟨_, rfl⟩
            rw [← hwb]
            obtain ⟨vo, v1, v2⟩ := HA.out.out
            obtain ⟨Av, cv, hv⟩ := own_rd v2 (fun _ => rfl)
            obtain ⟨hv, _⟩ := hv
            subst hv
            have hbw : Below wr.heap.size wr wb := by rw [hwb]; exact (Below.refl _ _).alloc (Nat.le_refl _) _
            have hbbw : bb < wr.heap.size := Nat.lt_of_lt_of_le hlow HA.out.size
            have gv : wb.cell? ⟨bb, 0, none⟩ = some (.slice Av (flat S ++ (s.take m).map (fun p : Sp => (⟨f, p.1, t, p.2⟩ : R4))).length cv) := by rw [hwb]; exact (World.cell?_alloc_lt _ _ ⟨bb, 0, none⟩ hbbw).trans v1
            have gy0 : wb.cell? ⟨wr.heap.size, 0, none⟩ = some (.int .i64 p1) := by rw [hwb]; simp [go_sem]
            have gy1 : wb.cell? ⟨wr.heap.size, 1, none⟩ = some (.int .i64 p2) := by rw [hwb]; simp [go_sem]
            have gs : wb.heap.size = wr.heap.size + 1 := by rw [hwb]; simp
            have gown : wb.ownsRow Bo 23 4 (.slice Av (flat S ++ (s.take m).map (fun p : Sp => (⟨f, p.1, t, p.2⟩ : R4))).length cv) (flat S ++ (s.take m).map (fun p : Sp => (⟨f, p.1, t, p.2⟩ : R4))).length ((flat S ++ (s.take m).map (fun p : Sp => (⟨f, p.1, t, p.2⟩ : R4))).flatMap encR) := by rw [hwb]; exact v2.alloc _
            have HV1 := hide v1
            have HV2 := hide v2
            have HBW := hide hbw
            have HY0 := hide gy0
            have HY1 := hide gy1
            have HO2 := hide gown
            have HT2 : Hid (flat S ++ (s.take (m + 1)).map (fun p : Sp => (⟨f, p.1, t, p.2⟩ : R4)) = (flat S ++ (s.take m).map (fun p : Sp => (⟨f, p.1, t, p.2⟩ : R4))) ++ [⟨f, p1, t, p2⟩]) := hide (by rw [HT.out, List.append_assoc])
            have hbws : bb < wb.heap.size := by omega
            have hbne : wr.heap.size < wb.heap.size := by omega
            have hBow : Bo ≤ wb.heap.size := by have := HA.out.size; omega
            have HA2 := hide HA.out
            clear gs v1 v2 gown hwb hbw x0 x1 HA HT
            generalize flat S ++ (s.take m).map (fun p : Sp => (⟨f, p.1, t, p.2⟩ : R4)) = L at *
            refine wp_region_reads 12 (fun w' => w'.cell? ⟨bb, 0, none⟩ = some (.slice Av L.length cv) ∧ w'.cell? ⟨wr.heap.size, 0, none⟩ = some (.int .i64 p1) ∧ w'.cell? ⟨wr.heap.size, 1, none⟩ = some (.int .i64 p2)) (by kernel_rfl) (by kernel_rfl) ⟨gv, gy0, gy1⟩ ?_
            simp only [List.take_succ_cons, List.take_zero, List.drop_succ_cons, List.drop_zero]
            iterate 12
              refine ⟨?_, Or.inl ⟨by rfl, ?_⟩, ?_⟩
              rotate_left 1
              · intro w' hSw
                obtain ⟨z1, z2, z3⟩ := hSw
                go_simp
                first | done | with_reducible rfl
              simp only [Act.put, List.setIfInBounds_toArray, List.set_cons_zero, List.set_cons_succ]
            simp only [wpReads]
            intro K hK
            go_simp
            refine hK _ _ (fun _ => ⟨by go_keep, by go_keep, by go_keep⟩) ?_
            clear hK K
            intro K hK
            refine step_append_lies _ rfl (.tmp 81) (.tmp 89) 39 rfl Bo 23 i1 (.agg #[.int .i64 0, .int .i64 0, .int .i64 0, .int .i64 0]) 4 32 Try.underlying39 gi gz0 gz1 gz2 rfl (by decide) (.slice Av L.length cv) L.length _ rfl (own_drew (World.ownsRow.alloc (w := wb) HO2.out _)) ⟨wb.heap.size, 0, none⟩ 1 1 [.int .i64 f, .int .i64 p1, .int .i64 t, .int .i64 p2] rfl rfl (news_drew wb _ _ _ rfl) (ints_one rfl) (by omega) (by unfold maxLen; omega) (by omega) (by simp; omega) _ rfl ?_
            intro g9 cap9 w9 hown9 hgrow9 _ _
            obtain ⟨s1, s2, s3, s4, HF9⟩ := HA2.out.push2 (r := ⟨f, p1, t, p2⟩) HV1.out HV2.out HBW.out _ hgrow9 hown9 HY0.out HY1.out
            clear hown9 hgrow9
            refine hK _ _ (fun _ => ⟨s1, s2, s3⟩) ?_
            clear hK K
            intro K hK
            simp only [Act.put, List.setIfInBounds_toArray, List.set_cons_zero, List.set_cons_succ] at hK ⊢
            go_simp
            refine hK _ _ (fun _ => ⟨s1, s2, s3⟩) ?_
            clear hK K
            intro K hK
            simp only [Act.put, List.setIfInBounds_toArray, List.set_cons_zero, List.set_cons_succ] at hK ⊢
            go_simp
            refine hK _ _ (fun _ => ⟨s1, s2, s3⟩) ?_
            clear hK K
            intro K hK
            simp only [Act.put, List.setIfInBounds_toArray, List.set_cons_zero, List.set_cons_succ] at hK ⊢
            go_simp
            refine hK _ _ (fun h => absurd rfl h) ?_
            clear hK K
            refine NoPanic.normal ?_
            go_wp2
            go_roundw
            case rel => exact ⟨m + 1, by omega, by go_num, hide (by rw [HT2.out]; exact HF9.out)⟩
            case measure => simp [intOf]; omega
          · obtain rfl : m = s.length := by omega
            have hmz : ¬ (s.length : Int) < (s.length : Int) := by omega
            have A := HA.out
            rw [List.take_length, ← HF.out] at A
            have HA2 := hide A
            clear A
            go_wp2
            go_end0
            have A := HA2.out
            obtain ⟨vo, a1, a2⟩ := A.out
            exact ⟨rfl, ⟨_, A.low, A.size, ⟨vo, a1, a2⟩, ⟨_, A.c1, A.own⟩, A.c2, A.c3, A.fz, HI.out⟩, ⟨A.os, A.tape, A.output, Nat.le_trans (by omega) A.grow, fun q hq => A.block q (by omega) (by omega)⟩, A.block, A.keep⟩
      · have hee : (e == f) = false := by simpa using hef2
        clear hef2 hs0
        go_wp2
        clear o1 l1 c2 c3 z0 z1 z2 z3 hlp
        go_loopw [73] (fun i wr => ∃ m : Nat, m ≤ s.length ∧ i = .int .i64 m ∧ Hid (AddR bb Bo w (flat S ++ (s.take m).map (fun p => ⟨f, p.1, t, p.2⟩)) (.slice As s.length cs) s (flat S).length t wr)) (fun i _ => s.length - (intOf i).toNat)
        case atStart => exact ⟨0, Nat.zero_le _, rfl, hide (by rw [List.take_zero, List.map_nil, List.append_nil]; exact AW.out)⟩
        case round =>
          clear AW
          obtain ⟨m, hm, rfl, HA⟩ := hrel
          by_cases hlt : m < s.length
          · have hmz : (m : Int) < (s.length : Int) := by omega
            obtain ⟨g2, cap2, hvs, hB2, hg2⟩ := HA.out.own.form (by omega)
            injection hvs with e1 _ e3
            subst e1; subst e3
            obtain ⟨⟨p1, p2⟩, hp⟩ : ∃ p, s[m]? = some p := ⟨_, List.getElem?_eq_getElem hlt⟩
            have x0 : wr.cell? ⟨g2, m * 2, none⟩ = some (.int .i64 p1) := by
              have := (HA.out.own.cells (g := g2) rfl) _ _ (flat_get (k := 2) (fun _ => rfl) _ m _ 0 _ hp rfl)
              rwa [addr_add] at this
            have x1 : wr.cell? ⟨g2, m * 2 + 1, none⟩ = some (.int .i64 p2) := by
              have := (HA.out.own.cells (g := g2) rfl) _ _ (flat_get (k := 2) (fun _ => rfl) _ m _ 1 _ hp rfl)
              rwa [addr_add] at this
            have HT : Hid ((s.take (m + 1)).map (fun p : Sp => (⟨f, p.1, t, p.2⟩ : R4)) = (s.take m).map (fun p : Sp => (⟨f, p.1, t, p.2⟩ : R4)) ++ [⟨f, p1, t, p2⟩]) := hide (by
              obtain ⟨hk, hpe⟩ := List.getElem?_eq_some_iff.1 hp
              rw [List.take_succ_eq_append_getElem hk, List.map_append, hpe]; rfl)
            have hL : (flat S ++ (s.take m).map (fun p : Sp => (⟨f, p.1, t, p.2⟩ : R4))).length ≤ 200000000 := by
              rw [List.length_append, List.length_map, List.length_take]; omega
            clear hp
            go_wp2
            obtain ⟨wb, hwb⟩ : ∃ wb, wb = wr.alloc (.cells #[.int .i64 p1, .int .i64 p2] 107) := ⟨_, rfl⟩
            rw [← hwb]
            obtain ⟨vo, v1, v2⟩ := HA.out.out
            obtain ⟨Av, cv, hv⟩ := own_rd v2 (fun _ => rfl)
            obtain ⟨hv, _⟩ := hv
            subst hv
            have hbw : Below wr.heap.size wr wb := by rw [hwb]; exact (Below.refl _ _).alloc (Nat.le_refl _) _
            have hbbw : bb < wr.heap.size := Nat.lt_of_lt_of_le hlow HA.out.size
            have gv : wb.cell? ⟨bb, 0, none⟩ = some (.slice Av (flat S ++ (s.take m).map (fun p : Sp => (⟨f, p.1, t, p.2⟩ : R4))).length cv) := by rw [hwb]; exact (World.cell?_alloc_lt _ _ ⟨bb, 0, none⟩ hbbw).trans v1
            have gy0 : wb.cell? ⟨wr.heap.size, 0, none⟩ = some (.int .i64 p1) := by rw [hwb]; simp [go_sem]
            have gy1 : wb.cell? ⟨wr.heap.size, 1, none⟩ = some (.int .i64 p2) := by rw [hwb]; simp [go_sem]
            have gs : wb.heap.size = wr.heap.size + 1 := by rw [hwb]; simp
            have gown : wb.ownsRow Bo 23 4 (.slice Av (flat S ++ (s.take m).map (fun p : Sp => (⟨f, p.1, t, p.2⟩ : R4))).length cv) (flat S ++ (s.take m).map (fun p : Sp => (⟨f, p.1, t, p.2⟩ : R4))).length ((flat S ++ (s.take m).map (fun p : Sp => (⟨f, p.1, t, p.2⟩ : R4))).flatMap encR) := by rw [hwb]; exact v2.alloc _
            have HV1 := hide v1
            have HV2 := hide v2
            have HBW := hide hbw
            have HY0 := hide gy0
            have HY1 := hide gy1
            have HO2 := hide gown
            have HT2 : Hid (flat S ++ (s.take (m + 1)).map (fun p : Sp => (⟨f, p.1, t, p.2⟩ : R4)) = (flat S ++ (s.take m).map (fun p : Sp => (⟨f, p.1, t, p.2⟩ : R4))) ++ [⟨f, p1, t, p2⟩]) := hide (by rw [HT.out, List.append_assoc])
            have hbws : bb < wb.heap.size := by omega
            have hbne : wr.heap.size < wb.heap.size := by omega
            have hBow : Bo ≤ wb.heap.size := by have := HA.out.size; omega
            have HA2 := hide HA.out
            clear gs v1 v2 gown hwb hbw x0 x1 HA HT
            generalize flat S ++ (s.take m).map (fun p : Sp => (⟨f, p.1, t, p.2⟩ : R4)) = L at *
            refine wp_region_reads 12 (fun w' => w'.cell? ⟨bb, 0, none⟩ = some (.slice Av L.length cv) ∧ w'.cell? ⟨wr.heap.size, 0, none⟩ = some (.int .i64 p1) ∧ w'.cell? ⟨wr.heap.size, 1, none⟩ = some (.int .i64 p2)) (by kernel_rfl) (by kernel_rfl) ⟨gv, gy0, gy1⟩ ?_
            simp only [List.take_succ_cons, List.take_zero, List.drop_succ_cons, List.drop_zero]
            iterate 12
              refine ⟨?_, Or.inl ⟨by rfl, ?_⟩, ?_⟩
              rotate_left 1
              · intro w' hSw
                obtain ⟨z1, z2, z3⟩ := hSw
                go_simp
                first | done | with_reducible rfl
              simp only [Act.put, List.setIfInBounds_toArray, List.set_cons_zero, List.set_cons_succ]
            simp only [wpReads]
            intro K hK
            go_simp
            refine hK _ _ (fun _ => ⟨by go_keep, by go_keep, by go_keep⟩) ?_
            clear hK K
            intro K hK
            refine step_append_lies _ rfl (.tmp 81) (.tmp 89) 39 rfl Bo 23 i1 (.agg #[.int .i64 0, .int .i64 0, .int .i64 0, .int .i64 0]) 4 32 Try.underlying39 gi gz0 gz1 gz2 rfl (by decide) (.slice Av L.length cv) L.length _ rfl (own_drew (World.ownsRow.alloc (w := wb) HO2.out _)) ⟨wb.heap.size, 0, none⟩ 1 1 [.int .i64 f, .int .i64 p1, .int .i64 t, .int .i64 p2] rfl rfl (news_drew wb _ _ _ rfl) (ints_one rfl) (by omega) (by unfold maxLen; omega) (by omega) (by simp; omega) _ rfl ?_
            intro g9 cap9 w9 hown9 hgrow9 _ _
            obtain ⟨s1, s2, s3, s4, HF9⟩ := HA2.out.push2 (r := ⟨f, p1, t, p2⟩) HV1.out HV2.out HBW.out _ hgrow9 hown9 HY0.out HY1.out
            clear hown9 hgrow9
            refine hK _ _ (fun _ => ⟨s1, s2, s3⟩) ?_
            clear hK K
            intro K hK
            simp only [Act.put, List.setIfInBounds_toArray, List.set_cons_zero, List.set_cons_succ] at hK ⊢
            go_simp
            refine hK _ _ (fun _ => ⟨s1, s2, s3⟩) ?_
            clear hK K
            intro K hK
            simp only [Act.put, List.setIfInBounds_toArray, List.set_cons_zero, List.set_cons_succ] at hK ⊢
            go_simp
            refine hK _ _ (fun _ => ⟨s1, s2, s3⟩) ?_
            clear hK K
            intro K hK
            simp only [Act.put, List.setIfInBounds_toArray, List.set_cons_zero, List.set_cons_succ] at hK ⊢
            go_simp
            refine hK _ _ (fun h => absurd rfl h) ?_
            clear hK K
            refine NoPanic.normal ?_
            go_wp2
            go_roundw
            case rel => exact ⟨m + 1, by omega, by go_num, hide (by rw [HT2.out]; exact HF9.out)⟩
            case measure => simp [intOf]; omega
          · obtain rfl : m = s.length := by omega
            have hmz : ¬ (s.length : Int) < (s.length : Int) := by omega
            have A := HA.out
            rw [List.take_length, ← HF.out] at A
            have HA2 := hide A
            clear A
            go_wp2
            go_end0
            have A := HA2.out
            obtain ⟨vo, a1, a2⟩ := A.out
            exact ⟨rfl, ⟨_, A.low, A.size, ⟨vo, a1, a2⟩, ⟨_, A.c1, A.own⟩, A.c2, A.c3, A.fz, HI.out⟩, ⟨A.os, A.tape, A.output, Nat.le_trans (by omega) A.grow, fun q hq => A.block q (by omega) (by omega)⟩, A.block, A.keep⟩
end Go.Proofs.Ytgdlbaabdebclaa

/- region.made: the region of a list of valid rectangles. -/
namespace Go.Proofs.Ytgdlbaabdebclaa
open Go.RowKit
set_option linter.unusedVariables false
set_option linter.unusedSimpArgs false
attribute [local go_sem] Oper.semAt_some

/-- A region and an error code come back; the region's row lies at or above B. -/
def RegRet (B : Nat) (x : List R4 × Int) (e : Ending) (w' : World) : Prop :=
  ∃ A c, e = .returned (.tuple #[.slice A x.1.length c, .int .i64 x.2]) ∧ w'.ownsRow B 23 4 (.slice A x.1.length c) x.1.length (x.1.flatMap encR)

theorem BW.below {bb Bo : Nat} {S : List Slab} {last : List Sp} {first : Nat} {e : Int} {A B : World} (h : BW bb Bo S last first e A) (hb : Below A.heap.size A B) : BW bb Bo S last first e B := by
  have hbs : bb < A.heap.size := Nat.lt_of_lt_of_le h.low h.size
  have hc : ∀ o, B.cell? ⟨bb, o, none⟩ = A.cell? ⟨bb, o, none⟩ := fun o => hb.cell (p := ⟨bb, o, none⟩) hbs
  have hf : ∀ o, B.frozen? ⟨bb, o, none⟩ = A.frozen? ⟨bb, o, none⟩ := fun o => hb.frozen (p := ⟨bb, o, none⟩) hbs
  obtain ⟨vo, o1, o2⟩ := h.out
  obtain ⟨vl, l1, l2⟩ := h.la
  exact ⟨h.low, Nat.le_trans h.size hb.size, ⟨vo, (hc 0).trans o1, own_below o2 hb⟩, ⟨vl, (hc 1).trans l1, own_below l2 hb⟩, (hc 2).trans h.fi, (hc 3).trans h.en, fun j => (hf j).trans (h.fz j), h.inv⟩
theorem BW.putObj {bb Bo : Nat} {S : List Slab} {last : List Sp} {first : Nat} {e : Int} {A : World} (h : BW bb Bo S last first e A) {l : Nat} {o o' : Obj} (hl : A.heap[l]? = some o) (ho : o.isCells = false) (ho' : o'.isCells = false) : BW bb Bo S last first e (A.putObj l o') := by
  have hc := cell_putObj (o' := o') hl ho ho'
  obtain ⟨vo, o1, o2⟩ := h.out
  obtain ⟨vl, l1, l2⟩ := h.la
  exact ⟨h.low, by simpa using h.size, ⟨vo, (hc _).1.trans o1, own_putObj o2 hl ho⟩, ⟨vl, (hc _).1.trans l1, own_putObj l2 hl ho⟩, (hc _).1.trans h.fi, (hc _).1.trans h.en, fun j => (hc _).2.trans (h.fz j), h.inv⟩
theorem KpX.below {bb n : Nat} {A B : World} (hn : n ≤ A.heap.size) (hb : Below A.heap.size A B) : KpX bb n A B := ⟨hb.size, fun b o h _ => hb.cell (p := ⟨b, o, none⟩) (by show b < _; omega)⟩

theorem KeepsFrom.of_below' {n : Nat} {A B : World} (hb : Below A.heap.size A B) : KeepsFrom n A B := (keeps_below hb).from n
theorem BW.grown {bb Bo : Nat} {S : List Slab} {last : List Sp} {first : Nat} {e : Int} {A B : World} (h : BW bb Bo S last first e A) {l : Nat} {o : Obj} (hg : A.grownBy B (some l)) (hl : A.heap[l]? = some o) (ho : o.isCells = false) : BW bb Bo S last first e B := by
  have hbs : bb < A.heap.size := Nat.lt_of_lt_of_le h.low h.size
  have hne : bb ≠ l := by
    rintro rfl
    obtain ⟨ob, h1, h2⟩ := cells_of_cell h.fi
    rw [hl] at h1
    injection h1 with h1
    subst h1
    rw [ho] at h2; cases h2
  have hbk := hg.block bb hbs (fun e => by injection e with e; exact hne e)
  have hc : ∀ o, B.cell? ⟨bb, o, none⟩ = A.cell? ⟨bb, o, none⟩ := fun o => World.cell?_of_block (w := A) hbk
  have hf : ∀ o, B.frozen? ⟨bb, o, none⟩ = A.frozen? ⟨bb, o, none⟩ := fun o => World.frozen?_of_block (w := A) hbk
  have key : ∀ {t size v n xs}, A.ownsRow Bo t size v n xs → B.ownsRow Bo t size v n xs := fun {t size v n xs} hw => hw.kept hg (by
    right
    intro e
    have := own_cells hw l o e hl
    rw [ho] at this; cases this)
  obtain ⟨vo, o1, o2⟩ := h.out
  obtain ⟨vl, l1, l2⟩ := h.la
  exact ⟨h.low, Nat.le_trans h.size hg.size, ⟨vo, (hc 0).trans o1, key o2⟩, ⟨vl, (hc 1).trans l1, key l2⟩, (hc 2).trans h.fi, (hc 3).trans h.en, fun j => (hf j).trans (h.fz j), h.inv⟩

/-- Behind some rounds. -/
structure MI (bb Bo : Nat) (g : Int → List Sp) (m : Nat) (w : World) (pre : List (Int × Int)) (W : World) : Prop where
  bw : ∃ last first e, BW bb Bo (swp g pre) last first e W ∧ last.length ≤ m ∧ (pre = [] ∨ ∃ p, pre.getLast? = some p ∧ e = p.2)
  low : Below w.heap.size w W
theorem MI.below {bb Bo : Nat} {g : Int → List Sp} {m : Nat} {w : World} {pre : List (Int × Int)} {A B : World} (h : MI bb Bo g m w pre A) (hb : Below A.heap.size A B) : MI bb Bo g m w pre B := by
  obtain ⟨last, first, e, h1, h2, h3⟩ := h.bw
  exact ⟨⟨last, first, e, h1.below hb, h2, h3⟩, h.low.trans (hb.mono h.low.size)⟩
theorem MI.putObj {bb Bo : Nat} {g : Int → List Sp} {m : Nat} {w : World} {pre : List (Int × Int)} {A : World} (h : MI bb Bo g m w pre A) {l : Nat} {o o' : Obj} (hw : w.heap.size ≤ l) (hl : A.heap[l]? = some o) (ho : o.isCells = false) (ho' : o'.isCells = false) : MI bb Bo g m w pre (A.putObj l o') := by
  obtain ⟨last, first, e, h1, h2, h3⟩ := h.bw
  exact ⟨⟨last, first, e, h1.putObj hl ho ho', h2, h3⟩, below_putObj h.low hw _⟩

theorem MI.grown {bb Bo : Nat} {g : Int → List Sp} {m : Nat} {w : World} {pre : List (Int × Int)} {A B : World} (h : MI bb Bo g m w pre A) {l : Nat} {o : Obj} (hw : w.heap.size ≤ l) (hg : A.grownBy B (some l)) (hl : A.heap[l]? = some o) (ho : o.isCells = false) : MI bb Bo g m w pre B := by
  obtain ⟨last, first, e, h1, h2, h3⟩ := h.bw
  exact ⟨⟨last, first, e, h1.grown hg hl ho, h2, h3⟩, h.low.grown hg h.low.size (fun k hk => by injection hk with hk; omega)⟩

set_option maxRecDepth 100000 in
set_option maxHeartbeats 4000000 in
theorem made_any {l : List R4} {v : Value} {w : World} (hr : RdK encR 4 w w.heap.size v l) (hl : l.length ≤ 400) (hv : ∀ r ∈ l, valid4 r) :
    Calls Try.prog 40 #[v] w fun e w' => RegRet w.heap.size (madeF l) e w' ∧ Below w.heap.size w w' := by
  have hwf : ∀ r ∈ l, wf4 r := fun r h => ⟨(hv r h).1, (hv r h).2.1⟩
  have hcl : (List.flatMap cutsL [l]).length ≤ 100000000 := by simp [cutsL_len]; omega
  have hcs := cutsOf_ok (List.flatMap cutsL [l])
  have hcn := cutsOf_len (List.flatMap cutsL [l])
  have hfin := swp_join (h := hFst) rfl hwf (b := []) (by simp) hcs.1 (fun c hc => (hcs.2 c).2 (by simpa using hc)) (by simp [cutsL])
  have hgl : ∀ c, (sjoin hFst (crossL l c) (crossL [] c)).length ≤ 1000 := by
    intro c
    have h1 := sjoin_len hFst (crossL l c) (crossL [] c)
    have h2 := crossL_len l c
    have h3 : (crossL [] c).length = 0 := rfl
    omega
  have hslab : ∀ (W : World) (L : Nat), L < W.heap.size → (∃ v, W.cell? ⟨L, 0, none⟩ = some v ∧ RdK encR 4 W W.heap.size v l) → _ := fun W L h1 h2 =>
    slabsA_any [l] L 1 W h1 (fun k l' hk => by
      have : k = 0 ∧ l = l' := by
        cases k with
        | zero => simpa using hk
        | succ k => simp at hk
      obtain ⟨rfl, rfl⟩ := this
      exact h2) hcl (by simp)
  simp only [List.length_singleton] at hslab
  generalize hcsd : cutsOf (List.flatMap cutsL [l]) = cs at *
  clear hcsd
  have HR := hide hr
  have HV := hide hv
  have HS := hide hslab
  have HF := hide hfin
  have HG := hide hgl
  have HC := hide hcs
  clear hr hv hslab hfin hgl hcs hwf
  obtain ⟨A0, c0, hv0, _⟩ := HR.out
  subst hv0
  refine (callsIn_wide (n := 0)).1 ?_
  refine callsIn_of_wp_marks Try.func40 rfl trivial ?_
  simp only [Try.ntmps40, List.size_toArray, List.length_cons, List.length_nil, Nat.reduceAdd, Nat.reduceSub, Array.replicate_succ, Array.replicate_zero, List.push_toArray, List.append_toArray, List.nil_append, List.cons_append]
  refine wpIn_wide.2 ?_
  go_wp2_with (fail)
  have hb1 : Below w.heap.size w ((w.alloc (.cells #[.slice none 0 0, .slice none 0 0, .int .i64 0, .int .i64 0] 86)).alloc (.cells #[.slice A0 l.length c0] 37)) := ((Below.refl _ _).alloc (Nat.le_refl _) _).alloc (by simp) _
  have hL1 : ((w.alloc (.cells #[.slice none 0 0, .slice none 0 0, .int .i64 0, .int .i64 0] 86)).alloc (.cells #[.slice A0 l.length c0] 37)).cell? ⟨w.heap.size + 1, 0, none⟩ = some (.slice A0 l.length c0) := by simp [go_sem]
  have hs := HS.out ((w.alloc (.cells #[.slice none 0 0, .slice none 0 0, .int .i64 0, .int .i64 0] 86)).alloc (.cells #[.slice A0 l.length c0] 37)) (w.heap.size + 1) (by simp) ⟨_, hL1, (HR.out.below hb1).mono hb1.size⟩
  simp only [World.size_alloc, Nat.add_assoc, Nat.reduceAdd] at hs
  have hbc : ∀ j u, (#[Value.slice none 0 0, .slice none 0 0, .int .i64 0, .int .i64 0] : Array Value)[j]? = some u → ((w.alloc (.cells #[.slice none 0 0, .slice none 0 0, .int .i64 0, .int .i64 0] 86)).alloc (.cells #[.slice A0 l.length c0] 37)).cell? ⟨w.heap.size, j, none⟩ = some u := by
    intro j u hj
    refine (World.cell?_alloc_lt (w.alloc _) _ ⟨w.heap.size, j, none⟩ (by simp)).trans ?_
    have := news_new w [Value.slice none 0 0, .slice none 0 0, .int .i64 0, .int .i64 0] 86 w.heap.size rfl j u (by simpa using hj)
    rwa [addr_add] at this
  refine hs.mono ?_
  clear hs
  rintro e wS ⟨vc, rfl, hbl, hbc2, hown, hbS⟩
  have hsz1 : ((w.alloc (.cells #[.slice none 0 0, .slice none 0 0, .int .i64 0, .int .i64 0] 86)).alloc (.cells #[.slice A0 l.length c0] 37)).heap.size = w.heap.size + 2 := by simp
  have hz1 : ∀ j, ((w.alloc (.cells #[.slice none 0 0, .slice none 0 0, .int .i64 0, .int .i64 0] 86)).alloc (.cells #[.slice A0 l.length c0] 37)).frozen? ⟨w.heap.size, j, none⟩ = false := fun j => by simp [go_sem]
  go_wp2_with (fail)
  obtain ⟨w1, hw1⟩ : ∃ w1, (w.alloc (.cells #[.slice none 0 0, .slice none 0 0, .int .i64 0, .int .i64 0] 86)).alloc (.cells #[.slice A0 l.length c0] 37) = w1 := ⟨_, rfl⟩
  rw [hw1] at hb1 hL1 hbc hbS hsz1 hz1
  clear hw1
  have hcsz := hbS.size
  obtain ⟨Ac, cc, hvc⟩ := own_form hown
  subst hvc
  have hbS2 : Below (w.heap.size + 2) w1 wS := hbS.mono (by omega)
  have hlow : Below w.heap.size w wS := hb1.trans (hbS.mono (by omega))
  have kS : ∀ j, wS.cell? ⟨w.heap.size, j, none⟩ = w1.cell? ⟨w.heap.size, j, none⟩ := fun j => hbS2.cell (p := ⟨w.heap.size, j, none⟩) (by show w.heap.size < _; omega)
  have zS : ∀ j, wS.frozen? ⟨w.heap.size, j, none⟩ = w1.frozen? ⟨w.heap.size, j, none⟩ := fun j => hbS2.frozen (p := ⟨w.heap.size, j, none⟩) (by show w.heap.size < _; omega)
  have hbw0 : BW w.heap.size wS.heap.size (swp (fun c => sjoin hFst (crossL l c) (crossL [] c)) []) [] 0 0 wS :=
    ⟨by omega, Nat.le_refl _, ⟨_, (kS 0).trans (hbc 0 _ rfl), World.ownsRow_nil _ _ _ _⟩, ⟨_, (kS 1).trans (hbc 1 _ rfl), World.ownsRow_nil _ _ _ _⟩, (kS 2).trans (hbc 2 _ rfl), (kS 3).trans (hbc 3 _ rfl), fun j => (zS j).trans (hz1 j), BInv.start⟩
  have hL1S := (hbS2.cell (p := ⟨w.heap.size + 1, 0, none⟩) (by show w.heap.size + 1 < _; omega)).trans hL1
  have hit := slabsItA [l] cs (w.heap.size + 3) (w.heap.size + 2) (w.heap.size + 1) 1 cc w.heap.size (w.heap.size + 4) Ac wS (lt_of_cell hbl) (lt_of_cell hbc2) (by omega) (by omega) (by omega) (by omega) (by omega) (by omega)
    hbl hbc2 hown (fun k l' hk => by
      have : k = 0 ∧ l = l' := by
        cases k with
        | zero => simpa using hk
        | succ k => simp at hk
      obtain ⟨rfl, rfl⟩ := this
      exact ⟨by omega, _, hL1S, (HR.out.below (hb1.trans (hbS.mono (by omega))))⟩) (by simp) (by simp [cutsL_len] at hcn hcl; omega)
  have hws : w.heap.size + 4 ≤ wS.heap.size := lt_of_cell hbc2
  have hI0 : MI w.heap.size wS.heap.size (fun c => sjoin hFst (crossL l c) (crossL [] c)) 1000 w [] wS := ⟨⟨[], 0, 0, hbw0, by simp, .inl rfl⟩, hlow⟩
  clear hb1 hL1 hbc hbS hsz1 hz1 hcsz hbS2 hlow kS zS hbw0 hL1S hbl hbc2 hown
  refine (wpIn_wide (n := 0)).1 ?_
  refine wp_range rfl (enters_of Try.func63 (by kernel_rfl) rfl) hit (Below.refl _ _) (fun x args A hx => by obtain ⟨Rw, rfl, _⟩ := hx; rfl) KpX.trans ?_
    (MI w.heap.size wS.heap.size (fun c => sjoin hFst (crossL l c) (crossL [] c)) 1000 w) (fun _ _ => False) (fun pre A B h hb => h.below hb) (fun pre A l o o' h hw hl ho ho' => h.putObj (by omega) hl ho ho') (fun _ _ _ _ _ h => h.elim) hI0 ?_ ?_ (fun _ _ _ _ h => h.elim)
  · intro A l o o' _ h1 h2 h3
    exact ⟨by simp, fun b off _ _ => (cell_putObj h1 h2 h3 _).1⟩
  · rintro l2 pre ⟨c, d⟩ args A hMI ⟨post, hpost⟩ ⟨Rw, rfl, hRw, hrows⟩ hl1 ⟨ol, hl2, hl3⟩
    have hll : l2 < A.heap.size := (Array.getElem?_eq_some_iff.1 hl2).1
    obtain ⟨vx, hx1, hx2⟩ := hrows 0 l rfl
    have hlo := hMI.low.size
    have hBoA : wS.heap.size ≤ A.heap.size := by obtain ⟨_, _, _, h1, _⟩ := hMI.bw; exact h1.size
    have hM := hide hMI
    have HX1 := hide hx1
    have HX2 := hide hx2
    have HL2 := hide hl2
    have HP := hide hpost
    clear hMI hrows hx1 hx2 hit hI0 hl2 hpost
    simp only [List.length_singleton]
    gi_wp2
    refine ⟨KeepsFrom.of_below' ((Below.refl _ _).alloc (Nat.le_refl _) _), KpX.below hBoA ((Below.refl _ _).alloc (Nat.le_refl _) _), ?_⟩
    intro A2 g2 s2 e2 f2
    have c20 : A2.cell? ⟨A.heap.size, 0, none⟩ = some (.int .i64 c) := (e2 _).trans (by simp [go_sem])
    have c21 : A2.cell? ⟨A.heap.size, 1, none⟩ = some (.int .i64 d) := (e2 _).trans (by simp [go_sem])
    have c22 : A2.cell? ⟨A.heap.size, 2, none⟩ = some (.slice (some ⟨Rw, 0, none⟩) 1 1) := (e2 _).trans (by simp [go_sem])
    have s3 : A2.heap.size = A.heap.size + 1 := by rw [s2]; simp
    have cRw : A2.cell? ⟨Rw, 0, none⟩ = some vx := (e2 _).trans ((World.cell?_alloc_lt A _ ⟨Rw, 0, none⟩ hRw).trans HX1.out)
    have rd : RdK encS 2 A2 A2.heap.size vx (crossL l c) := (HX2.out.keep fun b o hb => (e2 _).trans (World.cell?_alloc_lt A _ ⟨b, o, none⟩ hb)).mono (by omega)
    have M2 := (hM.out.below ((Below.refl _ _).alloc (Nat.le_refl _) (.cells #[.int .i64 c, .int .i64 d, .slice (some ⟨Rw, 0, none⟩) 1 1] 91))).grown (by omega) g2 ((Below.heap_alloc _ _ _ hll).trans HL2.out) hl3
    have hmk := spanMake_ok rd (Nat.le_trans (crossL_len l c) hl) (fun p hp => by
      obtain ⟨r, hr, rfl⟩ := List.mem_map.1 hp
      have hvr := HV.out r (List.mem_filter.1 hr).1
      exact ⟨hvr.2.1, hvr.2.2.2.2.1.1, hvr.2.2.2.2.2.2⟩)
    obtain ⟨last, first, e, B2, q1, q2⟩ := M2.bw
    have hprs := HP.out
    have hlt := prs_lt cs HC.out.1 (c, d) (by rw [hprs]; simp)
    have hnx := prs_next cs pre (c, d) post hprs
    have hplen : pre.length ≤ 800 := by
      have h1 := prs_len cs
      rw [hprs] at h1
      simp [cutsL_len] at h1 hcn
      omega
    have hfl := swp_len (fun c => sjoin hFst (crossL l c) (crossL [] c)) 1000 HG.out pre
    have hsl := HG.out c
    have hef : swp (fun c => sjoin hFst (crossL l c) (crossL [] c)) pre = [] ∨ e ≤ c := by
      rcases q2 with rfl | ⟨p, hp, rfl⟩
      · exact .inl rfl
      · exact .inr (by rw [hnx p hp]; exact Int.le_refl _)
    have hadd : ∀ (A3 : World) (Am : Option Addr) (cm : Nat), Below A2.heap.size A2 A3 → A3.ownsRow A2.heap.size 107 2 (.slice Am (sjoin hFst (crossL l c) []).length cm) (sjoin hFst (crossL l c) []).length ((sjoin hFst (crossL l c) []).flatMap encS) → _ := fun A3 Am cm hb ho =>
      add_any (s := sjoin hFst (crossL l c) []) (f := c) (t := d) (B2.below hb) (own_base ho (by omega)) (by omega) (Nat.le_trans hsl (by omega)) (by omega) hef hlt.1
    have HA := hide hadd
    have HB2 := hide B2
    have HM2 := hide M2.low
    have HR2 := hide rd
    have HN := hide hnx
    clear g2 s2 e2 f2 M2 B2 hadd rd hlt hnx hef hprs q2
    obtain ⟨av, cv, hvx, _⟩ := HR2.out
    subst hvx
    gi_wp2_with (first
      | (refine ⟨trivial, rfl, ?_⟩)
      | (gi_at_call 54; refine (CallsIn.inRound l2 (callsIn_wide.2 hmk)).mono ?_; rintro e' A3 ⟨Am, cm, rfl, ho3, hb3⟩; have d0 := (hb3.cell (p := ⟨A.heap.size, 0, none⟩) (by show A.heap.size < _; omega)).trans c20; have d1 := (hb3.cell (p := ⟨A.heap.size, 1, none⟩) (by show A.heap.size < _; omega)).trans c21; have hadd := HA.out A3 Am cm hb3 ho3; have HO3 := hide ho3; have HB3 := hide hb3; clear ho3 hb3 c20 c21 c22 cRw hmk)
      | (gi_at_call 55; refine (CallsIn.inRound l2 (callsIn_wide.2 hadd)).mono ?_; rintro e' A4 ⟨rfl, first', hbw4, hb4, hblk4, hk4⟩))
    have hb3 := HB3.out
    refine ⟨(KeepsFrom.of_below' hb3).trans (hk4.from _), (KpX.below (by omega) hb3).trans ⟨hk4.size, fun b o h1 h2 => World.cell?_of_block (w := A3) (hblk4 b h1 h2)⟩, ⟨_, first', d, by rw [swp_snoc]; exact hbw4, hsl, .inr ⟨(c, d), by simp, rfl⟩⟩, ?_⟩
    exact (HM2.out.trans (hb3.mono (by omega))).trans hb4
  · rintro D W hD hMI hK
    obtain ⟨last, first, e, hB, _, _⟩ := hMI.bw
    have hplen : (prs cs).length ≤ 800 := by
      have h1 := prs_len cs
      simp [cutsL_len] at hcn
      omega
    have hfl := swp_len (fun c => sjoin hFst (crossL l c) (crossL [] c)) 1000 HG.out (prs cs)
    have hres := result_any hB (by omega)
    rw [HF.out] at hres
    have hws2 := hB.size
    have HM := hide hMI.low
    have HK := hide hK
    have hD2 : D < W.heap.size := (Array.getElem?_eq_some_iff.1 hK).1
    clear hB hMI hfl hit hI0 hK
    simp only [Exit.inBlock, Exit.then]
    by_cases h4 : 400 < (rjoin hFst l []).length
    · have hm : madeF l = ([], 4) := if_pos h4
      have HMF := hide hm
      clear hm
      go_wp2_with (go_at_call 56; refine hres.mono ?_; rintro e' w' ⟨rfl, hq⟩; obtain rfl : e' = .returned (.tuple #[.slice none 0 0, .int .i64 4]) := hq.elim (fun q => q.2) (fun q => absurd q.1 (by omega)); clear hq)
      refine ⟨by simp, .inl ⟨_, _, rfl, run_takeDeferred HK.out, ?_⟩⟩
      refine ⟨_, results_tmp2 rfl _ _ _, ⟨none, 0, by rw [HMF.out]; rfl, by rw [HMF.out]; exact World.ownsRow_nil _ _ _ _⟩, below_putObj HM.out (by omega) _⟩
    · have hm : madeF l = (rjoin hFst l [], 0) := if_neg h4
      have HMF := hide hm
      clear hm
      generalize rjoin hFst l [] = R at *
      go_wp2_with (go_at_call 56; refine hres.mono ?_; rintro e' w' ⟨rfl, hq⟩; obtain ⟨Ar, cr, rfl, hor⟩ := hq.elim (fun q => absurd q.1 h4) (fun q => q.2); have HOR := hide hor; clear hq hor)
      refine ⟨by simp, .inl ⟨_, _, rfl, run_takeDeferred HK.out, ?_⟩⟩
      refine ⟨_, results_tmp2 rfl _ _ _, ⟨Ar, cr, by rw [HMF.out]; rfl, by rw [HMF.out]; exact own_base (own_putObj HOR.out HK.out rfl) (by omega)⟩, below_putObj HM.out (by omega) _⟩
end Go.Proofs.Ytgdlbaabdebclaa

/- slices.Equal at Region: two lists are one. -/
namespace Go.Proofs.Ytgdlbaabdebclaa
open Go.RowKit
set_option linter.unusedVariables false
set_option linter.unusedSimpArgs false

end Go.Proofs.Ytgdlbaabdebclaa

/- slices.IndexFunc and slices.ContainsFunc at the program's structs. -/
namespace Go.Proofs.Ytgdlbaabdebclaa
open Go.RowKit Go.Shelf
set_option linter.unusedVariables false
set_option linter.unusedSimpArgs false

set_option maxHeartbeats 1000000 in
/-- slices.IndexFunc here: the first place at which p holds, or -1. -/
theorem cfRect_idx {w : World} {v : Value} {l : List R4} (h : RdK encR 4 w w.heap.size v l) (hl : l.length ≤ 1000000000) (g : Nat) (lb : Array Value) (p : R4 → Bool)
    (eg : ∀ args w, (callFunc g args).run Try.prog w = .ok (.enter g args) w)
    (hp : ∀ (W : World) (x : R4), x ∈ l → Below w.heap.size w W → Calls Try.prog g (#[.agg (encR x).toArray] ++ lb) W fun e w' => e = .returned (.bool (p x)) ∧ Below W.heap.size W w') :
    Calls Try.prog 51 #[v, .func (.func g) #[] lb] w fun e w' => e = .returned (.int .i64 (idxI p l)) ∧ Below w.heap.size w w' := by
  obtain ⟨A, c, rfl, hc⟩ := h
  go_enter Try.func51, Try.ntmps51
  go_wp2
  go_loopg [5, 8] l.length (fun gg _ s8 wr => ∃ kk : Nat, kk ≤ l.length ∧ l.length - kk ≤ gg ∧ s8 = .int .i64 kk ∧ Hid (Below w.heap.size w wr) ∧ Hid (∀ x ∈ l.take kk, p x = false))
  case atStart => exact ⟨0, Nat.zero_le _, by omega, rfl, hide (Below.refl _ w), hide (by simp)⟩
  case round =>
    obtain ⟨kk, hkk, hg, rfl, BW, A'⟩ := hrel
    by_cases hlt : kk < l.length
    · have hltz : (kk : Int) < (l.length : Int) := by omega
      obtain ⟨b, off, rfl, hb, hcell⟩ := hc (by intro e; rw [e] at hlt; simp at hlt)
      have hx : l[kk]? = some l[kk] := List.getElem?_eq_getElem hlt
      have hcall := hp wr l[kk] (List.getElem_mem hlt) BW.out
      have hfi : l.take (kk + 1) = l.take kk ++ [l[kk]] := List.take_succ_eq_append_getElem hlt
      have c0 : wr.cell? ⟨b, off + kk * 4, none⟩ = some (.int .i64 l[kk].x0) := (BW.out.cell (p := ⟨b, off + kk * 4, none⟩) hb).trans (hcell kk _ hx 0 _ rfl)
      have c1 : wr.cell? ⟨b, off + kk * 4 + 1, none⟩ = some (.int .i64 l[kk].y0) := (BW.out.cell (p := ⟨b, off + kk * 4 + 1, none⟩) hb).trans (hcell kk _ hx 1 _ rfl)
      have c2 : wr.cell? ⟨b, off + kk * 4 + 2, none⟩ = some (.int .i64 l[kk].x1) := (BW.out.cell (p := ⟨b, off + kk * 4 + 2, none⟩) hb).trans (hcell kk _ hx 2 _ rfl)
      have c3 : wr.cell? ⟨b, off + kk * 4 + 3, none⟩ = some (.int .i64 l[kk].y1) := (BW.out.cell (p := ⟨b, off + kk * 4 + 3, none⟩) hb).trans (hcell kk _ hx 3 _ rfl)
      clear hc hcell hp
      obtain ⟨x, hxe⟩ : ∃ x, l[kk] = x := ⟨_, rfl⟩
      have XE := hide hxe
      have FI := hide hfi
      rw [hxe] at hcall c0 c1 c2 c3
      clear hx hxe hfi
      cases hq : p x with
      | true =>
        have HQ := hide hq
        rw [hq] at hcall
        clear hq
        go_wp2_with (go_at_fn g; refine hcall.mono ?_; rintro e w' ⟨rfl, hb'⟩)
        go_ret
        refine ⟨ret_eq (int_eq ?_), BW.out.trans (hb'.mono BW.out.size)⟩
        have hxl : p l[kk] = true := by rw [XE.out]; exact HQ.out
        unfold idxI
        rw [if_pos (List.any_eq_true.2 ⟨l[kk], List.getElem_mem hlt, hxl⟩)]
        have : l.findIdx p = kk := by
          rw [List.findIdx_eq hlt]
          refine ⟨hxl, fun j hj => ?_⟩
          have := A'.out l[j] (by rw [List.mem_take_iff_getElem]; exact ⟨j, by omega, rfl⟩)
          simpa using this
        rw [this]
      | false =>
        have HQ := hide hq
        rw [hq] at hcall
        clear hq
        go_wp2_with (go_at_fn g; refine hcall.mono ?_; rintro e w' ⟨rfl, hb'⟩)
        go_roundg (l.length - (kk + 1))
        case measure => omega
        case rel =>
          refine ⟨kk + 1, by omega, by omega, by go_num, hide (BW.out.trans (hb'.mono BW.out.size)), hide fun y hy => ?_⟩
          rw [FI.out, List.mem_append] at hy
          rcases hy with hy | hy
          · exact A'.out y hy
          · simp only [List.mem_singleton] at hy
            rw [hy, XE.out]; exact HQ.out
    · have hltz : ¬ (kk : Int) < (l.length : Int) := by omega
      have hk : kk = l.length := by omega
      go_wp2
      go_ret
      refine ⟨ret_eq (int_eq ?_), BW.out⟩
      have hA := A'.out
      rw [hk, List.take_length] at hA
      unfold idxI
      rw [if_neg (by rw [List.any_eq_true]; rintro ⟨y, hy, hpy⟩; rw [hA y hy] at hpy; cases hpy)]

set_option maxHeartbeats 400000 in
/-- slices.ContainsFunc here. -/
theorem cfRect_any {w : World} {v : Value} {l : List R4} (h : RdK encR 4 w w.heap.size v l) (hl : l.length ≤ 1000000000) (g : Nat) (lb : Array Value) (p : R4 → Bool)
    (eg : ∀ args w, (callFunc g args).run Try.prog w = .ok (.enter g args) w)
    (hp : ∀ (W : World) (x : R4), x ∈ l → Below w.heap.size w W → Calls Try.prog g (#[.agg (encR x).toArray] ++ lb) W fun e w' => e = .returned (.bool (p x)) ∧ Below W.heap.size W w') :
    Calls Try.prog 37 #[v, .func (.func g) #[] lb] w fun e w' => e = .returned (.bool (l.any p)) ∧ Below w.heap.size w w' := by
  have hi := cfRect_idx h hl g lb p eg hp
  obtain ⟨A, c, rfl, hc⟩ := h
  clear hp hc eg
  cases ha : l.any p with
  | true =>
    simp only [idxI, ha, if_true] at hi
    clear ha
    obtain ⟨n, hn⟩ : ∃ n, l.findIdx p = n := ⟨_, rfl⟩
    rw [hn] at hi
    clear hn
    have hn0 : decide ((0 : Int) ≤ (n : Int)) = true := by simp
    go_enter Try.func37, Try.ntmps37
    go_wp2_with (go_at_call 51; refine hi.mono ?_; rintro e w1 ⟨rfl, hb1⟩)
    go_ret
    exact ⟨rfl, hb1⟩
  | false =>
    simp only [idxI, ha, Bool.false_eq_true, if_false] at hi
    clear ha
    go_enter Try.func37, Try.ntmps37
    go_wp2_with (go_at_call 51; refine hi.mono ?_; rintro e w1 ⟨rfl, hb1⟩)
    go_ret
    exact ⟨rfl, hb1⟩
end Go.Proofs.Ytgdlbaabdebclaa

/- slices.IndexFunc and slices.ContainsFunc at the program's structs. -/
namespace Go.Proofs.Ytgdlbaabdebclaa
open Go.RowKit Go.Shelf
set_option linter.unusedVariables false
set_option linter.unusedSimpArgs false

end Go.Proofs.Ytgdlbaabdebclaa

/- region.Make, region.Check, region.Has, region.Same, region.Area. -/
namespace Go.Proofs.Ytgdlbaabdebclaa
open Go.RowKit
set_option linter.unusedVariables false
set_option linter.unusedSimpArgs false

def makeF (l : List R4) : List R4 × Int := if 400 < l.length then ([], 4) else if l.any (fun r => !decide (valid4 r)) then ([], 8) else madeF l
def checkF (l : List R4) : Int := if 400 < l.length then 4 else if l.any (fun r => !decide (valid4 r)) then 8 else if (madeF l).2 = 0 ∧ (madeF l).1 = l then 0 else 8
def area4 (r : R4) : Int := (r.x1 - r.x0) * (r.y1 - r.y0)
def areaS (l : List R4) : Int := (l.map area4).sum
def areaF (l : List R4) : Int × Int := if checkF l = 0 then (areaS l, 0) else (0, checkF l)

theorem all_valid {l : List R4} (h : l.any (fun r => !decide (valid4 r)) = false) : ∀ r ∈ l, valid4 r := by
  intro r hr
  have := List.any_eq_false.1 h r hr
  simpa using this
theorem madeF_code (l : List R4) : (madeF l).2 = 0 ∨ (madeF l).2 = 4 := by
  unfold madeF
  split
  · exact .inr rfl
  · exact .inl rfl
theorem RegRet.mono {B B' : Nat} {x : List R4 × Int} {e : Ending} {w' : World} (h : RegRet B' x e w') (hb : B ≤ B') : RegRet B x e w' := by
  obtain ⟨A, c, h1, h2⟩ := h
  exact ⟨A, c, h1, own_base h2 hb⟩

set_option maxHeartbeats 1000000 in
theorem mkInv_any (r : R4) (w : World) :
    Calls Try.prog 38 #[.agg (encR r).toArray] w fun e w' => e = .returned (.bool (!decide (valid4 r))) ∧ Below w.heap.size w w' := by
  have hv := fun W => valid_any r W
  obtain ⟨a, b, c, d⟩ := r
  generalize decide (valid4 ⟨a, b, c, d⟩) = r at hv ⊢
  show Calls Try.prog 38 #[.agg #[.int .i64 a, .int .i64 b, .int .i64 c, .int .i64 d]] w _
  change ∀ W, Calls Try.prog 39 #[.agg #[.int .i64 a, .int .i64 b, .int .i64 c, .int .i64 d]] W _ at hv
  go_enter Try.func38, Try.ntmps38
  go_wp2_with (go_at_call 39; refine (hv _).mono ?_; rintro e w1 ⟨rfl, hb⟩)
  go_ret
  exact ⟨rfl, ((Below.refl _ _).alloc (Nat.le_refl _) _).trans (hb.mono (by simp))⟩
theorem enter_mkInv : ∀ args w, (callFunc 38 args).run Try.prog w = .ok (.enter 38 args) w := enters_of Try.func38 (by kernel_rfl) rfl
set_option maxHeartbeats 1000000 in
/-- **region.Make.** -/
theorem make_any {w : World} {v : Value} {l : List R4} (hr : RdK encR 4 w w.heap.size v l) (hl : l.length ≤ 100000000) :
    Calls Try.prog 17 #[v] w fun e w' => RegRet w.heap.size (makeF l) e w' ∧ Below w.heap.size w w' := by
  have hcf := cfRect_any hr (by omega) 38 #[] (fun r => !decide (valid4 r)) enter_mkInv (fun W x _ _ => mkInv_any x W)
  obtain ⟨A, c, hv, _⟩ := id hr
  subst hv
  have HR := hide hr
  have HCF := hide hcf
  clear hcf hr
  by_cases h4 : 400 < l.length
  · have hz : (400 : Int) < (l.length : Int) := by omega
    have hm : makeF l = ([], 4) := if_pos h4
    have HM := hide hm
    clear hm
    go_enter Try.func17, Try.ntmps17
    go_wp2
    go_ret2
    exact ⟨⟨none, 0, by rw [HM.out]; rfl, by rw [HM.out]; exact World.ownsRow_nil _ _ _ _⟩, Below.refl _ _⟩
  · have hz : (l.length : Int) ≤ 400 := by omega
    cases ha : l.any (fun r => !decide (valid4 r)) with
    | true =>
      have hm : makeF l = ([], 8) := by unfold makeF; rw [if_neg h4, ha]; rfl
      rw [ha] at HCF
      have HM := hide hm
      clear hm ha
      go_enter Try.func17, Try.ntmps17
      go_wp2_with (first
        | (go_at_call 37; refine HCF.out.mono ?_; rintro e w1 ⟨rfl, hb1⟩))
      go_ret2
      exact ⟨⟨none, 0, by rw [HM.out]; rfl, by rw [HM.out]; exact World.ownsRow_nil _ _ _ _⟩, hb1⟩
    | false =>
      have hm : makeF l = madeF l := by unfold makeF; rw [if_neg h4, ha]; rfl
      have HV := hide (all_valid ha)
      rw [ha] at HCF
      have HM := hide hm
      clear hm ha
      go_enter Try.func17, Try.ntmps17
      go_wp2_with (first
        | (go_at_call 37; refine HCF.out.mono ?_; rintro e w1 ⟨rfl, hb1⟩)
        | (go_at_call 40; refine (made_any ((HR.out.below hb1).mono hb1.size) (by omega) HV.out).mono ?_; rintro e w2 ⟨⟨A2, c2, rfl, ho2⟩, hb2⟩; have HO := hide ho2; clear ho2))
      go_ret2
      exact ⟨⟨A2, c2, by rw [HM.out]; rfl, by rw [HM.out]; exact own_base HO.out hb1.size⟩, hb1.trans (hb2.mono hb1.size)⟩

theorem any_pmem (l : List R4) (x y : Int) : l.any (fun r => decide (rin r x y)) = decide (pmem l x y) := by
  rw [Bool.eq_iff_iff, List.any_eq_true, decide_eq_true_iff]
  simp [pmem]
theorem areaS_take {l : List R4} {m : Nat} {r : R4} (h : l[m]? = some r) : areaS (l.take (m + 1)) = areaS (l.take m) + area4 r := by
  obtain ⟨hm, hp⟩ := List.getElem?_eq_some_iff.1 h
  rw [List.take_succ_eq_append_getElem hm, hp]
  simp [areaS]
theorem area4_bd {r : R4} (h : valid4 r) : 0 ≤ area4 r ∧ area4 r ≤ 4000000000000 := by
  obtain ⟨h1, h2, ⟨a, b⟩, ⟨c, d⟩, ⟨e, f⟩, ⟨g, i⟩⟩ := h
  unfold area4
  have k1 : 0 ≤ r.x1 - r.x0 := by omega
  have k2 : 0 ≤ r.y1 - r.y0 := by omega
  refine ⟨Int.mul_nonneg k1 k2, ?_⟩
  have := Int.mul_le_mul (show r.x1 - r.x0 ≤ 2000000 by omega) (show r.y1 - r.y0 ≤ 2000000 by omega) k2 (by omega)
  omega
theorem areaS_bd : ∀ {l : List R4}, (∀ r ∈ l, valid4 r) → 0 ≤ areaS l ∧ areaS l ≤ 4000000000000 * l.length
  | [], _ => by simp [areaS]
  | r :: l, h => by
    have h1 := areaS_bd (l := l) fun r hr => h r (by simp [hr])
    have h2 := area4_bd (h r (by simp))
    have e : areaS (r :: l) = area4 r + areaS l := by simp [areaS]
    rw [e, List.length_cons]
    omega
theorem checkF_ok {l : List R4} (h : checkF l = 0) : l.length ≤ 400 ∧ (∀ r ∈ l, valid4 r) ∧ madeF l = (l, 0) := by
  unfold checkF at h
  by_cases h4 : 400 < l.length
  · rw [if_pos h4] at h; simp at h
  rw [if_neg h4] at h
  cases ha : l.any (fun r => !decide (valid4 r)) with
  | true => rw [ha] at h; simp at h
  | false =>
    rw [ha] at h
    refine ⟨by omega, all_valid ha, ?_⟩
    by_cases hm : (madeF l).2 = 0 ∧ (madeF l).1 = l
    · exact Prod.ext hm.2 hm.1
    · simp [hm] at h
end Go.Proofs.Ytgdlbaabdebclaa

/- A list of rectangles that has just been written out is read as a list. -/
namespace Go.Proofs.Ytgdlbaabdebclaa
open Go.RowKit
set_option linter.unusedVariables false
set_option linter.unusedSimpArgs false

theorem rd_lit (w : World) (l : List R4) (t : TypeId) (c : Nat) : RdK encR 4 (w.alloc (.cells (l.flatMap encR).toArray t)) (w.alloc (.cells (l.flatMap encR).toArray t)).heap.size (.slice (some ⟨w.heap.size, 0, none⟩) l.length c) l := by
  refine ⟨_, c, rfl, fun _ => ⟨w.heap.size, 0, rfl, by simp, fun j x hx i u hu => ?_⟩⟩
  have := news_new w (l.flatMap encR) t w.heap.size rfl _ _ (flat_get (k := 4) (fun _ => rfl) l j x i u hx hu)
  rw [addr_add] at this
  rwa [Nat.zero_add]
theorem rd_lit_at {w : World} {B : Nat} (hB : w.heap.size = B) (l : List R4) (t : TypeId) (c : Nat) : RdK encR 4 (w.alloc (.cells (l.flatMap encR).toArray t)) (w.alloc (.cells (l.flatMap encR).toArray t)).heap.size (.slice (some ⟨B, 0, none⟩) l.length c) l := by
  subst hB
  exact rd_lit w l t c
end Go.Proofs.Ytgdlbaabdebclaa

/- The walks of parcel's small functions. -/
namespace Go.Proofs.Ytgdlbaabdebclaa
open Go.RowKit
set_option linter.unusedVariables false
set_option linter.unusedSimpArgs false

def encL (l : Lot5) : List Value := [.int .i64 l.r.x0, .int .i64 l.r.y0, .int .i64 l.r.x1, .int .i64 l.r.y1, .int .u8 l.f]
def encP (p : Pl3) : List Value := [.int .i64 p.mf, .int .i64 p.ms, .int .i64 p.ma]
set_option maxHeartbeats 1000000 in
theorem width_any (l : Lot5) (h : okR l.r) (w : World) : Calls Try.prog 48 #[.agg (encL l).toArray] w fun e w' => e = .returned (.int .i64 l.w) ∧ Below w.heap.size w w' := by
  obtain ⟨⟨x0, y0, x1, y1⟩, f⟩ := l
  simp only [okR, inR] at h
  obtain ⟨h1, h2, ⟨h3, h4⟩, ⟨h5, h6⟩, ⟨h7, h8⟩, ⟨h9, h10⟩⟩ := h
  show Calls Try.prog _ #[.agg #[.int .i64 x0, .int .i64 y0, .int .i64 x1, .int .i64 y1, .int .u8 f]] w fun e w' => e = .returned (.int .i64 (x1 - x0)) ∧ Below w.heap.size w w'
  go_enter Try.func48, Try.ntmps48
  go_wp2
  go_ret
  exact ⟨rfl, (Below.refl _ _).alloc (Nat.le_refl _) _⟩
set_option maxHeartbeats 1000000 in
theorem height_any (l : Lot5) (h : okR l.r) (w : World) : Calls Try.prog 49 #[.agg (encL l).toArray] w fun e w' => e = .returned (.int .i64 l.h) ∧ Below w.heap.size w w' := by
  obtain ⟨⟨x0, y0, x1, y1⟩, f⟩ := l
  simp only [okR, inR] at h
  obtain ⟨h1, h2, ⟨h3, h4⟩, ⟨h5, h6⟩, ⟨h7, h8⟩, ⟨h9, h10⟩⟩ := h
  show Calls Try.prog _ #[.agg #[.int .i64 x0, .int .i64 y0, .int .i64 x1, .int .i64 y1, .int .u8 f]] w fun e w' => e = .returned (.int .i64 (y1 - y0)) ∧ Below w.heap.size w w'
  go_enter Try.func49, Try.ntmps49
  go_wp2
  go_ret
  exact ⟨rfl, (Below.refl _ _).alloc (Nat.le_refl _) _⟩
theorem make_one (r : R4) : (makeF [r]).2 = if okR r then 0 else 8 := by
  by_cases h : okR r
  · rw [if_pos h]
    have hv : valid4 r := by simp only [okR, inR] at h; simp only [valid4, fineP]; exact h
    have hw : ∀ s ∈ [r], wf4 s := fun s hs => by rw [List.mem_singleton] at hs; subst hs; exact ⟨hv.1, hv.2.1⟩
    have hc : RCan [r] := ⟨[⟨r.x0, r.x1, [(r.y0, r.y1)]⟩], ⟨hv.1, by simp, by simp [SCan]; exact hv.2.1⟩, by simp [flat, flat1]⟩
    have e : rjoin hFst [r] [] = [r] := (rjoin_eq (h := hFst) rfl hw (by simp) hc fun x y => by simp [hFst]).symm
    unfold makeF madeF
    rw [e]
    simp [hv]
  · rw [if_neg h]
    have hv : ¬ valid4 r := fun g => h (by simp only [valid4, fineP] at g; simp only [okR, inR]; exact g)
    unfold makeF
    simp [hv]
set_option maxHeartbeats 2000000 in
theorem pvalid_any (l : Lot5) (hf : 0 ≤ l.f ∧ l.f ≤ 255) (w : World) : Calls Try.prog 43 #[.agg (encL l).toArray] w fun e w' => e = .returned (.bool (decide (validL l))) ∧ Below w.heap.size w w' := by
  obtain ⟨⟨x0, y0, x1, y1⟩, f⟩ := l
  obtain ⟨f1, f2⟩ := hf
  simp only at f1 f2
  have hm := fun (W : World) (v : Value) (r : RdK encR 4 W W.heap.size v [⟨x0, y0, x1, y1⟩]) => make_any r (by simp)
  have h2 := make_one ⟨x0, y0, x1, y1⟩
  generalize makeF [⟨x0, y0, x1, y1⟩] = M at *
  obtain ⟨M1, M2⟩ := M
  simp only at h2
  subst h2
  have HM := hide hm
  clear hm
  show Calls Try.prog _ #[.agg #[.int .i64 x0, .int .i64 y0, .int .i64 x1, .int .i64 y1, .int .u8 f]] w _
  by_cases hv : okR ⟨x0, y0, x1, y1⟩
  · rw [if_pos hv] at HM
    have HVL : Hid (∀ b : Bool, ((1 ≤ f ∧ f ≤ 15) ↔ b = true) → decide (validL ⟨⟨x0, y0, x1, y1⟩, f⟩) = b) := hide (fun b hb => by
      cases b with
      | true => exact decide_eq_true ⟨hv, (hb.2 rfl)⟩
      | false => exact decide_eq_false (fun h => Bool.false_ne_true (hb.1 h.2)))
    clear hv
    go_enter Try.func43, Try.ntmps43
    go_wp2_with (fail)
    obtain ⟨W, hW⟩ : ∃ x, x = (w.alloc (.cells #[.int .i64 x0, .int .i64 y0, .int .i64 x1, .int .i64 y1, .int .u8 f] 65)).alloc (.cells #[.int .i64 x0, .int .i64 y0, .int .i64 x1, .int .i64 y1] 23) := ⟨_, rfl⟩
    rw [← hW]
    have hb0 : Below w.heap.size w W := by rw [hW]; exact ((Below.refl _ _).alloc (Nat.le_refl _) _).alloc (by simp) _
    have hs0 : w.heap.size < W.heap.size := by rw [hW]; simp; omega
    have b4 : W.cell? ⟨w.heap.size, 4, none⟩ = some (.int .u8 f) := by rw [hW]; simp [go_sem]
    have hr : RdK encR 4 W W.heap.size (.slice (some ⟨w.heap.size + 1, 0, none⟩) 1 1) [⟨x0, y0, x1, y1⟩] := by
      rw [hW]
      exact rd_lit_at (by simp) [⟨x0, y0, x1, y1⟩] 23 1
    have HB0 := hide hb0
    have HS0 := hide hs0
    have HB4 := hide b4
    have HR := hide hr
    clear hW hb0 b4 hr hs0
    refine (HM.out _ _ HR.out).mono ?_
    rintro e w1 ⟨⟨A1, c1, rfl, _⟩, hb⟩
    have d4 := (hb.cell (p := ⟨w.heap.size, 4, none⟩) HS0.out).trans HB4.out
    have HB1 := hide (HB0.out.trans (hb.mono HB0.out.size))
    clear hb
    go_wp2_with (fail)
    all_goals
      go_ret
      refine ⟨ret_eq (bool_eq ?_), HB1.out⟩
      exact (HVL.out _ (by simp; omega)).symm
  · rw [if_neg hv] at HM
    have hnv : decide (validL ⟨⟨x0, y0, x1, y1⟩, f⟩) = false := decide_eq_false (fun h => hv h.1)
    have HNV := hide hnv
    clear hv hnv
    go_enter Try.func43, Try.ntmps43
    go_wp2_with (fail)
    obtain ⟨W, hW⟩ : ∃ x, x = (w.alloc (.cells #[.int .i64 x0, .int .i64 y0, .int .i64 x1, .int .i64 y1, .int .u8 f] 65)).alloc (.cells #[.int .i64 x0, .int .i64 y0, .int .i64 x1, .int .i64 y1] 23) := ⟨_, rfl⟩
    rw [← hW]
    have hb0 : Below w.heap.size w W := by rw [hW]; exact ((Below.refl _ _).alloc (Nat.le_refl _) _).alloc (by simp) _
    have hr : RdK encR 4 W W.heap.size (.slice (some ⟨w.heap.size + 1, 0, none⟩) 1 1) [⟨x0, y0, x1, y1⟩] := by
      rw [hW]
      exact rd_lit_at (by simp) [⟨x0, y0, x1, y1⟩] 23 1
    have HB0 := hide hb0
    have HR := hide hr
    clear hW hb0 hr
    refine (HM.out _ _ HR.out).mono ?_
    rintro e w1 ⟨⟨A1, c1, rfl, _⟩, hb⟩
    have HB1 := hide (HB0.out.trans (hb.mono HB0.out.size))
    clear hb
    go_wp2_with (fail)
    go_ret
    exact ⟨ret_eq (bool_eq HNV.out.symm), HB1.out⟩
end Go.Proofs.Ytgdlbaabdebclaa

/- The walk of parcel's longest side. -/
namespace Go.Proofs.Ytgdlbaabdebclaa
open Go.RowKit
set_option linter.unusedVariables false
set_option linter.unusedSimpArgs false

theorem bits_has : ∀ n ∈ List.range 16, ∀ s ∈ ([1, 2, 4, 8] : List Int), (bits .and .u8 (n : Int) s != 0) = hasS (n : Int) s := by decide
theorem bits_less : ∀ n ∈ List.range 16, ∀ s ∈ ([1, 2, 4, 8] : List Int), bits .andNot .u8 (n : Int) s = lessS (n : Int) s := by decide
theorem bit_has {f s : Int} (h : 0 ≤ f ∧ f ≤ 15) (hs : isSide s) : (bits .and .u8 f s != 0) = hasS f s := by
  obtain ⟨n, hn, rfl⟩ := f16 h
  exact bits_has n hn s (side_mem hs)
theorem bit_less {f s : Int} (h : 0 ≤ f ∧ f ≤ 15) (hs : isSide s) : bits .andNot .u8 f s = lessS f s := by
  obtain ⟨n, hn, rfl⟩ := f16 h
  exact bits_less n hn s (side_mem hs)
theorem grown_store {w wr w6 : World} {bo : Nat} (h : w.grownBy wr (some bo)) (hb : Below wr.heap.size wr w6) (v : Value) : w.grownBy (w6.setCell ⟨bo, 0, none⟩ v) (some bo) :=
  ⟨hb.os.trans h.os, hb.tape.trans h.tape, hb.output.trans h.output, by have := h.size; have := hb.size; simp [World.setCell]; omega, fun k hk hne => (Below.heap_setCell _ _ _ _ (fun e => hne (by rw [e]))).trans ((hb.block k (by have := h.size; omega)).trans (h.block k hk hne))⟩
/-- What stands in the closure's variable after so many sides. -/
def accS (h1 h2 : Bool) (n0 n : Int) : Nat → Int
  | 0 => n0
  | 1 => if h1 = true then max n0 n else n0
  | _ => if h2 = true then max (if h1 = true then max n0 n else n0) n else (if h1 = true then max n0 n else n0)
set_option maxRecDepth 100000 in
set_option maxHeartbeats 8000000 in
theorem side_any {w : World} {F bs bl bo : Nat} {s1 s2 n n0 f : Int} {c : Nat} {x0 y0 x1 y1 : Int} (h1 h2 : Bool) (hF : F = 48 ∨ F = 49)
    (hcall : ∀ W : World, Calls Try.prog F #[.agg #[.int .i64 x0, .int .i64 y0, .int .i64 x1, .int .i64 y1, .int .u8 f]] W fun e w' => e = .returned (.int .i64 n) ∧ Below W.heap.size W w')
    (b0 : w.cell? ⟨bl, 0, none⟩ = some (.int .i64 x0)) (b1 : w.cell? ⟨bl, 1, none⟩ = some (.int .i64 y0)) (b2 : w.cell? ⟨bl, 2, none⟩ = some (.int .i64 x1)) (b3 : w.cell? ⟨bl, 3, none⟩ = some (.int .i64 y1)) (b4 : w.cell? ⟨bl, 4, none⟩ = some (.int .u8 f))
    (c1 : w.cell? ⟨bs, 0, none⟩ = some (.int .u8 s1)) (c2 : w.cell? ⟨bs, 1, none⟩ = some (.int .u8 s2)) (o0 : w.cell? ⟨bo, 0, none⟩ = some (.int .i64 n0)) (o1 : w.frozen? ⟨bo, 0, none⟩ = false) (hbl : bl ≠ bo) (hbs : bs ≠ bo)
    (t1 : (bits .and .u8 f s1 != 0) = h1) (t2 : (bits .and .u8 f s2 != 0) = h2) :
    Calls Try.prog 57 #[.func (.func F) #[] #[], .slice (some ⟨bs, 0, none⟩) 2 c, .pointer (some ⟨bl, 0, none⟩), .pointer (some ⟨bo, 0, none⟩)] w fun e w' => e = .returned (.tuple #[]) ∧ w.grownBy w' (some bo) ∧ w'.cell? ⟨bo, 0, none⟩ = some (.int .i64 (accS h1 h2 n0 n 2)) ∧ w'.frozen? ⟨bo, 0, none⟩ = false := by
  have hlo := lt_of_cell o0
  have HC := hide hcall
  have HLO := hide hlo
  have HN1 := hide hbl
  have HN2 := hide hbs
  have B0 := hide b0
  have B1 := hide b1
  have B2 := hide b2
  have B3 := hide b3
  have B4 := hide b4
  have C1 := hide c1
  have C2 := hide c2
  have O0 := hide o0
  have O1 := hide o1
  have T1 := hide t1
  have T2 := hide t2
  clear hcall hlo hbl hbs b0 b1 b2 b3 b4 c1 c2 o0 o1 t1 t2
  rcases hF with rfl | rfl
  all_goals
    go_enter Try.func57, Try.ntmps57
    go_wp2
    go_loopw [10] (fun i wr => ∃ m : Nat, m ≤ 2 ∧ i = .int .i64 m ∧ Hid (w.grownBy wr (some bo)) ∧ Hid (wr.cell? ⟨bo, 0, none⟩ = some (.int .i64 (accS h1 h2 n0 n m))) ∧ Hid (wr.frozen? ⟨bo, 0, none⟩ = false)) (fun i _ => 2 - (intOf i).toNat)
    case atStart => exact ⟨0, by omega, rfl, hide ⟨rfl, rfl, rfl, Nat.le_refl _, fun _ _ _ => rfl⟩, O0, O1⟩
    case round =>
      obtain ⟨m, hm, rfl, HB, HO, HZ⟩ := hrel
      have k0 := HB.out.cell B0.out (fun e => HN1.out (by injection e))
      have k1 := HB.out.cell B1.out (fun e => HN1.out (by injection e))
      have k2 := HB.out.cell B2.out (fun e => HN1.out (by injection e))
      have k3 := HB.out.cell B3.out (fun e => HN1.out (by injection e))
      have k4 := HB.out.cell B4.out (fun e => HN1.out (by injection e))
      have j1 := HB.out.cell C1.out (fun e => HN2.out (by injection e))
      have j2 := HB.out.cell C2.out (fun e => HN2.out (by injection e))
      have hbow : bo < wr.heap.size := by have := HB.out.size; have := HLO.out; omega
      have hblw := lt_of_cell k0
      have hm3 : m = 0 ∨ m = 1 ∨ m = 2 := by omega
      rcases hm3 with rfl | rfl | rfl
      · have hacc : accS h1 h2 n0 n 1 = if h1 = true then max (accS h1 h2 n0 n 0) n else accS h1 h2 n0 n 0 := rfl
        have HACC := hide hacc
        clear hacc
        generalize accS h1 h2 n0 n 0 = q at *
        have u1 := T1.out
        have zz : ((0 : Nat) : Int) = 0 := rfl
        have o0 := HO.out
        have o1 := HZ.out
        clear j2
        cases h1 with
        | false =>
          have HO2 := hide (show wr.cell? ⟨bo, 0, none⟩ = some (.int .i64 (accS false h2 n0 n 1)) by rw [HACC.out]; exact HO.out)
          go_wp2
          go_roundw
          case rel => exact ⟨1, by omega, by go_num, HB, HO2, HZ⟩
          case measure => simp [intOf]
        | true =>
          go_wp2
          refine wp_region_mix [0, 1, 2] [3, 4, 5] (fun w' => (w'.cell? ⟨bo, 0, none⟩ = some (.int .i64 q) ∧ w'.frozen? ⟨bo, 0, none⟩ = false) ∧ (w'.cell? ⟨bl, 0, none⟩ = some (.int .i64 x0) ∧ w'.cell? ⟨bl, 1, none⟩ = some (.int .i64 y0) ∧ w'.cell? ⟨bl, 2, none⟩ = some (.int .i64 x1) ∧ w'.cell? ⟨bl, 3, none⟩ = some (.int .i64 y1) ∧ w'.cell? ⟨bl, 4, none⟩ = some (.int .u8 f))) (by kernel_rfl) (by kernel_rfl) ⟨⟨o0, o1⟩, k0, k1, k2, k3, k4⟩ ?_
          simp only [List.map_cons, List.map_nil, opAt, List.getElem?_cons_succ, List.getElem?_cons_zero, Option.getD_some]
          iterate 3
            refine ⟨?_, Or.inl ⟨by rfl, ?_⟩, ?_⟩
            rotate_left 1
            · intro w' hSw
              obtain ⟨⟨z0, z1⟩, z2, z3, z4, z5, z6⟩ := hSw
              go_simp
              first | done | with_reducible rfl
            simp only [Act.put, List.setIfInBounds_toArray, List.set_cons_zero, List.set_cons_succ]
          simp only [wpReads]
          intro K hK
          simp only [Act.put, List.setIfInBounds_toArray, List.set_cons_zero, List.set_cons_succ] at hK ⊢
          go_simp
          refine (HC.out _).mono ?_
          rintro e w6 ⟨rfl, hb'⟩
          have hb : Below wr.heap.size wr w6 := (Below.refl _ _).drew.trans hb'
          have p0 := (hb.cell (p := ⟨bl, 0, none⟩) hblw).trans k0
          have p1 := (hb.cell (p := ⟨bl, 1, none⟩) hblw).trans k1
          have p2 := (hb.cell (p := ⟨bl, 2, none⟩) hblw).trans k2
          have p3 := (hb.cell (p := ⟨bl, 3, none⟩) hblw).trans k3
          have p4 := (hb.cell (p := ⟨bl, 4, none⟩) hblw).trans k4
          have q0 := (hb.cell (p := ⟨bo, 0, none⟩) hbow).trans o0
          have q1 := (hb.frozen (p := ⟨bo, 0, none⟩) hbow).trans o1
          have HB6 := hide hb
          have hs6 := hb.size
          clear hb hb' k0 k1 k2 k3 k4 o0 o1
          refine hK _ _ (fun _ => ⟨⟨q0, q1⟩, p0, p1, p2, p3, p4⟩) ?_
          clear hK K
          intro K hK
          simp only [Act.put, List.setIfInBounds_toArray, List.set_cons_zero, List.set_cons_succ] at hK ⊢
          go_simp
          refine hK _ _ (fun _ => ⟨⟨q0, q1⟩, p0, p1, p2, p3, p4⟩) ?_
          clear hK K
          intro K hK
          simp only [Act.put, List.setIfInBounds_toArray, List.set_cons_zero, List.set_cons_succ] at hK ⊢
          go_simp
          refine hK _ _ (fun h => absurd rfl h) ?_
          clear hK K
          refine NoPanic.normal ?_
          have HB7 := hide (grown_store HB.out HB6.out (.int .i64 (max q n)))
          have HO7 := hide (show (w6.setCell ⟨bo, 0, none⟩ (.int .i64 (max q n))).cell? ⟨bo, 0, none⟩ = some (.int .i64 (accS true h2 n0 n 1)) by rw [HACC.out]; simp [go_sem, q0])
          have HZ7 := hide (show (w6.setCell ⟨bo, 0, none⟩ (.int .i64 (max q n))).frozen? ⟨bo, 0, none⟩ = false by rw [World.frozen?_setCell]; exact q1)
          clear p0 p1 p2 p3 p4 q0 q1
          go_wp2
          go_roundw
          case rel => exact ⟨1, by omega, by go_num, HB7, HO7, HZ7⟩
          case measure => simp [intOf]
      · have hacc : accS h1 h2 n0 n 2 = if h2 = true then max (accS h1 h2 n0 n 1) n else accS h1 h2 n0 n 1 := rfl
        have HACC := hide hacc
        clear hacc
        generalize accS h1 h2 n0 n 1 = q at *
        have u1 := T2.out
        have zz : ((1 : Nat) : Int) = 1 := rfl
        have o0 := HO.out
        have o1 := HZ.out
        clear j1
        cases h2 with
        | false =>
          have HO2 := hide (show wr.cell? ⟨bo, 0, none⟩ = some (.int .i64 (accS h1 false n0 n 2)) by rw [HACC.out]; exact HO.out)
          go_wp2
          go_roundw
          case rel => exact ⟨2, by omega, by go_num, HB, HO2, HZ⟩
          case measure => simp [intOf]
        | true =>
          go_wp2
          refine wp_region_mix [0, 1, 2] [3, 4, 5] (fun w' => (w'.cell? ⟨bo, 0, none⟩ = some (.int .i64 q) ∧ w'.frozen? ⟨bo, 0, none⟩ = false) ∧ (w'.cell? ⟨bl, 0, none⟩ = some (.int .i64 x0) ∧ w'.cell? ⟨bl, 1, none⟩ = some (.int .i64 y0) ∧ w'.cell? ⟨bl, 2, none⟩ = some (.int .i64 x1) ∧ w'.cell? ⟨bl, 3, none⟩ = some (.int .i64 y1) ∧ w'.cell? ⟨bl, 4, none⟩ = some (.int .u8 f))) (by kernel_rfl) (by kernel_rfl) ⟨⟨o0, o1⟩, k0, k1, k2, k3, k4⟩ ?_
          simp only [List.map_cons, List.map_nil, opAt, List.getElem?_cons_succ, List.getElem?_cons_zero, Option.getD_some]
          iterate 3
            refine ⟨?_, Or.inl ⟨by rfl, ?_⟩, ?_⟩
            rotate_left 1
            · intro w' hSw
              obtain ⟨⟨z0, z1⟩, z2, z3, z4, z5, z6⟩ := hSw
              go_simp
              first | done | with_reducible rfl
            simp only [Act.put, List.setIfInBounds_toArray, List.set_cons_zero, List.set_cons_succ]
          simp only [wpReads]
          intro K hK
          simp only [Act.put, List.setIfInBounds_toArray, List.set_cons_zero, List.set_cons_succ] at hK ⊢
          go_simp
          refine (HC.out _).mono ?_
          rintro e w6 ⟨rfl, hb'⟩
          have hb : Below wr.heap.size wr w6 := (Below.refl _ _).drew.trans hb'
          have p0 := (hb.cell (p := ⟨bl, 0, none⟩) hblw).trans k0
          have p1 := (hb.cell (p := ⟨bl, 1, none⟩) hblw).trans k1
          have p2 := (hb.cell (p := ⟨bl, 2, none⟩) hblw).trans k2
          have p3 := (hb.cell (p := ⟨bl, 3, none⟩) hblw).trans k3
          have p4 := (hb.cell (p := ⟨bl, 4, none⟩) hblw).trans k4
          have q0 := (hb.cell (p := ⟨bo, 0, none⟩) hbow).trans o0
          have q1 := (hb.frozen (p := ⟨bo, 0, none⟩) hbow).trans o1
          have HB6 := hide hb
          have hs6 := hb.size
          clear hb hb' k0 k1 k2 k3 k4 o0 o1
          refine hK _ _ (fun _ => ⟨⟨q0, q1⟩, p0, p1, p2, p3, p4⟩) ?_
          clear hK K
          intro K hK
          simp only [Act.put, List.setIfInBounds_toArray, List.set_cons_zero, List.set_cons_succ] at hK ⊢
          go_simp
          refine hK _ _ (fun _ => ⟨⟨q0, q1⟩, p0, p1, p2, p3, p4⟩) ?_
          clear hK K
          intro K hK
          simp only [Act.put, List.setIfInBounds_toArray, List.set_cons_zero, List.set_cons_succ] at hK ⊢
          go_simp
          refine hK _ _ (fun h => absurd rfl h) ?_
          clear hK K
          refine NoPanic.normal ?_
          have HB7 := hide (grown_store HB.out HB6.out (.int .i64 (max q n)))
          have HO7 := hide (show (w6.setCell ⟨bo, 0, none⟩ (.int .i64 (max q n))).cell? ⟨bo, 0, none⟩ = some (.int .i64 (accS h1 true n0 n 2)) by rw [HACC.out]; simp [go_sem, q0])
          have HZ7 := hide (show (w6.setCell ⟨bo, 0, none⟩ (.int .i64 (max q n))).frozen? ⟨bo, 0, none⟩ = false by rw [World.frozen?_setCell]; exact q1)
          clear p0 p1 p2 p3 p4 q0 q1
          go_wp2
          go_roundw
          case rel => exact ⟨2, by omega, by go_num, HB7, HO7, HZ7⟩
          case measure => simp [intOf]
      · have zz : ((2 : Nat) : Int) = 2 := rfl
        go_wp2
        go_end0
        exact ⟨rfl, HB.out, HO.out, HZ.out⟩
theorem acc_side (h1 h2 : Bool) (n0 n : Int) (h0 : 0 ≤ n0) (hn : 0 ≤ n) : accS h1 h2 n0 n 2 = max n0 (if h1 = true ∨ h2 = true then n else 0) := by
  unfold accS
  cases h1 <;> cases h2 <;> simp <;> omega
theorem acc_long {l : Lot5} (h : validL l) : accS (hasS l.f 4) (hasS l.f 8) (accS (hasS l.f 1) (hasS l.f 2) 0 l.h 2) l.w 2 = longL l := by
  have hp := valid_pos h
  have e1 := acc_side (hasS l.f 1) (hasS l.f 2) 0 l.h (by omega) (by omega)
  have h0 : 0 ≤ (if hasS l.f 1 = true ∨ hasS l.f 2 = true then l.h else 0) := by split <;> omega
  rw [acc_side (hasS l.f 4) (hasS l.f 8) _ l.w (by rw [e1]; omega) (by omega), e1]
  unfold longL
  omega
set_option maxRecDepth 100000 in
set_option maxHeartbeats 4000000 in
theorem longest_any (l : Lot5) (h : validL l) (w : World) : Calls Try.prog 44 #[.agg (encL l).toArray] w fun e w' => e = .returned (.int .i64 (longL l)) ∧ Below w.heap.size w w' := by
  have HHE := hide (fun W => height_any l h.1 W)
  have HWI := hide (fun W => width_any l h.1 W)
  have hf : 0 ≤ l.f ∧ l.f ≤ 15 := by have := h.2; omega
  have T1 := hide (bit_has hf (s := 1) (.inl rfl))
  have T2 := hide (bit_has hf (s := 2) (.inr (.inl rfl)))
  have T4 := hide (bit_has hf (s := 4) (.inr (.inr (.inl rfl))))
  have T8 := hide (bit_has hf (s := 8) (.inr (.inr (.inr rfl))))
  have HL := hide (acc_long h)
  clear h hf
  generalize longL l = L at *
  generalize l.h = hh at *
  generalize l.w = ww at *
  obtain ⟨⟨x0, y0, x1, y1⟩, f⟩ := l
  show Calls Try.prog _ #[.agg #[.int .i64 x0, .int .i64 y0, .int .i64 x1, .int .i64 y1, .int .u8 f]] w _
  go_enter Try.func44, Try.ntmps44
  go_wp2_with (fail)
  obtain ⟨W, hW⟩ : ∃ x, x = ((w.alloc (.cells #[.int .i64 x0, .int .i64 y0, .int .i64 x1, .int .i64 y1, .int .u8 f] 65)).alloc (.cells #[.int .i64 0] 3)).alloc (.cells #[.int .u8 1, .int .u8 2] 5) := ⟨_, rfl⟩
  rw [← hW]
  have hb0 : Below w.heap.size w W := by rw [hW]; exact (((Below.refl _ _).alloc (Nat.le_refl _) _).alloc (by simp) _).alloc (by simp; omega) _
  have hs0 : w.heap.size + 1 + 1 < W.heap.size := by rw [hW]; simp
  have b0 : W.cell? ⟨w.heap.size, 0, none⟩ = some (.int .i64 x0) := by rw [hW]; simp [go_sem]
  have b1 : W.cell? ⟨w.heap.size, 1, none⟩ = some (.int .i64 y0) := by rw [hW]; simp [go_sem]
  have b2 : W.cell? ⟨w.heap.size, 2, none⟩ = some (.int .i64 x1) := by rw [hW]; simp [go_sem]
  have b3 : W.cell? ⟨w.heap.size, 3, none⟩ = some (.int .i64 y1) := by rw [hW]; simp [go_sem]
  have b4 : W.cell? ⟨w.heap.size, 4, none⟩ = some (.int .u8 f) := by rw [hW]; simp [go_sem]
  have o0 : W.cell? ⟨w.heap.size + 1, 0, none⟩ = some (.int .i64 0) := by rw [hW]; simp [go_sem]
  have o1 : W.frozen? ⟨w.heap.size + 1, 0, none⟩ = false := by rw [hW]; simp [go_sem]
  have c1 : W.cell? ⟨w.heap.size + 1 + 1, 0, none⟩ = some (.int .u8 1) := by rw [hW]; simp [go_sem]
  have c2 : W.cell? ⟨w.heap.size + 1 + 1, 1, none⟩ = some (.int .u8 2) := by rw [hW]; simp [go_sem]
  have hcall := side_any (w := W) (F := 49) (bs := w.heap.size + 1 + 1) (bl := w.heap.size) (bo := w.heap.size + 1) (c := 2) _ _ (.inr rfl) HHE.out b0 b1 b2 b3 b4 c1 c2 o0 o1 (by omega) (by omega) T1.out T2.out
  have HCA := hide hcall
  have B0 := hide b0
  have B1 := hide b1
  have B2 := hide b2
  have B3 := hide b3
  have B4 := hide b4
  have K0 := hide hb0
  have HS := hide hs0
  clear hW hcall b0 b1 b2 b3 b4 c1 c2 o0 o1 hb0 hs0
  refine HCA.out.mono ?_
  rintro e w2 ⟨rfl, hg, ho, hz⟩
  have HG := hide hg
  have HO := hide ho
  have HZ := hide hz
  clear hg ho hz
  go_wp2_with (fail)
  obtain ⟨W2, hW2⟩ : ∃ x, x = w2.alloc (.cells #[.int .u8 4, .int .u8 8] 5) := ⟨_, rfl⟩
  rw [← hW2]
  have hs2 := HG.out.size
  have hs1 := HS.out
  have hk : ∀ p : Addr, p.block < w2.heap.size → W2.cell? p = w2.cell? p := fun p hp => by rw [hW2]; exact World.cell?_alloc_lt w2 _ p hp
  have ne0 : some w.heap.size ≠ some (w.heap.size + 1) := fun e => by injection e with e; omega
  have b0 := (hk ⟨w.heap.size, 0, none⟩ (by show w.heap.size < _; omega)).trans (HG.out.cell B0.out ne0)
  have b1 := (hk ⟨w.heap.size, 1, none⟩ (by show w.heap.size < _; omega)).trans (HG.out.cell B1.out ne0)
  have b2 := (hk ⟨w.heap.size, 2, none⟩ (by show w.heap.size < _; omega)).trans (HG.out.cell B2.out ne0)
  have b3 := (hk ⟨w.heap.size, 3, none⟩ (by show w.heap.size < _; omega)).trans (HG.out.cell B3.out ne0)
  have b4 := (hk ⟨w.heap.size, 4, none⟩ (by show w.heap.size < _; omega)).trans (HG.out.cell B4.out ne0)
  have o0 := (hk ⟨w.heap.size + 1, 0, none⟩ (by show w.heap.size + 1 < _; omega)).trans HO.out
  have o1 : W2.frozen? ⟨w.heap.size + 1, 0, none⟩ = false := by rw [hW2]; exact (((Below.refl w2.heap.size w2).alloc (Nat.le_refl _) _).frozen (p := ⟨w.heap.size + 1, 0, none⟩) (by show w.heap.size + 1 < _; omega)).trans HZ.out
  have c1 : W2.cell? ⟨w2.heap.size, 0, none⟩ = some (.int .u8 4) := by rw [hW2]; simp [go_sem]
  have c2 : W2.cell? ⟨w2.heap.size, 1, none⟩ = some (.int .u8 8) := by rw [hW2]; simp [go_sem]
  have hcall := side_any (w := W2) (F := 48) (bs := w2.heap.size) (bl := w.heap.size) (bo := w.heap.size + 1) (c := 2) _ _ (.inl rfl) HWI.out b0 b1 b2 b3 b4 c1 c2 o0 o1 (by omega) (by omega) T4.out T8.out
  have HCB := hide hcall
  have K2 : Hid (Below w.heap.size w W2) := hide (by
    rw [hW2]
    exact (K0.out.grown HG.out (by omega) (fun q hq => by injection hq with hq; omega)).alloc (by omega) _)
  have hsW : w2.heap.size < W2.heap.size := by rw [hW2]; simp
  have HSW := hide hsW
  clear hW2 hcall hk ne0 b0 b1 b2 b3 b4 c1 c2 o0 o1 hsW
  refine HCB.out.mono ?_
  rintro e w3 ⟨rfl, hg, ho, hz⟩
  rw [HL.out] at ho
  have K3 : Hid (Below w.heap.size w w3) := hide (K2.out.grown hg (by have := HSW.out; omega) (fun q hq => by injection hq with hq; omega))
  clear hg hz hs1 hs2
  go_wp2_with (fail)
  go_ret
  exact ⟨rfl, K3.out⟩
end Go.Proofs.Ytgdlbaabdebclaa

/- The walks of parcel.good, Check, Good and Front. -/
namespace Go.Proofs.Ytgdlbaabdebclaa
open Go.RowKit
set_option linter.unusedVariables false
set_option linter.unusedSimpArgs false

set_option maxRecDepth 100000 in
set_option maxHeartbeats 4000000 in
theorem good_any (l : Lot5) (p : Pl3) (hf : 0 ≤ l.f ∧ l.f ≤ 255) (w : World) : Calls Try.prog 41 #[.agg (encL l).toArray, .agg (encP p).toArray] w fun e w' => e = .returned (.bool (decide (goodL p l))) ∧ Below w.heap.size w w' := by
  have hpv := fun W => pvalid_any l hf W
  by_cases hv : validL l
  · rw [decide_eq_true hv] at hpv
    have HPV := hide hpv
    have HLO := hide (fun W => longest_any l hv W)
    have HHE := hide (fun W => height_any l hv.1 W)
    have HWI := hide (fun W => width_any l hv.1 W)
    have HG : Hid (∀ b : Bool, ((p.mf ≤ longL l ∧ p.ms ≤ min l.w l.h) ↔ b = true) → decide (goodL p l) = b) := hide (fun b hb => by
      have e : goodL p l ↔ b = true := by
        rw [← hb]
        unfold goodL
        constructor
        · rintro ⟨_, h1, h2, h3⟩; exact ⟨h1, by omega⟩
        · rintro ⟨h1, h2⟩; exact ⟨hv, h1, by omega, by omega⟩
      cases b with
      | true => exact decide_eq_true (e.2 rfl)
      | false => exact decide_eq_false (fun h => Bool.false_ne_true (e.1 h)))
    generalize longL l = L at *
    generalize l.h = hh at *
    generalize l.w = ww at *
    generalize decide (goodL p l) = G at *
    clear hpv hv hf
    obtain ⟨⟨x0, y0, x1, y1⟩, f⟩ := l
    obtain ⟨mf, ms, ma⟩ := p
    show Calls Try.prog _ #[.agg #[.int .i64 x0, .int .i64 y0, .int .i64 x1, .int .i64 y1, .int .u8 f], .agg #[.int .i64 mf, .int .i64 ms, .int .i64 ma]] w _
    simp only [encL] at HPV HLO HHE HWI
    simp only at HG
    by_cases h1 : mf ≤ L
    · have d1 : decide (mf ≤ L) = true := decide_eq_true h1
      by_cases h2 : ms ≤ min ww hh
      · have d2 : decide (ms ≤ min ww hh) = true := decide_eq_true h2
        have HGG := hide (HG.out true ⟨fun _ => rfl, fun _ => ⟨h1, h2⟩⟩)
        clear HG h1 h2
        go_enter Try.func41, Try.ntmps41
        go_wp2
        refine wp_hab fun hab => ?_
        refine wp_region_above (by kernel_rfl) (by kernel_rfl) ?_
        repeat (go_big_quiet_step (((first | (go_at_call 43; exact above_of (HPV.out _)) | (go_at_call 44; exact above_of (HLO.out _)) | (go_at_call 48; exact above_of (HWI.out _)) | (go_at_call 49; exact above_of (HHE.out _))))))
        refine wpQuiet_nil ?_
        refine above_ends fun w3 hb3 => ?_
        clear hab
        have HB := hide ((((Below.refl w.heap.size w).alloc (Nat.le_refl _) (.cells #[.int .i64 x0, .int .i64 y0, .int .i64 x1, .int .i64 y1, .int .u8 f] 65)).alloc (by simp) (.cells #[.int .i64 mf, .int .i64 ms, .int .i64 ma] 27)).trans (hb3.mono (by simp; omega)))
        clear hb3
        go_wp2_with (fail)
        go_ret
        exact ⟨ret_eq (bool_eq HGG.out.symm), HB.out⟩
      · have d2 : decide (ms ≤ min ww hh) = false := decide_eq_false h2
        have HGG := hide (HG.out false ⟨fun h => absurd h.2 h2, fun h => by cases h⟩)
        clear HG h1 h2
        go_enter Try.func41, Try.ntmps41
        go_wp2
        refine wp_hab fun hab => ?_
        refine wp_region_above (by kernel_rfl) (by kernel_rfl) ?_
        repeat (go_big_quiet_step (((first | (go_at_call 43; exact above_of (HPV.out _)) | (go_at_call 44; exact above_of (HLO.out _)) | (go_at_call 48; exact above_of (HWI.out _)) | (go_at_call 49; exact above_of (HHE.out _))))))
        refine wpQuiet_nil ?_
        refine above_ends fun w3 hb3 => ?_
        clear hab
        have HB := hide ((((Below.refl w.heap.size w).alloc (Nat.le_refl _) (.cells #[.int .i64 x0, .int .i64 y0, .int .i64 x1, .int .i64 y1, .int .u8 f] 65)).alloc (by simp) (.cells #[.int .i64 mf, .int .i64 ms, .int .i64 ma] 27)).trans (hb3.mono (by simp; omega)))
        clear hb3
        go_wp2_with (fail)
        go_ret
        exact ⟨ret_eq (bool_eq HGG.out.symm), HB.out⟩
    · have d1 : decide (mf ≤ L) = false := decide_eq_false h1
      have HGG := hide (HG.out false ⟨fun h => absurd h.1 h1, fun h => by cases h⟩)
      clear HG h1
      go_enter Try.func41, Try.ntmps41
      go_wp2
      refine wp_hab fun hab => ?_
      refine wp_region_above (by kernel_rfl) (by kernel_rfl) ?_
      repeat (go_big_quiet_step (((first | (go_at_call 43; exact above_of (HPV.out _)) | (go_at_call 44; exact above_of (HLO.out _)) | (go_at_call 48; exact above_of (HWI.out _)) | (go_at_call 49; exact above_of (HHE.out _))))))
      refine wpQuiet_nil ?_
      refine above_ends fun w3 hb3 => ?_
      clear hab
      have HB := hide ((((Below.refl w.heap.size w).alloc (Nat.le_refl _) (.cells #[.int .i64 x0, .int .i64 y0, .int .i64 x1, .int .i64 y1, .int .u8 f] 65)).alloc (by simp) (.cells #[.int .i64 mf, .int .i64 ms, .int .i64 ma] 27)).trans (hb3.mono (by simp; omega)))
      clear hb3
      go_wp2_with (fail)
      go_ret
      exact ⟨ret_eq (bool_eq HGG.out.symm), HB.out⟩
  · rw [decide_eq_false hv] at hpv
    have HPV := hide hpv
    have HGG := hide (decide_eq_false (fun h => hv h.1) : decide (goodL p l) = false)
    generalize decide (goodL p l) = G at *
    clear hpv hv hf
    obtain ⟨⟨x0, y0, x1, y1⟩, f⟩ := l
    obtain ⟨mf, ms, ma⟩ := p
    show Calls Try.prog _ #[.agg #[.int .i64 x0, .int .i64 y0, .int .i64 x1, .int .i64 y1, .int .u8 f], .agg #[.int .i64 mf, .int .i64 ms, .int .i64 ma]] w _
    simp only [encL] at HPV
    go_enter Try.func41, Try.ntmps41
    go_wp2
    refine wp_hab fun hab => ?_
    refine wp_region_above (by kernel_rfl) (by kernel_rfl) ?_
    repeat (go_big_quiet_step (((go_at_call 43; exact above_of (HPV.out _)))))
    refine wpQuiet_nil ?_
    refine above_ends fun w3 hb3 => ?_
    clear hab
    have HB := hide ((((Below.refl w.heap.size w).alloc (Nat.le_refl _) (.cells #[.int .i64 x0, .int .i64 y0, .int .i64 x1, .int .i64 y1, .int .u8 f] 65)).alloc (by simp) (.cells #[.int .i64 mf, .int .i64 ms, .int .i64 ma] 27)).trans (hb3.mono (by simp; omega)))
    clear hb3
    go_wp2_with (fail)
    go_ret
    exact ⟨ret_eq (bool_eq HGG.out.symm), HB.out⟩

def okP (p : Pl3) : Prop := 1 ≤ p.mf ∧ p.mf ≤ 1000000 ∧ 1 ≤ p.ms ∧ p.ms ≤ 1000000 ∧ 1 ≤ p.ma ∧ p.ma ≤ 1000000000000
instance (p : Pl3) : Decidable (okP p) := by unfold okP; infer_instance
def checkL (l : Lot5) (p : Pl3) : Int := if validL l then (if okP p then 0 else 2) else 8
set_option maxRecDepth 100000 in
set_option maxHeartbeats 4000000 in
theorem checkL_any (l : Lot5) (p : Pl3) (hf : 0 ≤ l.f ∧ l.f ≤ 255) (w : World) : Calls Try.prog 25 #[.agg (encL l).toArray, .agg (encP p).toArray] w fun e w' => e = .returned (.int .i64 (checkL l p)) ∧ Below w.heap.size w w' := by
  have hpv := fun W => pvalid_any l hf W
  by_cases hv : validL l
  · rw [decide_eq_true hv] at hpv
    have HPV := hide hpv
    have HC : Hid (∀ b : Int, ((okP p → b = 0) ∧ (¬ okP p → b = 2)) → checkL l p = b) := hide (fun b hb => by
      unfold checkL
      rw [if_pos hv]
      by_cases h : okP p
      · rw [if_pos h, hb.1 h]
      · rw [if_neg h, hb.2 h])
    generalize checkL l p = C at *
    clear hpv hv hf
    obtain ⟨⟨x0, y0, x1, y1⟩, f⟩ := l
    obtain ⟨mf, ms, ma⟩ := p
    show Calls Try.prog _ #[.agg #[.int .i64 x0, .int .i64 y0, .int .i64 x1, .int .i64 y1, .int .u8 f], .agg #[.int .i64 mf, .int .i64 ms, .int .i64 ma]] w _
    simp only [encL] at HPV
    simp only [okP] at HC
    go_enter Try.func25, Try.ntmps25
    go_wp2_with (fail)
    obtain ⟨W, hW⟩ : ∃ x, x = (w.alloc (.cells #[.int .i64 x0, .int .i64 y0, .int .i64 x1, .int .i64 y1, .int .u8 f] 25)).alloc (.cells #[.int .i64 mf, .int .i64 ms, .int .i64 ma] 27) := ⟨_, rfl⟩
    rw [← hW]
    have hb0 : Below w.heap.size w W := by rw [hW]; exact ((Below.refl _ _).alloc (Nat.le_refl _) _).alloc (by simp) _
    have hs0 : w.heap.size + 1 < W.heap.size := by rw [hW]; simp
    have b0 : W.cell? ⟨w.heap.size + 1, 0, none⟩ = some (.int .i64 mf) := by rw [hW]; simp [go_sem]
    have b1 : W.cell? ⟨w.heap.size + 1, 1, none⟩ = some (.int .i64 ms) := by rw [hW]; simp [go_sem]
    have b2 : W.cell? ⟨w.heap.size + 1, 2, none⟩ = some (.int .i64 ma) := by rw [hW]; simp [go_sem]
    have HS := hide hs0
    have B0 := hide b0
    have B1 := hide b1
    have B2 := hide b2
    have K0 := hide hb0
    clear hW hb0 hs0 b0 b1 b2
    refine (HPV.out _).mono ?_
    rintro e w1 ⟨rfl, hb⟩
    have d0 := (hb.cell (p := ⟨w.heap.size + 1, 0, none⟩) HS.out).trans B0.out
    have d1 := (hb.cell (p := ⟨w.heap.size + 1, 1, none⟩) HS.out).trans B1.out
    have d2 := (hb.cell (p := ⟨w.heap.size + 1, 2, none⟩) HS.out).trans B2.out
    have K1 := hide (K0.out.trans (hb.mono K0.out.size))
    clear hb
    go_wp2_with (fail)
    all_goals
      go_ret
      refine ⟨ret_eq (int_eq (HC.out _ ?_).symm), K1.out⟩
      first
        | exact ⟨fun _ => rfl, fun h => absurd (by omega) h⟩
        | exact ⟨fun h => absurd h (by omega), fun _ => rfl⟩
  · rw [decide_eq_false hv] at hpv
    have HPV := hide hpv
    have hc8 : checkL l p = 8 := if_neg hv
    have HC := hide hc8
    clear hc8
    generalize checkL l p = C at *
    clear hpv hv hf
    obtain ⟨⟨x0, y0, x1, y1⟩, f⟩ := l
    obtain ⟨mf, ms, ma⟩ := p
    show Calls Try.prog _ #[.agg #[.int .i64 x0, .int .i64 y0, .int .i64 x1, .int .i64 y1, .int .u8 f], .agg #[.int .i64 mf, .int .i64 ms, .int .i64 ma]] w _
    simp only [encL] at HPV
    go_enter Try.func25, Try.ntmps25
    go_wp2_with (fail)
    refine (HPV.out _).mono ?_
    rintro e w1 ⟨rfl, hb⟩
    have K1 := hide ((((Below.refl w.heap.size w).alloc (Nat.le_refl _) (.cells #[.int .i64 x0, .int .i64 y0, .int .i64 x1, .int .i64 y1, .int .u8 f] 25)).alloc (by simp) (.cells #[.int .i64 mf, .int .i64 ms, .int .i64 ma] 27)).trans (hb.mono (by simp; omega)))
    clear hb
    go_wp2_with (fail)
    go_ret
    exact ⟨ret_eq (int_eq HC.out.symm), K1.out⟩
end Go.Proofs.Ytgdlbaabdebclaa
