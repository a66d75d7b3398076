/- Texts laid together: Add, MMade, Made, EqR, IdxA, IdxB, Chk, StrC. Lemmas for the statements of this seat; no condition. -/
import Derived.Test.YtdolpeljengpaaaGreatPk4
import Derived.Test.YtdolpeljengpaaaGreatPk3
import Derived.RangeFuncOwn
import Derived.Test.YtdolpeljengpaaaGreatPk1
import Derived.Laws.StructEq
import Derived.Deep.QuietTactic
import Derived.BigQuiet
import Derived.Deep.LoopGhost
import Derived.Shelf.Abstract

/- builder.add: one more slab. -/
namespace Go.Proofs.YtdolpeljengpaaaGreat
open Go.RowKit
set_option linter.unusedVariables false
set_option linter.unusedSimpArgs false

theorem own_below {w w1 : World} {B : Nat} {e : TypeId} {size : Nat} {v : Value} {n : Nat} {xs : List Value} (h : w.ownsRow B e size v n xs) (hb : Below w.heap.size w w1) : w1.ownsRow B e size v n xs := by
  refine ⟨h.1, ?_⟩
  rcases h.2 with hn | ⟨g, cap, cur, hv, hg, hh, r⟩
  · exact .inl hn
  · exact .inr ⟨g, cap, cur, hv, hg, (hb.block g (Array.getElem?_eq_some_iff.1 hh).1).trans hh, r⟩
theorem own_apart {w : World} {B B' : Nat} {e e' : TypeId} {size size' : Nat} {v v' : Value} {n n' : Nat} {xs xs' : List Value} (h : w.ownsRow B e size v n xs) (h' : w.ownsRow B' e' size' v' n' xs') (hne : e ≠ e') : v.ownBlock = none ∨ v.ownBlock ≠ v'.ownBlock := by
  rcases h.2 with ⟨rfl, _⟩ | ⟨g, cap, cur, rfl, _, hg, _⟩
  · exact .inl rfl
  · right
    intro he
    rcases h'.2 with ⟨rfl, _⟩ | ⟨g', cap', cur', rfl, _, hg', _⟩
    · simp [Value.ownBlock] at he
    · simp [Value.ownBlock] at he
      subst he
      rw [hg] at hg'
      injection hg' with hg'
      injection hg' with _ h2
      exact hne h2
theorem grown_refl (w : World) (row : Option Nat) : w.grownBy w row := ⟨rfl, rfl, rfl, Nat.le_refl _, fun _ _ _ => rfl⟩
theorem infoRc : (Tryz.prog.info? 69).map (fun i => (i.zero, i.size, i.bytes)) = some (some (.agg #[.int .i64 0, .int .i64 0, .int .i64 0, .int .i64 0]), 4, 32) := by kernel_rfl
/-- 'l[k].X1 = t', cell by cell. -/
theorem flat_set (t : Int) : ∀ (l : List R4) (k : Nat) (r : R4), l[k]? = some r → (l.flatMap encR).set (k * 4 + 2) (.int .i64 t) = (l.set k { r with x1 := t }).flatMap encR
  | [], k, r, h => by simp at h
  | a :: l, 0, r, h => by
    simp at h; subst h
    rfl
  | a :: l, k + 1, r, h => by
    have := flat_set t l k r (by simpa using h)
    rw [List.set_cons_succ, List.flatMap_cons, List.flatMap_cons, ← this, List.set_append_right _ _ (by show 4 ≤ _; omega)]
    congr 2
    show (k + 1) * 4 + 2 - 4 = _
    omega
/-- The rectangles from place m on, up to place k, end at t. -/
def upTo (t : Int) (m k : Nat) (l : List R4) : List R4 := l.mapIdx fun i r => if m ≤ i ∧ i < k then { r with x1 := t } else r
theorem upTo_len (t : Int) (m k : Nat) (l : List R4) : (upTo t m k l).length = l.length := by simp [upTo]
theorem upTo_start (t : Int) (m : Nat) (l : List R4) : upTo t m m l = l := by
  apply List.ext_getElem?
  intro i
  simp only [upTo, List.getElem?_mapIdx]
  cases l[i]? with
  | none => rfl
  | some r => simp; omega
theorem upTo_step (t : Int) (m k : Nat) (l : List R4) (r : R4) (hm : m ≤ k) (h : (upTo t m k l)[k]? = some r) : (upTo t m k l).set k { r with x1 := t } = upTo t m (k + 1) l := by
  apply List.ext_getElem?
  intro i
  rw [List.getElem?_set]
  have hk : k < (upTo t m k l).length := (List.getElem?_eq_some_iff.1 h).1
  by_cases hik : k = i
  · subst hik
    rw [if_pos rfl, if_pos hk]
    simp only [upTo, List.getElem?_mapIdx] at h ⊢
    cases hl : l[k]? with
    | none => rw [hl] at h; simp at h
    | some q =>
      rw [hl] at h
      simp at h
      subst h
      simp [hm]
  · rw [if_neg hik]
    simp only [upTo, List.getElem?_mapIdx]
    cases l[i]? with
    | none => rfl
    | some q =>
      have : (m ≤ i ∧ i < k) ↔ (m ≤ i ∧ i < k + 1) := by omega
      simp only [Option.map_some]
      by_cases hc : m ≤ i ∧ i < k
      · rw [if_pos hc, if_pos (this.1 hc)]
      · rw [if_neg hc, if_neg (fun g => hc (this.2 g))]
theorem upTo_end (S0 : List Slab) (f0 e t : Int) (s : List Sp) : upTo t (flat S0).length (flat (S0 ++ [⟨f0, e, s⟩])).length (flat (S0 ++ [⟨f0, e, s⟩])) = flat (S0 ++ [⟨f0, t, s⟩]) := by
  rw [flat_append, flat_one, flat_append, flat_one]
  apply List.ext_getElem?
  intro i
  simp only [upTo, List.getElem?_mapIdx, List.length_append]
  by_cases hi : i < (flat S0).length
  · rw [List.getElem?_append_left hi, List.getElem?_append_left hi]
    cases (flat S0)[i]? with
    | none => rfl
    | some q => simp; omega
  · rw [List.getElem?_append_right (by omega), List.getElem?_append_right (by omega)]
    simp only [flat1, List.getElem?_map, List.length_map]
    cases hq : s[i - (flat S0).length]? with
    | none => rfl
    | some q =>
      have := (List.getElem?_eq_some_iff.1 hq).1
      simp only [Option.map_some]
      rw [if_pos (by omega)]

/-- In the builder's second loop: the rectangles put out so far are L. -/
structure AddR (bb Bo : Nat) (w0 : World) (L : List R4) (vs : Value) (s : List Sp) (n : Nat) (t : Int) (wr : World) : Prop where
  low : bb < Bo
  size : Bo ≤ wr.heap.size
  out : ∃ vo, wr.cell? ⟨bb, 0, none⟩ = some vo ∧ wr.ownsRow Bo 69 4 vo L.length (L.flatMap encR)
  c1 : wr.cell? ⟨bb, 1, none⟩ = some vs
  c2 : wr.cell? ⟨bb, 2, none⟩ = some (.int .i64 n)
  c3 : wr.cell? ⟨bb, 3, none⟩ = some (.int .i64 t)
  fz : ∀ j, wr.frozen? ⟨bb, j, none⟩ = false
  own : wr.ownsRow Bo 188 2 vs s.length (s.flatMap encS)
  os : wr.os = w0.os
  tape : wr.tape = w0.tape
  output : wr.output = w0.output
  grow : w0.heap.size ≤ wr.heap.size
  block : ∀ q, q < Bo → q ≠ bb → wr.heap[q]? = w0.heap[q]?
  keep : KeepsOthers w0 wr
theorem keeps_below {w w1 : World} (h : Below w.heap.size w w1) : KeepsOthers w w1 := ⟨h.size, fun k o hk _ => (h.block k (Array.getElem?_eq_some_iff.1 hk).1).trans hk⟩
theorem own_cells {w : World} {B : Nat} {e : TypeId} {size : Nat} {v : Value} {n : Nat} {xs : List Value} (h : w.ownsRow B e size v n xs) : ∀ (j : Nat) (o : Obj), v.ownBlock = some j → w.heap[j]? = some o → o.isCells = true := by
  intro j o hj ho
  rcases h.2 with ⟨rfl, _⟩ | ⟨g, cap, cur, rfl, _, hg, _⟩
  · simp [Value.ownBlock] at hj
  · simp [Value.ownBlock] at hj
    subst hj
    rw [hg] at ho
    injection ho with ho
    subst ho; rfl
theorem AddR.start {bb Bo : Nat} {S : List Slab} {last s : List Sp} {first : Nat} {e t : Int} {vs : Value} {w w1 : World} (h : BW bb Bo S last first e w) (hb : Below w.heap.size w w1) (hs : w.ownsRow Bo 188 2 vs s.length (s.flatMap encS)) :
    AddR bb Bo w (flat S) vs s (flat S).length t (((w1.setCell ⟨bb, 2, none⟩ (.int .i64 ((flat S).length : Nat))).setCell ⟨bb, 1, none⟩ vs).setCell ⟨bb, 3, none⟩ (.int .i64 t)) := by
  have hlow := h.low
  have hbs : bb < w.heap.size := Nat.lt_of_lt_of_le h.low h.size
  obtain ⟨vo, o1, o2⟩ := h.out
  obtain ⟨vl, l1, l2⟩ := h.la
  have hc : ∀ o, w1.cell? ⟨bb, o, none⟩ = w.cell? ⟨bb, o, none⟩ := fun o => hb.cell (p := ⟨bb, o, none⟩) hbs
  have hf : ∀ o, w1.frozen? ⟨bb, o, none⟩ = w.frozen? ⟨bb, o, none⟩ := fun o => hb.frozen (p := ⟨bb, o, none⟩) hbs
  have c2 := h.fi
  have c3 := h.en
  refine ⟨hlow, ?_, ⟨vo, by simp [go_sem, hc, o1], ownsRow_setCell_below (ownsRow_setCell_below (ownsRow_setCell_below (own_below o2 hb) hlow _) hlow _) hlow _⟩, by simp [go_sem, hc, l1], by simp [go_sem, hc, c2], by simp [go_sem, hc, c3], fun j => ?_,
    ownsRow_setCell_below (ownsRow_setCell_below (ownsRow_setCell_below (own_below hs hb) hlow _) hlow _) hlow _, hb.os, hb.tape, hb.output, ?_, fun q h1 h2 => ?_, (((keeps_below hb).trans (KeepsOthers.setCell _ _ _)).trans (KeepsOthers.setCell _ _ _)).trans (KeepsOthers.setCell _ _ _)⟩
  · have := hb.size; have := h.size; simp [World.setCell]; omega
  · rw [World.frozen?_setCell, World.frozen?_setCell, World.frozen?_setCell, hf]; exact h.fz j
  · have := hb.size; simp [World.setCell]; omega
  · have := h.size
    exact (Below.heap_setCell _ _ _ _ h2).trans ((Below.heap_setCell _ _ _ _ h2).trans ((Below.heap_setCell _ _ _ _ h2).trans (hb.block q (by omega))))
/-- One rectangle more: behind the append, and behind the store into the builder's field. -/
theorem AddR.push {bb Bo : Nat} {w0 wr wa w2 : World} {L : List R4} {r : R4} {vs vo v2 : Value} {s : List Sp} {n k : Nat} {t : Int} (h : AddR bb Bo w0 L vs s n t wr) (hvo : wr.cell? ⟨bb, 0, none⟩ = some vo) (how : wr.ownsRow Bo 69 4 vo L.length (L.flatMap encR))
    (ha : Below wr.heap.size wr wa) (hg : wa.grownBy w2 vo.ownBlock) (hown2 : w2.ownsRow Bo 69 4 v2 k ((L ++ [r]).flatMap encR)) :
    w2.cell? ⟨bb, 0, none⟩ = some vo ∧ w2.frozen? ⟨bb, 0, none⟩ = false ∧ Hid (AddR bb Bo w0 (L ++ [r]) vs s n t (w2.setCell ⟨bb, 0, none⟩ v2)) := by
  have hlow := h.low
  have hsz := h.size
  have hB : Below Bo wr w2 := (ha.mono hsz).grown hg (Nat.le_trans hsz ha.size) fun q hq => (how.lt q hq).1
  have hc : ∀ o, w2.cell? ⟨bb, o, none⟩ = wr.cell? ⟨bb, o, none⟩ := fun o => hB.cell (p := ⟨bb, o, none⟩) hlow
  have hf : ∀ o, w2.frozen? ⟨bb, o, none⟩ = wr.frozen? ⟨bb, o, none⟩ := fun o => hB.frozen (p := ⟨bb, o, none⟩) hlow
  have k0 := (hc 0).trans hvo
  have hk := own_len (k := 4) hown2 (fun _ => rfl) (by omega)
  subst hk
  refine ⟨k0, (hf 0).trans (h.fz 0), hide ⟨hlow, ?_, ⟨v2, by simp [go_sem, k0], ownsRow_setCell_below hown2 hlow _⟩, ?_, ?_, ?_, fun j => ?_, ownsRow_setCell_below ((own_below h.own ha).kept hg ?_) hlow _, hB.os.trans h.os, hB.tape.trans h.tape, hB.output.trans h.output, ?_, fun q h1 h2 => ?_, ((h.keep.trans (keeps_below ha)).trans (KeepsOthers.of_grownBy hg fun j o hj ho => ?_)).trans (KeepsOthers.setCell _ _ _)⟩⟩
  · have := hB.size; simp [World.setCell]; omega
  · simp [go_sem, hc, h.c1]
  · simp [go_sem, hc, h.c2]
  · simp [go_sem, hc, h.c3]
  · rw [World.frozen?_setCell, hf]; exact h.fz j
  · exact own_apart h.own how (by decide)
  · have := hB.size; have := h.grow; simp [World.setCell]; omega
  · exact (Below.heap_setCell _ _ _ _ h2).trans ((hB.block q h1).trans (h.block q h1 h2))
  · exact own_cells (own_below how ha) j o hj ho

/-- One rectangle more, behind a box of two cells and the row of one that append reads. -/
theorem AddR.push2 {bb Bo : Nat} {w0 wr wb w2 : World} {L : List R4} {r : R4} {vs vo v2 b0 b1 : Value} {s : List Sp} {n k : Nat} {t : Int} (h : AddR bb Bo w0 L vs s n t wr) (hvo : wr.cell? ⟨bb, 0, none⟩ = some vo) (how : wr.ownsRow Bo 69 4 vo L.length (L.flatMap encR))
    (hbw : Below wr.heap.size wr wb) (o : Obj) (hg : (wb.alloc o).drew.grownBy w2 vo.ownBlock) (hown2 : w2.ownsRow Bo 69 4 v2 k (L.flatMap encR ++ encR r)) (f0 : wb.cell? ⟨wr.heap.size, 0, none⟩ = some b0) (f1 : wb.cell? ⟨wr.heap.size, 1, none⟩ = some b1) :
    w2.cell? ⟨bb, 0, none⟩ = some vo ∧ w2.cell? ⟨wr.heap.size, 0, none⟩ = some b0 ∧ w2.cell? ⟨wr.heap.size, 1, none⟩ = some b1 ∧ w2.frozen? ⟨bb, 0, none⟩ = false ∧ Hid (AddR bb Bo w0 (L ++ [r]) vs s n t (w2.setCell ⟨bb, 0, none⟩ v2)) := by
  have ha : Below wr.heap.size wr (wb.alloc o).drew := (hbw.alloc hbw.size o).drew
  have hx : L.flatMap encR ++ encR r = (L ++ [r]).flatMap encR := by simp
  rw [hx] at hown2
  obtain ⟨p1, p2, p3⟩ := h.push hvo how ha hg hown2
  have far : ∀ (q i : Nat) (u : Value), wb.cell? ⟨q, i, none⟩ = some u → vo.ownBlock ≠ some q → w2.cell? ⟨q, i, none⟩ = some u := fun q i u hu hq =>
    World.grownBy.cell hg (a := ⟨q, i, none⟩) ((World.cell?_alloc_lt wb o ⟨q, i, none⟩ (lt_of_cell hu)).trans hu) (fun e => hq e.symm)
  exact ⟨p1, far _ 0 b0 f0 (fun e => by have := how.lt _ e; omega), far _ 1 b1 f1 (fun e => by have := how.lt _ e; omega), p2, p3⟩

set_option maxRecDepth 100000 in
set_option maxHeartbeats 4000000 in
theorem add_any {bb Bo : Nat} {S : List Slab} {last s : List Sp} {first : Nat} {e f t : Int} {vs : Value} {w : World} (h : BW bb Bo S last first e w) (hs : w.ownsRow Bo 188 2 vs s.length (s.flatMap encS)) (hn : (flat S).length ≤ 100000000) (hsn : s.length ≤ 100000000) (hln : last.length ≤ 100000000)
    (hef : S = [] ∨ e ≤ f) (hft : f < t) :
    Calls Tryz.prog 144 #[.pointer (some ⟨bb, 0, none⟩), .int .i64 f, .int .i64 t, vs] w fun r w' => r = .returned (.tuple #[]) ∧ ∃ first', BW bb Bo (addS S f t s) s first' t w' ∧ Below bb w w' ∧ (∀ k, k < Bo → k ≠ bb → w'.heap[k]? = w.heap[k]?) ∧ KeepsOthers w w' := by
  obtain ⟨vo, o1, o2⟩ := h.out
  obtain ⟨vl, l1, l2⟩ := h.la
  obtain ⟨Ao, co, hvo, _⟩ := own_rd o2 (fun _ => rfl)
  obtain ⟨Al, cl, hvl, hrl⟩ := own_rd l2 (fun _ => rfl)
  obtain ⟨As, cs, hvs, hrs⟩ := own_rd hs (fun _ => rfl)
  subst hvo; subst hvl; subst hvs
  have c2 := h.fi
  have c3 := h.en
  have z0 := h.fz 0
  have z1 := h.fz 1
  have z2 := h.fz 2
  have z3 := h.fz 3
  by_cases hc : s ≠ [] ∧ e = f ∧ last = s
  · obtain ⟨hsne, rfl, rfl⟩ := hc
    obtain ⟨S0, f0, hS, hfi, hadd, hinv⟩ := BInv.join (t := t) h.inv hsne rfl rfl
    have heq := fun W (hb : Below w.heap.size w W) => eqSpan_any (w := W) (B := w.heap.size) (C := w.heap.size) ((own_rd l2 (fun _ => rfl)).below hb) ((own_rd hs (fun _ => rfl)).below hb) hln hb.size hb.size
    have hd : decide (last = last) = true := decide_eq_true rfl
    rw [hd] at heq
    have HEQ := hide heq
    have hbs : bb < w.heap.size := Nat.lt_of_lt_of_le h.low h.size
    have hfl : first < (flat S).length := by
      rw [hS, flat_append, flat_one, List.length_append, hfi]
      have := List.length_pos_iff.2 hsne
      simp [flat1]; omega
    obtain ⟨g, cap, hvo, hBg, hgw⟩ := o2.form (by omega)
    injection hvo with e1 _ e3
    subst e1; subst e3
    have hlow := h.low
    have hlp : (0 : Int) < (last.length : Int) := by have := List.length_pos_iff.2 hsne; omega
    have hee : (e == e) = true := by simp
    have HO := hide o2
    have HL := hide l2
    have HH := hide h
    have HI := hide hinv
    have HS := hide hS
    have HF := hide hfi
    have HA := hide hadd
    clear hd heq o2 l2 hs h hinv hS hfi hadd hrl hrs
    go_enter Tryz.func144, Tryz.ntmps144
    go_wp2_with (go_at_call 186; refine (HEQ.out _ (Below.refl _ _)).mono ?_; rintro r w1 ⟨rfl, hb1⟩; have d0 := (hb1.cell (p := ⟨bb, 0, none⟩) hbs).trans o1; have d2 := (hb1.cell (p := ⟨bb, 2, none⟩) hbs).trans c2; have d3 := (hb1.cell (p := ⟨bb, 3, none⟩) hbs).trans c3; have g3 := (hb1.frozen (p := ⟨bb, 3, none⟩) hbs).trans z3)
    go_loopw [8] (fun i wr => ∃ k : Nat, first ≤ k ∧ k ≤ (flat S).length ∧ i = .int .i64 k ∧ wr.cell? ⟨bb, 0, none⟩ = some (.slice (some ⟨g, 0, none⟩) (flat S).length co) ∧ wr.cell? ⟨bb, 3, none⟩ = some (.int .i64 e) ∧ wr.frozen? ⟨bb, 3, none⟩ = false ∧
        Hid (wr.ownsRow Bo 69 4 (.slice (some ⟨g, 0, none⟩) (flat S).length co) (flat S).length ((upTo t first k (flat S)).flatMap encR)) ∧ Hid (w1.grownBy wr (Value.slice (some ⟨g, 0, none⟩) (flat S).length co).ownBlock)) (fun i _ => (flat S).length - (intOf i).toNat)
    case atStart => exact ⟨first, Nat.le_refl _, by omega, rfl, d0, d3, g3, hide (by rw [upTo_start]; exact own_below HO.out hb1), hide (grown_refl _ _)⟩
    case round =>
      clear d0 d3 g3
      obtain ⟨k, hk1, hk2, rfl, d0, d3, g3, HR, HG⟩ := hrel
      by_cases hlt : k < (flat S).length
      · have hkz : (k : Int) < ((flat S).length : Int) := by omega
        obtain ⟨r, hr⟩ : ∃ r, (upTo t first k (flat S))[k]? = some r := ⟨_, List.getElem?_eq_getElem (by rw [upTo_len]; exact hlt)⟩
        have x1 : wr.cell? ⟨g, k * 4 + 2, none⟩ = some (.int .i64 r.x1) := by
          have := (HR.out.cells (g := g) rfl) _ _ (flat_get (k := 4) (fun _ => rfl) _ k r 2 _ hr rfl)
          rwa [addr_add] at this
        have f1 : wr.frozen? ⟨g, k * 4 + 2, none⟩ = false := HR.out.frozenAt _
        have hst := HR.out.stored (k * 4 + 2) (.int .i64 t)
        rw [flat_set t _ k r hr, upTo_step t first k _ r hk1 hr] at hst
        have HST := hide hst
        have nbg : bb ≠ g := by omega
        have ngb : g ≠ bb := by omega
        clear hr hst
        go_wp2
        go_roundw
        case rel => exact ⟨k + 1, by omega, by omega, by go_num, by simp [go_sem, d0, nbg, ngb], by simp [go_sem, d3, nbg, ngb], by simp [go_sem, g3], hide HST.out.1, hide (HG.out.trans HST.out.2)⟩
        case measure => simp [intOf]; omega
      · obtain rfl : k = (flat S).length := by omega
        have hkz : ¬ ((flat S).length : Int) < ((flat S).length : Int) := by omega
        go_wp2
        refine bodyPost_ret (results_none rfl _ _ _) rfl ?_
        have hend := upTo_end S0 f0 e t last
        rw [← HS.out, ← HF.out, ← HA.out] at hend
        have hlen : (flat (addS S e t last)).length = (flat S).length := by rw [← hend, upTo_len]
        have R := HR.out
        rw [hend] at R
        have hGB : Below Bo w1 wr := (Below.refl Bo w1).grown HG.out (Nat.le_trans HH.out.size hb1.size) (fun q hq => (R.lt q hq).1)
        have hsz : Bo ≤ w.heap.size := HH.out.size
        have hW : ∀ q, q < Bo → q ≠ bb → (wr.setCell ⟨bb, 3, none⟩ (.int .i64 t)).heap[q]? = w.heap[q]? := fun q h1 h2 => (Below.heap_setCell _ _ _ _ h2).trans ((hGB.block q h1).trans (hb1.block q (by omega)))
        have hbw : Below w.heap.size w w1 := hb1
        have hcell : ∀ o, wr.cell? ⟨bb, o, none⟩ = w.cell? ⟨bb, o, none⟩ := fun o => (hGB.cell (p := ⟨bb, o, none⟩) hlow).trans (hb1.cell (p := ⟨bb, o, none⟩) hbs)
        have hfr : ∀ o, wr.frozen? ⟨bb, o, none⟩ = w.frozen? ⟨bb, o, none⟩ := fun o => (hGB.frozen (p := ⟨bb, o, none⟩) hlow).trans (hb1.frozen (p := ⟨bb, o, none⟩) hbs)
        refine ⟨rfl, ⟨first, hlow, ?_, ⟨_, ?_, own_n (ownsRow_setCell_below R (by exact hlow) _) hlen.symm⟩, ⟨_, ?_, ownsRow_setCell_below ((own_below HL.out hb1).kept HG.out ?_) (by exact hlow) _⟩, ?_, ?_, ?_, HI.out⟩, ?_, hW, ((keeps_below hb1).trans (KeepsOthers.of_grownBy HG.out fun j o hj ho => own_cells (own_below HO.out hb1) j o hj ho)).trans (KeepsOthers.setCell _ _ _)⟩
        · have := HG.out.size
          have := hb1.size
          simp [World.setCell]; omega
        · simp [go_sem, d0]
        · simp [go_sem, hcell, l1]
        · exact own_apart HL.out HO.out (by decide)
        · simp [go_sem, hcell, c2]
        · simp [go_sem, d3]
        · intro j
          rw [World.frozen?_setCell, hfr]
          exact HH.out.fz j
        · refine (Below.setCell ?_ (p := ⟨bb, 3, none⟩) (Nat.le_refl bb) _)
          exact (hb1.mono (by omega)).trans (hGB.mono (by omega))
  · obtain ⟨hfl, hinv⟩ := BInv.push (t := t) h.inv hef hft hc
    have hbs : bb < w.heap.size := Nat.lt_of_lt_of_le h.low h.size
    have HC := hide hc
    have HO := hide o2
    have HL := hide l2
    have HS := hide hs
    have HH := hide h
    have HI := hide hinv
    have HF := hide hfl
    have HRS := hide hrs
    have heq := fun W (hb : Below w.heap.size w W) => eqSpan_any (w := W) (B := w.heap.size) (C := w.heap.size) ((own_rd l2 (fun _ => rfl)).below hb) ((own_rd hs (fun _ => rfl)).below hb) hln hb.size hb.size
    have HEQ := hide heq
    clear hc o2 l2 hs h hinv hfl hrl hrs heq
    go_enter Tryz.func144, Tryz.ntmps144
    have hlow := HH.out.low
    have AW := hide (AddR.start (t := t) HH.out (Below.refl _ w) HS.out)
    obtain ⟨w1, hw1⟩ : ∃ w1, w1 = w := ⟨_, rfl⟩
    obtain ⟨i1, gi, gz0, gz1, gz2⟩ := info_parts infoRc
    by_cases hs0 : s = []
    · have hlp : ¬ (0 : Int) < (s.length : Int) := by simp [hs0]
      have HS0 : Hid (s.length = 0) := hide (by simp [hs0])
      clear hs0
      go_wp2
      clear o1 l1 c2 c3 z0 z1 z2 z3 hlp
      go_loopw [73] (fun i wr => ∃ m : Nat, m ≤ s.length ∧ i = .int .i64 m ∧ Hid (AddR bb Bo w (flat S ++ (s.take m).map (fun p => ⟨f, p.1, t, p.2⟩)) (.slice As s.length cs) s (flat S).length t wr)) (fun i _ => s.length - (intOf i).toNat)
      case atStart => exact ⟨0, Nat.zero_le _, rfl, hide (by rw [List.take_zero, List.map_nil, List.append_nil]; exact AW.out)⟩
      case round =>
        clear AW
        obtain ⟨m, hm, rfl, HA⟩ := hrel
        by_cases hlt : m < s.length
        · exact absurd hlt (by have := HS0.out; omega)
        · obtain rfl : m = s.length := by omega
          have hmz : ¬ (s.length : Int) < (s.length : Int) := by omega
          have A := HA.out
          rw [List.take_length, ← HF.out] at A
          have HA2 := hide A
          clear A
          go_wp2
          go_end0
          have A := HA2.out
          obtain ⟨vo, a1, a2⟩ := A.out
          exact ⟨rfl, ⟨_, A.low, A.size, ⟨vo, a1, a2⟩, ⟨_, A.c1, A.own⟩, A.c2, A.c3, A.fz, HI.out⟩, ⟨A.os, A.tape, A.output, Nat.le_trans (by omega) A.grow, fun q hq => A.block q (by omega) (by omega)⟩, A.block, A.keep⟩
    · have hlp : (0 : Int) < (s.length : Int) := by have := List.length_pos_iff.2 hs0; omega
      by_cases hef2 : e = f
      · have hee : (e == f) = true := by simpa using hef2
        have hd : decide (last = s) = false := decide_eq_false fun g => HC.out ⟨hs0, hef2, g⟩
        have HD := hide hd
        clear hd hef2 hs0
        go_wp2_with (first | (go_at_call 186; refine (HEQ.out _ (Below.refl _ _)).mono ?_; rintro r w1 ⟨rfl, hb1⟩; rw [HD.out]; have d0 := (hb1.cell (p := ⟨bb, 0, none⟩) hbs).trans o1; have d1 := (hb1.cell (p := ⟨bb, 1, none⟩) hbs).trans l1; have d2 := (hb1.cell (p := ⟨bb, 2, none⟩) hbs).trans c2; have d3 := (hb1.cell (p := ⟨bb, 3, none⟩) hbs).trans c3; have g0 := (hb1.frozen (p := ⟨bb, 0, none⟩) hbs).trans z0; have g1 := (hb1.frozen (p := ⟨bb, 1, none⟩) hbs).trans z1; have g2 := (hb1.frozen (p := ⟨bb, 2, none⟩) hbs).trans z2; have g3 := (hb1.frozen (p := ⟨bb, 3, none⟩) hbs).trans z3))
        clear AW
        have AW := hide (AddR.start (t := t) HH.out hb1 HS.out)
        clear o1 l1 c2 c3 z0 z1 z2 z3 hlp
        go_loopw [73] (fun i wr => ∃ m : Nat, m ≤ s.length ∧ i = .int .i64 m ∧ Hid (AddR bb Bo w (flat S ++ (s.take m).map (fun p => ⟨f, p.1, t, p.2⟩)) (.slice As s.length cs) s (flat S).length t wr)) (fun i _ => s.length - (intOf i).toNat)
        case atStart => exact ⟨0, Nat.zero_le _, rfl, hide (by rw [List.take_zero, List.map_nil, List.append_nil]; exact AW.out)⟩
        case round =>
          clear AW
          obtain ⟨m, hm, rfl, HA⟩ := hrel
          by_cases hlt : m < s.length
          · have hmz : (m : Int) < (s.length : Int) := by omega
            obtain ⟨g2, cap2, hvs, hB2, hg2⟩ := HA.out.own.form (by omega)
            injection hvs with e1 _ e3
            subst e1; subst e3
            obtain ⟨⟨p1, p2⟩, hp⟩ : ∃ p, s[m]? = some p := ⟨_, List.getElem?_eq_getElem hlt⟩
            have x0 : wr.cell? ⟨g2, m * 2, none⟩ = some (.int .i64 p1) := by
              have := (HA.out.own.cells (g := g2) rfl) _ _ (flat_get (k := 2) (fun _ => rfl) _ m _ 0 _ hp rfl)
              rwa [addr_add] at this
            have x1 : wr.cell? ⟨g2, m * 2 + 1, none⟩ = some (.int .i64 p2) := by
              have := (HA.out.own.cells (g := g2) rfl) _ _ (flat_get (k := 2) (fun _ => rfl) _ m _ 1 _ hp rfl)
              rwa [addr_add] at this
            have HT : Hid ((s.take (m + 1)).map (fun p : Sp => (⟨f, p.1, t, p.2⟩ : R4)) = (s.take m).map (fun p : Sp => (⟨f, p.1, t, p.2⟩ : R4)) ++ [⟨f, p1, t, p2⟩]) := hide (by
              obtain ⟨hk, hpe⟩ := List.getElem?_eq_some_iff.1 hp
              rw [List.take_succ_eq_append_getElem hk, List.map_append, hpe]; rfl)
            have hL : (flat S ++ (s.take m).map (fun p : Sp => (⟨f, p.1, t, p.2⟩ : R4))).length ≤ 200000000 := by
              rw [List.length_append, List.length_map, List.length_take]; omega
            clear hp
            go_wp2
            obtain ⟨wb, hwb⟩ : ∃ wb, wb = wr.alloc (.cells #[.int .i64 p1, .int .i64 p2] 188) := ⟨_, rfl⟩
            rw [← hwb]
            obtain ⟨vo, v1, v2⟩ := HA.out.out
            obtain ⟨Av, cv, hv⟩ := own_rd v2 (fun _ => rfl)
            obtain ⟨hv, _⟩ := hv
            subst hv
            have hbw : Below wr.heap.size wr wb := by rw [hwb]; exact (Below.refl _ _).alloc (Nat.le_refl _) _
            have hbbw : bb < wr.heap.size := Nat.lt_of_lt_of_le hlow HA.out.size
            have gv : wb.cell? ⟨bb, 0, none⟩ = some (.slice Av (flat S ++ (s.take m).map (fun p : Sp => (⟨f, p.1, t, p.2⟩ : R4))).length cv) := by rw [hwb]; exact (World.cell?_alloc_lt _ _ ⟨bb, 0, none⟩ hbbw).trans v1
            have gy0 : wb.cell? ⟨wr.heap.size, 0, none⟩ = some (.int .i64 p1) := by rw [hwb]; simp [go_sem]
            have gy1 : wb.cell? ⟨wr.heap.size, 1, none⟩ = some (.int .i64 p2) := by rw [hwb]; simp [go_sem]
            have gs : wb.heap.size = wr.heap.size + 1 := by rw [hwb]; simp
            have gown : wb.ownsRow Bo 69 4 (.slice Av (flat S ++ (s.take m).map (fun p : Sp => (⟨f, p.1, t, p.2⟩ : R4))).length cv) (flat S ++ (s.take m).map (fun p : Sp => (⟨f, p.1, t, p.2⟩ : R4))).length ((flat S ++ (s.take m).map (fun p : Sp => (⟨f, p.1, t, p.2⟩ : R4))).flatMap encR) := by rw [hwb]; exact v2.alloc _
            have HV1 := hide v1
            have HV2 := hide v2
            have HBW := hide hbw
            have HY0 := hide gy0
            have HY1 := hide gy1
            have HO2 := hide gown
            have HT2 : Hid (flat S ++ (s.take (m + 1)).map (fun p : Sp => (⟨f, p.1, t, p.2⟩ : R4)) = (flat S ++ (s.take m).map (fun p : Sp => (⟨f, p.1, t, p.2⟩ : R4))) ++ [⟨f, p1, t, p2⟩]) := hide (by rw [HT.out, List.append_assoc])
            have hbws : bb < wb.heap.size := by omega
            have hbne : wr.heap.size < wb.heap.size := by omega
            have hBow : Bo ≤ wb.heap.size := by have := HA.out.size; omega
            have HA2 := hide HA.out
            clear gs v1 v2 gown hwb hbw x0 x1 HA HT
            generalize flat S ++ (s.take m).map (fun p : Sp => (⟨f, p.1, t, p.2⟩ : R4)) = L at *
            refine wp_region_reads 12 (fun w' => w'.cell? ⟨bb, 0, none⟩ = some (.slice Av L.length cv) ∧ w'.cell? ⟨wr.heap.size, 0, none⟩ = some (.int .i64 p1) ∧ w'.cell? ⟨wr.heap.size, 1, none⟩ = some (.int .i64 p2)) (by kernel_rfl) (by kernel_rfl) ⟨gv, gy0, gy1⟩ ?_
            simp only [List.take_succ_cons, List.take_zero, List.drop_succ_cons, List.drop_zero]
            iterate 12
              refine ⟨?_, Or.inl ⟨by rfl, ?_⟩, ?_⟩
              rotate_left 1
              · intro w' hSw
                obtain ⟨z1, z2, z3⟩ := hSw
                go_simp
                first | done | with_reducible rfl
              simp only [Act.put, List.setIfInBounds_toArray, List.set_cons_zero, List.set_cons_succ]
            simp only [wpReads]
            intro K hK
            go_simp
            refine hK _ _ (fun _ => ⟨by go_keep, by go_keep, by go_keep⟩) ?_
            clear hK K
            intro K hK
            refine step_append_lies _ rfl (.tmp 81) (.tmp 89) 27 rfl Bo 69 i1 (.agg #[.int .i64 0, .int .i64 0, .int .i64 0, .int .i64 0]) 4 32 Tryz.underlying27 gi gz0 gz1 gz2 rfl (by decide) (.slice Av L.length cv) L.length _ rfl (own_drew (World.ownsRow.alloc (w := wb) HO2.out _)) ⟨wb.heap.size, 0, none⟩ 1 1 [.int .i64 f, .int .i64 p1, .int .i64 t, .int .i64 p2] rfl rfl (news_drew wb _ _ _ rfl) (ints_one rfl) (by omega) (by unfold maxLen; omega) (by omega) (by simp; omega) _ rfl ?_
            intro g9 cap9 w9 hown9 hgrow9 _ _
            obtain ⟨s1, s2, s3, s4, HF9⟩ := HA2.out.push2 (r := ⟨f, p1, t, p2⟩) HV1.out HV2.out HBW.out _ hgrow9 hown9 HY0.out HY1.out
            clear hown9 hgrow9
            refine hK _ _ (fun _ => ⟨s1, s2, s3⟩) ?_
            clear hK K
            intro K hK
            simp only [Act.put, List.setIfInBounds_toArray, List.set_cons_zero, List.set_cons_succ] at hK ⊢
            go_simp
            refine hK _ _ (fun _ => ⟨s1, s2, s3⟩) ?_
            clear hK K
            intro K hK
            simp only [Act.put, List.setIfInBounds_toArray, List.set_cons_zero, List.set_cons_succ] at hK ⊢
            go_simp
            refine hK _ _ (fun _ => ⟨s1, s2, s3⟩) ?_
            clear hK K
            intro K hK
            simp only [Act.put, List.setIfInBounds_toArray, List.set_cons_zero, List.set_cons_succ] at hK ⊢
            go_simp
            refine hK _ _ (fun h => absurd rfl h) ?_
            clear hK K
            refine NoPanic.normal ?_
            go_wp2
            go_roundw
            case rel => exact ⟨m + 1, by omega, by go_num, hide (by rw [HT2.out]; exact HF9.out)⟩
            case measure => simp [intOf]; omega
          · obtain rfl : m = s.length := by omega
            have hmz : ¬ (s.length : Int) < (s.length : Int) := by omega
            have A := HA.out
            rw [List.take_length, ← HF.out] at A
            have HA2 := hide A
            clear A
            go_wp2
            go_end0
            have A := HA2.out
            obtain ⟨vo, a1, a2⟩ := A.out
            exact ⟨rfl, ⟨_, A.low, A.size, ⟨vo, a1, a2⟩, ⟨_, A.c1, A.own⟩, A.c2, A.c3, A.fz, HI.out⟩, ⟨A.os, A.tape, A.output, Nat.le_trans (by omega) A.grow, fun q hq => A.block q (by omega) (by omega)⟩, A.block, A.keep⟩
      · have hee : (e == f) = false := by simpa using hef2
        clear hef2 hs0
        go_wp2
        clear o1 l1 c2 c3 z0 z1 z2 z3 hlp
        go_loopw [73] (fun i wr => ∃ m : Nat, m ≤ s.length ∧ i = .int .i64 m ∧ Hid (AddR bb Bo w (flat S ++ (s.take m).map (fun p => ⟨f, p.1, t, p.2⟩)) (.slice As s.length cs) s (flat S).length t wr)) (fun i _ => s.length - (intOf i).toNat)
        case atStart => exact ⟨0, Nat.zero_le _, rfl, hide (by rw [List.take_zero, List.map_nil, List.append_nil]; exact AW.out)⟩
        case round =>
          clear AW
          obtain ⟨m, hm, rfl, HA⟩ := hrel
          by_cases hlt : m < s.length
          · have hmz : (m : Int) < (s.length : Int) := by omega
            obtain ⟨g2, cap2, hvs, hB2, hg2⟩ := HA.out.own.form (by omega)
            injection hvs with e1 _ e3
            subst e1; subst e3
            obtain ⟨⟨p1, p2⟩, hp⟩ : ∃ p, s[m]? = some p := ⟨_, List.getElem?_eq_getElem hlt⟩
            have x0 : wr.cell? ⟨g2, m * 2, none⟩ = some (.int .i64 p1) := by
              have := (HA.out.own.cells (g := g2) rfl) _ _ (flat_get (k := 2) (fun _ => rfl) _ m _ 0 _ hp rfl)
              rwa [addr_add] at this
            have x1 : wr.cell? ⟨g2, m * 2 + 1, none⟩ = some (.int .i64 p2) := by
              have := (HA.out.own.cells (g := g2) rfl) _ _ (flat_get (k := 2) (fun _ => rfl) _ m _ 1 _ hp rfl)
              rwa [addr_add] at this
            have HT : Hid ((s.take (m + 1)).map (fun p : Sp => (⟨f, p.1, t, p.2⟩ : R4)) = (s.take m).map (fun p : Sp => (⟨f, p.1, t, p.2⟩ : R4)) ++ [⟨f, p1, t, p2⟩]) := hide (by
              obtain ⟨hk, hpe⟩ := List.getElem?_eq_some_iff.1 hp
              rw [List.take_succ_eq_append_getElem hk, List.map_append, hpe]; rfl)
            have hL : (flat S ++ (s.take m).map (fun p : Sp => (⟨f, p.1, t, p.2⟩ : R4))).length ≤ 200000000 := by
              rw [List.length_append, List.length_map, List.length_take]; omega
            clear hp
            go_wp2
            obtain ⟨wb, hwb⟩ : ∃ wb, wb = wr.alloc (.cells #[.int .i64 p1, .int .i64 p2] 188) := ⟨_, rfl⟩
            rw [← hwb]
            obtain ⟨vo, v1, v2⟩ := HA.out.out
            obtain ⟨Av, cv, hv⟩ := own_rd v2 (fun _ => rfl)
            obtain ⟨hv, _⟩ := hv
            subst hv
            have hbw : Below wr.heap.size wr wb := by rw [hwb]; exact (Below.refl _ _).alloc (Nat.le_refl _) _
            have hbbw : bb < wr.heap.size := Nat.lt_of_lt_of_le hlow HA.out.size
            have gv : wb.cell? ⟨bb, 0, none⟩ = some (.slice Av (flat S ++ (s.take m).map (fun p : Sp => (⟨f, p.1, t, p.2⟩ : R4))).length cv) := by rw [hwb]; exact (World.cell?_alloc_lt _ _ ⟨bb, 0, none⟩ hbbw).trans v1
            have gy0 : wb.cell? ⟨wr.heap.size, 0, none⟩ = some (.int .i64 p1) := by rw [hwb]; simp [go_sem]
            have gy1 : wb.cell? ⟨wr.heap.size, 1, none⟩ = some (.int .i64 p2) := by rw [hwb]; simp [go_sem]
            have gs : wb.heap.size = wr.heap.size + 1 := by rw [hwb]; simp
            have gown : wb.ownsRow Bo 69 4 (.slice Av (flat S ++ (s.take m).map (fun p : Sp => (⟨f, p.1, t, p.2⟩ : R4))).length cv) (flat S ++ (s.take m).map (fun p : Sp => (⟨f, p.1, t, p.2⟩ : R4))).length ((flat S ++ (s.take m).map (fun p : Sp => (⟨f, p.1, t, p.2⟩ : R4))).flatMap encR) := by rw [hwb]; exact v2.alloc _
            have HV1 := hide v1
            have HV2 := hide v2
            have HBW := hide hbw
            have HY0 := hide gy0
            have HY1 := hide gy1
            have HO2 := hide gown
            have HT2 : Hid (flat S ++ (s.take (m + 1)).map (fun p : Sp => (⟨f, p.1, t, p.2⟩ : R4)) = (flat S ++ (s.take m).map (fun p : Sp => (⟨f, p.1, t, p.2⟩ : R4))) ++ [⟨f, p1, t, p2⟩]) := hide (by rw [HT.out, List.append_assoc])
            have hbws : bb < wb.heap.size := by omega
            have hbne : wr.heap.size < wb.heap.size := by omega
            have hBow : Bo ≤ wb.heap.size := by have := HA.out.size; omega
            have HA2 := hide HA.out
            clear gs v1 v2 gown hwb hbw x0 x1 HA HT
            generalize flat S ++ (s.take m).map (fun p : Sp => (⟨f, p.1, t, p.2⟩ : R4)) = L at *
            refine wp_region_reads 12 (fun w' => w'.cell? ⟨bb, 0, none⟩ = some (.slice Av L.length cv) ∧ w'.cell? ⟨wr.heap.size, 0, none⟩ = some (.int .i64 p1) ∧ w'.cell? ⟨wr.heap.size, 1, none⟩ = some (.int .i64 p2)) (by kernel_rfl) (by kernel_rfl) ⟨gv, gy0, gy1⟩ ?_
            simp only [List.take_succ_cons, List.take_zero, List.drop_succ_cons, List.drop_zero]
            iterate 12
              refine ⟨?_, Or.inl ⟨by rfl, ?_⟩, ?_⟩
              rotate_left 1
              · intro w' hSw
                obtain ⟨z1, z2, z3⟩ := hSw
                go_simp
                first | done | with_reducible rfl
              simp only [Act.put, List.setIfInBounds_toArray, List.set_cons_zero, List.set_cons_succ]
            simp only [wpReads]
            intro K hK
            go_simp
            refine hK _ _ (fun _ => ⟨by go_keep, by go_keep, by go_keep⟩) ?_
            clear hK K
            intro K hK
            refine step_append_lies _ rfl (.tmp 81) (.tmp 89) 27 rfl Bo 69 i1 (.agg #[.int .i64 0, .int .i64 0, .int .i64 0, .int .i64 0]) 4 32 Tryz.underlying27 gi gz0 gz1 gz2 rfl (by decide) (.slice Av L.length cv) L.length _ rfl (own_drew (World.ownsRow.alloc (w := wb) HO2.out _)) ⟨wb.heap.size, 0, none⟩ 1 1 [.int .i64 f, .int .i64 p1, .int .i64 t, .int .i64 p2] rfl rfl (news_drew wb _ _ _ rfl) (ints_one rfl) (by omega) (by unfold maxLen; omega) (by omega) (by simp; omega) _ rfl ?_
            intro g9 cap9 w9 hown9 hgrow9 _ _
            obtain ⟨s1, s2, s3, s4, HF9⟩ := HA2.out.push2 (r := ⟨f, p1, t, p2⟩) HV1.out HV2.out HBW.out _ hgrow9 hown9 HY0.out HY1.out
            clear hown9 hgrow9
            refine hK _ _ (fun _ => ⟨s1, s2, s3⟩) ?_
            clear hK K
            intro K hK
            simp only [Act.put, List.setIfInBounds_toArray, List.set_cons_zero, List.set_cons_succ] at hK ⊢
            go_simp
            refine hK _ _ (fun _ => ⟨s1, s2, s3⟩) ?_
            clear hK K
            intro K hK
            simp only [Act.put, List.setIfInBounds_toArray, List.set_cons_zero, List.set_cons_succ] at hK ⊢
            go_simp
            refine hK _ _ (fun _ => ⟨s1, s2, s3⟩) ?_
            clear hK K
            intro K hK
            simp only [Act.put, List.setIfInBounds_toArray, List.set_cons_zero, List.set_cons_succ] at hK ⊢
            go_simp
            refine hK _ _ (fun h => absurd rfl h) ?_
            clear hK K
            refine NoPanic.normal ?_
            go_wp2
            go_roundw
            case rel => exact ⟨m + 1, by omega, by go_num, hide (by rw [HT2.out]; exact HF9.out)⟩
            case measure => simp [intOf]; omega
          · obtain rfl : m = s.length := by omega
            have hmz : ¬ (s.length : Int) < (s.length : Int) := by omega
            have A := HA.out
            rw [List.take_length, ← HF.out] at A
            have HA2 := hide A
            clear A
            go_wp2
            go_end0
            have A := HA2.out
            obtain ⟨vo, a1, a2⟩ := A.out
            exact ⟨rfl, ⟨_, A.low, A.size, ⟨vo, a1, a2⟩, ⟨_, A.c1, A.own⟩, A.c2, A.c3, A.fz, HI.out⟩, ⟨A.os, A.tape, A.output, Nat.le_trans (by omega) A.grow, fun q hq => A.block q (by omega) (by omega)⟩, A.block, A.keep⟩
end Go.Proofs.YtdolpeljengpaaaGreat

/- Plain law: what region.made computes. -/
namespace Go.Proofs.YtdolpeljengpaaaGreat
set_option linter.unusedVariables false
set_option linter.unusedSimpArgs false

theorem flat1_len (a : Slab) : (flat1 a).length = a.s.length := by simp [flat1]
theorem addS_len (S : List Slab) (f t : Int) (s : List Sp) : (flat (addS S f t s)).length ≤ (flat S).length + s.length := by
  unfold addS
  by_cases h0 : s = []
  · rw [if_pos h0]; omega
  rw [if_neg h0]
  cases hg : S.getLast? with
  | none => simp only [flat_one, flat1_len]; omega
  | some a =>
    obtain ⟨o, rfl⟩ := List.getLast?_eq_some_iff.1 hg
    simp only [List.dropLast_concat]
    split
    · rename_i hb
      rw [flat_append, flat_append, flat_one, flat_one, List.length_append, List.length_append, flat1_len, flat1_len]
      show _ + s.length ≤ _
      omega
    · rw [flat_append, flat_one, List.length_append, flat1_len]
      show _ + s.length ≤ _
      omega
/-- The sweep over pairs of cuts. -/
def swp (g : Int → List Sp) (ps : List (Int × Int)) : List Slab := ps.foldl (fun S p => addS S p.1 p.2 (g p.1)) []
theorem swp_snoc (g : Int → List Sp) (ps : List (Int × Int)) (x : Int × Int) : swp g (ps ++ [x]) = addS (swp g ps) x.1 x.2 (g x.1) := by simp [swp]
theorem swp_len_from (g : Int → List Sp) (m : Nat) (hg : ∀ c, (g c).length ≤ m) : ∀ (ps : List (Int × Int)) (S : List Slab), (flat (ps.foldl (fun S p => addS S p.1 p.2 (g p.1)) S)).length ≤ (flat S).length + ps.length * m
  | [], S => by simp
  | p :: ps, S => by
    have h1 := swp_len_from g m hg ps (addS S p.1 p.2 (g p.1))
    have h2 := addS_len S p.1 p.2 (g p.1)
    have h3 := hg p.1
    simp only [List.foldl_cons, List.length_cons, Nat.add_mul]
    omega
theorem swp_len (g : Int → List Sp) (m : Nat) (hg : ∀ c, (g c).length ≤ m) (ps : List (Int × Int)) : (flat (swp g ps)).length ≤ ps.length * m := by
  have := swp_len_from g m hg ps []
  simpa [swp, flat] using this
theorem swp_sweep (g : Int → List Sp) (cs : List Int) : swp g (prs cs) = sweep g [] cs := (sweep_prs g cs []).symm
theorem sjoin_len (h : Bool → Bool → Bool) (a b : List Sp) : (sjoin h a b).length ≤ 2 * a.length + 2 * b.length := by
  have h1 := jout_len h (isort (evs 0 a ++ evs 1 b)) js0
  have h2 := (isort_perm (evs 0 a ++ evs 1 b)).length_eq
  rw [List.length_append, evs_length, evs_length] at h2
  have h3 : js0.out.length = 0 := rfl
  unfold sjoin jfold
  omega
theorem crossL_len (l : List R4) (c : Int) : (crossL l c).length ≤ l.length := by
  unfold crossL
  rw [List.length_map]
  exact List.length_filter_le _ _
/-- Neighbours among the pairs. -/
theorem prs_next : ∀ (cs : List Int) (pre : List (Int × Int)) (x : Int × Int) (post : List (Int × Int)), prs cs = pre ++ x :: post → (∀ p, pre.getLast? = some p → p.2 = x.1)
  | [], pre, x, post, h => by
    simp [prs] at h
  | [_], pre, x, post, h => by
    simp [prs] at h
  | c :: d :: r, [], x, post, h => by
    simp
  | c :: d :: r, q :: pre, x, post, h => by
    simp only [prs, List.cons_append, List.cons.injEq] at h
    obtain ⟨h1, h2⟩ := h
    intro p hp
    cases pre with
    | nil =>
      simp at hp
      subst hp
      subst h1
      cases r with
      | nil => simp [prs] at h2
      | cons e r =>
        simp only [prs, List.nil_append, List.cons.injEq] at h2
        rw [← h2.1]
    | cons q' pre => exact prs_next (d :: r) (q' :: pre) x post h2 p (by simpa [List.getLast?_cons_cons] using hp)
theorem prs_lt : ∀ (cs : List Int), cs.Pairwise (· < ·) → ∀ x ∈ prs cs, x.1 < x.2 ∧ x.1 ∈ cs
  | [], _, x, h => by simp [prs] at h
  | [_], _, x, h => by simp [prs] at h
  | c :: d :: r, hs, x, h => by
    simp only [prs, List.mem_cons] at h
    rcases h with rfl | h
    · exact ⟨(List.pairwise_cons.1 hs).1 d (by simp), by simp⟩
    · have := prs_lt (d :: r) (List.pairwise_cons.1 hs).2 x h
      exact ⟨this.1, by simp only [List.mem_cons] at this ⊢; exact .inr this.2⟩
/-- The sweep over whatever sorted cuts hold all xs is the joined list. -/
theorem swp_join {h : Bool → Bool → Bool} (h0 : h false false = false) {a b : List R4} (ha : ∀ r ∈ a, wf4 r) (hb : ∀ r ∈ b, wf4 r) {cs : List Int} (hs : cs.Pairwise (· < ·)) (hca : ∀ c ∈ cutsL a, c ∈ cs) (hcb : ∀ c ∈ cutsL b, c ∈ cs) :
    flat (swp (fun c => sjoin h (crossL a c) (crossL b c)) (prs cs)) = rjoin h a b := by
  rw [swp_sweep]
  obtain ⟨h1, h2⟩ := sweep_join (g := fun c => sjoin h (crossL a c) (crossL b c)) h0 hs hca hcb (fun c _ => sjoin_ok h0 (crossL_wf ha c) (crossL_wf hb c))
  exact rjoin_eq h0 ha hb h1 h2
/-- What made returns. -/
def madeF (l : List R4) : List R4 × Int := if 400 < (rjoin hFst l []).length then ([], 4) else (rjoin hFst l [], 0)
end Go.Proofs.YtdolpeljengpaaaGreat

/- region.made: the region of a list of valid rectangles. -/
namespace Go.Proofs.YtdolpeljengpaaaGreat
open Go.RowKit
set_option linter.unusedVariables false
set_option linter.unusedSimpArgs false
attribute [local go_sem] Oper.semAt_some

/-- A region and an error code come back; the region's row lies at or above B. -/
def RegRet (B : Nat) (x : List R4 × Int) (e : Ending) (w' : World) : Prop :=
  ∃ A c, e = .returned (.tuple #[.slice A x.1.length c, .int .i64 x.2]) ∧ w'.ownsRow B 69 4 (.slice A x.1.length c) x.1.length (x.1.flatMap encR)

theorem BW.below {bb Bo : Nat} {S : List Slab} {last : List Sp} {first : Nat} {e : Int} {A B : World} (h : BW bb Bo S last first e A) (hb : Below A.heap.size A B) : BW bb Bo S last first e B := by
  have hbs : bb < A.heap.size := Nat.lt_of_lt_of_le h.low h.size
  have hc : ∀ o, B.cell? ⟨bb, o, none⟩ = A.cell? ⟨bb, o, none⟩ := fun o => hb.cell (p := ⟨bb, o, none⟩) hbs
  have hf : ∀ o, B.frozen? ⟨bb, o, none⟩ = A.frozen? ⟨bb, o, none⟩ := fun o => hb.frozen (p := ⟨bb, o, none⟩) hbs
  obtain ⟨vo, o1, o2⟩ := h.out
  obtain ⟨vl, l1, l2⟩ := h.la
  exact ⟨h.low, Nat.le_trans h.size hb.size, ⟨vo, (hc 0).trans o1, own_below o2 hb⟩, ⟨vl, (hc 1).trans l1, own_below l2 hb⟩, (hc 2).trans h.fi, (hc 3).trans h.en, fun j => (hf j).trans (h.fz j), h.inv⟩
theorem BW.putObj {bb Bo : Nat} {S : List Slab} {last : List Sp} {first : Nat} {e : Int} {A : World} (h : BW bb Bo S last first e A) {l : Nat} {o o' : Obj} (hl : A.heap[l]? = some o) (ho : o.isCells = false) (ho' : o'.isCells = false) : BW bb Bo S last first e (A.putObj l o') := by
  have hc := cell_putObj (o' := o') hl ho ho'
  obtain ⟨vo, o1, o2⟩ := h.out
  obtain ⟨vl, l1, l2⟩ := h.la
  exact ⟨h.low, by simpa using h.size, ⟨vo, (hc _).1.trans o1, own_putObj o2 hl ho⟩, ⟨vl, (hc _).1.trans l1, own_putObj l2 hl ho⟩, (hc _).1.trans h.fi, (hc _).1.trans h.en, fun j => (hc _).2.trans (h.fz j), h.inv⟩
theorem KpX.below {bb n : Nat} {A B : World} (hn : n ≤ A.heap.size) (hb : Below A.heap.size A B) : KpX bb n A B := ⟨hb.size, fun b o h _ => hb.cell (p := ⟨b, o, none⟩) (by show b < _; omega)⟩

theorem KeepsFrom.of_below' {n : Nat} {A B : World} (hb : Below A.heap.size A B) : KeepsFrom n A B := (keeps_below hb).from n
theorem BW.grown {bb Bo : Nat} {S : List Slab} {last : List Sp} {first : Nat} {e : Int} {A B : World} (h : BW bb Bo S last first e A) {l : Nat} {o : Obj} (hg : A.grownBy B (some l)) (hl : A.heap[l]? = some o) (ho : o.isCells = false) : BW bb Bo S last first e B := by
  have hbs : bb < A.heap.size := Nat.lt_of_lt_of_le h.low h.size
  have hne : bb ≠ l := by
    rintro rfl
    obtain ⟨ob, h1, h2⟩ := cells_of_cell h.fi
    rw [hl] at h1
    injection h1 with h1
    subst h1
    rw [ho] at h2; cases h2
  have hbk := hg.block bb hbs (fun e => by injection e with e; exact hne e)
  have hc : ∀ o, B.cell? ⟨bb, o, none⟩ = A.cell? ⟨bb, o, none⟩ := fun o => World.cell?_of_block (w := A) hbk
  have hf : ∀ o, B.frozen? ⟨bb, o, none⟩ = A.frozen? ⟨bb, o, none⟩ := fun o => World.frozen?_of_block (w := A) hbk
  have key : ∀ {t size v n xs}, A.ownsRow Bo t size v n xs → B.ownsRow Bo t size v n xs := fun {t size v n xs} hw => hw.kept hg (by
    right
    intro e
    have := own_cells hw l o e hl
    rw [ho] at this; cases this)
  obtain ⟨vo, o1, o2⟩ := h.out
  obtain ⟨vl, l1, l2⟩ := h.la
  exact ⟨h.low, Nat.le_trans h.size hg.size, ⟨vo, (hc 0).trans o1, key o2⟩, ⟨vl, (hc 1).trans l1, key l2⟩, (hc 2).trans h.fi, (hc 3).trans h.en, fun j => (hf j).trans (h.fz j), h.inv⟩

/-- Behind some rounds. -/
structure MI (bb Bo : Nat) (g : Int → List Sp) (m : Nat) (w : World) (pre : List (Int × Int)) (W : World) : Prop where
  bw : ∃ last first e, BW bb Bo (swp g pre) last first e W ∧ last.length ≤ m ∧ (pre = [] ∨ ∃ p, pre.getLast? = some p ∧ e = p.2)
  low : Below w.heap.size w W
theorem MI.below {bb Bo : Nat} {g : Int → List Sp} {m : Nat} {w : World} {pre : List (Int × Int)} {A B : World} (h : MI bb Bo g m w pre A) (hb : Below A.heap.size A B) : MI bb Bo g m w pre B := by
  obtain ⟨last, first, e, h1, h2, h3⟩ := h.bw
  exact ⟨⟨last, first, e, h1.below hb, h2, h3⟩, h.low.trans (hb.mono h.low.size)⟩
theorem MI.putObj {bb Bo : Nat} {g : Int → List Sp} {m : Nat} {w : World} {pre : List (Int × Int)} {A : World} (h : MI bb Bo g m w pre A) {l : Nat} {o o' : Obj} (hw : w.heap.size ≤ l) (hl : A.heap[l]? = some o) (ho : o.isCells = false) (ho' : o'.isCells = false) : MI bb Bo g m w pre (A.putObj l o') := by
  obtain ⟨last, first, e, h1, h2, h3⟩ := h.bw
  exact ⟨⟨last, first, e, h1.putObj hl ho ho', h2, h3⟩, below_putObj h.low hw _⟩

theorem MI.grown {bb Bo : Nat} {g : Int → List Sp} {m : Nat} {w : World} {pre : List (Int × Int)} {A B : World} (h : MI bb Bo g m w pre A) {l : Nat} {o : Obj} (hw : w.heap.size ≤ l) (hg : A.grownBy B (some l)) (hl : A.heap[l]? = some o) (ho : o.isCells = false) : MI bb Bo g m w pre B := by
  obtain ⟨last, first, e, h1, h2, h3⟩ := h.bw
  exact ⟨⟨last, first, e, h1.grown hg hl ho, h2, h3⟩, h.low.grown hg h.low.size (fun k hk => by injection hk with hk; omega)⟩

set_option maxRecDepth 100000 in
set_option maxHeartbeats 4000000 in
theorem made_any {l : List R4} {v : Value} {w : World} (hr : RdK encR 4 w w.heap.size v l) (hl : l.length ≤ 400) (hv : ∀ r ∈ l, valid4 r) :
    Calls Tryz.prog 93 #[v] w fun e w' => RegRet w.heap.size (madeF l) e w' ∧ Below w.heap.size w w' := by
  have hwf : ∀ r ∈ l, wf4 r := fun r h => ⟨(hv r h).1, (hv r h).2.1⟩
  have hcl : (List.flatMap cutsL [l]).length ≤ 100000000 := by simp [cutsL_len]; omega
  have hcs := cutsOf_ok (List.flatMap cutsL [l])
  have hcn := cutsOf_len (List.flatMap cutsL [l])
  have hfin := swp_join (h := hFst) rfl hwf (b := []) (by simp) hcs.1 (fun c hc => (hcs.2 c).2 (by simpa using hc)) (by simp [cutsL])
  have hgl : ∀ c, (sjoin hFst (crossL l c) (crossL [] c)).length ≤ 1000 := by
    intro c
    have h1 := sjoin_len hFst (crossL l c) (crossL [] c)
    have h2 := crossL_len l c
    have h3 : (crossL [] c).length = 0 := rfl
    omega
  have hslab : ∀ (W : World) (L : Nat), L < W.heap.size → (∃ v, W.cell? ⟨L, 0, none⟩ = some v ∧ RdK encR 4 W W.heap.size v l) → _ := fun W L h1 h2 =>
    slabsA_any [l] L 1 W h1 (fun k l' hk => by
      have : k = 0 ∧ l = l' := by
        cases k with
        | zero => simpa using hk
        | succ k => simp at hk
      obtain ⟨rfl, rfl⟩ := this
      exact h2) hcl (by simp)
  simp only [List.length_singleton] at hslab
  generalize hcsd : cutsOf (List.flatMap cutsL [l]) = cs at *
  clear hcsd
  have HR := hide hr
  have HV := hide hv
  have HS := hide hslab
  have HF := hide hfin
  have HG := hide hgl
  have HC := hide hcs
  clear hr hv hslab hfin hgl hcs hwf
  obtain ⟨A0, c0, hv0, _⟩ := HR.out
  subst hv0
  refine (callsIn_wide (n := 0)).1 ?_
  refine callsIn_of_wp_marks Tryz.func93 rfl trivial ?_
  simp only [Tryz.ntmps93, List.size_toArray, List.length_cons, List.length_nil, Nat.reduceAdd, Nat.reduceSub, Array.replicate_succ, Array.replicate_zero, List.push_toArray, List.append_toArray, List.nil_append, List.cons_append]
  refine wpIn_wide.2 ?_
  go_wp2_with (fail)
  have hb1 : Below w.heap.size w ((w.alloc (.cells #[.slice none 0 0, .slice none 0 0, .int .i64 0, .int .i64 0] 205)).alloc (.cells #[.slice A0 l.length c0] 26)) := ((Below.refl _ _).alloc (Nat.le_refl _) _).alloc (by simp) _
  have hL1 : ((w.alloc (.cells #[.slice none 0 0, .slice none 0 0, .int .i64 0, .int .i64 0] 205)).alloc (.cells #[.slice A0 l.length c0] 26)).cell? ⟨w.heap.size + 1, 0, none⟩ = some (.slice A0 l.length c0) := by simp [go_sem]
  have hs := HS.out ((w.alloc (.cells #[.slice none 0 0, .slice none 0 0, .int .i64 0, .int .i64 0] 205)).alloc (.cells #[.slice A0 l.length c0] 26)) (w.heap.size + 1) (by simp) ⟨_, hL1, (HR.out.below hb1).mono hb1.size⟩
  simp only [World.size_alloc, Nat.add_assoc, Nat.reduceAdd] at hs
  have hbc : ∀ j u, (#[Value.slice none 0 0, .slice none 0 0, .int .i64 0, .int .i64 0] : Array Value)[j]? = some u → ((w.alloc (.cells #[.slice none 0 0, .slice none 0 0, .int .i64 0, .int .i64 0] 205)).alloc (.cells #[.slice A0 l.length c0] 26)).cell? ⟨w.heap.size, j, none⟩ = some u := by
    intro j u hj
    refine (World.cell?_alloc_lt (w.alloc _) _ ⟨w.heap.size, j, none⟩ (by simp)).trans ?_
    have := news_new w [Value.slice none 0 0, .slice none 0 0, .int .i64 0, .int .i64 0] 205 w.heap.size rfl j u (by simpa using hj)
    rwa [addr_add] at this
  refine hs.mono ?_
  clear hs
  rintro e wS ⟨vc, rfl, hbl, hbc2, hown, hbS⟩
  have hsz1 : ((w.alloc (.cells #[.slice none 0 0, .slice none 0 0, .int .i64 0, .int .i64 0] 205)).alloc (.cells #[.slice A0 l.length c0] 26)).heap.size = w.heap.size + 2 := by simp
  have hz1 : ∀ j, ((w.alloc (.cells #[.slice none 0 0, .slice none 0 0, .int .i64 0, .int .i64 0] 205)).alloc (.cells #[.slice A0 l.length c0] 26)).frozen? ⟨w.heap.size, j, none⟩ = false := fun j => by simp [go_sem]
  go_wp2_with (fail)
  obtain ⟨w1, hw1⟩ : ∃ w1, (w.alloc (.cells #[.slice none 0 0, .slice none 0 0, .int .i64 0, .int .i64 0] 205)).alloc (.cells #[.slice A0 l.length c0] 26) = w1 := ⟨_, rfl⟩
  rw [hw1] at hb1 hL1 hbc hbS hsz1 hz1
  clear hw1
  have hcsz := hbS.size
  obtain ⟨Ac, cc, hvc⟩ := own_form hown
  subst hvc
  have hbS2 : Below (w.heap.size + 2) w1 wS := hbS.mono (by omega)
  have hlow : Below w.heap.size w wS := hb1.trans (hbS.mono (by omega))
  have kS : ∀ j, wS.cell? ⟨w.heap.size, j, none⟩ = w1.cell? ⟨w.heap.size, j, none⟩ := fun j => hbS2.cell (p := ⟨w.heap.size, j, none⟩) (by show w.heap.size < _; omega)
  have zS : ∀ j, wS.frozen? ⟨w.heap.size, j, none⟩ = w1.frozen? ⟨w.heap.size, j, none⟩ := fun j => hbS2.frozen (p := ⟨w.heap.size, j, none⟩) (by show w.heap.size < _; omega)
  have hbw0 : BW w.heap.size wS.heap.size (swp (fun c => sjoin hFst (crossL l c) (crossL [] c)) []) [] 0 0 wS :=
    ⟨by omega, Nat.le_refl _, ⟨_, (kS 0).trans (hbc 0 _ rfl), World.ownsRow_nil _ _ _ _⟩, ⟨_, (kS 1).trans (hbc 1 _ rfl), World.ownsRow_nil _ _ _ _⟩, (kS 2).trans (hbc 2 _ rfl), (kS 3).trans (hbc 3 _ rfl), fun j => (zS j).trans (hz1 j), BInv.start⟩
  have hL1S := (hbS2.cell (p := ⟨w.heap.size + 1, 0, none⟩) (by show w.heap.size + 1 < _; omega)).trans hL1
  have hit := slabsItA [l] cs (w.heap.size + 3) (w.heap.size + 2) (w.heap.size + 1) 1 cc w.heap.size (w.heap.size + 4) Ac wS (lt_of_cell hbl) (lt_of_cell hbc2) (by omega) (by omega) (by omega) (by omega) (by omega) (by omega)
    hbl hbc2 hown (fun k l' hk => by
      have : k = 0 ∧ l = l' := by
        cases k with
        | zero => simpa using hk
        | succ k => simp at hk
      obtain ⟨rfl, rfl⟩ := this
      exact ⟨by omega, _, hL1S, (HR.out.below (hb1.trans (hbS.mono (by omega))))⟩) (by simp) (by simp [cutsL_len] at hcn hcl; omega)
  have hws : w.heap.size + 4 ≤ wS.heap.size := lt_of_cell hbc2
  have hI0 : MI w.heap.size wS.heap.size (fun c => sjoin hFst (crossL l c) (crossL [] c)) 1000 w [] wS := ⟨⟨[], 0, 0, hbw0, by simp, .inl rfl⟩, hlow⟩
  clear hb1 hL1 hbc hbS hsz1 hz1 hcsz hbS2 hlow kS zS hbw0 hL1S hbl hbc2 hown
  refine (wpIn_wide (n := 0)).1 ?_
  refine wp_range rfl (enters_of Tryz.func180 (by kernel_rfl) rfl) hit (Below.refl _ _) (fun x args A hx => by obtain ⟨Rw, rfl, _⟩ := hx; rfl) KpX.trans ?_
    (MI w.heap.size wS.heap.size (fun c => sjoin hFst (crossL l c) (crossL [] c)) 1000 w) (fun _ _ => False) (fun pre A B h hb => h.below hb) (fun pre A l o o' h hw hl ho ho' => h.putObj (by omega) hl ho ho') (fun _ _ _ _ _ h => h.elim) hI0 ?_ ?_ (fun _ _ _ _ h => h.elim)
  · intro A l o o' _ h1 h2 h3
    exact ⟨by simp, fun b off _ _ => (cell_putObj h1 h2 h3 _).1⟩
  · rintro l2 pre ⟨c, d⟩ args A hMI ⟨post, hpost⟩ ⟨Rw, rfl, hRw, hrows⟩ hl1 ⟨ol, hl2, hl3⟩
    have hll : l2 < A.heap.size := (Array.getElem?_eq_some_iff.1 hl2).1
    obtain ⟨vx, hx1, hx2⟩ := hrows 0 l rfl
    have hlo := hMI.low.size
    have hBoA : wS.heap.size ≤ A.heap.size := by obtain ⟨_, _, _, h1, _⟩ := hMI.bw; exact h1.size
    have hM := hide hMI
    have HX1 := hide hx1
    have HX2 := hide hx2
    have HL2 := hide hl2
    have HP := hide hpost
    clear hMI hrows hx1 hx2 hit hI0 hl2 hpost
    simp only [List.length_singleton]
    gi_wp2
    refine ⟨KeepsFrom.of_below' ((Below.refl _ _).alloc (Nat.le_refl _) _), KpX.below hBoA ((Below.refl _ _).alloc (Nat.le_refl _) _), ?_⟩
    intro A2 g2 s2 e2 f2
    have c20 : A2.cell? ⟨A.heap.size, 0, none⟩ = some (.int .i64 c) := (e2 _).trans (by simp [go_sem])
    have c21 : A2.cell? ⟨A.heap.size, 1, none⟩ = some (.int .i64 d) := (e2 _).trans (by simp [go_sem])
    have c22 : A2.cell? ⟨A.heap.size, 2, none⟩ = some (.slice (some ⟨Rw, 0, none⟩) 1 1) := (e2 _).trans (by simp [go_sem])
    have s3 : A2.heap.size = A.heap.size + 1 := by rw [s2]; simp
    have cRw : A2.cell? ⟨Rw, 0, none⟩ = some vx := (e2 _).trans ((World.cell?_alloc_lt A _ ⟨Rw, 0, none⟩ hRw).trans HX1.out)
    have rd : RdK encS 2 A2 A2.heap.size vx (crossL l c) := (HX2.out.keep fun b o hb => (e2 _).trans (World.cell?_alloc_lt A _ ⟨b, o, none⟩ hb)).mono (by omega)
    have M2 := (hM.out.below ((Below.refl _ _).alloc (Nat.le_refl _) (.cells #[.int .i64 c, .int .i64 d, .slice (some ⟨Rw, 0, none⟩) 1 1] 210))).grown (by omega) g2 ((Below.heap_alloc _ _ _ hll).trans HL2.out) hl3
    have hmk := spanMake_ok rd (Nat.le_trans (crossL_len l c) hl) (fun p hp => by
      obtain ⟨r, hr, rfl⟩ := List.mem_map.1 hp
      have hvr := HV.out r (List.mem_filter.1 hr).1
      exact ⟨hvr.2.1, hvr.2.2.2.2.1.1, hvr.2.2.2.2.2.2⟩)
    obtain ⟨last, first, e, B2, q1, q2⟩ := M2.bw
    have hprs := HP.out
    have hlt := prs_lt cs HC.out.1 (c, d) (by rw [hprs]; simp)
    have hnx := prs_next cs pre (c, d) post hprs
    have hplen : pre.length ≤ 800 := by
      have h1 := prs_len cs
      rw [hprs] at h1
      simp [cutsL_len] at h1 hcn
      omega
    have hfl := swp_len (fun c => sjoin hFst (crossL l c) (crossL [] c)) 1000 HG.out pre
    have hsl := HG.out c
    have hef : swp (fun c => sjoin hFst (crossL l c) (crossL [] c)) pre = [] ∨ e ≤ c := by
      rcases q2 with rfl | ⟨p, hp, rfl⟩
      · exact .inl rfl
      · exact .inr (by rw [hnx p hp]; exact Int.le_refl _)
    have hadd : ∀ (A3 : World) (Am : Option Addr) (cm : Nat), Below A2.heap.size A2 A3 → A3.ownsRow A2.heap.size 188 2 (.slice Am (sjoin hFst (crossL l c) []).length cm) (sjoin hFst (crossL l c) []).length ((sjoin hFst (crossL l c) []).flatMap encS) → _ := fun A3 Am cm hb ho =>
      add_any (s := sjoin hFst (crossL l c) []) (f := c) (t := d) (B2.below hb) (own_base ho (by omega)) (by omega) (Nat.le_trans hsl (by omega)) (by omega) hef hlt.1
    have HA := hide hadd
    have HB2 := hide B2
    have HM2 := hide M2.low
    have HR2 := hide rd
    have HN := hide hnx
    clear g2 s2 e2 f2 M2 B2 hadd rd hlt hnx hef hprs q2
    obtain ⟨av, cv, hvx, _⟩ := HR2.out
    subst hvx
    gi_wp2_with (first
      | (refine ⟨trivial, rfl, ?_⟩)
      | (gi_at_call 143; refine (CallsIn.inRound l2 (callsIn_wide.2 hmk)).mono ?_; rintro e' A3 ⟨Am, cm, rfl, ho3, hb3⟩; have d0 := (hb3.cell (p := ⟨A.heap.size, 0, none⟩) (by show A.heap.size < _; omega)).trans c20; have d1 := (hb3.cell (p := ⟨A.heap.size, 1, none⟩) (by show A.heap.size < _; omega)).trans c21; have hadd := HA.out A3 Am cm hb3 ho3; have HO3 := hide ho3; have HB3 := hide hb3; clear ho3 hb3 c20 c21 c22 cRw hmk)
      | (gi_at_call 144; refine (CallsIn.inRound l2 (callsIn_wide.2 hadd)).mono ?_; rintro e' A4 ⟨rfl, first', hbw4, hb4, hblk4, hk4⟩))
    have hb3 := HB3.out
    refine ⟨(KeepsFrom.of_below' hb3).trans (hk4.from _), (KpX.below (by omega) hb3).trans ⟨hk4.size, fun b o h1 h2 => World.cell?_of_block (w := A3) (hblk4 b h1 h2)⟩, ⟨_, first', d, by rw [swp_snoc]; exact hbw4, hsl, .inr ⟨(c, d), by simp, rfl⟩⟩, ?_⟩
    exact (HM2.out.trans (hb3.mono (by omega))).trans hb4
  · rintro D W hD hMI hK
    obtain ⟨last, first, e, hB, _, _⟩ := hMI.bw
    have hplen : (prs cs).length ≤ 800 := by
      have h1 := prs_len cs
      simp [cutsL_len] at hcn
      omega
    have hfl := swp_len (fun c => sjoin hFst (crossL l c) (crossL [] c)) 1000 HG.out (prs cs)
    have hres := result_any hB (by omega)
    rw [HF.out] at hres
    have hws2 := hB.size
    have HM := hide hMI.low
    have HK := hide hK
    have hD2 : D < W.heap.size := (Array.getElem?_eq_some_iff.1 hK).1
    clear hB hMI hfl hit hI0 hK
    simp only [Exit.inBlock, Exit.then]
    by_cases h4 : 400 < (rjoin hFst l []).length
    · have hm : madeF l = ([], 4) := if_pos h4
      have HMF := hide hm
      clear hm
      go_wp2_with (go_at_call 145; refine hres.mono ?_; rintro e' w' ⟨rfl, hq⟩; obtain rfl : e' = .returned (.tuple #[.slice none 0 0, .int .i64 4]) := hq.elim (fun q => q.2) (fun q => absurd q.1 (by omega)); clear hq)
      refine ⟨by simp, .inl ⟨_, _, rfl, run_takeDeferred HK.out, ?_⟩⟩
      refine ⟨_, results_tmp2 rfl _ _ _, ⟨none, 0, by rw [HMF.out]; rfl, by rw [HMF.out]; exact World.ownsRow_nil _ _ _ _⟩, below_putObj HM.out (by omega) _⟩
    · have hm : madeF l = (rjoin hFst l [], 0) := if_neg h4
      have HMF := hide hm
      clear hm
      generalize rjoin hFst l [] = R at *
      go_wp2_with (go_at_call 145; refine hres.mono ?_; rintro e' w' ⟨rfl, hq⟩; obtain ⟨Ar, cr, rfl, hor⟩ := hq.elim (fun q => absurd q.1 h4) (fun q => q.2); have HOR := hide hor; clear hq hor)
      refine ⟨by simp, .inl ⟨_, _, rfl, run_takeDeferred HK.out, ?_⟩⟩
      refine ⟨_, results_tmp2 rfl _ _ _, ⟨Ar, cr, by rw [HMF.out]; rfl, by rw [HMF.out]; exact own_base (own_putObj HOR.out HK.out rfl) (by omega)⟩, below_putObj HM.out (by omega) _⟩
end Go.Proofs.YtdolpeljengpaaaGreat

/- slices.Equal at Region: two lists are one. -/
namespace Go.Proofs.YtdolpeljengpaaaGreat
open Go.RowKit
set_option linter.unusedVariables false
set_option linter.unusedSimpArgs false

set_option maxHeartbeats 4000000 in
theorem eqRect_any {w : World} {vs vt : Value} {s t : List R4} {B C : Nat} (hs : RdK encR 4 w B vs s) (ht : RdK encR 4 w C vt t) (ns : s.length ≤ 100000000) (hB : B ≤ w.heap.size) (hC : C ≤ w.heap.size) :
    Calls Tryz.prog 115 #[vs, vt] w fun e w' => e = .returned (.bool (decide (s = t))) ∧ Below w.heap.size w w' := by
  obtain ⟨A1, c1, rfl, h1⟩ := hs
  obtain ⟨A2, c2, rfl, h2⟩ := ht
  have g : Tryz.prog.eqGuardType Tryz.prog.depth 69 = false := by kernel_rfl
  have H1 := hide h1
  have H2 := hide h2
  clear h1 h2
  go_enter Tryz.func115, Tryz.ntmps115
  by_cases hl : s.length = t.length
  · have hne : ((s.length : Int) != (t.length : Int)) = false := by rw [hl]; simp
    have HL := hide hl
    clear hl
    go_wp2
    go_loopw [13] (fun i wr => ∃ k : Nat, k ≤ s.length ∧ i = .int .i64 k ∧ Hid (s.take k = t.take k) ∧ Below w.heap.size w wr) (fun i _ => s.length - (intOf i).toNat)
    case atStart => exact ⟨0, Nat.zero_le _, rfl, hide rfl, Below.refl _ _⟩
    case round =>
      obtain ⟨k, hk, rfl, HT, hb⟩ := hrel
      by_cases hlt : k < s.length
      · obtain ⟨⟨a0, a1, a2, a3⟩, hp⟩ : ∃ p, s[k]? = some p := ⟨_, List.getElem?_eq_getElem hlt⟩
        have hlt2 : k < t.length := by rw [← HL.out]; exact hlt
        obtain ⟨⟨b0, b1, b2, b3⟩, hq⟩ : ∃ p, t[k]? = some p := ⟨_, List.getElem?_eq_getElem hlt2⟩
        obtain ⟨p1, o1, rfl, hp1, k1⟩ := H1.out (by intro e; rw [e] at hlt; simp at hlt)
        obtain ⟨p2, o2, rfl, hp2, k2⟩ := H2.out (by intro e; rw [e] at hlt2; simp at hlt2)
        have x0 : wr.cell? ⟨p1, o1 + k * 4, none⟩ = some (.int .i64 a0) := (hb.cell (p := ⟨p1, _, none⟩) (by show p1 < _; omega)).trans (k1 k _ hp 0 _ rfl)
        have y0 : wr.cell? ⟨p2, o2 + k * 4, none⟩ = some (.int .i64 b0) := (hb.cell (p := ⟨p2, _, none⟩) (by show p2 < _; omega)).trans (k2 k _ hq 0 _ rfl)
        have x1 : wr.cell? ⟨p1, o1 + k * 4 + 1, none⟩ = some (.int .i64 a1) := (hb.cell (p := ⟨p1, _, none⟩) (by show p1 < _; omega)).trans (k1 k _ hp 1 _ rfl)
        have y1 : wr.cell? ⟨p2, o2 + k * 4 + 1, none⟩ = some (.int .i64 b1) := (hb.cell (p := ⟨p2, _, none⟩) (by show p2 < _; omega)).trans (k2 k _ hq 1 _ rfl)
        have x2 : wr.cell? ⟨p1, o1 + k * 4 + 2, none⟩ = some (.int .i64 a2) := (hb.cell (p := ⟨p1, _, none⟩) (by show p1 < _; omega)).trans (k1 k _ hp 2 _ rfl)
        have y2 : wr.cell? ⟨p2, o2 + k * 4 + 2, none⟩ = some (.int .i64 b2) := (hb.cell (p := ⟨p2, _, none⟩) (by show p2 < _; omega)).trans (k2 k _ hq 2 _ rfl)
        have x3 : wr.cell? ⟨p1, o1 + k * 4 + 3, none⟩ = some (.int .i64 a3) := (hb.cell (p := ⟨p1, _, none⟩) (by show p1 < _; omega)).trans (k1 k _ hp 3 _ rfl)
        have y3 : wr.cell? ⟨p2, o2 + k * 4 + 3, none⟩ = some (.int .i64 b3) := (hb.cell (p := ⟨p2, _, none⟩) (by show p2 < _; omega)).trans (k2 k _ hq 3 _ rfl)
        have z1 : (k : Int) < (s.length : Int) := by omega
        have z2 : (k : Int) < (t.length : Int) := by omega
        have HP := hide hp
        have HQ := hide hq
        clear hp hq k1 k2
        by_cases e0 : a0 = b0
        rotate_left 1
        · have hd : decide (s = t) = false := decide_eq_false fun e => by
            subst e
            have := HP.out.symm.trans HQ.out
            simp only [Option.some.injEq, R4.mk.injEq] at this
            omega
          have HD := hide hd
          clear hd
          go_wp2
          go_region
          go_wp2
          go_ret
          exact ⟨ret_eq (bool_eq HD.out.symm), hb.drew⟩
        by_cases e1 : a1 = b1
        rotate_left 1
        · have hd : decide (s = t) = false := decide_eq_false fun e => by
            subst e
            have := HP.out.symm.trans HQ.out
            simp only [Option.some.injEq, R4.mk.injEq] at this
            omega
          have HD := hide hd
          clear hd
          subst e0
          go_wp2
          go_region
          go_wp2
          go_ret
          exact ⟨ret_eq (bool_eq HD.out.symm), hb.drew⟩
        by_cases e2 : a2 = b2
        rotate_left 1
        · have hd : decide (s = t) = false := decide_eq_false fun e => by
            subst e
            have := HP.out.symm.trans HQ.out
            simp only [Option.some.injEq, R4.mk.injEq] at this
            omega
          have HD := hide hd
          clear hd
          subst e0
          subst e1
          go_wp2
          go_region
          go_wp2
          go_ret
          exact ⟨ret_eq (bool_eq HD.out.symm), hb.drew⟩
        by_cases e3 : a3 = b3
        rotate_left 1
        · have hd : decide (s = t) = false := decide_eq_false fun e => by
            subst e
            have := HP.out.symm.trans HQ.out
            simp only [Option.some.injEq, R4.mk.injEq] at this
            omega
          have HD := hide hd
          clear hd
          subst e0
          subst e1
          subst e2
          go_wp2
          go_region
          go_wp2
          go_ret
          exact ⟨ret_eq (bool_eq HD.out.symm), hb.drew⟩
        subst e0
        subst e1
        subst e2
        subst e3
        go_wp2
        go_region
        go_wp2
        go_roundw
        case rel =>
          refine ⟨k + 1, by omega, by go_num, hide ?_, hb.drew⟩
          obtain ⟨i1, e1⟩ := List.getElem?_eq_some_iff.1 HP.out
          obtain ⟨i2, e2⟩ := List.getElem?_eq_some_iff.1 HQ.out
          rw [List.take_succ_eq_append_getElem i1, List.take_succ_eq_append_getElem i2, HT.out, e1, e2]
        case measure => simp [intOf]; omega
      · have hlz : ¬ (k : Int) < (s.length : Int) := by omega
        have hd : decide (s = t) = true := decide_eq_true (by
          have := HT.out
          rw [List.take_of_length_le (by omega), List.take_of_length_le (by rw [← HL.out]; omega)] at this
          exact this)
        have HD := hide hd
        clear hd
        go_wp2
        go_ret
        exact ⟨ret_eq (bool_eq HD.out.symm), hb⟩
  · have hne : ((s.length : Int) != (t.length : Int)) = true := by simp; omega
    have hd : decide (s = t) = false := decide_eq_false fun e => hl (by rw [e])
    rw [hd]
    clear hl hd
    go_wp2
    go_ret
    exact ⟨rfl, Below.refl _ _⟩
end Go.Proofs.YtdolpeljengpaaaGreat

/- slices.IndexFunc and slices.ContainsFunc at the program's structs. -/
namespace Go.Proofs.YtdolpeljengpaaaGreat
open Go.RowKit Go.Shelf
set_option linter.unusedVariables false
set_option linter.unusedSimpArgs false

set_option maxHeartbeats 1000000 in
/-- slices.IndexFunc here: the first place at which p holds, or -1. -/
theorem cfRect_idx {w : World} {v : Value} {l : List R4} (h : RdK encR 4 w w.heap.size v l) (hl : l.length ≤ 1000000000) (g : Nat) (lb : Array Value) (p : R4 → Bool)
    (eg : ∀ args w, (callFunc g args).run Tryz.prog w = .ok (.enter g args) w)
    (hp : ∀ (W : World) (x : R4), x ∈ l → Below w.heap.size w W → Calls Tryz.prog g (#[.agg (encR x).toArray] ++ lb) W fun e w' => e = .returned (.bool (p x)) ∧ Below W.heap.size W w') :
    Calls Tryz.prog 140 #[v, .func (.func g) #[] lb] w fun e w' => e = .returned (.int .i64 (idxI p l)) ∧ Below w.heap.size w w' := by
  obtain ⟨A, c, rfl, hc⟩ := h
  go_enter Tryz.func140, Tryz.ntmps140
  go_wp2
  go_loopg [5, 8] l.length (fun gg _ s8 wr => ∃ kk : Nat, kk ≤ l.length ∧ l.length - kk ≤ gg ∧ s8 = .int .i64 kk ∧ Hid (Below w.heap.size w wr) ∧ Hid (∀ x ∈ l.take kk, p x = false))
  case atStart => exact ⟨0, Nat.zero_le _, by omega, rfl, hide (Below.refl _ w), hide (by simp)⟩
  case round =>
    obtain ⟨kk, hkk, hg, rfl, BW, A'⟩ := hrel
    by_cases hlt : kk < l.length
    · have hltz : (kk : Int) < (l.length : Int) := by omega
      obtain ⟨b, off, rfl, hb, hcell⟩ := hc (by intro e; rw [e] at hlt; simp at hlt)
      have hx : l[kk]? = some l[kk] := List.getElem?_eq_getElem hlt
      have hcall := hp wr l[kk] (List.getElem_mem hlt) BW.out
      have hfi : l.take (kk + 1) = l.take kk ++ [l[kk]] := List.take_succ_eq_append_getElem hlt
      have c0 : wr.cell? ⟨b, off + kk * 4, none⟩ = some (.int .i64 l[kk].x0) := (BW.out.cell (p := ⟨b, off + kk * 4, none⟩) hb).trans (hcell kk _ hx 0 _ rfl)
      have c1 : wr.cell? ⟨b, off + kk * 4 + 1, none⟩ = some (.int .i64 l[kk].y0) := (BW.out.cell (p := ⟨b, off + kk * 4 + 1, none⟩) hb).trans (hcell kk _ hx 1 _ rfl)
      have c2 : wr.cell? ⟨b, off + kk * 4 + 2, none⟩ = some (.int .i64 l[kk].x1) := (BW.out.cell (p := ⟨b, off + kk * 4 + 2, none⟩) hb).trans (hcell kk _ hx 2 _ rfl)
      have c3 : wr.cell? ⟨b, off + kk * 4 + 3, none⟩ = some (.int .i64 l[kk].y1) := (BW.out.cell (p := ⟨b, off + kk * 4 + 3, none⟩) hb).trans (hcell kk _ hx 3 _ rfl)
      clear hc hcell hp
      obtain ⟨x, hxe⟩ : ∃ x, l[kk] = x := ⟨_, rfl⟩
      have XE := hide hxe
      have FI := hide hfi
      rw [hxe] at hcall c0 c1 c2 c3
      clear hx hxe hfi
      cases hq : p x with
      | true =>
        have HQ := hide hq
        rw [hq] at hcall
        clear hq
        go_wp2_with (go_at_fn g; refine hcall.mono ?_; rintro e w' ⟨rfl, hb'⟩)
        go_ret
        refine ⟨ret_eq (int_eq ?_), BW.out.trans (hb'.mono BW.out.size)⟩
        have hxl : p l[kk] = true := by rw [XE.out]; exact HQ.out
        unfold idxI
        rw [if_pos (List.any_eq_true.2 ⟨l[kk], List.getElem_mem hlt, hxl⟩)]
        have : l.findIdx p = kk := by
          rw [List.findIdx_eq hlt]
          refine ⟨hxl, fun j hj => ?_⟩
          have := A'.out l[j] (by rw [List.mem_take_iff_getElem]; exact ⟨j, by omega, rfl⟩)
          simpa using this
        rw [this]
      | false =>
        have HQ := hide hq
        rw [hq] at hcall
        clear hq
        go_wp2_with (go_at_fn g; refine hcall.mono ?_; rintro e w' ⟨rfl, hb'⟩)
        go_roundg (l.length - (kk + 1))
        case measure => omega
        case rel =>
          refine ⟨kk + 1, by omega, by omega, by go_num, hide (BW.out.trans (hb'.mono BW.out.size)), hide fun y hy => ?_⟩
          rw [FI.out, List.mem_append] at hy
          rcases hy with hy | hy
          · exact A'.out y hy
          · simp only [List.mem_singleton] at hy
            rw [hy, XE.out]; exact HQ.out
    · have hltz : ¬ (kk : Int) < (l.length : Int) := by omega
      have hk : kk = l.length := by omega
      go_wp2
      go_ret
      refine ⟨ret_eq (int_eq ?_), BW.out⟩
      have hA := A'.out
      rw [hk, List.take_length] at hA
      unfold idxI
      rw [if_neg (by rw [List.any_eq_true]; rintro ⟨y, hy, hpy⟩; rw [hA y hy] at hpy; cases hpy)]

set_option maxHeartbeats 400000 in
/-- slices.ContainsFunc here. -/
theorem cfRect_any {w : World} {v : Value} {l : List R4} (h : RdK encR 4 w w.heap.size v l) (hl : l.length ≤ 1000000000) (g : Nat) (lb : Array Value) (p : R4 → Bool)
    (eg : ∀ args w, (callFunc g args).run Tryz.prog w = .ok (.enter g args) w)
    (hp : ∀ (W : World) (x : R4), x ∈ l → Below w.heap.size w W → Calls Tryz.prog g (#[.agg (encR x).toArray] ++ lb) W fun e w' => e = .returned (.bool (p x)) ∧ Below W.heap.size W w') :
    Calls Tryz.prog 90 #[v, .func (.func g) #[] lb] w fun e w' => e = .returned (.bool (l.any p)) ∧ Below w.heap.size w w' := by
  have hi := cfRect_idx h hl g lb p eg hp
  obtain ⟨A, c, rfl, hc⟩ := h
  clear hp hc eg
  cases ha : l.any p with
  | true =>
    simp only [idxI, ha, if_true] at hi
    clear ha
    obtain ⟨n, hn⟩ : ∃ n, l.findIdx p = n := ⟨_, rfl⟩
    rw [hn] at hi
    clear hn
    have hn0 : decide ((0 : Int) ≤ (n : Int)) = true := by simp
    go_enter Tryz.func90, Tryz.ntmps90
    go_wp2_with (go_at_call 140; refine hi.mono ?_; rintro e w1 ⟨rfl, hb1⟩)
    go_ret
    exact ⟨rfl, hb1⟩
  | false =>
    simp only [idxI, ha, Bool.false_eq_true, if_false] at hi
    clear ha
    go_enter Tryz.func90, Tryz.ntmps90
    go_wp2_with (go_at_call 140; refine hi.mono ?_; rintro e w1 ⟨rfl, hb1⟩)
    go_ret
    exact ⟨rfl, hb1⟩
end Go.Proofs.YtdolpeljengpaaaGreat

/- slices.IndexFunc and slices.ContainsFunc at the program's structs. -/
namespace Go.Proofs.YtdolpeljengpaaaGreat
open Go.RowKit Go.Shelf
set_option linter.unusedVariables false
set_option linter.unusedSimpArgs false

set_option maxHeartbeats 1000000 in
/-- slices.IndexFunc here: the first place at which p holds, or -1. -/
theorem cfReg_idx {w : World} {v : Value} {l : List R4} (h : RdK encR 4 w w.heap.size v l) (hl : l.length ≤ 1000000000) (g : Nat) (lb : Array Value) (p : R4 → Bool)
    (eg : ∀ args w, (callFunc g args).run Tryz.prog w = .ok (.enter g args) w)
    (hp : ∀ (W : World) (x : R4), x ∈ l → Below w.heap.size w W → Calls Tryz.prog g (#[.agg (encR x).toArray] ++ lb) W fun e w' => e = .returned (.bool (p x)) ∧ Below W.heap.size W w') :
    Calls Tryz.prog 163 #[v, .func (.func g) #[] lb] w fun e w' => e = .returned (.int .i64 (idxI p l)) ∧ Below w.heap.size w w' := by
  obtain ⟨A, c, rfl, hc⟩ := h
  go_enter Tryz.func163, Tryz.ntmps163
  go_wp2
  go_loopg [5, 8] l.length (fun gg _ s8 wr => ∃ kk : Nat, kk ≤ l.length ∧ l.length - kk ≤ gg ∧ s8 = .int .i64 kk ∧ Hid (Below w.heap.size w wr) ∧ Hid (∀ x ∈ l.take kk, p x = false))
  case atStart => exact ⟨0, Nat.zero_le _, by omega, rfl, hide (Below.refl _ w), hide (by simp)⟩
  case round =>
    obtain ⟨kk, hkk, hg, rfl, BW, A'⟩ := hrel
    by_cases hlt : kk < l.length
    · have hltz : (kk : Int) < (l.length : Int) := by omega
      obtain ⟨b, off, rfl, hb, hcell⟩ := hc (by intro e; rw [e] at hlt; simp at hlt)
      have hx : l[kk]? = some l[kk] := List.getElem?_eq_getElem hlt
      have hcall := hp wr l[kk] (List.getElem_mem hlt) BW.out
      have hfi : l.take (kk + 1) = l.take kk ++ [l[kk]] := List.take_succ_eq_append_getElem hlt
      have c0 : wr.cell? ⟨b, off + kk * 4, none⟩ = some (.int .i64 l[kk].x0) := (BW.out.cell (p := ⟨b, off + kk * 4, none⟩) hb).trans (hcell kk _ hx 0 _ rfl)
      have c1 : wr.cell? ⟨b, off + kk * 4 + 1, none⟩ = some (.int .i64 l[kk].y0) := (BW.out.cell (p := ⟨b, off + kk * 4 + 1, none⟩) hb).trans (hcell kk _ hx 1 _ rfl)
      have c2 : wr.cell? ⟨b, off + kk * 4 + 2, none⟩ = some (.int .i64 l[kk].x1) := (BW.out.cell (p := ⟨b, off + kk * 4 + 2, none⟩) hb).trans (hcell kk _ hx 2 _ rfl)
      have c3 : wr.cell? ⟨b, off + kk * 4 + 3, none⟩ = some (.int .i64 l[kk].y1) := (BW.out.cell (p := ⟨b, off + kk * 4 + 3, none⟩) hb).trans (hcell kk _ hx 3 _ rfl)
      clear hc hcell hp
      obtain ⟨x, hxe⟩ : ∃ x, l[kk] = x := ⟨_, rfl⟩
      have XE := hide hxe
      have FI := hide hfi
      rw [hxe] at hcall c0 c1 c2 c3
      clear hx hxe hfi
      cases hq : p x with
      | true =>
        have HQ := hide hq
        rw [hq] at hcall
        clear hq
        go_wp2_with (go_at_fn g; refine hcall.mono ?_; rintro e w' ⟨rfl, hb'⟩)
        go_ret
        refine ⟨ret_eq (int_eq ?_), BW.out.trans (hb'.mono BW.out.size)⟩
        have hxl : p l[kk] = true := by rw [XE.out]; exact HQ.out
        unfold idxI
        rw [if_pos (List.any_eq_true.2 ⟨l[kk], List.getElem_mem hlt, hxl⟩)]
        have : l.findIdx p = kk := by
          rw [List.findIdx_eq hlt]
          refine ⟨hxl, fun j hj => ?_⟩
          have := A'.out l[j] (by rw [List.mem_take_iff_getElem]; exact ⟨j, by omega, rfl⟩)
          simpa using this
        rw [this]
      | false =>
        have HQ := hide hq
        rw [hq] at hcall
        clear hq
        go_wp2_with (go_at_fn g; refine hcall.mono ?_; rintro e w' ⟨rfl, hb'⟩)
        go_roundg (l.length - (kk + 1))
        case measure => omega
        case rel =>
          refine ⟨kk + 1, by omega, by omega, by go_num, hide (BW.out.trans (hb'.mono BW.out.size)), hide fun y hy => ?_⟩
          rw [FI.out, List.mem_append] at hy
          rcases hy with hy | hy
          · exact A'.out y hy
          · simp only [List.mem_singleton] at hy
            rw [hy, XE.out]; exact HQ.out
    · have hltz : ¬ (kk : Int) < (l.length : Int) := by omega
      have hk : kk = l.length := by omega
      go_wp2
      go_ret
      refine ⟨ret_eq (int_eq ?_), BW.out⟩
      have hA := A'.out
      rw [hk, List.take_length] at hA
      unfold idxI
      rw [if_neg (by rw [List.any_eq_true]; rintro ⟨y, hy, hpy⟩; rw [hA y hy] at hpy; cases hpy)]

set_option maxHeartbeats 400000 in
/-- slices.ContainsFunc here. -/
theorem cfReg_any {w : World} {v : Value} {l : List R4} (h : RdK encR 4 w w.heap.size v l) (hl : l.length ≤ 1000000000) (g : Nat) (lb : Array Value) (p : R4 → Bool)
    (eg : ∀ args w, (callFunc g args).run Tryz.prog w = .ok (.enter g args) w)
    (hp : ∀ (W : World) (x : R4), x ∈ l → Below w.heap.size w W → Calls Tryz.prog g (#[.agg (encR x).toArray] ++ lb) W fun e w' => e = .returned (.bool (p x)) ∧ Below W.heap.size W w') :
    Calls Tryz.prog 113 #[v, .func (.func g) #[] lb] w fun e w' => e = .returned (.bool (l.any p)) ∧ Below w.heap.size w w' := by
  have hi := cfReg_idx h hl g lb p eg hp
  obtain ⟨A, c, rfl, hc⟩ := h
  clear hp hc eg
  cases ha : l.any p with
  | true =>
    simp only [idxI, ha, if_true] at hi
    clear ha
    obtain ⟨n, hn⟩ : ∃ n, l.findIdx p = n := ⟨_, rfl⟩
    rw [hn] at hi
    clear hn
    have hn0 : decide ((0 : Int) ≤ (n : Int)) = true := by simp
    go_enter Tryz.func113, Tryz.ntmps113
    go_wp2_with (go_at_call 163; refine hi.mono ?_; rintro e w1 ⟨rfl, hb1⟩)
    go_ret
    exact ⟨rfl, hb1⟩
  | false =>
    simp only [idxI, ha, Bool.false_eq_true, if_false] at hi
    clear ha
    go_enter Tryz.func113, Tryz.ntmps113
    go_wp2_with (go_at_call 163; refine hi.mono ?_; rintro e w1 ⟨rfl, hb1⟩)
    go_ret
    exact ⟨rfl, hb1⟩
end Go.Proofs.YtdolpeljengpaaaGreat

/- region.Make, region.Check, region.Has, region.Same, region.Area. -/
namespace Go.Proofs.YtdolpeljengpaaaGreat
open Go.RowKit
set_option linter.unusedVariables false
set_option linter.unusedSimpArgs false

def makeF (l : List R4) : List R4 × Int := if 400 < l.length then ([], 4) else if l.any (fun r => !decide (valid4 r)) then ([], 8) else madeF l
def checkF (l : List R4) : Int := if 400 < l.length then 4 else if l.any (fun r => !decide (valid4 r)) then 8 else if (madeF l).2 = 0 ∧ (madeF l).1 = l then 0 else 8
def area4 (r : R4) : Int := (r.x1 - r.x0) * (r.y1 - r.y0)
def areaS (l : List R4) : Int := (l.map area4).sum
def areaF (l : List R4) : Int × Int := if checkF l = 0 then (areaS l, 0) else (0, checkF l)

theorem all_valid {l : List R4} (h : l.any (fun r => !decide (valid4 r)) = false) : ∀ r ∈ l, valid4 r := by
  intro r hr
  have := List.any_eq_false.1 h r hr
  simpa using this
theorem madeF_code (l : List R4) : (madeF l).2 = 0 ∨ (madeF l).2 = 4 := by
  unfold madeF
  split
  · exact .inr rfl
  · exact .inl rfl
theorem RegRet.mono {B B' : Nat} {x : List R4 × Int} {e : Ending} {w' : World} (h : RegRet B' x e w') (hb : B ≤ B') : RegRet B x e w' := by
  obtain ⟨A, c, h1, h2⟩ := h
  exact ⟨A, c, h1, own_base h2 hb⟩

set_option maxHeartbeats 1000000 in
theorem mkInv_any (r : R4) (w : World) :
    Calls Tryz.prog 91 #[.agg (encR r).toArray] w fun e w' => e = .returned (.bool (!decide (valid4 r))) ∧ Below w.heap.size w w' := by
  have hv := fun W => valid_any r W
  obtain ⟨a, b, c, d⟩ := r
  generalize decide (valid4 ⟨a, b, c, d⟩) = r at hv ⊢
  show Calls Tryz.prog 91 #[.agg #[.int .i64 a, .int .i64 b, .int .i64 c, .int .i64 d]] w _
  change ∀ W, Calls Tryz.prog 92 #[.agg #[.int .i64 a, .int .i64 b, .int .i64 c, .int .i64 d]] W _ at hv
  go_enter Tryz.func91, Tryz.ntmps91
  go_wp2_with (go_at_call 92; refine (hv _).mono ?_; rintro e w1 ⟨rfl, hb⟩)
  go_ret
  exact ⟨rfl, ((Below.refl _ _).alloc (Nat.le_refl _) _).trans (hb.mono (by simp))⟩
set_option maxHeartbeats 1000000 in
theorem ckInv_any (r : R4) (w : World) :
    Calls Tryz.prog 114 #[.agg (encR r).toArray] w fun e w' => e = .returned (.bool (!decide (valid4 r))) ∧ Below w.heap.size w w' := by
  have hv := fun W => valid_any r W
  obtain ⟨a, b, c, d⟩ := r
  generalize decide (valid4 ⟨a, b, c, d⟩) = r at hv ⊢
  show Calls Tryz.prog 114 #[.agg #[.int .i64 a, .int .i64 b, .int .i64 c, .int .i64 d]] w _
  change ∀ W, Calls Tryz.prog 92 #[.agg #[.int .i64 a, .int .i64 b, .int .i64 c, .int .i64 d]] W _ at hv
  go_enter Tryz.func114, Tryz.ntmps114
  go_wp2_with (go_at_call 92; refine (hv _).mono ?_; rintro e w1 ⟨rfl, hb⟩)
  go_ret
  exact ⟨rfl, ((Below.refl _ _).alloc (Nat.le_refl _) _).trans (hb.mono (by simp))⟩
theorem enter_mkInv : ∀ args w, (callFunc 91 args).run Tryz.prog w = .ok (.enter 91 args) w := enters_of Tryz.func91 (by kernel_rfl) rfl
theorem enter_ckInv : ∀ args w, (callFunc 114 args).run Tryz.prog w = .ok (.enter 114 args) w := enters_of Tryz.func114 (by kernel_rfl) rfl

set_option maxHeartbeats 1000000 in
/-- **region.Make.** -/
theorem make_any {w : World} {v : Value} {l : List R4} (hr : RdK encR 4 w w.heap.size v l) (hl : l.length ≤ 100000000) :
    Calls Tryz.prog 46 #[v] w fun e w' => RegRet w.heap.size (makeF l) e w' ∧ Below w.heap.size w w' := by
  have hcf := cfRect_any hr (by omega) 91 #[] (fun r => !decide (valid4 r)) enter_mkInv (fun W x _ _ => mkInv_any x W)
  obtain ⟨A, c, hv, _⟩ := id hr
  subst hv
  have HR := hide hr
  have HCF := hide hcf
  clear hcf hr
  by_cases h4 : 400 < l.length
  · have hz : (400 : Int) < (l.length : Int) := by omega
    have hm : makeF l = ([], 4) := if_pos h4
    have HM := hide hm
    clear hm
    go_enter Tryz.func46, Tryz.ntmps46
    go_wp2
    go_ret2
    exact ⟨⟨none, 0, by rw [HM.out]; rfl, by rw [HM.out]; exact World.ownsRow_nil _ _ _ _⟩, Below.refl _ _⟩
  · have hz : (l.length : Int) ≤ 400 := by omega
    cases ha : l.any (fun r => !decide (valid4 r)) with
    | true =>
      have hm : makeF l = ([], 8) := by unfold makeF; rw [if_neg h4, ha]; rfl
      rw [ha] at HCF
      have HM := hide hm
      clear hm ha
      go_enter Tryz.func46, Tryz.ntmps46
      go_wp2_with (first
        | (go_at_call 90; refine HCF.out.mono ?_; rintro e w1 ⟨rfl, hb1⟩))
      go_ret2
      exact ⟨⟨none, 0, by rw [HM.out]; rfl, by rw [HM.out]; exact World.ownsRow_nil _ _ _ _⟩, hb1⟩
    | false =>
      have hm : makeF l = madeF l := by unfold makeF; rw [if_neg h4, ha]; rfl
      have HV := hide (all_valid ha)
      rw [ha] at HCF
      have HM := hide hm
      clear hm ha
      go_enter Tryz.func46, Tryz.ntmps46
      go_wp2_with (first
        | (go_at_call 90; refine HCF.out.mono ?_; rintro e w1 ⟨rfl, hb1⟩)
        | (go_at_call 93; refine (made_any ((HR.out.below hb1).mono hb1.size) (by omega) HV.out).mono ?_; rintro e w2 ⟨⟨A2, c2, rfl, ho2⟩, hb2⟩; have HO := hide ho2; clear ho2))
      go_ret2
      exact ⟨⟨A2, c2, by rw [HM.out]; rfl, by rw [HM.out]; exact own_base HO.out hb1.size⟩, hb1.trans (hb2.mono hb1.size)⟩

set_option maxHeartbeats 1000000 in
/-- **region.Check.** -/
theorem check_any {w : World} {v : Value} {l : List R4} (hr : RdK encR 4 w w.heap.size v l) (hl : l.length ≤ 100000000) :
    Calls Tryz.prog 68 #[v] w fun e w' => e = .returned (.int .i64 (checkF l)) ∧ Below w.heap.size w w' := by
  have hcf := cfReg_any hr (by omega) 114 #[] (fun r => !decide (valid4 r)) enter_ckInv (fun W x _ _ => ckInv_any x W)
  obtain ⟨A, c, hv, _⟩ := id hr
  subst hv
  have HR := hide hr
  have HCF := hide hcf
  clear hcf hr
  by_cases h4 : 400 < l.length
  · have hz : (400 : Int) < (l.length : Int) := by omega
    have hm : checkF l = 4 := if_pos h4
    have HM := hide hm
    clear hm
    go_enter Tryz.func68, Tryz.ntmps68
    go_wp2
    go_ret
    exact ⟨ret_eq (int_eq HM.out.symm), Below.refl _ _⟩
  · have hz : (l.length : Int) ≤ 400 := by omega
    cases ha : l.any (fun r => !decide (valid4 r)) with
    | true =>
      have hm : checkF l = 8 := by unfold checkF; rw [if_neg h4, ha]; rfl
      rw [ha] at HCF
      have HM := hide hm
      clear hm ha
      go_enter Tryz.func68, Tryz.ntmps68
      go_wp2_with (first
        | (go_at_call 113; refine HCF.out.mono ?_; rintro e w1 ⟨rfl, hb1⟩))
      go_ret
      exact ⟨ret_eq (int_eq HM.out.symm), hb1⟩
    | false =>
      have hm : checkF l = if (madeF l).2 = 0 ∧ (madeF l).1 = l then 0 else 8 := by unfold checkF; rw [if_neg h4, ha]; rfl
      have HV := hide (all_valid ha)
      have hcode := madeF_code l
      have hmd : ∀ W, Below w.heap.size w W → _ := fun W hb => made_any ((HR.out.below hb).mono hb.size) (by omega) HV.out
      have heq : ∀ (W : World) (vs : Value), Below w.heap.size w W → RdK encR 4 W W.heap.size vs (madeF l).1 → (madeF l).1.length ≤ 100000000 → _ := fun W vs hb h1 h2 => eqRect_any h1 ((HR.out.below hb).mono hb.size) h2 (Nat.le_refl _) (Nat.le_refl _)
      have hlen : (madeF l).1.length ≤ 400 := by unfold madeF; split; · simp
                                                 · simp only; omega
      rw [ha] at HCF
      generalize madeF l = R at *
      obtain ⟨R1, R2⟩ := R
      simp only at *
      have HMD := hide hmd
      have HEQ := hide heq
      have HM := hide hm
      clear hm ha hmd heq
      rcases hcode with rfl | rfl
      · cases hd : decide (R1 = l) with
        | true =>
          have HD := hide hd
          clear hd
          go_enter Tryz.func68, Tryz.ntmps68
          go_wp2_with (first
            | (go_at_call 113; refine HCF.out.mono ?_; rintro e w1 ⟨rfl, hb1⟩)
            | (go_at_call 93; refine (HMD.out _ hb1).mono ?_; rintro e w2 ⟨⟨A2, c2, rfl, ho2⟩, hb2⟩; have HO := hide ho2; clear ho2)
            | (go_at_call 115; refine (HEQ.out _ _ (hb1.trans (hb2.mono hb1.size)) (own_rd HO.out (fun _ => rfl)) (by omega)).mono ?_; rintro e w3 ⟨rfl, hb3⟩; rw [HD.out]))
          go_ret
          exact ⟨ret_eq (int_eq (by rw [HM.out, if_pos ⟨trivial, of_decide_eq_true HD.out⟩])), (hb1.trans (hb2.mono hb1.size)).trans (hb3.mono (Nat.le_trans hb1.size hb2.size))⟩
        | false =>
          have HD := hide hd
          clear hd
          go_enter Tryz.func68, Tryz.ntmps68
          go_wp2_with (first
            | (go_at_call 113; refine HCF.out.mono ?_; rintro e w1 ⟨rfl, hb1⟩)
            | (go_at_call 93; refine (HMD.out _ hb1).mono ?_; rintro e w2 ⟨⟨A2, c2, rfl, ho2⟩, hb2⟩; have HO := hide ho2; clear ho2)
            | (go_at_call 115; refine (HEQ.out _ _ (hb1.trans (hb2.mono hb1.size)) (own_rd HO.out (fun _ => rfl)) (by omega)).mono ?_; rintro e w3 ⟨rfl, hb3⟩; rw [HD.out]))
          go_ret
          exact ⟨ret_eq (int_eq (by rw [HM.out, if_neg (fun h => of_decide_eq_false HD.out h.2)])), (hb1.trans (hb2.mono hb1.size)).trans (hb3.mono (Nat.le_trans hb1.size hb2.size))⟩
      · go_enter Tryz.func68, Tryz.ntmps68
        go_wp2_with (first
          | (go_at_call 113; refine HCF.out.mono ?_; rintro e w1 ⟨rfl, hb1⟩)
          | (go_at_call 93; refine (HMD.out _ hb1).mono ?_; rintro e w2 ⟨⟨A2, c2, rfl, ho2⟩, hb2⟩; have HO := hide ho2; clear ho2))
        go_ret
        exact ⟨ret_eq (int_eq (by rw [HM.out, if_neg (fun h => by simp at h)])), hb1.trans (hb2.mono hb1.size)⟩

theorem areaS_take {l : List R4} {m : Nat} {r : R4} (h : l[m]? = some r) : areaS (l.take (m + 1)) = areaS (l.take m) + area4 r := by
  obtain ⟨hm, hp⟩ := List.getElem?_eq_some_iff.1 h
  rw [List.take_succ_eq_append_getElem hm, hp]
  simp [areaS]
theorem area4_bd {r : R4} (h : valid4 r) : 0 ≤ area4 r ∧ area4 r ≤ 4000000000000 := by
  obtain ⟨h1, h2, ⟨a, b⟩, ⟨c, d⟩, ⟨e, f⟩, ⟨g, i⟩⟩ := h
  unfold area4
  have k1 : 0 ≤ r.x1 - r.x0 := by omega
  have k2 : 0 ≤ r.y1 - r.y0 := by omega
  refine ⟨Int.mul_nonneg k1 k2, ?_⟩
  have := Int.mul_le_mul (show r.x1 - r.x0 ≤ 2000000 by omega) (show r.y1 - r.y0 ≤ 2000000 by omega) k2 (by omega)
  omega
theorem areaS_bd : ∀ {l : List R4}, (∀ r ∈ l, valid4 r) → 0 ≤ areaS l ∧ areaS l ≤ 4000000000000 * l.length
  | [], _ => by simp [areaS]
  | r :: l, h => by
    have h1 := areaS_bd (l := l) fun r hr => h r (by simp [hr])
    have h2 := area4_bd (h r (by simp))
    have e : areaS (r :: l) = area4 r + areaS l := by simp [areaS]
    rw [e, List.length_cons]
    omega
theorem checkF_ok {l : List R4} (h : checkF l = 0) : l.length ≤ 400 ∧ (∀ r ∈ l, valid4 r) ∧ madeF l = (l, 0) := by
  unfold checkF at h
  by_cases h4 : 400 < l.length
  · rw [if_pos h4] at h; simp at h
  rw [if_neg h4] at h
  cases ha : l.any (fun r => !decide (valid4 r)) with
  | true => rw [ha] at h; simp at h
  | false =>
    rw [ha] at h
    refine ⟨by omega, all_valid ha, ?_⟩
    by_cases hm : (madeF l).2 = 0 ∧ (madeF l).1 = l
    · exact Prod.ext hm.2 hm.1
    · simp [hm] at h
set_option maxHeartbeats 2000000 in
/-- region.Area. -/
theorem area_any {w : World} {v : Value} {l : List R4} (hr : RdK encR 4 w w.heap.size v l) (hl : l.length ≤ 100000000) :
    Calls Tryz.prog 30 #[v] w fun e w' => e = .returned (.tuple #[.int .i64 (areaF l).1, .int .i64 (areaF l).2]) ∧ Below w.heap.size w w' := by
  have hck := check_any hr hl
  obtain ⟨A, c, hv, hc⟩ := id hr
  subst hv
  have HCK := hide hck
  clear hck
  by_cases h0 : checkF l = 0
  · obtain ⟨k1, k2, _⟩ := checkF_ok h0
    have hf : areaF l = (areaS l, 0) := if_pos h0
    have HF := hide hf
    rw [h0] at HCK
    have HV := hide k2
    have HRC := hide hc
    clear hf h0 k2 hr hc
    go_enter Tryz.func30, Tryz.ntmps30
    go_wp2_with (go_at_call 68; refine HCK.out.mono ?_; rintro e w1 ⟨rfl, hb1⟩)
    go_loopw [5, 15] (fun s i wr => ∃ m : Nat, m ≤ l.length ∧ i = .int .i64 m ∧ s = .int .i64 (areaS (l.take m)) ∧ Below w.heap.size w wr) (fun _ i _ => l.length - (intOf i).toNat)
    case atStart => exact ⟨0, Nat.zero_le _, rfl, by simp [areaS], hb1⟩
    case round =>
      clear hb1
      obtain ⟨m, hm, rfl, rfl, hb⟩ := hrel
      by_cases hlt : m < l.length
      · obtain ⟨⟨x0, y0, x1, y1⟩, hp⟩ : ∃ p, l[m]? = some p := ⟨_, List.getElem?_eq_getElem hlt⟩
        obtain ⟨b, o, rfl, hbl, k⟩ := HRC.out (by intro e; rw [e] at hlt; simp at hlt)
        have d0 : wr.cell? ⟨b, o + m * 4, none⟩ = some (.int .i64 x0) := (hb.cell (p := ⟨b, _, none⟩) hbl).trans (k m _ hp 0 _ rfl)
        have d1 : wr.cell? ⟨b, o + m * 4 + 1, none⟩ = some (.int .i64 y0) := (hb.cell (p := ⟨b, _, none⟩) hbl).trans (k m _ hp 1 _ rfl)
        have d2 : wr.cell? ⟨b, o + m * 4 + 2, none⟩ = some (.int .i64 x1) := (hb.cell (p := ⟨b, _, none⟩) hbl).trans (k m _ hp 2 _ rfl)
        have d3 : wr.cell? ⟨b, o + m * 4 + 3, none⟩ = some (.int .i64 y1) := (hb.cell (p := ⟨b, _, none⟩) hbl).trans (k m _ hp 3 _ rfl)
        obtain ⟨v1, v2, ⟨v3, v4⟩, ⟨v5, v6⟩, ⟨v7, v8⟩, ⟨v9, v10⟩⟩ := HV.out _ (List.mem_of_getElem? hp)
        have ba := area4_bd (HV.out _ (List.mem_of_getElem? hp))
        have bs := areaS_bd (l := l.take m) fun r hr => HV.out r (List.mem_of_mem_take hr)
        rw [List.length_take] at bs
        have HT := hide (areaS_take hp)
        have mz : (m : Int) < (l.length : Int) := by omega
        have lz : (l.length : Int) ≤ 400 := by omega
        simp only [area4] at ba v1 v2 v3 v4 v5 v6 v7 v8 v9 v10
        clear k hp
        generalize areaS (l.take m) = s at *
        have bs1 := bs.1
        have bs2 : s ≤ 1600000000000000 := by omega
        have ba1 := ba.1
        have ba2 := ba.2
        clear bs ba
        go_wp2
        go_roundw
        case rel => exact ⟨m + 1, by omega, by go_num, by rw [HT.out]; rfl, hb.alloc hb.size _⟩
        case measure => simp [intOf]; omega
      · have mz : ¬ (m : Int) < (l.length : Int) := by omega
        have ht : l.take m = l := List.take_of_length_le (by omega)
        have HT := hide ht
        clear ht
        go_wp2
        go_ret2
        exact ⟨by rw [HF.out, HT.out]; rfl, hb⟩
  · have hf : areaF l = (0, checkF l) := if_neg h0
    have HF := hide hf
    clear hf
    generalize checkF l = ck at *
    have hne : (ck != 0) = true := by simpa using h0
    clear h0
    go_enter Tryz.func30, Tryz.ntmps30
    go_wp2_with (go_at_call 68; refine HCK.out.mono ?_; rintro e w1 ⟨rfl, hb1⟩)
    go_ret2
    exact ⟨by rw [HF.out]; rfl, hb1⟩
end Go.Proofs.YtdolpeljengpaaaGreat

/- span.Has; the unit lines at a point: street.roads.around and node. -/
namespace Go.Proofs.YtdolpeljengpaaaGreat
open Go.RowKit Go.Maps
set_option linter.unusedVariables false
set_option linter.unusedSimpArgs false

set_option maxHeartbeats 1000000 in
theorem spHasC_any (p : Sp) (x : Int) (bx : Nat) (w : World) (hx : w.cell? ⟨bx, 0, none⟩ = some (.int .i64 x)) :
    Calls Tryz.prog 193 (#[.agg (encS p).toArray] ++ #[.pointer (some ⟨bx, 0, none⟩)]) w fun e w' => e = .returned (.bool (decide (p.1 ≤ x ∧ x < p.2))) ∧ Below w.heap.size w w' := by
  obtain ⟨a, b⟩ := p
  show Calls Tryz.prog _ #[.agg #[.int .i64 a, .int .i64 b], .pointer (some ⟨bx, 0, none⟩)] w _
  have lx := lt_of_cell hx
  have nx : bx ≠ w.heap.size := by omega
  go_enter Tryz.func193, Tryz.ntmps193
  go_wp2
  all_goals
    go_ret
    refine ⟨ret_eq (bool_eq ?_), (Below.refl _ _).alloc (Nat.le_refl _) _⟩
    rw [Bool.eq_iff_iff]
    simp <;> omega
theorem enter_spHasC : ∀ args w, (callFunc 193 args).run Tryz.prog w = .ok (.enter 193 args) w := enters_of Tryz.func193 (by kernel_rfl) rfl
theorem any_smem (s : List Sp) (x : Int) : s.any (fun p => decide (p.1 ≤ x ∧ x < p.2)) = decide (smem s x) := by
  rw [Bool.eq_iff_iff, List.any_eq_true, decide_eq_true_eq]
  unfold smem
  simp
set_option maxHeartbeats 1000000 in
theorem spHas_any {w : World} {v : Value} {l : List Sp} (hr : RdK encS 2 w w.heap.size v l) (hl : l.length ≤ 1000000000) (x : Int) :
    Calls Tryz.prog 159 #[v, .int .i64 x] w fun e w' => e = .returned (.bool (decide (smem l x))) ∧ Below w.heap.size w w' := by
  have hb0 : Below w.heap.size w (w.alloc (.cells #[.int .i64 x] 3)) := (Below.refl _ _).alloc (Nat.le_refl _) _
  have h := cfSpan_any (w := w.alloc (.cells #[.int .i64 x] 3)) ((hr.below hb0).mono hb0.size) hl 193 #[.pointer (some ⟨w.heap.size, 0, none⟩)] (fun p => decide (p.1 ≤ x ∧ x < p.2)) enter_spHasC
    (fun W p _ hb => spHasC_any p x _ W ((hb.cell (p := ⟨w.heap.size, 0, none⟩) (by simp)).trans (by simp [go_sem])))
  rw [any_smem] at h
  generalize decide (smem l x) = d at *
  have HB := hide hb0
  obtain ⟨A1, c1, rfl, _⟩ := hr
  clear hb0
  go_enter Tryz.func159, Tryz.ntmps159
  go_wp2_with (go_at_call 181; refine h.mono ?_; rintro e w1 ⟨rfl, hb⟩)
  go_ret
  exact ⟨rfl, HB.out.trans (hb.mono HB.out.size)⟩

theorem rowC_ok {l : List Sg} (hv : ∀ s ∈ l, okSg s) : Lines l (rowC l) (colC l) := by
  have hr : ∀ y, ∀ p ∈ rowSp l y, p.1 < p.2 := fun y p hp => (rowSp_ok hv y p hp).1
  have hc : ∀ x, ∀ p ∈ colSp l x, p.1 < p.2 := fun x p hp => (colSp_ok hv x p hp).1
  refine ⟨fun y => (sjoin_ok (h := hFst) rfl (hr y) (by simp)).1, fun x y => ?_, fun x => (sjoin_ok (h := hFst) rfl (hc x) (by simp)).1, fun x y => ?_⟩
  · unfold rowC htB
    rw [(sjoin_ok (h := hFst) rfl (hr y) (by simp)).2]
    rfl
  · unfold colC vtB
    rw [(sjoin_ok (h := hFst) rfl (hc x) (by simp)).2]
    rfl
theorem rowC_len (l : List Sg) (y : Int) : (rowC l y).length ≤ 2 * l.length := by
  have h1 := sjoin_len hFst (rowSp l y) []
  have h2 := rowSp_len l y
  unfold rowC
  simp only [List.length_nil] at h1
  omega
theorem colC_len (l : List Sg) (x : Int) : (colC l x).length ≤ 2 * l.length := by
  have h1 := sjoin_len hFst (colSp l x) []
  have h2 := colSp_len l x
  unfold colC
  simp only [List.length_nil] at h1
  omega
theorem Ms.rd {B bM : Nat} {K : List Int} {p q : Int → List Sp} {vals : Int → Value} {w : World} (h : Ms B bM K p vals w) (hk : KeysUp K q) (hz : ∀ k, q k = [] → p k = []) (k : Int) : RdK encS 2 w w.heap.size (gvI K vals k) (p k) := by
  by_cases hm : k ∈ K
  · rw [gv_in hm]
    exact own_rd (h.mv.vs k hm) (fun _ => rfl)
  · rw [gv_out hm, hz k (Classical.byContradiction fun hn => hm (hk k hn))]
    exact RdK.nil none 0
theorem Roads.below {B : Nat} {l : List Sg} {v : Value} {w w' : World} (h : Roads B l v w) (hb : Below w.heap.size w w') : Roads B l v w' := by
  obtain ⟨b1, b2, K1, K2, v1, v2, e, m1, m2, k1, k2, g1, g2⟩ := h
  exact ⟨b1, b2, K1, K2, v1, v2, e, m1.below hb, m2.below hb, k1, k2, g1, g2⟩
/-- What a look-up in the roads gives. -/
theorem Roads.look {B : Nat} {l : List Sg} {v : Value} {w : World} (h : Roads B l v w) {x y : Int} (hx : okK x) (hy : okK y) : ∃ b1 b2 A1 c1 A2 c2, v = .agg #[.map (some b1), .map (some b2)] ∧ (∀ w', Below w.heap.size w w' → (Instr.lookup 161 (.map (some b1)) (.int .i64 y) false).run Tryz.prog w' = .ok (.slice A1 (rowC l y).length c1) w' ∧ (Instr.lookup 161 (.map (some b2)) (.int .i64 x) false).run Tryz.prog w' = .ok (.slice A2 (colC l x).length c2) w') ∧
    RdK encS 2 w w.heap.size (.slice A1 (rowC l y).length c1) (rowC l y) ∧ RdK encS 2 w w.heap.size (.slice A2 (colC l x).length c2) (colC l x) := by
  obtain ⟨b1, b2, K1, K2, v1, v2, e, m1, m2, k1, k2, g1, g2⟩ := h
  have r1 := m1.rd k1 (fun k hk => by unfold rowC; rw [hk]; rfl) y
  have r2 := m2.rd k2 (fun k hk => by unfold colC; rw [hk]; rfl) x
  obtain ⟨A1, c1, e1, _⟩ := id r1
  obtain ⟨A2, c2, e2, _⟩ := id r2
  rw [e1] at r1
  rw [e2] at r2
  refine ⟨b1, b2, A1, c1, A2, c2, e, fun w' hb => ?_, r1, r2⟩
  have l1 := (m1.below hb).look hy
  have l2 := (m2.below hb).look hx
  rw [e1] at l1
  rw [e2] at l2
  exact ⟨l1, l2⟩
def arndV (l : List Sg) (p : Pt) : Value := .agg #[.bool (htB l p.1 p.2), .bool (vtB l p.1 p.2), .bool (htB l (p.1 - 1) p.2), .bool (vtB l p.1 (p.2 - 1))]
def bigP (p : Pt) : Prop := (-1000001 ≤ p.1 ∧ p.1 ≤ 1000001) ∧ (-1000001 ≤ p.2 ∧ p.2 ≤ 1000001)
set_option maxRecDepth 100000 in
set_option maxHeartbeats 4000000 in
theorem around_any {w : World} {B : Nat} {l : List Sg} {v : Value} (h : Roads B l v w) (hv : ∀ s ∈ l, okSg s) (hl : l.length ≤ 800) {x y : Int} (hp : bigP (x, y)) :
    Calls Tryz.prog 108 #[v, .agg #[.int .i64 x, .int .i64 y]] w fun e w' => e = .returned (arndV l (x, y)) ∧ Below w.heap.size w w' := by
  obtain ⟨⟨x1, x2⟩, y1, y2⟩ := hp
  simp only at x1 x2 y1 y2
  obtain ⟨b1, b2, A1, c1, A2, c2, rfl, hlk, r1, r2⟩ := h.look (x := x) (y := y) (by unfold okK; omega) (by unfold okK; omega)
  have HL := hide hlk
  have hLn := rowC_ok hv
  have e1 : decide (smem (rowC l y) x) = htB l x y := by rw [Bool.eq_iff_iff, decide_eq_true_eq]; exact hLn.rm x y
  have e2 : decide (smem (colC l x) y) = vtB l x y := by rw [Bool.eq_iff_iff, decide_eq_true_eq]; exact hLn.cm x y
  have e3 : decide (smem (rowC l y) (x - 1)) = htB l (x - 1) y := by rw [Bool.eq_iff_iff, decide_eq_true_eq]; exact hLn.rm (x - 1) y
  have e4 : decide (smem (colC l x) (y - 1)) = vtB l x (y - 1) := by rw [Bool.eq_iff_iff, decide_eq_true_eq]; exact hLn.cm x (y - 1)
  have hA := hide (fun (W : World) (hb : Below w.heap.size w W) (z : Int) => spHas_any (w := W) ((r1.below hb).mono hb.size) (by have := rowC_len l y; omega) z)
  have hB := hide (fun (W : World) (hb : Below w.heap.size w W) (z : Int) => spHas_any (w := W) ((r2.below hb).mono hb.size) (by have := colC_len l x; omega) z)
  have H1 := hide (fun W hb => by have := hA.out W hb x; rwa [e1] at this)
  have H2 := hide (fun W hb => by have := hB.out W hb y; rwa [e2] at this)
  have H3 := hide (fun W hb => by have := hA.out W hb (x - 1); rwa [e3] at this)
  have H4 := hide (fun W hb => by have := hB.out W hb (y - 1); rwa [e4] at this)
  have HR : Hid (arndV l (x, y) = .agg #[.bool (htB l x y), .bool (vtB l x y), .bool (htB l (x - 1) y), .bool (vtB l x (y - 1))]) := hide rfl
  generalize htB l x y = q1 at *
  generalize vtB l x y = q2 at *
  generalize htB l (x - 1) y = q3 at *
  generalize vtB l x (y - 1) = q4 at *
  generalize (rowC l y).length = n1 at *
  generalize (colC l x).length = n2 at *
  clear hA hB e1 e2 e3 e4 hLn hlk r1 r2 h hv
  go_enter Tryz.func108, Tryz.ntmps108
  go_upto_region 1 with fail
  refine wp_name fun w0 hw0 => ?_
  have hb0 : Below w.heap.size w w0 := by
    rw [hw0]
    repeat (first | with_reducible exact Below.refl _ _ | with_reducible refine Below.setCell ?_ (by first | (simp; done) | (simp; omega)) _ | with_reducible refine Below.alloc ?_ (by first | omega | (simp; omega) | simp) _)
  have d0 : w0.cell? ⟨w.heap.size, 0, none⟩ = some (.map (some b1)) := by rw [hw0]; simp [go_sem]
  have d1 : w0.cell? ⟨w.heap.size, 1, none⟩ = some (.map (some b2)) := by rw [hw0]; simp [go_sem]
  have p0 : w0.cell? ⟨w.heap.size + 1, 0, none⟩ = some (.int .i64 x) := by rw [hw0]; simp [go_sem]
  have p1 : w0.cell? ⟨w.heap.size + 1, 1, none⟩ = some (.int .i64 y) := by rw [hw0]; simp [go_sem]
  have f0 : ∀ i : Nat, i < 4 → w0.cell? ⟨w.heap.size + 1 + 1, i, none⟩ = some (.bool false) ∧ w0.frozen? ⟨w.heap.size + 1 + 1, i, none⟩ = false := by
    intro i hi
    rw [hw0]
    match i, hi with
    | 0, _ => simp [go_sem]
    | 1, _ => simp [go_sem]
    | 2, _ => simp [go_sem]
    | 3, _ => simp [go_sem]
  have hsz : w.heap.size + 3 ≤ w0.heap.size := by rw [hw0]; simp
  have HB0 := hide hb0
  have HF := hide f0
  clear hw0 hb0 f0
  have HD := hide (And.intro d0 (And.intro d1 (And.intro p0 p1)))
  have hz0 : w.heap.size < w0.heap.size := by omega
  have hz1 : w.heap.size + 1 < w0.heap.size := by omega
  have hz2 : w.heap.size + 1 + 1 < w0.heap.size := by omega
  clear d0 d1 p0 p1 hsz
  refine wp_region_mix [0, 1, 2, 3, 4, 5, 6, 7, 8, 9] [10, 11] (fun w' => Below w0.heap.size w0 w') (by kernel_rfl) (by kernel_rfl) (Below.refl _ _).drew ?_
  simp only [List.map_cons, List.map_nil, opAt, List.getElem?_cons_succ, List.getElem?_cons_zero, Option.getD_some]
  iterate 10
    refine ⟨?_, Or.inl ⟨by rfl, ?_⟩, ?_⟩
    rotate_left 1
    · intro w' hSw
      obtain ⟨d0, d1, p0, p1⟩ := HD.out
      replace d0 := (hSw.cell (p := ⟨w.heap.size, 0, none⟩) hz0).trans d0
      replace d1 := (hSw.cell (p := ⟨w.heap.size, 1, none⟩) hz0).trans d1
      replace p0 := (hSw.cell (p := ⟨w.heap.size + 1, 0, none⟩) hz1).trans p0
      replace p1 := (hSw.cell (p := ⟨w.heap.size + 1, 1, none⟩) hz1).trans p1
      obtain ⟨l1, l2⟩ := HL.out _ (HB0.out.trans (hSw.mono HB0.out.size))
      clear hSw
      go_simp
      first | done | with_reducible rfl
    simp only [Act.put, List.setIfInBounds_toArray, List.set_cons_zero, List.set_cons_succ]
  simp only [wpReads]
  intro K hK
  simp only [Act.put, List.setIfInBounds_toArray, List.set_cons_zero, List.set_cons_succ] at hK ⊢
  go_simp
  refine hK _ _ (fun _ => (Below.refl _ _).drew) ?_
  clear hK K
  intro K hK
  simp only [Act.put, List.setIfInBounds_toArray, List.set_cons_zero, List.set_cons_succ] at hK ⊢
  go_simp
  refine hK _ _ (fun h => absurd rfl h) ?_
  clear hK K
  refine NoPanic.normal ?_
  have wx1 : IntKind.i64.wrap (x - 1) = x - 1 := IntWalk.i64_in _ (by omega)
  have wy1 : IntKind.i64.wrap (y - 1) = y - 1 := IntWalk.i64_in _ (by omega)
  go_upto_region 2 with fail
  refine wp_region_mix [0, 1, 2, 4, 5, 6, 8, 9, 10, 11, 13, 14, 15, 16] [3, 7, 12, 17, 18, 19] (fun w' => Below w0.heap.size w0 w') (by kernel_rfl) (by kernel_rfl) (Below.refl _ _).drew.drew ?_
  simp only [List.map_cons, List.map_nil, opAt, List.getElem?_cons_succ, List.getElem?_cons_zero, Option.getD_some]
  have HBK : Hid (Below w0.heap.size w0 w0.drew.drew) := hide (Below.refl _ _).drew.drew
  generalize w0.drew.drew = wk at *
  iterate 14
    refine ⟨?_, Or.inl ⟨by rfl, ?_⟩, ?_⟩
    rotate_left 1
    · intro w' hSw
      obtain ⟨d0, d1, p0, p1⟩ := HD.out
      replace p0 := (hSw.cell (p := ⟨w.heap.size + 1, 0, none⟩) hz1).trans p0
      replace p1 := (hSw.cell (p := ⟨w.heap.size + 1, 1, none⟩) hz1).trans p1
      clear hSw d0 d1
      go_simp
      first | done | with_reducible rfl
    simp only [Act.put, List.setIfInBounds_toArray, List.set_cons_zero, List.set_cons_succ]
  simp only [wpReads]
  intro K hK
  simp only [Act.put, List.setIfInBounds_toArray, List.set_cons_zero, List.set_cons_succ] at hK ⊢
  go_simp
  refine (H1.out _ (HB0.out.trans (HBK.out.mono HB0.out.size))).mono ?_
  rintro e wc ⟨rfl, hbc⟩
  replace HBK := hide (HBK.out.trans (hbc.mono HBK.out.size))
  clear hbc
  refine hK _ _ (fun _ => HBK.out) ?_
  clear hK K
  intro K hK
  simp only [Act.put, List.setIfInBounds_toArray, List.set_cons_zero, List.set_cons_succ] at hK ⊢
  go_simp
  refine (H2.out _ (HB0.out.trans (HBK.out.mono HB0.out.size))).mono ?_
  rintro e wc ⟨rfl, hbc⟩
  replace HBK := hide (HBK.out.trans (hbc.mono HBK.out.size))
  clear hbc
  refine hK _ _ (fun _ => HBK.out) ?_
  clear hK K
  intro K hK
  simp only [Act.put, List.setIfInBounds_toArray, List.set_cons_zero, List.set_cons_succ] at hK ⊢
  go_simp
  refine (H3.out _ (HB0.out.trans (HBK.out.mono HB0.out.size))).mono ?_
  rintro e wc ⟨rfl, hbc⟩
  replace HBK := hide (HBK.out.trans (hbc.mono HBK.out.size))
  clear hbc
  refine hK _ _ (fun _ => HBK.out) ?_
  clear hK K
  intro K hK
  simp only [Act.put, List.setIfInBounds_toArray, List.set_cons_zero, List.set_cons_succ] at hK ⊢
  go_simp
  refine (H4.out _ (HB0.out.trans (HBK.out.mono HB0.out.size))).mono ?_
  rintro e wc ⟨rfl, hbc⟩
  replace HBK := hide (HBK.out.trans (hbc.mono HBK.out.size))
  clear hbc
  refine hK _ _ (fun _ => HBK.out) ?_
  clear hK K
  intro K hK
  simp only [Act.put, List.setIfInBounds_toArray, List.set_cons_zero, List.set_cons_succ] at hK ⊢
  go_simp
  refine hK _ _ (fun _ => HBK.out) ?_
  clear hK K
  have f0 := HF.out 0 (by omega)
  have f1 := HF.out 1 (by omega)
  have f2 := HF.out 2 (by omega)
  have f3 := HF.out 3 (by omega)
  obtain ⟨hcw, hfw⟩ := bcell HBK.out
  have a0 := (hcw _ 0 hz2).trans f0.1
  have a1 := (hcw _ 1 hz2).trans f1.1
  have a2 := (hcw _ 2 hz2).trans f2.1
  have a3 := (hcw _ 3 hz2).trans f3.1
  have b0 := (hfw _ 0 hz2).trans f0.2
  have b1' := (hfw _ 1 hz2).trans f1.2
  have b2' := (hfw _ 2 hz2).trans f2.2
  have b3 := (hfw _ 3 hz2).trans f3.2
  have hzk : w.heap.size + 1 + 1 < wc.heap.size := Nat.lt_of_lt_of_le hz2 HBK.out.size
  clear f0 f1 f2 f3 hcw hfw
  intro K hK
  simp only [Act.put, List.setIfInBounds_toArray, List.set_cons_zero, List.set_cons_succ] at hK ⊢
  go_simp
  refine hK _ _ (fun h => absurd rfl h) ?_
  clear hK K
  refine NoPanic.normal ?_
  go_wp2_with (fail)
  refine bodyPost_ret (v := .agg #[.bool q1, .bool q2, .bool q3, .bool q4]) (by simp [results, Tryz.results108, go_sem, a0, a1, a2, a3, hzk]) rfl ⟨by rw [HR.out], ?_⟩
  have hlow := HB0.out.trans (HBK.out.mono HB0.out.size)
  exact Below.setCell (Below.setCell (Below.setCell (Below.setCell hlow (by simp; omega) _) (by simp; omega) _) (by simp; omega) _) (by simp; omega) _
theorem eq4_any (a b c d e f g h : Bool) (W : World) : (Op.equalIn 10000 167 (.agg #[.bool a, .bool b, .bool c, .bool d]) (.agg #[.bool e, .bool f, .bool g, .bool h])).run Tryz.prog W = .ok (a == e && (b == f && (c == g && d == h))) W := by
  have u3 := Tryz.underlying4
  have a3 := Tryz.isAgg4
  have z3 := Tryz.sizeOf4
  rw [show (10000 : Nat) = 9999 + 1 from rfl, Op.equalIn]
  simp only [Sem.run_bind, run_underlying Tryz.underlying167, Result.andThen_ok]
  simp only [Std.Legacy.Range.forIn_eq_forIn_range', Std.Legacy.Range.size, Nat.sub_zero, Nat.add_sub_cancel, Nat.div_one, List.range'_succ, List.range'_zero, List.forIn_cons, List.forIn_nil]
  go_simp
  cases a <;> cases b <;> cases c <;> cases d <;> cases e <;> cases f <;> cases g <;> cases h <;> simp
set_option maxRecDepth 100000 in
set_option maxHeartbeats 8000000 in
theorem node_any {w : World} {B : Nat} {l : List Sg} {v : Value} (h : Roads B l v w) (hv : ∀ s ∈ l, okSg s) (hl : l.length ≤ 800) {x y : Int} (hp : bigP (x, y)) :
    Calls Tryz.prog 158 #[v, .agg #[.int .i64 x, .int .i64 y]] w fun e w' => e = .returned (.bool (nodeG (htB l) (vtB l) (x, y))) ∧ Below w.heap.size w w' := by
  have HA := hide (fun (W : World) (hb : Below w.heap.size w W) => around_any (h.below hb) hv hl hp)
  obtain ⟨b1, b2, K1, K2, v1, v2, rfl, _⟩ := h
  have g30 : Tryz.prog.eqGuardType Tryz.prog.depth 167 = false := by kernel_rfl
  have he4 := eq4_any
  have hr : arndV l (x, y) = .agg #[.bool (htB l x y), .bool (vtB l x y), .bool (htB l (x - 1) y), .bool (vtB l x (y - 1))] := rfl
  have hn : nodeG (htB l) (vtB l) (x, y) = !((htB l x y == htB l (x - 1) y) && (vtB l x y == vtB l x (y - 1)) && !(htB l x y && vtB l x y)) := rfl
  rw [hr] at HA
  rw [hn]
  clear hr hn hv
  generalize htB l x y = q1 at *
  generalize vtB l x y = q2 at *
  generalize htB l (x - 1) y = q3 at *
  generalize vtB l x (y - 1) = q4 at *
  cases q1 <;> cases q2 <;> cases q3 <;> cases q4
  all_goals
    go_enter Tryz.func158, Tryz.ntmps158
    go_wp2_with (fail)
    refine (HA.out _ (((Below.refl _ _).alloc (Nat.le_refl _) _).alloc (by simp) _)).mono ?_
    rintro e w1 ⟨rfl, hb⟩
    have HB := hide ((((Below.refl w.heap.size w).alloc (Nat.le_refl _) _).alloc (by simp) _).trans (hb.mono (by simp; omega)))
    clear hb
    go_wp2_with (fail)
    go_ret
    exact ⟨rfl, HB.out⟩
end Go.Proofs.YtdolpeljengpaaaGreat
