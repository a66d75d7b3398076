/- Texts laid together: Add, RefS, RefX, RefC, RefA, RefF. Lemmas for the statements of this seat; no condition. -/
import Derived.Test.YtdolpeljengpaaaGreatPk3
import Derived.RangeFuncOwn
import Derived.Test.YtdolpeljengpaaaGreatPk2
import Derived.Laws.CopyOwn
import Derived.Test.YtdolpeljengpaaaGreatPk1
import Derived.Laws.StructEq
import Derived.Deep.QuietTactic
import Derived.BigQuiet

/- builder.add: one more slab. -/
namespace Go.Proofs.YtdolpeljengpaaaGreat
open Go.RowKit
set_option linter.unusedVariables false
set_option linter.unusedSimpArgs false

theorem own_below {w w1 : World} {B : Nat} {e : TypeId} {size : Nat} {v : Value} {n : Nat} {xs : List Value} (h : w.ownsRow B e size v n xs) (hb : Below w.heap.size w w1) : w1.ownsRow B e size v n xs := by
  refine ⟨h.1, ?_⟩
  rcases h.2 with hn | ⟨g, cap, cur, hv, hg, hh, r⟩
  · exact .inl hn
  · exact .inr ⟨g, cap, cur, hv, hg, (hb.block g (Array.getElem?_eq_some_iff.1 hh).1).trans hh, r⟩
theorem own_apart {w : World} {B B' : Nat} {e e' : TypeId} {size size' : Nat} {v v' : Value} {n n' : Nat} {xs xs' : List Value} (h : w.ownsRow B e size v n xs) (h' : w.ownsRow B' e' size' v' n' xs') (hne : e ≠ e') : v.ownBlock = none ∨ v.ownBlock ≠ v'.ownBlock := by
  rcases h.2 with ⟨rfl, _⟩ | ⟨g, cap, cur, rfl, _, hg, _⟩
  · exact .inl rfl
  · right
    intro he
    rcases h'.2 with ⟨rfl, _⟩ | ⟨g', cap', cur', rfl, _, hg', _⟩
    · simp [Value.ownBlock] at he
    · simp [Value.ownBlock] at he
      subst he
      rw [hg] at hg'
      injection hg' with hg'
      injection hg' with _ h2
      exact hne h2
theorem grown_refl (w : World) (row : Option Nat) : w.grownBy w row := ⟨rfl, rfl, rfl, Nat.le_refl _, fun _ _ _ => rfl⟩
theorem infoRc : (Tryz.prog.info? 69).map (fun i => (i.zero, i.size, i.bytes)) = some (some (.agg #[.int .i64 0, .int .i64 0, .int .i64 0, .int .i64 0]), 4, 32) := by kernel_rfl
/-- 'l[k].X1 = t', cell by cell. -/
theorem flat_set (t : Int) : ∀ (l : List R4) (k : Nat) (r : R4), l[k]? = some r → (l.flatMap encR).set (k * 4 + 2) (.int .i64 t) = (l.set k { r with x1 := t }).flatMap encR
  | [], k, r, h => by simp at h
  | a :: l, 0, r, h => by
    simp at h; subst h
    rfl
  | a :: l, k + 1, r, h => by
    have := flat_set t l k r (by simpa using h)
    rw [List.set_cons_succ, List.flatMap_cons, List.flatMap_cons, ← this, List.set_append_right _ _ (by show 4 ≤ _; omega)]
    congr 2
    show (k + 1) * 4 + 2 - 4 = _
    omega
/-- The rectangles from place m on, up to place k, end at t. -/
def upTo (t : Int) (m k : Nat) (l : List R4) : List R4 := l.mapIdx fun i r => if m ≤ i ∧ i < k then { r with x1 := t } else r
theorem upTo_len (t : Int) (m k : Nat) (l : List R4) : (upTo t m k l).length = l.length := by simp [upTo]
theorem upTo_start (t : Int) (m : Nat) (l : List R4) : upTo t m m l = l := by
  apply List.ext_getElem?
  intro i
  simp only [upTo, List.getElem?_mapIdx]
  cases l[i]? with
  | none => rfl
  | some r => simp; omega
theorem upTo_step (t : Int) (m k : Nat) (l : List R4) (r : R4) (hm : m ≤ k) (h : (upTo t m k l)[k]? = some r) : (upTo t m k l).set k { r with x1 := t } = upTo t m (k + 1) l := by
  apply List.ext_getElem?
  intro i
  rw [List.getElem?_set]
  have hk : k < (upTo t m k l).length := (List.getElem?_eq_some_iff.1 h).1
  by_cases hik : k = i
  · subst hik
    rw [if_pos rfl, if_pos hk]
    simp only [upTo, List.getElem?_mapIdx] at h ⊢
    cases hl : l[k]? with
    | none => rw [hl] at h; simp at h
    | some q =>
      rw [hl] at h
      simp at h
      subst h
      simp [hm]
  · rw [if_neg hik]
    simp only [upTo, List.getElem?_mapIdx]
    cases l[i]? with
    | none => rfl
    | some q =>
      have : (m ≤ i ∧ i < k) ↔ (m ≤ i ∧ i < k + 1) := by omega
      simp only [Option.map_some]
      by_cases hc : m ≤ i ∧ i < k
      · rw [if_pos hc, if_pos (this.1 hc)]
      · rw [if_neg hc, if_neg (fun g => hc (this.2 g))]
theorem upTo_end (S0 : List Slab) (f0 e t : Int) (s : List Sp) : upTo t (flat S0).length (flat (S0 ++ [⟨f0, e, s⟩])).length (flat (S0 ++ [⟨f0, e, s⟩])) = flat (S0 ++ [⟨f0, t, s⟩]) := by
  rw [flat_append, flat_one, flat_append, flat_one]
  apply List.ext_getElem?
  intro i
  simp only [upTo, List.getElem?_mapIdx, List.length_append]
  by_cases hi : i < (flat S0).length
  · rw [List.getElem?_append_left hi, List.getElem?_append_left hi]
    cases (flat S0)[i]? with
    | none => rfl
    | some q => simp; omega
  · rw [List.getElem?_append_right (by omega), List.getElem?_append_right (by omega)]
    simp only [flat1, List.getElem?_map, List.length_map]
    cases hq : s[i - (flat S0).length]? with
    | none => rfl
    | some q =>
      have := (List.getElem?_eq_some_iff.1 hq).1
      simp only [Option.map_some]
      rw [if_pos (by omega)]

/-- In the builder's second loop: the rectangles put out so far are L. -/
structure AddR (bb Bo : Nat) (w0 : World) (L : List R4) (vs : Value) (s : List Sp) (n : Nat) (t : Int) (wr : World) : Prop where
  low : bb < Bo
  size : Bo ≤ wr.heap.size
  out : ∃ vo, wr.cell? ⟨bb, 0, none⟩ = some vo ∧ wr.ownsRow Bo 69 4 vo L.length (L.flatMap encR)
  c1 : wr.cell? ⟨bb, 1, none⟩ = some vs
  c2 : wr.cell? ⟨bb, 2, none⟩ = some (.int .i64 n)
  c3 : wr.cell? ⟨bb, 3, none⟩ = some (.int .i64 t)
  fz : ∀ j, wr.frozen? ⟨bb, j, none⟩ = false
  own : wr.ownsRow Bo 188 2 vs s.length (s.flatMap encS)
  os : wr.os = w0.os
  tape : wr.tape = w0.tape
  output : wr.output = w0.output
  grow : w0.heap.size ≤ wr.heap.size
  block : ∀ q, q < Bo → q ≠ bb → wr.heap[q]? = w0.heap[q]?
  keep : KeepsOthers w0 wr
theorem keeps_below {w w1 : World} (h : Below w.heap.size w w1) : KeepsOthers w w1 := ⟨h.size, fun k o hk _ => (h.block k (Array.getElem?_eq_some_iff.1 hk).1).trans hk⟩
theorem own_cells {w : World} {B : Nat} {e : TypeId} {size : Nat} {v : Value} {n : Nat} {xs : List Value} (h : w.ownsRow B e size v n xs) : ∀ (j : Nat) (o : Obj), v.ownBlock = some j → w.heap[j]? = some o → o.isCells = true := by
  intro j o hj ho
  rcases h.2 with ⟨rfl, _⟩ | ⟨g, cap, cur, rfl, _, hg, _⟩
  · simp [Value.ownBlock] at hj
  · simp [Value.ownBlock] at hj
    subst hj
    rw [hg] at ho
    injection ho with ho
    subst ho; rfl
theorem AddR.start {bb Bo : Nat} {S : List Slab} {last s : List Sp} {first : Nat} {e t : Int} {vs : Value} {w w1 : World} (h : BW bb Bo S last first e w) (hb : Below w.heap.size w w1) (hs : w.ownsRow Bo 188 2 vs s.length (s.flatMap encS)) :
    AddR bb Bo w (flat S) vs s (flat S).length t (((w1.setCell ⟨bb, 2, none⟩ (.int .i64 ((flat S).length : Nat))).setCell ⟨bb, 1, none⟩ vs).setCell ⟨bb, 3, none⟩ (.int .i64 t)) := by
  have hlow := h.low
  have hbs : bb < w.heap.size := Nat.lt_of_lt_of_le h.low h.size
  obtain ⟨vo, o1, o2⟩ := h.out
  obtain ⟨vl, l1, l2⟩ := h.la
  have hc : ∀ o, w1.cell? ⟨bb, o, none⟩ = w.cell? ⟨bb, o, none⟩ := fun o => hb.cell (p := ⟨bb, o, none⟩) hbs
  have hf : ∀ o, w1.frozen? ⟨bb, o, none⟩ = w.frozen? ⟨bb, o, none⟩ := fun o => hb.frozen (p := ⟨bb, o, none⟩) hbs
  have c2 := h.fi
  have c3 := h.en
  refine ⟨hlow, ?_, ⟨vo, by simp [go_sem, hc, o1], ownsRow_setCell_below (ownsRow_setCell_below (ownsRow_setCell_below (own_below o2 hb) hlow _) hlow _) hlow _⟩, by simp [go_sem, hc, l1], by simp [go_sem, hc, c2], by simp [go_sem, hc, c3], fun j => ?_,
    ownsRow_setCell_below (ownsRow_setCell_below (ownsRow_setCell_below (own_below hs hb) hlow _) hlow _) hlow _, hb.os, hb.tape, hb.output, ?_, fun q h1 h2 => ?_, (((keeps_below hb).trans (KeepsOthers.setCell _ _ _)).trans (KeepsOthers.setCell _ _ _)).trans (KeepsOthers.setCell _ _ _)⟩
  · have := hb.size; have := h.size; simp [World.setCell]; omega
  · rw [World.frozen?_setCell, World.frozen?_setCell, World.frozen?_setCell, hf]; exact h.fz j
  · have := hb.size; simp [World.setCell]; omega
  · have := h.size
    exact (Below.heap_setCell _ _ _ _ h2).trans ((Below.heap_setCell _ _ _ _ h2).trans ((Below.heap_setCell _ _ _ _ h2).trans (hb.block q (by omega))))
/-- One rectangle more: behind the append, and behind the store into the builder's field. -/
theorem AddR.push {bb Bo : Nat} {w0 wr wa w2 : World} {L : List R4} {r : R4} {vs vo v2 : Value} {s : List Sp} {n k : Nat} {t : Int} (h : AddR bb Bo w0 L vs s n t wr) (hvo : wr.cell? ⟨bb, 0, none⟩ = some vo) (how : wr.ownsRow Bo 69 4 vo L.length (L.flatMap encR))
    (ha : Below wr.heap.size wr wa) (hg : wa.grownBy w2 vo.ownBlock) (hown2 : w2.ownsRow Bo 69 4 v2 k ((L ++ [r]).flatMap encR)) :
    w2.cell? ⟨bb, 0, none⟩ = some vo ∧ w2.frozen? ⟨bb, 0, none⟩ = false ∧ Hid (AddR bb Bo w0 (L ++ [r]) vs s n t (w2.setCell ⟨bb, 0, none⟩ v2)) := by
  have hlow := h.low
  have hsz := h.size
  have hB : Below Bo wr w2 := (ha.mono hsz).grown hg (Nat.le_trans hsz ha.size) fun q hq => (how.lt q hq).1
  have hc : ∀ o, w2.cell? ⟨bb, o, none⟩ = wr.cell? ⟨bb, o, none⟩ := fun o => hB.cell (p := ⟨bb, o, none⟩) hlow
  have hf : ∀ o, w2.frozen? ⟨bb, o, none⟩ = wr.frozen? ⟨bb, o, none⟩ := fun o => hB.frozen (p := ⟨bb, o, none⟩) hlow
  have k0 := (hc 0).trans hvo
  have hk := own_len (k := 4) hown2 (fun _ => rfl) (by omega)
  subst hk
  refine ⟨k0, (hf 0).trans (h.fz 0), hide ⟨hlow, ?_, ⟨v2, by simp [go_sem, k0], ownsRow_setCell_below hown2 hlow _⟩, ?_, ?_, ?_, fun j => ?_, ownsRow_setCell_below ((own_below h.own ha).kept hg ?_) hlow _, hB.os.trans h.os, hB.tape.trans h.tape, hB.output.trans h.output, ?_, fun q h1 h2 => ?_, ((h.keep.trans (keeps_below ha)).trans (KeepsOthers.of_grownBy hg fun j o hj ho => ?_)).trans (KeepsOthers.setCell _ _ _)⟩⟩
  · have := hB.size; simp [World.setCell]; omega
  · simp [go_sem, hc, h.c1]
  · simp [go_sem, hc, h.c2]
  · simp [go_sem, hc, h.c3]
  · rw [World.frozen?_setCell, hf]; exact h.fz j
  · exact own_apart h.own how (by decide)
  · have := hB.size; have := h.grow; simp [World.setCell]; omega
  · exact (Below.heap_setCell _ _ _ _ h2).trans ((hB.block q h1).trans (h.block q h1 h2))
  · exact own_cells (own_below how ha) j o hj ho

/-- One rectangle more, behind a box of two cells and the row of one that append reads. -/
theorem AddR.push2 {bb Bo : Nat} {w0 wr wb w2 : World} {L : List R4} {r : R4} {vs vo v2 b0 b1 : Value} {s : List Sp} {n k : Nat} {t : Int} (h : AddR bb Bo w0 L vs s n t wr) (hvo : wr.cell? ⟨bb, 0, none⟩ = some vo) (how : wr.ownsRow Bo 69 4 vo L.length (L.flatMap encR))
    (hbw : Below wr.heap.size wr wb) (o : Obj) (hg : (wb.alloc o).drew.grownBy w2 vo.ownBlock) (hown2 : w2.ownsRow Bo 69 4 v2 k (L.flatMap encR ++ encR r)) (f0 : wb.cell? ⟨wr.heap.size, 0, none⟩ = some b0) (f1 : wb.cell? ⟨wr.heap.size, 1, none⟩ = some b1) :
    w2.cell? ⟨bb, 0, none⟩ = some vo ∧ w2.cell? ⟨wr.heap.size, 0, none⟩ = some b0 ∧ w2.cell? ⟨wr.heap.size, 1, none⟩ = some b1 ∧ w2.frozen? ⟨bb, 0, none⟩ = false ∧ Hid (AddR bb Bo w0 (L ++ [r]) vs s n t (w2.setCell ⟨bb, 0, none⟩ v2)) := by
  have ha : Below wr.heap.size wr (wb.alloc o).drew := (hbw.alloc hbw.size o).drew
  have hx : L.flatMap encR ++ encR r = (L ++ [r]).flatMap encR := by simp
  rw [hx] at hown2
  obtain ⟨p1, p2, p3⟩ := h.push hvo how ha hg hown2
  have far : ∀ (q i : Nat) (u : Value), wb.cell? ⟨q, i, none⟩ = some u → vo.ownBlock ≠ some q → w2.cell? ⟨q, i, none⟩ = some u := fun q i u hu hq =>
    World.grownBy.cell hg (a := ⟨q, i, none⟩) ((World.cell?_alloc_lt wb o ⟨q, i, none⟩ (lt_of_cell hu)).trans hu) (fun e => hq e.symm)
  exact ⟨p1, far _ 0 b0 f0 (fun e => by have := how.lt _ e; omega), far _ 1 b1 f1 (fun e => by have := how.lt _ e; omega), p2, p3⟩

set_option maxRecDepth 100000 in
set_option maxHeartbeats 4000000 in
theorem add_any {bb Bo : Nat} {S : List Slab} {last s : List Sp} {first : Nat} {e f t : Int} {vs : Value} {w : World} (h : BW bb Bo S last first e w) (hs : w.ownsRow Bo 188 2 vs s.length (s.flatMap encS)) (hn : (flat S).length ≤ 100000000) (hsn : s.length ≤ 100000000) (hln : last.length ≤ 100000000)
    (hef : S = [] ∨ e ≤ f) (hft : f < t) :
    Calls Tryz.prog 144 #[.pointer (some ⟨bb, 0, none⟩), .int .i64 f, .int .i64 t, vs] w fun r w' => r = .returned (.tuple #[]) ∧ ∃ first', BW bb Bo (addS S f t s) s first' t w' ∧ Below bb w w' ∧ (∀ k, k < Bo → k ≠ bb → w'.heap[k]? = w.heap[k]?) ∧ KeepsOthers w w' := by
  obtain ⟨vo, o1, o2⟩ := h.out
  obtain ⟨vl, l1, l2⟩ := h.la
  obtain ⟨Ao, co, hvo, _⟩ := own_rd o2 (fun _ => rfl)
  obtain ⟨Al, cl, hvl, hrl⟩ := own_rd l2 (fun _ => rfl)
  obtain ⟨As, cs, hvs, hrs⟩ := own_rd hs (fun _ => rfl)
  subst hvo; subst hvl; subst hvs
  have c2 := h.fi
  have c3 := h.en
  have z0 := h.fz 0
  have z1 := h.fz 1
  have z2 := h.fz 2
  have z3 := h.fz 3
  by_cases hc : s ≠ [] ∧ e = f ∧ last = s
  · obtain ⟨hsne, rfl, rfl⟩ := hc
    obtain ⟨S0, f0, hS, hfi, hadd, hinv⟩ := BInv.join (t := t) h.inv hsne rfl rfl
    have heq := fun W (hb : Below w.heap.size w W) => eqSpan_any (w := W) (B := w.heap.size) (C := w.heap.size) ((own_rd l2 (fun _ => rfl)).below hb) ((own_rd hs (fun _ => rfl)).below hb) hln hb.size hb.size
    have hd : decide (last = last) = true := decide_eq_true rfl
    rw [hd] at heq
    have HEQ := hide heq
    have hbs : bb < w.heap.size := Nat.lt_of_lt_of_le h.low h.size
    have hfl : first < (flat S).length := by
      rw [hS, flat_append, flat_one, List.length_append, hfi]
      have := List.length_pos_iff.2 hsne
      simp [flat1]; omega
    obtain ⟨g, cap, hvo, hBg, hgw⟩ := o2.form (by omega)
    injection hvo with e1 _ e3
    subst e1; subst e3
    have hlow := h.low
    have hlp : (0 : Int) < (last.length : Int) := by have := List.length_pos_iff.2 hsne; omega
    have hee : (e == e) = true := by simp
    have HO := hide o2
    have HL := hide l2
    have HH := hide h
    have HI := hide hinv
    have HS := hide hS
    have HF := hide hfi
    have HA := hide hadd
    clear hd heq o2 l2 hs h hinv hS hfi hadd hrl hrs
    go_enter Tryz.func144, Tryz.ntmps144
    go_wp2_with (go_at_call 186; refine (HEQ.out _ (Below.refl _ _)).mono ?_; rintro r w1 ⟨rfl, hb1⟩; have d0 := (hb1.cell (p := ⟨bb, 0, none⟩) hbs).trans o1; have d2 := (hb1.cell (p := ⟨bb, 2, none⟩) hbs).trans c2; have d3 := (hb1.cell (p := ⟨bb, 3, none⟩) hbs).trans c3; have g3 := (hb1.frozen (p := ⟨bb, 3, none⟩) hbs).trans z3)
    go_loopw [8] (fun i wr => ∃ k : Nat, first ≤ k ∧ k ≤ (flat S).length ∧ i = .int .i64 k ∧ wr.cell? ⟨bb, 0, none⟩ = some (.slice (some ⟨g, 0, none⟩) (flat S).length co) ∧ wr.cell? ⟨bb, 3, none⟩ = some (.int .i64 e) ∧ wr.frozen? ⟨bb, 3, none⟩ = false ∧
        Hid (wr.ownsRow Bo 69 4 (.slice (some ⟨g, 0, none⟩) (flat S).length co) (flat S).length ((upTo t first k (flat S)).flatMap encR)) ∧ Hid (w1.grownBy wr (Value.slice (some ⟨g, 0, none⟩) (flat S).length co).ownBlock)) (fun i _ => (flat S).length - (intOf i).toNat)
    case atStart => exact ⟨first, Nat.le_refl _, by omega, rfl, d0, d3, g3, hide (by rw [upTo_start]; exact own_below HO.out hb1), hide (grown_refl _ _)⟩
    case round =>
      clear d0 d3 g3
      obtain ⟨k, hk1, hk2, rfl, d0, d3, g3, HR, HG⟩ := hrel
      by_cases hlt : k < (flat S).length
      · have hkz : (k : Int) < ((flat S).length : Int) := by omega
        obtain ⟨r, hr⟩ : ∃ r, (upTo t first k (flat S))[k]? = some r := ⟨_, List.getElem?_eq_getElem (by rw [upTo_len]; exact hlt)⟩
        have x1 : wr.cell? ⟨g, k * 4 + 2, none⟩ = some (.int .i64 r.x1) := by
          have := (HR.out.cells (g := g) rfl) _ _ (flat_get (k := 4) (fun _ => rfl) _ k r 2 _ hr rfl)
          rwa [addr_add] at this
        have f1 : wr.frozen? ⟨g, k * 4 + 2, none⟩ = false := HR.out.frozenAt _
        have hst := HR.out.stored (k * 4 + 2) (.int .i64 t)
        rw [flat_set t _ k r hr, upTo_step t first k _ r hk1 hr] at hst
        have HST := hide hst
        have nbg : bb ≠ g := by omega
        have ngb : g ≠ bb := by omega
        clear hr hst
        go_wp2
        go_roundw
        case rel => exact ⟨k + 1, by omega, by omega, by go_num, by simp [go_sem, d0, nbg, ngb], by simp [go_sem, d3, nbg, ngb], by simp [go_sem, g3], hide HST.out.1, hide (HG.out.trans HST.out.2)⟩
        case measure => simp [intOf]; omega
      · obtain rfl : k = (flat S).length := by omega
        have hkz : ¬ ((flat S).length : Int) < ((flat S).length : Int) := by omega
        go_wp2
        refine bodyPost_ret (results_none rfl _ _ _) rfl ?_
        have hend := upTo_end S0 f0 e t last
        rw [← HS.out, ← HF.out, ← HA.out] at hend
        have hlen : (flat (addS S e t last)).length = (flat S).length := by rw [← hend, upTo_len]
        have R := HR.out
        rw [hend] at R
        have hGB : Below Bo w1 wr := (Below.refl Bo w1).grown HG.out (Nat.le_trans HH.out.size hb1.size) (fun q hq => (R.lt q hq).1)
        have hsz : Bo ≤ w.heap.size := HH.out.size
        have hW : ∀ q, q < Bo → q ≠ bb → (wr.setCell ⟨bb, 3, none⟩ (.int .i64 t)).heap[q]? = w.heap[q]? := fun q h1 h2 => (Below.heap_setCell _ _ _ _ h2).trans ((hGB.block q h1).trans (hb1.block q (by omega)))
        have hbw : Below w.heap.size w w1 := hb1
        have hcell : ∀ o, wr.cell? ⟨bb, o, none⟩ = w.cell? ⟨bb, o, none⟩ := fun o => (hGB.cell (p := ⟨bb, o, none⟩) hlow).trans (hb1.cell (p := ⟨bb, o, none⟩) hbs)
        have hfr : ∀ o, wr.frozen? ⟨bb, o, none⟩ = w.frozen? ⟨bb, o, none⟩ := fun o => (hGB.frozen (p := ⟨bb, o, none⟩) hlow).trans (hb1.frozen (p := ⟨bb, o, none⟩) hbs)
        refine ⟨rfl, ⟨first, hlow, ?_, ⟨_, ?_, own_n (ownsRow_setCell_below R (by exact hlow) _) hlen.symm⟩, ⟨_, ?_, ownsRow_setCell_below ((own_below HL.out hb1).kept HG.out ?_) (by exact hlow) _⟩, ?_, ?_, ?_, HI.out⟩, ?_, hW, ((keeps_below hb1).trans (KeepsOthers.of_grownBy HG.out fun j o hj ho => own_cells (own_below HO.out hb1) j o hj ho)).trans (KeepsOthers.setCell _ _ _)⟩
        · have := HG.out.size
          have := hb1.size
          simp [World.setCell]; omega
        · simp [go_sem, d0]
        · simp [go_sem, hcell, l1]
        · exact own_apart HL.out HO.out (by decide)
        · simp [go_sem, hcell, c2]
        · simp [go_sem, d3]
        · intro j
          rw [World.frozen?_setCell, hfr]
          exact HH.out.fz j
        · refine (Below.setCell ?_ (p := ⟨bb, 3, none⟩) (Nat.le_refl bb) _)
          exact (hb1.mono (by omega)).trans (hGB.mono (by omega))
  · obtain ⟨hfl, hinv⟩ := BInv.push (t := t) h.inv hef hft hc
    have hbs : bb < w.heap.size := Nat.lt_of_lt_of_le h.low h.size
    have HC := hide hc
    have HO := hide o2
    have HL := hide l2
    have HS := hide hs
    have HH := hide h
    have HI := hide hinv
    have HF := hide hfl
    have HRS := hide hrs
    have heq := fun W (hb : Below w.heap.size w W) => eqSpan_any (w := W) (B := w.heap.size) (C := w.heap.size) ((own_rd l2 (fun _ => rfl)).below hb) ((own_rd hs (fun _ => rfl)).below hb) hln hb.size hb.size
    have HEQ := hide heq
    clear hc o2 l2 hs h hinv hfl hrl hrs heq
    go_enter Tryz.func144, Tryz.ntmps144
    have hlow := HH.out.low
    have AW := hide (AddR.start (t := t) HH.out (Below.refl _ w) HS.out)
    obtain ⟨w1, hw1⟩ : ∃ w1, w1 = w := ⟨_, rfl⟩
    obtain ⟨i1, gi, gz0, gz1, gz2⟩ := info_parts infoRc
    by_cases hs0 : s = []
    · have hlp : ¬ (0 : Int) < (s.length : Int) := by simp [hs0]
      have HS0 : Hid (s.length = 0) := hide (by simp [hs0])
      clear hs0
      go_wp2
      clear o1 l1 c2 c3 z0 z1 z2 z3 hlp
      go_loopw [73] (fun i wr => ∃ m : Nat, m ≤ s.length ∧ i = .int .i64 m ∧ Hid (AddR bb Bo w (flat S ++ (s.take m).map (fun p => ⟨f, p.1, t, p.2⟩)) (.slice As s.length cs) s (flat S).length t wr)) (fun i _ => s.length - (intOf i).toNat)
      case atStart => exact ⟨0, Nat.zero_le _, rfl, hide (by rw [List.take_zero, List.map_nil, List.append_nil]; exact AW.out)⟩
      case round =>
        clear AW
        obtain ⟨m, hm, rfl, HA⟩ := hrel
        by_cases hlt : m < s.length
        · exact absurd hlt (by have := HS0.out; omega)
        · obtain rfl : m = s.length := by omega
          have hmz : ¬ (s.length : Int) < (s.length : Int) := by omega
          have A := HA.out
          rw [List.take_length, ← HF.out] at A
          have HA2 := hide A
          clear A
          go_wp2
          go_end0
          have A := HA2.out
          obtain ⟨vo, a1, a2⟩ := A.out
          exact ⟨rfl, ⟨_, A.low, A.size, ⟨vo, a1, a2⟩, ⟨_, A.c1, A.own⟩, A.c2, A.c3, A.fz, HI.out⟩, ⟨A.os, A.tape, A.output, Nat.le_trans (by omega) A.grow, fun q hq => A.block q (by omega) (by omega)⟩, A.block, A.keep⟩
    · have hlp : (0 : Int) < (s.length : Int) := by have := List.length_pos_iff.2 hs0; omega
      by_cases hef2 : e = f
      · have hee : (e == f) = true := by simpa using hef2
        have hd : decide (last = s) = false := decide_eq_false fun g => HC.out ⟨hs0, hef2, g⟩
        have HD := hide hd
        clear hd hef2 hs0
        go_wp2_with (first | (go_at_call 186; refine (HEQ.out _ (Below.refl _ _)).mono ?_; rintro r w1 ⟨rfl, hb1⟩; rw [HD.out]; have d0 := (hb1.cell (p := ⟨bb, 0, none⟩) hbs).trans o1; have d1 := (hb1.cell (p := ⟨bb, 1, none⟩) hbs).trans l1; have d2 := (hb1.cell (p := ⟨bb, 2, none⟩) hbs).trans c2; have d3 := (hb1.cell (p := ⟨bb, 3, none⟩) hbs).trans c3; have g0 := (hb1.frozen (p := ⟨bb, 0, none⟩) hbs).trans z0; have g1 := (hb1.frozen (p := ⟨bb, 1, none⟩) hbs).trans z1; have g2 := (hb1.frozen (p := ⟨bb, 2, none⟩) hbs).trans z2; have g3 := (hb1.frozen (p := ⟨bb, 3, none⟩) hbs).trans z3))
        clear AW
        have AW := hide (AddR.start (t := t) HH.out hb1 HS.out)
        clear o1 l1 c2 c3 z0 z1 z2 z3 hlp
        go_loopw [73] (fun i wr => ∃ m : Nat, m ≤ s.length ∧ i = .int .i64 m ∧ Hid (AddR bb Bo w (flat S ++ (s.take m).map (fun p => ⟨f, p.1, t, p.2⟩)) (.slice As s.length cs) s (flat S).length t wr)) (fun i _ => s.length - (intOf i).toNat)
        case atStart => exact ⟨0, Nat.zero_le _, rfl, hide (by rw [List.take_zero, List.map_nil, List.append_nil]; exact AW.out)⟩
        case round =>
          clear AW
          obtain ⟨m, hm, rfl, HA⟩ := hrel
          by_cases hlt : m < s.length
          · have hmz : (m : Int) < (s.length : Int) := by omega
            obtain ⟨g2, cap2, hvs, hB2, hg2⟩ := HA.out.own.form (by omega)
            injection hvs with e1 _ e3
            subst e1; subst e3
            obtain ⟨⟨p1, p2⟩, hp⟩ : ∃ p, s[m]? = some p := ⟨_, List.getElem?_eq_getElem hlt⟩
            have x0 : wr.cell? ⟨g2, m * 2, none⟩ = some (.int .i64 p1) := by
              have := (HA.out.own.cells (g := g2) rfl) _ _ (flat_get (k := 2) (fun _ => rfl) _ m _ 0 _ hp rfl)
              rwa [addr_add] at this
            have x1 : wr.cell? ⟨g2, m * 2 + 1, none⟩ = some (.int .i64 p2) := by
              have := (HA.out.own.cells (g := g2) rfl) _ _ (flat_get (k := 2) (fun _ => rfl) _ m _ 1 _ hp rfl)
              rwa [addr_add] at this
            have HT : Hid ((s.take (m + 1)).map (fun p : Sp => (⟨f, p.1, t, p.2⟩ : R4)) = (s.take m).map (fun p : Sp => (⟨f, p.1, t, p.2⟩ : R4)) ++ [⟨f, p1, t, p2⟩]) := hide (by
              obtain ⟨hk, hpe⟩ := List.getElem?_eq_some_iff.1 hp
              rw [List.take_succ_eq_append_getElem hk, List.map_append, hpe]; rfl)
            have hL : (flat S ++ (s.take m).map (fun p : Sp => (⟨f, p.1, t, p.2⟩ : R4))).length ≤ 200000000 := by
              rw [List.length_append, List.length_map, List.length_take]; omega
            clear hp
            go_wp2
            obtain ⟨wb, hwb⟩ : ∃ wb, wb = wr.alloc (.cells #[.int .i64 p1, .int .i64 p2] 188) := ⟨_, rfl⟩
            rw [← hwb]
            obtain ⟨vo, v1, v2⟩ := HA.out.out
            obtain ⟨Av, cv, hv⟩ := own_rd v2 (fun _ => rfl)
            obtain ⟨hv, _⟩ := hv
            subst hv
            have hbw : Below wr.heap.size wr wb := by rw [hwb]; exact (Below.refl _ _).alloc (Nat.le_refl _) _
            have hbbw : bb < wr.heap.size := Nat.lt_of_lt_of_le hlow HA.out.size
            have gv : wb.cell? ⟨bb, 0, none⟩ = some (.slice Av (flat S ++ (s.take m).map (fun p : Sp => (⟨f, p.1, t, p.2⟩ : R4))).length cv) := by rw [hwb]; exact (World.cell?_alloc_lt _ _ ⟨bb, 0, none⟩ hbbw).trans v1
            have gy0 : wb.cell? ⟨wr.heap.size, 0, none⟩ = some (.int .i64 p1) := by rw [hwb]; simp [go_sem]
            have gy1 : wb.cell? ⟨wr.heap.size, 1, none⟩ = some (.int .i64 p2) := by rw [hwb]; simp [go_sem]
            have gs : wb.heap.size = wr.heap.size + 1 := by rw [hwb]; simp
            have gown : wb.ownsRow Bo 69 4 (.slice Av (flat S ++ (s.take m).map (fun p : Sp => (⟨f, p.1, t, p.2⟩ : R4))).length cv) (flat S ++ (s.take m).map (fun p : Sp => (⟨f, p.1, t, p.2⟩ : R4))).length ((flat S ++ (s.take m).map (fun p : Sp => (⟨f, p.1, t, p.2⟩ : R4))).flatMap encR) := by rw [hwb]; exact v2.alloc _
            have HV1 := hide v1
            have HV2 := hide v2
            have HBW := hide hbw
            have HY0 := hide gy0
            have HY1 := hide gy1
            have HO2 := hide gown
            have HT2 : Hid (flat S ++ (s.take (m + 1)).map (fun p : Sp => (⟨f, p.1, t, p.2⟩ : R4)) = (flat S ++ (s.take m).map (fun p : Sp => (⟨f, p.1, t, p.2⟩ : R4))) ++ [⟨f, p1, t, p2⟩]) := hide (by rw [HT.out, List.append_assoc])
            have hbws : bb < wb.heap.size := by omega
            have hbne : wr.heap.size < wb.heap.size := by omega
            have hBow : Bo ≤ wb.heap.size := by have := HA.out.size; omega
            have HA2 := hide HA.out
            clear gs v1 v2 gown hwb hbw x0 x1 HA HT
            generalize flat S ++ (s.take m).map (fun p : Sp => (⟨f, p.1, t, p.2⟩ : R4)) = L at *
            refine wp_region_reads 12 (fun w' => w'.cell? ⟨bb, 0, none⟩ = some (.slice Av L.length cv) ∧ w'.cell? ⟨wr.heap.size, 0, none⟩ = some (.int .i64 p1) ∧ w'.cell? ⟨wr.heap.size, 1, none⟩ = some (.int .i64 p2)) (by kernel_rfl) (by kernel_rfl) ⟨gv, gy0, gy1⟩ ?_
            simp only [List.take_succ_cons, List.take_zero, List.drop_succ_cons, List.drop_zero]
            iterate 12
              refine ⟨?_, Or.inl ⟨by rfl, ?_⟩, ?_⟩
              rotate_left 1
              · intro w' hSw
                obtain ⟨z1, z2, z3⟩ := hSw
                go_simp
                first | done | with_reducible rfl
              simp only [Act.put, List.setIfInBounds_toArray, List.set_cons_zero, List.set_cons_succ]
            simp only [wpReads]
            intro K hK
            go_simp
            refine hK _ _ (fun _ => ⟨by go_keep, by go_keep, by go_keep⟩) ?_
            clear hK K
            intro K hK
            refine step_append_lies _ rfl (.tmp 81) (.tmp 89) 27 rfl Bo 69 i1 (.agg #[.int .i64 0, .int .i64 0, .int .i64 0, .int .i64 0]) 4 32 Tryz.underlying27 gi gz0 gz1 gz2 rfl (by decide) (.slice Av L.length cv) L.length _ rfl (own_drew (World.ownsRow.alloc (w := wb) HO2.out _)) ⟨wb.heap.size, 0, none⟩ 1 1 [.int .i64 f, .int .i64 p1, .int .i64 t, .int .i64 p2] rfl rfl (news_drew wb _ _ _ rfl) (ints_one rfl) (by omega) (by unfold maxLen; omega) (by omega) (by simp; omega) _ rfl ?_
            intro g9 cap9 w9 hown9 hgrow9 _ _
            obtain ⟨s1, s2, s3, s4, HF9⟩ := HA2.out.push2 (r := ⟨f, p1, t, p2⟩) HV1.out HV2.out HBW.out _ hgrow9 hown9 HY0.out HY1.out
            clear hown9 hgrow9
            refine hK _ _ (fun _ => ⟨s1, s2, s3⟩) ?_
            clear hK K
            intro K hK
            simp only [Act.put, List.setIfInBounds_toArray, List.set_cons_zero, List.set_cons_succ] at hK ⊢
            go_simp
            refine hK _ _ (fun _ => ⟨s1, s2, s3⟩) ?_
            clear hK K
            intro K hK
            simp only [Act.put, List.setIfInBounds_toArray, List.set_cons_zero, List.set_cons_succ] at hK ⊢
            go_simp
            refine hK _ _ (fun _ => ⟨s1, s2, s3⟩) ?_
            clear hK K
            intro K hK
            simp only [Act.put, List.setIfInBounds_toArray, List.set_cons_zero, List.set_cons_succ] at hK ⊢
            go_simp
            refine hK _ _ (fun h => absurd rfl h) ?_
            clear hK K
            refine NoPanic.normal ?_
            go_wp2
            go_roundw
            case rel => exact ⟨m + 1, by omega, by go_num, hide (by rw [HT2.out]; exact HF9.out)⟩
            case measure => simp [intOf]; omega
          · obtain rfl : m = s.length := by omega
            have hmz : ¬ (s.length : Int) < (s.length : Int) := by omega
            have A := HA.out
            rw [List.take_length, ← HF.out] at A
            have HA2 := hide A
            clear A
            go_wp2
            go_end0
            have A := HA2.out
            obtain ⟨vo, a1, a2⟩ := A.out
            exact ⟨rfl, ⟨_, A.low, A.size, ⟨vo, a1, a2⟩, ⟨_, A.c1, A.own⟩, A.c2, A.c3, A.fz, HI.out⟩, ⟨A.os, A.tape, A.output, Nat.le_trans (by omega) A.grow, fun q hq => A.block q (by omega) (by omega)⟩, A.block, A.keep⟩
      · have hee : (e == f) = false := by simpa using hef2
        clear hef2 hs0
        go_wp2
        clear o1 l1 c2 c3 z0 z1 z2 z3 hlp
        go_loopw [73] (fun i wr => ∃ m : Nat, m ≤ s.length ∧ i = .int .i64 m ∧ Hid (AddR bb Bo w (flat S ++ (s.take m).map (fun p => ⟨f, p.1, t, p.2⟩)) (.slice As s.length cs) s (flat S).length t wr)) (fun i _ => s.length - (intOf i).toNat)
        case atStart => exact ⟨0, Nat.zero_le _, rfl, hide (by rw [List.take_zero, List.map_nil, List.append_nil]; exact AW.out)⟩
        case round =>
          clear AW
          obtain ⟨m, hm, rfl, HA⟩ := hrel
          by_cases hlt : m < s.length
          · have hmz : (m : Int) < (s.length : Int) := by omega
            obtain ⟨g2, cap2, hvs, hB2, hg2⟩ := HA.out.own.form (by omega)
            injection hvs with e1 _ e3
            subst e1; subst e3
            obtain ⟨⟨p1, p2⟩, hp⟩ : ∃ p, s[m]? = some p := ⟨_, List.getElem?_eq_getElem hlt⟩
            have x0 : wr.cell? ⟨g2, m * 2, none⟩ = some (.int .i64 p1) := by
              have := (HA.out.own.cells (g := g2) rfl) _ _ (flat_get (k := 2) (fun _ => rfl) _ m _ 0 _ hp rfl)
              rwa [addr_add] at this
            have x1 : wr.cell? ⟨g2, m * 2 + 1, none⟩ = some (.int .i64 p2) := by
              have := (HA.out.own.cells (g := g2) rfl) _ _ (flat_get (k := 2) (fun _ => rfl) _ m _ 1 _ hp rfl)
              rwa [addr_add] at this
            have HT : Hid ((s.take (m + 1)).map (fun p : Sp => (⟨f, p.1, t, p.2⟩ : R4)) = (s.take m).map (fun p : Sp => (⟨f, p.1, t, p.2⟩ : R4)) ++ [⟨f, p1, t, p2⟩]) := hide (by
              obtain ⟨hk, hpe⟩ := List.getElem?_eq_some_iff.1 hp
              rw [List.take_succ_eq_append_getElem hk, List.map_append, hpe]; rfl)
            have hL : (flat S ++ (s.take m).map (fun p : Sp => (⟨f, p.1, t, p.2⟩ : R4))).length ≤ 200000000 := by
              rw [List.length_append, List.length_map, List.length_take]; omega
            clear hp
            go_wp2
            obtain ⟨wb, hwb⟩ : ∃ wb, wb = wr.alloc (.cells #[.int .i64 p1, .int .i64 p2] 188) := ⟨_, rfl⟩
            rw [← hwb]
            obtain ⟨vo, v1, v2⟩ := HA.out.out
            obtain ⟨Av, cv, hv⟩ := own_rd v2 (fun _ => rfl)
            obtain ⟨hv, _⟩ := hv
            subst hv
            have hbw : Below wr.heap.size wr wb := by rw [hwb]; exact (Below.refl _ _).alloc (Nat.le_refl _) _
            have hbbw : bb < wr.heap.size := Nat.lt_of_lt_of_le hlow HA.out.size
            have gv : wb.cell? ⟨bb, 0, none⟩ = some (.slice Av (flat S ++ (s.take m).map (fun p : Sp => (⟨f, p.1, t, p.2⟩ : R4))).length cv) := by rw [hwb]; exact (World.cell?_alloc_lt _ _ ⟨bb, 0, none⟩ hbbw).trans v1
            have gy0 : wb.cell? ⟨wr.heap.size, 0, none⟩ = some (.int .i64 p1) := by rw [hwb]; simp [go_sem]
            have gy1 : wb.cell? ⟨wr.heap.size, 1, none⟩ = some (.int .i64 p2) := by rw [hwb]; simp [go_sem]
            have gs : wb.heap.size = wr.heap.size + 1 := by rw [hwb]; simp
            have gown : wb.ownsRow Bo 69 4 (.slice Av (flat S ++ (s.take m).map (fun p : Sp => (⟨f, p.1, t, p.2⟩ : R4))).length cv) (flat S ++ (s.take m).map (fun p : Sp => (⟨f, p.1, t, p.2⟩ : R4))).length ((flat S ++ (s.take m).map (fun p : Sp => (⟨f, p.1, t, p.2⟩ : R4))).flatMap encR) := by rw [hwb]; exact v2.alloc _
            have HV1 := hide v1
            have HV2 := hide v2
            have HBW := hide hbw
            have HY0 := hide gy0
            have HY1 := hide gy1
            have HO2 := hide gown
            have HT2 : Hid (flat S ++ (s.take (m + 1)).map (fun p : Sp => (⟨f, p.1, t, p.2⟩ : R4)) = (flat S ++ (s.take m).map (fun p : Sp => (⟨f, p.1, t, p.2⟩ : R4))) ++ [⟨f, p1, t, p2⟩]) := hide (by rw [HT.out, List.append_assoc])
            have hbws : bb < wb.heap.size := by omega
            have hbne : wr.heap.size < wb.heap.size := by omega
            have hBow : Bo ≤ wb.heap.size := by have := HA.out.size; omega
            have HA2 := hide HA.out
            clear gs v1 v2 gown hwb hbw x0 x1 HA HT
            generalize flat S ++ (s.take m).map (fun p : Sp => (⟨f, p.1, t, p.2⟩ : R4)) = L at *
            refine wp_region_reads 12 (fun w' => w'.cell? ⟨bb, 0, none⟩ = some (.slice Av L.length cv) ∧ w'.cell? ⟨wr.heap.size, 0, none⟩ = some (.int .i64 p1) ∧ w'.cell? ⟨wr.heap.size, 1, none⟩ = some (.int .i64 p2)) (by kernel_rfl) (by kernel_rfl) ⟨gv, gy0, gy1⟩ ?_
            simp only [List.take_succ_cons, List.take_zero, List.drop_succ_cons, List.drop_zero]
            iterate 12
              refine ⟨?_, Or.inl ⟨by rfl, ?_⟩, ?_⟩
              rotate_left 1
              · intro w' hSw
                obtain ⟨z1, z2, z3⟩ := hSw
                go_simp
                first | done | with_reducible rfl
              simp only [Act.put, List.setIfInBounds_toArray, List.set_cons_zero, List.set_cons_succ]
            simp only [wpReads]
            intro K hK
            go_simp
            refine hK _ _ (fun _ => ⟨by go_keep, by go_keep, by go_keep⟩) ?_
            clear hK K
            intro K hK
            refine step_append_lies _ rfl (.tmp 81) (.tmp 89) 27 rfl Bo 69 i1 (.agg #[.int .i64 0, .int .i64 0, .int .i64 0, .int .i64 0]) 4 32 Tryz.underlying27 gi gz0 gz1 gz2 rfl (by decide) (.slice Av L.length cv) L.length _ rfl (own_drew (World.ownsRow.alloc (w := wb) HO2.out _)) ⟨wb.heap.size, 0, none⟩ 1 1 [.int .i64 f, .int .i64 p1, .int .i64 t, .int .i64 p2] rfl rfl (news_drew wb _ _ _ rfl) (ints_one rfl) (by omega) (by unfold maxLen; omega) (by omega) (by simp; omega) _ rfl ?_
            intro g9 cap9 w9 hown9 hgrow9 _ _
            obtain ⟨s1, s2, s3, s4, HF9⟩ := HA2.out.push2 (r := ⟨f, p1, t, p2⟩) HV1.out HV2.out HBW.out _ hgrow9 hown9 HY0.out HY1.out
            clear hown9 hgrow9
            refine hK _ _ (fun _ => ⟨s1, s2, s3⟩) ?_
            clear hK K
            intro K hK
            simp only [Act.put, List.setIfInBounds_toArray, List.set_cons_zero, List.set_cons_succ] at hK ⊢
            go_simp
            refine hK _ _ (fun _ => ⟨s1, s2, s3⟩) ?_
            clear hK K
            intro K hK
            simp only [Act.put, List.setIfInBounds_toArray, List.set_cons_zero, List.set_cons_succ] at hK ⊢
            go_simp
            refine hK _ _ (fun _ => ⟨s1, s2, s3⟩) ?_
            clear hK K
            intro K hK
            simp only [Act.put, List.setIfInBounds_toArray, List.set_cons_zero, List.set_cons_succ] at hK ⊢
            go_simp
            refine hK _ _ (fun h => absurd rfl h) ?_
            clear hK K
            refine NoPanic.normal ?_
            go_wp2
            go_roundw
            case rel => exact ⟨m + 1, by omega, by go_num, hide (by rw [HT2.out]; exact HF9.out)⟩
            case measure => simp [intOf]; omega
          · obtain rfl : m = s.length := by omega
            have hmz : ¬ (s.length : Int) < (s.length : Int) := by omega
            have A := HA.out
            rw [List.take_length, ← HF.out] at A
            have HA2 := hide A
            clear A
            go_wp2
            go_end0
            have A := HA2.out
            obtain ⟨vo, a1, a2⟩ := A.out
            exact ⟨rfl, ⟨_, A.low, A.size, ⟨vo, a1, a2⟩, ⟨_, A.c1, A.own⟩, A.c2, A.c3, A.fz, HI.out⟩, ⟨A.os, A.tape, A.output, Nat.le_trans (by omega) A.grow, fun q hq => A.block q (by omega) (by omega)⟩, A.block, A.keep⟩
end Go.Proofs.YtdolpeljengpaaaGreat

/- The reference's Sorted. -/
namespace Go.Proofs.YtdolpeljengpaaaGreat
open Go.RowKit
set_option linter.unusedVariables false
set_option linter.unusedSimpArgs false

def encI (x : Int) : List Value := [iv x]
theorem flat_encI (l : List Int) : l.flatMap encI = l.map iv := by
  induction l with
  | nil => rfl
  | cons a l ih => simp [List.flatMap_cons, encI, ih]
theorem own_rdI {w : World} {base : Nat} {e : TypeId} {v : Value} {l : List Int} (h : w.ownsRow base e 1 v l.length (l.map iv)) : RdK encI 1 w w.heap.size v l :=
  own_rd (enc := encI) (k := 1) (by rw [flat_encI]; exact h) (fun _ => rfl)
theorem infoInt : (Tryz.prog.info? 3).map (fun i => (i.zero, i.size, i.bytes)) = some (some (.int .i64 0), 1, 8) := by kernel_rfl

theorem below_drewN {B : Nat} {w W : World} (h : Below B w W) (n : Nat) : Below B w (W.drewN n) := h.trans ⟨rfl, rfl, rfl, Nat.le_refl _, fun _ _ => rfl⟩
theorem name_exit {Q : Exit → Act → World → Prop} {e : Exit} {a : Act} {W : World} (h : ∀ w, w = W → Q e a w) : Q e a W := h W rfl
theorem addr_add' (g o j : Nat) : (⟨g, o, none⟩ : Addr).add j = ⟨g, o + j, none⟩ := by unfold Addr.add; split <;> simp_all
theorem splice_take {α : Type} (L : List α) (off m : Nat) (cs : List α) (h : off + cs.length ≤ m) : (splice L off cs).take m = splice (L.take m) off cs := by
  unfold splice
  rw [List.take_append, List.take_append, List.take_take, List.take_take, List.drop_take]
  simp only [List.length_take]
  by_cases hl : off ≤ L.length
  · have e1 : min off L.length = off := by omega
    rw [e1, Nat.min_eq_left (show off ≤ m by omega), Nat.min_eq_right (show off ≤ m by omega), List.take_of_length_le (show cs.length ≤ m - off by omega)]
    congr 3
    omega
  · rw [List.drop_of_length_le (show L.length ≤ off + cs.length by omega), List.take_nil, List.take_nil, List.append_nil]
    rw [show min off m = off by omega, show min m off = off by omega, List.take_of_length_le (show cs.length ≤ _ by omega), List.append_nil]
theorem own_copied {w w' : World} {base : Nat} {e t : TypeId} {g n cap off : Nat} {xs cs cur : List Value} (h : w.ownsRow base e 1 (.slice (some ⟨g, 0, none⟩) n cap) n xs) (hg : w.heap[g]? = some (.cells cur.toArray t (0, 0))) (hg' : w'.heap[g]? = some (.cells (splice cur off cs).toArray t (0, 0))) (hfit : off + cs.length ≤ n) :
    w'.ownsRow base e 1 (.slice (some ⟨g, 0, none⟩) n cap) n (splice xs off cs) := by
  rcases h.2 with ⟨e0, _⟩ | ⟨g', cap', cur', e0, hb, hh, hn, hm, hs, ht⟩
  · cases e0
  · injection e0 with e1 _ e3
    injection e1 with e1
    injection e1 with e1
    subst e1; subst e3
    rw [hg] at hh
    injection hh with hh
    injection hh with h1 h2
    subst h1; subst h2
    rw [Nat.mul_one] at ht
    have hl : cur.length = cap := by simpa using hs
    have hx := h.1
    refine ⟨by rw [length_splice _ _ _ (by omega)]; exact hx, .inr ⟨g, cap, _, rfl, hb, hg', hn, hm, by rw [List.size_toArray, length_splice _ _ _ (by omega)]; omega, ?_⟩⟩
    rw [Nat.mul_one, splice_take _ _ _ _ hfit]
    rw [← ht]
theorem ins_splice (S : List Int) (x : Int) (k : Nat) (hk : k ≤ S.length) : (splice ((S ++ [0]).map iv) (k + 1) ((S.drop k).map iv)).set k (iv x) = (S.take k ++ x :: S.drop k).map iv := by
  unfold splice
  have hd : List.drop (k + 1 + ((S.drop k).map iv).length) ((S ++ [0]).map iv) = [] := List.drop_of_length_le (by simp; omega)
  rw [hd, List.append_nil, List.set_append_left _ _ (by simp; omega)]
  have hm : (S.take k ++ x :: S.drop k).map iv = (S.take k ++ [x]).map iv ++ (S.drop k).map iv := by simp
  rw [hm]
  congr 1
  apply List.ext_getElem?
  intro i
  by_cases hi : i = k
  · subst hi
    rw [List.getElem?_set_self (by simp; omega), List.getElem?_map, List.getElem?_append_right (by simp; omega)]
    simp [Nat.min_eq_left hk]
  · rw [List.getElem?_set_ne (by omega)]
    by_cases hlt : i < k
    · rw [List.getElem?_take, if_pos (by omega), List.getElem?_map, List.getElem?_map, List.getElem?_append_left (by omega), List.getElem?_append_left (by simp; omega), List.getElem?_take, if_pos hlt]
    · rw [List.getElem?_eq_none (by simp; omega), List.getElem?_eq_none (by simp; omega)]

set_option maxRecDepth 100000 in
set_option maxHeartbeats 4000000 in
theorem rSorted_any {w : World} {v : Value} {l : List Int} {B : Nat} (hr : RdK encI 1 w B v l) (hB : B ≤ w.heap.size) (hl : l.length ≤ 100000000) :
    Calls Tryz.prog 169 #[v] w fun e w' => ∃ vo, e = .returned vo ∧ w'.ownsRow w.heap.size 3 1 vo (srt l).length ((srt l).map iv) ∧ Below w.heap.size w w' := by
  obtain ⟨i1, gi, gz0, gz1, gz2⟩ := info_parts infoInt
  obtain ⟨A, c, rfl, hc⟩ := hr
  have HR := hide hc
  clear hc
  go_enter Tryz.func169, Tryz.ntmps169
  go_wp2
  go_loopw [3, 4, 5] (fun v i _ wr => ∃ m : Nat, m ≤ l.length ∧ i = .int .i64 m ∧ ∃ Av cv, v = .slice Av (srt (l.take m)).length cv ∧ Hid (wr.ownsRow w.heap.size 3 1 v (srt (l.take m)).length ((srt (l.take m)).map iv)) ∧ Hid (Below w.heap.size w wr)) (fun _ i _ _ => l.length - (intOf i).toNat)
  case atStart => exact ⟨0, Nat.zero_le _, rfl, none, 0, rfl, hide (World.ownsRow_nil _ _ _ _), hide (Below.refl _ _)⟩
  case round =>
    obtain ⟨m, hm, rfl, Av, cv, rfl, HO, HB⟩ := hrel
    by_cases hlt : m < l.length
    · obtain ⟨x, hp⟩ : ∃ p, l[m]? = some p := ⟨_, List.getElem?_eq_getElem hlt⟩
      obtain ⟨b, o, rfl, hbl, k⟩ := HR.out (by intro e; rw [e] at hlt; simp at hlt)
      have d0 : ∀ W, Below w.heap.size w W → W.cell? ⟨b, o + m, none⟩ = some (.int .i64 x) := fun W hW => (hW.cell (p := ⟨b, _, none⟩) (by show b < _; omega)).trans (by have := k m _ hp 0 _ rfl; rwa [Nat.mul_one] at this)
      have D0 := hide d0
      have mz : (m : Int) < (l.length : Int) := by omega
      have hS := (srt_ok (l.take m)).1
      have hSl := srt_len (l.take m)
      rw [List.length_take] at hSl
      have HT : Hid (srt (l.take (m + 1)) = insI x (srt (l.take m))) := hide (by
        obtain ⟨i1, e1⟩ := List.getElem?_eq_some_iff.1 hp
        rw [List.take_succ_eq_append_getElem i1, e1, srt_snoc])
      generalize srt (l.take m) = S at *
      clear k hp d0
      generalize wr = w1 at *
      go_wp2
      go_loopw [5] (fun kk wr => ∃ k : Nat, k ≤ S.length ∧ kk = .int .i64 k ∧ Hid (∀ j y, k ≤ j → S[j]? = some y → x < y) ∧ Hid (Below w1.heap.size w1 wr)) (fun kk _ => (intOf kk).toNat)
      case atStart => exact ⟨S.length, Nat.le_refl _, rfl, hide (fun j y h1 h2 => by rw [List.getElem?_eq_none h1] at h2; cases h2), hide (Below.refl _ _)⟩
      case round =>
        obtain ⟨k, hk, rfl, HG, HB1⟩ := hrel
        have hB1 := HB1.out.size
        rcases Nat.eq_zero_or_pos k with rfl | hkp
        · rw [show ((0 : Nat) : Int) = 0 from rfl]
          go_wp2
          go_quiet (fail)
          go_wp2
          go_quiet (fail)
          refine name_exit fun wd hwd => ?_
          have hbd : Below w1.heap.size w1 wd := by rw [hwd]; exact below_drewN (below_drewN HB1.out _) _
          have hod := own_below HO.out hbd
          have HOD := hide hod
          have hsz := HB.out.size
          have hsz2 := hbd.size
          have HBD := hide hbd
          clear hwd hod hbd
          go_wp2_with (at_builtin; go_loud (refine wpList_append_lies _ rfl (.tmp 44) (.tmp 45) 156 rfl w.heap.size 3 i1 (.int .i64 0) 1 8 Tryz.underlying156 gi gz0 gz1 gz2 rfl (by decide) _ _ _ rfl (HOD.out.alloc _) ⟨wd.heap.size, 0, none⟩ 1 1 [.int .i64 0] rfl rfl (news_new wd _ _ _ rfl) (ints_one rfl) (by omega) (by unfold maxLen; omega) (by omega) (by simp; omega) _ rfl ?_))
          intro g9 cap9 w2 hown2 hgrow hg9 _
          have hx2 : S.map iv ++ [.int .i64 0] = (S ++ [0]).map iv := by simp
          rw [hx2] at hown2
          have hb2 : Below w.heap.size w w2 := ((HB.out.trans (HBD.out.mono hsz)).alloc (by omega) _).grown hgrow (by simp; omega) (fun q hq => (HOD.out.lt q hq).1)
          obtain ⟨_, cap9', cur9, e9, hbg9, hh9, hn9, hm9, hs9, ht9⟩ : ∃ (g' cap' : Nat) (cur : Array Value), Value.slice (some ⟨g9, 0, none⟩) (S.length + 1) cap9 = .slice (some ⟨g', 0, none⟩) (S.length + 1) cap' ∧ w.heap.size ≤ g' ∧ w2.heap[g']? = some (.cells cur 3 (0, 0)) ∧ S.length + 1 ≤ cap' ∧ cap' ≤ maxLen ∧ cur.size = cap' * 1 ∧ cur.toList.take ((S.length + 1) * 1) = (S ++ [0]).map iv := by
            rcases hown2.2 with ⟨e0, _⟩ | q
            · cases e0
            · exact q
          injection e9 with e1 _ e3
          injection e1 with e1
          injection e1 with e1
          subst e1; subst e3
          have HX2 := hide hown2
          have HB2 := hide hb2
          have HH9 := hide hh9
          have HS9 := hide hs9
          unfold maxLen at hm9
          clear hown2 hgrow hb2 hx2 hg9 hh9 hs9 ht9
          go_wp2
          have r1 : IntKind.i64.wrap (1) = 1 := by simp [IntKind.wrap, IntKind.bits, IntKind.signed]
          have r2 : (0 : Int) ≤ 1 := by omega
          have r3 : (1 : Int) ≤ (S.length : Int) + 1 := by omega
          have r4 : (1 : Int).toNat = 0 + 1 := by omega
          have r5 : (0 : Int) ≤ 0 := by omega
          have r6 : (0 : Int) ≤ (S.length : Int) + 1 := by omega
          have r7 : (0 : Int).toNat = 0 := by omega
          refine wp_region_reads0 7 (by kernel_rfl) (by kernel_rfl) ?_
          simp only [List.take_succ_cons, List.take_zero, List.drop_succ_cons, List.drop_zero]
          iterate 7
            refine ⟨?_, Or.inl ⟨by rfl, ?_⟩, ?_⟩
            rotate_left 1
            · intro w' _
              go_simp
              first | done | with_reducible rfl
            simp only [Act.put, List.setIfInBounds_toArray, List.set_cons_zero, List.set_cons_succ]
          clear r1 r2 r3 r4 r5 r6 r7
          simp only [wpReads]
          intro K hK
          have hcur : w2.drew.heap[g9]? = some (.cells cur9.toList.toArray 3 (0, 0)) := by show w2.heap[g9]? = _; simpa using HH9.out
          have hcl : cur9.toList.length = cap9 := by simpa using HS9.out
          refine step_copy_splice rfl (.tmp 50) (.tmp 53) 156 156 rfl 3 Tryz.underlying156 (by kernel_rfl) _ _ _ _ _ _ rfl rfl g9 (0 + 1) cur9.toList 3 hcur ((S.drop (0)).map iv) (by show _ = min _ _; simp only [List.length_map, List.length_drop]; omega) ?_ (by simp only [List.length_map, List.length_drop]; omega) (by intro u hu; obtain ⟨z, _, rfl⟩ := List.mem_map.1 hu; rfl) w.heap.size w (HB2.out.drew) hbg9 ?_
          · intro hpos
            have hpl : 0 < S.length := by simp only [List.length_map, List.length_drop] at hpos; omega
            refine ⟨by first | rfl | rw [if_neg (by omega)], ⟨g9, 0, none⟩, by first | rfl | rw [if_neg (by omega)], fun i u hi => ?_⟩
            have hi2 : ((S ++ [0]).map iv)[0 + i]? = some u := by
              rw [List.getElem?_map] at hi ⊢
              rw [List.getElem?_drop] at hi
              have hlt3 : 0 + i < S.length := by
                rcases Nat.lt_or_ge (0 + i) S.length with h | h
                · exact h
                · rw [List.getElem?_eq_none h] at hi; cases hi
              rw [List.getElem?_append_left hlt3]
              exact hi
            have := (HX2.out.cells (g := g9) rfl) _ _ hi2
            rw [addr_add] at this
            rw [addr_add']
            exact this
          · intro w3 hsp hb3
            have hx3 := own_copied HX2.out (by simpa using HH9.out) hsp.out (by simp only [List.length_map, List.length_drop]; omega)
            refine hK _ _ (fun _ => trivial) ?_
            clear hK K
            refine NoPanic.normal ?_
            obtain ⟨u3, c3⟩ : ∃ u, w3.cell? ⟨g9, 0, none⟩ = some u := by
              have := (hx3.cells (g := g9) rfl) (0) _ (List.getElem?_eq_getElem (by have := hx3.1; omega))
              rw [addr_add] at this
              exact ⟨_, this⟩
            have f3 : w3.frozen? ⟨g9, 0, none⟩ = false := hx3.frozenAt _
            have hst := hx3.stored (0) (.int .i64 x)
            rw [ins_splice S x (0) (by omega)] at hst
            have hins : insI x S = S.take (0) ++ x :: S.drop (0) := insI_at x S (0) hS (by omega) HG.out (fun y h => absurd rfl h)
            rw [← hins] at hst
            have HST := hide hst
            have HLEN : Hid (S.length + 1 = (srt (l.take (m + 1))).length) := hide (by rw [HT.out, hins]; simp only [List.length_append, List.length_cons, List.length_take, List.length_drop]; omega)
            have c4 := D0.out w3 hb3
            have HB3 := hide hb3
            clear hins hst hx3 hsp hb3 hcur hcl
            go_wp2
            go_roundw
            case rel => exact ⟨m + 1, by omega, by go_num, some ⟨g9, 0, none⟩, cap9, by rw [HLEN.out], hide (by rw [← HLEN.out, HT.out]; exact HST.out.1), hide (HB3.out.setCell hbg9 _)⟩
            case measure => simp [intOf]; omega
        · obtain ⟨j, rfl⟩ : ∃ j, k = j + 1 := ⟨k - 1, by omega⟩
          obtain ⟨y, hy⟩ : ∃ y, S[j]? = some y := ⟨_, List.getElem?_eq_getElem (by omega)⟩
          obtain ⟨g, cap, hv, hBg, hgw⟩ := HO.out.form (by omega)
          injection hv with e1 _ e3
          subst e1; subst e3
          have c1 : wr.cell? ⟨g, j, none⟩ = some (.int .i64 y) := by
            have := (HO.out.cells (g := g) rfl) j (iv y) (by simp [hy])
            rw [addr_add] at this
            exact (HB1.out.cell (p := ⟨g, j, none⟩) hgw).trans this
          have c2 := D0.out wr (HB.out.trans (HB1.out.mono HB.out.size))
          have q1 : (0 : Int) < (j : Int) + 1 := by omega
          have q2 : (j : Int) < (S.length : Int) := by omega
          have q3 : IntKind.i64.wrap ((j : Int) + 1 - 1) = j := by simp [IntKind.wrap, IntKind.bits, IntKind.signed]; omega
          have q4 : (0 : Int) ≤ (j : Int) := by omega
          have HY := hide hy
          clear hy hkp
          rw [show ((j + 1 : Nat) : Int) = (j : Int) + 1 from rfl]
          by_cases hgt : x < y
          · go_wp2
            go_quiet (fail)
            go_wp2
            go_roundw
            case rel =>
              refine ⟨j, by omega, by go_num, hide ?_, hide (below_drewN HB1.out _)⟩
              intro i z h1 h2
              by_cases hij : i = j
              · subst hij
                rw [HY.out] at h2
                injection h2 with h2
                omega
              · exact HG.out i z (by omega) h2
            case measure => simp [intOf]
          · have hng : decide (x < y) = false := decide_eq_false hgt
            by_cases hxy : y = x
            · subst hxy
              have e1 : (y == y) = true := by simp
              have HI : Hid (insI y S = S) := hide (insI_there y S hS (List.mem_of_getElem? HY.out))
              have HLEN : Hid (S.length = (srt (l.take (m + 1))).length) := hide (by rw [HT.out, HI.out])
              clear hgt
              go_wp2
              go_quiet (fail)
              go_wp2
              go_quiet (fail)
              refine name_exit fun wd hwd => ?_
              have hbd : Below w1.heap.size w1 wd := by rw [hwd]; exact below_drewN (below_drewN HB1.out _) _
              have hod := own_below HO.out hbd
              have HOD := hide hod
              have hsz := HB.out.size
              have HBD := hide hbd
              clear hwd hod hbd
              go_wp2
              go_roundw
              case rel => exact ⟨m + 1, by omega, by go_num, some ⟨g, 0, none⟩, cv, by rw [HLEN.out], hide (by rw [← HLEN.out, HT.out, HI.out]; exact HOD.out), hide (HB.out.trans (HBD.out.mono hsz))⟩
              case measure => simp [intOf]; omega
            · have e1 : (y == x) = false := by simpa using hxy
              have hyx : y < x := by omega
              clear hgt hxy
              go_wp2
              go_quiet (fail)
              go_wp2
              go_quiet (fail)
              refine name_exit fun wd hwd => ?_
              have hbd : Below w1.heap.size w1 wd := by rw [hwd]; exact below_drewN (below_drewN HB1.out _) _
              have hod := own_below HO.out hbd
              have HOD := hide hod
              have hsz := HB.out.size
              have hsz2 := hbd.size
              have HBD := hide hbd
              clear hwd hod hbd
              go_wp2_with (at_builtin; go_loud (refine wpList_append_lies _ rfl (.tmp 44) (.tmp 45) 156 rfl w.heap.size 3 i1 (.int .i64 0) 1 8 Tryz.underlying156 gi gz0 gz1 gz2 rfl (by decide) _ _ _ rfl (HOD.out.alloc _) ⟨wd.heap.size, 0, none⟩ 1 1 [.int .i64 0] rfl rfl (news_new wd _ _ _ rfl) (ints_one rfl) (by omega) (by unfold maxLen; omega) (by omega) (by simp; omega) _ rfl ?_))
              intro g9 cap9 w2 hown2 hgrow hg9 _
              have hx2 : S.map iv ++ [.int .i64 0] = (S ++ [0]).map iv := by simp
              rw [hx2] at hown2
              have hb2 : Below w.heap.size w w2 := ((HB.out.trans (HBD.out.mono hsz)).alloc (by omega) _).grown hgrow (by simp; omega) (fun q hq => (HOD.out.lt q hq).1)
              obtain ⟨_, cap9', cur9, e9, hbg9, hh9, hn9, hm9, hs9, ht9⟩ : ∃ (g' cap' : Nat) (cur : Array Value), Value.slice (some ⟨g9, 0, none⟩) (S.length + 1) cap9 = .slice (some ⟨g', 0, none⟩) (S.length + 1) cap' ∧ w.heap.size ≤ g' ∧ w2.heap[g']? = some (.cells cur 3 (0, 0)) ∧ S.length + 1 ≤ cap' ∧ cap' ≤ maxLen ∧ cur.size = cap' * 1 ∧ cur.toList.take ((S.length + 1) * 1) = (S ++ [0]).map iv := by
                rcases hown2.2 with ⟨e0, _⟩ | q
                · cases e0
                · exact q
              injection e9 with e1 _ e3
              injection e1 with e1
              injection e1 with e1
              subst e1; subst e3
              have HX2 := hide hown2
              have HB2 := hide hb2
              have HH9 := hide hh9
              have HS9 := hide hs9
              unfold maxLen at hm9
              clear hown2 hgrow hb2 hx2 hg9 hh9 hs9 ht9
              go_wp2
              have r1 : IntKind.i64.wrap ((j : Int) + 1 + 1) = (j : Int) + 1 + 1 := by simp [IntKind.wrap, IntKind.bits, IntKind.signed]; omega
              have r2 : (0 : Int) ≤ (j : Int) + 1 + 1 := by omega
              have r3 : ((j : Int) + 1 + 1 : Int) ≤ (S.length : Int) + 1 := by omega
              have r4 : ((j : Int) + 1 + 1 : Int).toNat = (j + 1) + 1 := by omega
              have r5 : (0 : Int) ≤ ((j : Int) + 1) := by omega
              have r6 : (((j : Int) + 1) : Int) ≤ (S.length : Int) + 1 := by omega
              have r7 : (((j : Int) + 1) : Int).toNat = (j + 1) := by omega
              refine wp_region_reads0 7 (by kernel_rfl) (by kernel_rfl) ?_
              simp only [List.take_succ_cons, List.take_zero, List.drop_succ_cons, List.drop_zero]
              iterate 7
                refine ⟨?_, Or.inl ⟨by rfl, ?_⟩, ?_⟩
                rotate_left 1
                · intro w' _
                  go_simp
                  first | done | with_reducible rfl
                simp only [Act.put, List.setIfInBounds_toArray, List.set_cons_zero, List.set_cons_succ]
              clear r1 r2 r3 r4 r5 r6 r7
              simp only [wpReads]
              intro K hK
              have hcur : w2.drew.heap[g9]? = some (.cells cur9.toList.toArray 3 (0, 0)) := by show w2.heap[g9]? = _; simpa using HH9.out
              have hcl : cur9.toList.length = cap9 := by simpa using HS9.out
              refine step_copy_splice rfl (.tmp 50) (.tmp 53) 156 156 rfl 3 Tryz.underlying156 (by kernel_rfl) _ _ _ _ _ _ rfl rfl g9 ((j + 1) + 1) cur9.toList 3 hcur ((S.drop ((j + 1))).map iv) (by show _ = min _ _; simp only [List.length_map, List.length_drop]; omega) ?_ (by simp only [List.length_map, List.length_drop]; omega) (by intro u hu; obtain ⟨z, _, rfl⟩ := List.mem_map.1 hu; rfl) w.heap.size w (HB2.out.drew) hbg9 ?_
              · intro hpos
                have hpl : (j + 1) < S.length := by simp only [List.length_map, List.length_drop] at hpos; omega
                refine ⟨by first | rfl | rw [if_neg (by omega)], ⟨g9, (j + 1), none⟩, by first | rfl | rw [if_neg (by omega)], fun i u hi => ?_⟩
                have hi2 : ((S ++ [0]).map iv)[(j + 1) + i]? = some u := by
                  rw [List.getElem?_map] at hi ⊢
                  rw [List.getElem?_drop] at hi
                  have hlt3 : (j + 1) + i < S.length := by
                    rcases Nat.lt_or_ge ((j + 1) + i) S.length with h | h
                    · exact h
                    · rw [List.getElem?_eq_none h] at hi; cases hi
                  rw [List.getElem?_append_left hlt3]
                  exact hi
                have := (HX2.out.cells (g := g9) rfl) _ _ hi2
                rw [addr_add] at this
                rw [addr_add']
                exact this
              · intro w3 hsp hb3
                have hx3 := own_copied HX2.out (by simpa using HH9.out) hsp.out (by simp only [List.length_map, List.length_drop]; omega)
                refine hK _ _ (fun _ => trivial) ?_
                clear hK K
                refine NoPanic.normal ?_
                obtain ⟨u3, c3⟩ : ∃ u, w3.cell? ⟨g9, (j + 1), none⟩ = some u := by
                  have := (hx3.cells (g := g9) rfl) ((j + 1)) _ (List.getElem?_eq_getElem (by have := hx3.1; omega))
                  rw [addr_add] at this
                  exact ⟨_, this⟩
                have f3 : w3.frozen? ⟨g9, (j + 1), none⟩ = false := hx3.frozenAt _
                have hst := hx3.stored ((j + 1)) (.int .i64 x)
                rw [ins_splice S x ((j + 1)) (by omega)] at hst
                have hins : insI x S = S.take ((j + 1)) ++ x :: S.drop ((j + 1)) := insI_at x S ((j + 1)) hS (by omega) HG.out (fun z _ hz => by rw [show j + 1 - 1 = j from rfl, HY.out] at hz; injection hz with hz; omega)
                rw [← hins] at hst
                have HST := hide hst
                have HLEN : Hid (S.length + 1 = (srt (l.take (m + 1))).length) := hide (by rw [HT.out, hins]; simp only [List.length_append, List.length_cons, List.length_take, List.length_drop]; omega)
                have c4 := D0.out w3 hb3
                have HB3 := hide hb3
                clear hins hst hx3 hsp hb3 hcur hcl
                go_wp2
                go_roundw
                case rel => exact ⟨m + 1, by omega, by go_num, some ⟨g9, 0, none⟩, cap9, by rw [HLEN.out], hide (by rw [← HLEN.out, HT.out]; exact HST.out.1), hide (HB3.out.setCell hbg9 _)⟩
                case measure => simp [intOf]; omega
    · have mz : ¬ (m : Int) < (l.length : Int) := by omega
      have ht : l.take m = l := List.take_of_length_le (by omega)
      rw [ht] at HO ⊢
      clear ht
      go_wp2
      go_ret
      exact ⟨_, rfl, HO.out, HB.out⟩
end Go.Proofs.YtdolpeljengpaaaGreat

/- The reference's cuts: Xs and Ys. -/
namespace Go.Proofs.YtdolpeljengpaaaGreat
open Go.RowKit
set_option linter.unusedVariables false
set_option linter.unusedSimpArgs false

theorem cutsY_take (l : List R4) (m : Nat) (r : R4) (h : l[m]? = some r) : cutsY (l.take (m + 1)) = cutsY (l.take m) ++ [r.y0, r.y1] := by
  obtain ⟨hm, hp⟩ := List.getElem?_eq_some_iff.1 h
  rw [List.take_succ_eq_append_getElem hm, hp]
  simp [cutsY]
theorem cutsY_len (l : List R4) : (cutsY l).length = 2 * l.length := by
  induction l with
  | nil => rfl
  | cons p s ih => simp [cutsY] at ih ⊢; omega

set_option maxRecDepth 100000 in
set_option maxHeartbeats 1000000 in
theorem rXs_any {w : World} {va vb : Value} {a b : List R4} {B : Nat} (ha : RdK encR 4 w B va a) (hb : RdK encR 4 w B vb b) (hB : B ≤ w.heap.size) (la : a.length ≤ 10000000) (lb : b.length ≤ 10000000) :
    Calls Tryz.prog 120 #[va, vb] w fun e w' => ∃ vo, e = .returned vo ∧ w'.ownsRow w.heap.size 3 1 vo (srt (cutsL a ++ cutsL b)).length ((srt (cutsL a ++ cutsL b)).map iv) ∧ Below w.heap.size w w' := by
  obtain ⟨i1, gi, gz0, gz1, gz2⟩ := info_parts infoInt
  obtain ⟨A, c, rfl, hca⟩ := ha
  obtain ⟨A2, c2, rfl, hcb⟩ := hb
  have HA := hide hca
  have HB0 := hide hcb
  clear hca hcb
  go_enter Tryz.func120, Tryz.ntmps120
  go_wp2
  go_loopw [5, 6] (fun v i wr => ∃ m : Nat, m ≤ a.length ∧ i = .int .i64 m ∧ ∃ Av cv, v = .slice Av (cutsL (a.take m)).length cv ∧ Hid (wr.ownsRow w.heap.size 3 1 v (cutsL (a.take m)).length ((cutsL (a.take m)).map iv)) ∧ Hid (Below w.heap.size w wr)) (fun _ i _ => a.length - (intOf i).toNat)
  case atStart => exact ⟨0, Nat.zero_le _, rfl, none, 0, rfl, hide (World.ownsRow_nil _ _ _ _), hide (Below.refl _ _)⟩
  case round =>
    obtain ⟨m, hm, rfl, Av, cv, rfl, HO, HB⟩ := hrel
    by_cases hlt : m < a.length
    · obtain ⟨⟨x0, y0, x1, y1⟩, hp⟩ : ∃ p, a[m]? = some p := ⟨_, List.getElem?_eq_getElem hlt⟩
      obtain ⟨bk, off, rfl, hbk, k⟩ := HA.out (by intro e; rw [e] at hlt; simp at hlt)
      have dW : ∀ W, Below w.heap.size w W → W.cell? ⟨bk, off + m * 4, none⟩ = some (.int .i64 x0) ∧ W.cell? ⟨bk, off + m * 4 + 2, none⟩ = some (.int .i64 x1) := fun W hW =>
        ⟨(hW.cell (p := ⟨bk, _, none⟩) (by show bk < _; omega)).trans (k m _ hp 0 _ rfl), (hW.cell (p := ⟨bk, _, none⟩) (by show bk < _; omega)).trans (k m _ hp 2 _ rfl)⟩
      obtain ⟨d0, d2⟩ := dW wr HB.out
      have DW := hide dW
      have mz : (m : Int) < (a.length : Int) := by omega
      have HT : Hid (cutsL (a.take (m + 1)) = cutsL (a.take m) ++ [x0, x1]) := hide (by rw [cutsL_take a m _ hp])
      have hlen : (cutsL (a.take m)).length ≤ 400000000 := by rw [cutsL_len, List.length_take]; omega
      have hsz := HB.out.size
      have hbw : bk < wr.heap.size := by omega
      clear k hp dW
      generalize cutsL (a.take m) = E0 at *
      go_wp2
      refine wp_region_reads 11 (fun w' => w'.cell? ⟨bk, off + m * 4, none⟩ = some (.int .i64 x0) ∧ w'.cell? ⟨bk, off + m * 4 + 2, none⟩ = some (.int .i64 x1)) (by kernel_rfl) (by kernel_rfl) ⟨d0, d2⟩ ?_
      simp only [List.take_succ_cons, List.take_zero, List.drop_succ_cons, List.drop_zero]
      iterate 11
        refine ⟨?_, Or.inl ⟨by rfl, ?_⟩, ?_⟩
        rotate_left 1
        · intro w' hSw
          obtain ⟨z1, z2⟩ := hSw
          go_simp
          first | done | with_reducible rfl
        simp only [Act.put, List.setIfInBounds_toArray, List.set_cons_zero, List.set_cons_succ]
      simp only [wpReads]
      intro K hK
      go_simp
      refine hK _ _ (fun _ => ⟨by go_keep, by go_keep⟩) ?_
      clear hK K
      intro K hK
      refine step_append_lies _ rfl (.tmp 14) (.tmp 25) 156 rfl w.heap.size 3 i1 (.int .i64 0) 1 8 Tryz.underlying156 gi gz0 gz1 gz2 rfl (by decide) _ _ _ rfl (own_drew (World.ownsRow.alloc (w := wr) HO.out _)) ⟨wr.heap.size, 0, none⟩ 2 2 [.int .i64 x0, .int .i64 x1] rfl rfl (news_drew wr _ _ _ rfl) (ints_one rfl) (by omega) (by unfold maxLen; omega) (by omega) (by simp; omega) _ rfl ?_
      intro g9 cap9 w9 hown9 hgrow9 _ _
      have hb9 : Below w.heap.size w w9 := ((HB.out.alloc hsz _).drew).grown hgrow9 (by simp; omega) (fun q hq => (HO.out.lt q hq).1)
      have hx9 : E0.map iv ++ [.int .i64 x0, .int .i64 x1] = (E0 ++ [x0, x1]).map iv := by simp
      rw [hx9, ← HT.out] at hown9
      have HL9 : Hid (E0.length + 2 = (cutsL (a.take (m + 1))).length) := hide (by rw [HT.out]; simp)
      have HO9 := hide hown9
      have HB9 := hide hb9
      clear hown9 hgrow9 hx9 hb9
      refine hK _ _ (fun _ => DW.out _ HB9.out) ?_
      clear hK K
      intro K hK
      simp only [Act.put, List.setIfInBounds_toArray, List.set_cons_zero, List.set_cons_succ] at hK ⊢
      go_simp
      refine hK _ _ (fun h => absurd rfl h) ?_
      clear hK K
      refine NoPanic.normal ?_
      go_wp2
      go_roundw
      case rel => exact ⟨m + 1, by omega, by go_num, _, cap9, by rw [HL9.out], hide (by rw [← HL9.out]; exact own_n HO9.out rfl), HB9⟩
      case measure => simp [intOf]; omega
    · have mz : ¬ (m : Int) < (a.length : Int) := by omega
      have ht : a.take m = a := List.take_of_length_le (by omega)
      rw [ht] at HO ⊢
      clear ht
      go_wp2
      go_loopw [5, 7] (fun v i wr => ∃ m : Nat, m ≤ b.length ∧ i = .int .i64 m ∧ ∃ Av cv, v = .slice Av (cutsL a ++ cutsL (b.take m)).length cv ∧ Hid (wr.ownsRow w.heap.size 3 1 v (cutsL a ++ cutsL (b.take m)).length ((cutsL a ++ cutsL (b.take m)).map iv)) ∧ Hid (Below w.heap.size w wr)) (fun _ i _ => b.length - (intOf i).toNat)
      case atStart => exact ⟨0, Nat.zero_le _, rfl, Av, cv, by simp [cutsL], hide (by simpa [cutsL] using HO.out), HB⟩
      case round =>
        clear HO HB
        obtain ⟨m, hm, rfl, Av, cv, rfl, HO, HB⟩ := hrel
        by_cases hlt : m < b.length
        · obtain ⟨⟨x0, y0, x1, y1⟩, hp⟩ : ∃ p, b[m]? = some p := ⟨_, List.getElem?_eq_getElem hlt⟩
          obtain ⟨bk, off, rfl, hbk, k⟩ := HB0.out (by intro e; rw [e] at hlt; simp at hlt)
          have dW : ∀ W, Below w.heap.size w W → W.cell? ⟨bk, off + m * 4, none⟩ = some (.int .i64 x0) ∧ W.cell? ⟨bk, off + m * 4 + 2, none⟩ = some (.int .i64 x1) := fun W hW =>
            ⟨(hW.cell (p := ⟨bk, _, none⟩) (by show bk < _; omega)).trans (k m _ hp 0 _ rfl), (hW.cell (p := ⟨bk, _, none⟩) (by show bk < _; omega)).trans (k m _ hp 2 _ rfl)⟩
          obtain ⟨d0, d2⟩ := dW wr HB.out
          have DW := hide dW
          have mz : (m : Int) < (b.length : Int) := by omega
          have HT : Hid (cutsL a ++ cutsL (b.take (m + 1)) = cutsL a ++ cutsL (b.take m) ++ [x0, x1]) := hide (by rw [cutsL_take b m _ hp, List.append_assoc])
          have hlen : (cutsL a ++ cutsL (b.take m)).length ≤ 400000000 := by rw [List.length_append, cutsL_len, cutsL_len, List.length_take]; omega
          have hsz := HB.out.size
          have hbw : bk < wr.heap.size := by omega
          clear k hp dW
          generalize cutsL a ++ cutsL (b.take m) = E0 at *
          go_wp2
          refine wp_region_reads 11 (fun w' => w'.cell? ⟨bk, off + m * 4, none⟩ = some (.int .i64 x0) ∧ w'.cell? ⟨bk, off + m * 4 + 2, none⟩ = some (.int .i64 x1)) (by kernel_rfl) (by kernel_rfl) ⟨d0, d2⟩ ?_
          simp only [List.take_succ_cons, List.take_zero, List.drop_succ_cons, List.drop_zero]
          iterate 11
            refine ⟨?_, Or.inl ⟨by rfl, ?_⟩, ?_⟩
            rotate_left 1
            · intro w' hSw
              obtain ⟨z1, z2⟩ := hSw
              go_simp
              first | done | with_reducible rfl
            simp only [Act.put, List.setIfInBounds_toArray, List.set_cons_zero, List.set_cons_succ]
          simp only [wpReads]
          intro K hK
          go_simp
          refine hK _ _ (fun _ => ⟨by go_keep, by go_keep⟩) ?_
          clear hK K
          intro K hK
          refine step_append_lies _ rfl (.tmp 33) (.tmp 44) 156 rfl w.heap.size 3 i1 (.int .i64 0) 1 8 Tryz.underlying156 gi gz0 gz1 gz2 rfl (by decide) _ _ _ rfl (own_drew (World.ownsRow.alloc (w := wr) HO.out _)) ⟨wr.heap.size, 0, none⟩ 2 2 [.int .i64 x0, .int .i64 x1] rfl rfl (news_drew wr _ _ _ rfl) (ints_one rfl) (by omega) (by unfold maxLen; omega) (by omega) (by simp; omega) _ rfl ?_
          intro g9 cap9 w9 hown9 hgrow9 _ _
          have hb9 : Below w.heap.size w w9 := ((HB.out.alloc hsz _).drew).grown hgrow9 (by simp; omega) (fun q hq => (HO.out.lt q hq).1)
          have hx9 : E0.map iv ++ [.int .i64 x0, .int .i64 x1] = (E0 ++ [x0, x1]).map iv := by simp
          rw [hx9, ← HT.out] at hown9
          have HL9 : Hid (E0.length + 2 = (cutsL a ++ cutsL (b.take (m + 1))).length) := hide (by rw [HT.out]; simp)
          have HO9 := hide hown9
          have HB9 := hide hb9
          clear hown9 hgrow9 hx9 hb9
          refine hK _ _ (fun _ => DW.out _ HB9.out) ?_
          clear hK K
          intro K hK
          simp only [Act.put, List.setIfInBounds_toArray, List.set_cons_zero, List.set_cons_succ] at hK ⊢
          go_simp
          refine hK _ _ (fun h => absurd rfl h) ?_
          clear hK K
          refine NoPanic.normal ?_
          go_wp2
          go_roundw
          case rel => exact ⟨m + 1, by omega, by go_num, _, cap9, by rw [HL9.out], hide (by rw [← HL9.out]; exact own_n HO9.out rfl), HB9⟩
          case measure => simp [intOf]; omega
        · have mz : ¬ (m : Int) < (b.length : Int) := by omega
          have ht : b.take m = b := List.take_of_length_le (by omega)
          rw [ht] at HO ⊢
          clear ht
          have hsz := HB.out.size
          have hln : (cutsL a ++ cutsL b).length ≤ 100000000 := by rw [List.length_append, cutsL_len, cutsL_len]; omega
          obtain ⟨E, hE⟩ : ∃ E, cutsL a ++ cutsL b = E := ⟨_, rfl⟩
          rw [hE] at hln HO ⊢
          have HE := hide hE
          clear hE
          have hso := rSorted_any (own_rdI HO.out) (Nat.le_refl _) (by omega)
          have HSO := hide hso
          clear hso
          go_wp2_with (go_at_call 169; refine HSO.out.mono ?_; rintro e w3 ⟨vo, rfl, ho3, hb3⟩; have HO3 := hide ho3; have HB3 := hide hb3; clear ho3 hb3)
          go_ret
          exact ⟨vo, rfl, by rw [HE.out]; exact own_base HO3.out hsz, HB.out.trans (HB3.out.mono hsz)⟩

set_option maxRecDepth 100000 in
set_option maxHeartbeats 1000000 in
theorem rYs_any {w : World} {va vb : Value} {a b : List R4} {B : Nat} (ha : RdK encR 4 w B va a) (hb : RdK encR 4 w B vb b) (hB : B ≤ w.heap.size) (la : a.length ≤ 10000000) (lb : b.length ≤ 10000000) :
    Calls Tryz.prog 121 #[va, vb] w fun e w' => ∃ vo, e = .returned vo ∧ w'.ownsRow w.heap.size 3 1 vo (srt (cutsY a ++ cutsY b)).length ((srt (cutsY a ++ cutsY b)).map iv) ∧ Below w.heap.size w w' := by
  obtain ⟨i1, gi, gz0, gz1, gz2⟩ := info_parts infoInt
  obtain ⟨A, c, rfl, hca⟩ := ha
  obtain ⟨A2, c2, rfl, hcb⟩ := hb
  have HA := hide hca
  have HB0 := hide hcb
  clear hca hcb
  go_enter Tryz.func121, Tryz.ntmps121
  go_wp2
  go_loopw [5, 6] (fun v i wr => ∃ m : Nat, m ≤ a.length ∧ i = .int .i64 m ∧ ∃ Av cv, v = .slice Av (cutsY (a.take m)).length cv ∧ Hid (wr.ownsRow w.heap.size 3 1 v (cutsY (a.take m)).length ((cutsY (a.take m)).map iv)) ∧ Hid (Below w.heap.size w wr)) (fun _ i _ => a.length - (intOf i).toNat)
  case atStart => exact ⟨0, Nat.zero_le _, rfl, none, 0, rfl, hide (World.ownsRow_nil _ _ _ _), hide (Below.refl _ _)⟩
  case round =>
    obtain ⟨m, hm, rfl, Av, cv, rfl, HO, HB⟩ := hrel
    by_cases hlt : m < a.length
    · obtain ⟨⟨x0, y0, x1, y1⟩, hp⟩ : ∃ p, a[m]? = some p := ⟨_, List.getElem?_eq_getElem hlt⟩
      obtain ⟨bk, off, rfl, hbk, k⟩ := HA.out (by intro e; rw [e] at hlt; simp at hlt)
      have dW : ∀ W, Below w.heap.size w W → W.cell? ⟨bk, off + m * 4 + 1, none⟩ = some (.int .i64 y0) ∧ W.cell? ⟨bk, off + m * 4 + 3, none⟩ = some (.int .i64 y1) := fun W hW =>
        ⟨(hW.cell (p := ⟨bk, _, none⟩) (by show bk < _; omega)).trans (k m _ hp 1 _ rfl), (hW.cell (p := ⟨bk, _, none⟩) (by show bk < _; omega)).trans (k m _ hp 3 _ rfl)⟩
      obtain ⟨d0, d2⟩ := dW wr HB.out
      have DW := hide dW
      have mz : (m : Int) < (a.length : Int) := by omega
      have HT : Hid (cutsY (a.take (m + 1)) = cutsY (a.take m) ++ [y0, y1]) := hide (by rw [cutsY_take a m _ hp])
      have hlen : (cutsY (a.take m)).length ≤ 400000000 := by rw [cutsY_len, List.length_take]; omega
      have hsz := HB.out.size
      have hbw : bk < wr.heap.size := by omega
      clear k hp dW
      generalize cutsY (a.take m) = E0 at *
      go_wp2
      refine wp_region_reads 11 (fun w' => w'.cell? ⟨bk, off + m * 4 + 1, none⟩ = some (.int .i64 y0) ∧ w'.cell? ⟨bk, off + m * 4 + 3, none⟩ = some (.int .i64 y1)) (by kernel_rfl) (by kernel_rfl) ⟨d0, d2⟩ ?_
      simp only [List.take_succ_cons, List.take_zero, List.drop_succ_cons, List.drop_zero]
      iterate 11
        refine ⟨?_, Or.inl ⟨by rfl, ?_⟩, ?_⟩
        rotate_left 1
        · intro w' hSw
          obtain ⟨z1, z2⟩ := hSw
          go_simp
          first | done | with_reducible rfl
        simp only [Act.put, List.setIfInBounds_toArray, List.set_cons_zero, List.set_cons_succ]
      simp only [wpReads]
      intro K hK
      go_simp
      refine hK _ _ (fun _ => ⟨by go_keep, by go_keep⟩) ?_
      clear hK K
      intro K hK
      refine step_append_lies _ rfl (.tmp 14) (.tmp 25) 156 rfl w.heap.size 3 i1 (.int .i64 0) 1 8 Tryz.underlying156 gi gz0 gz1 gz2 rfl (by decide) _ _ _ rfl (own_drew (World.ownsRow.alloc (w := wr) HO.out _)) ⟨wr.heap.size, 0, none⟩ 2 2 [.int .i64 y0, .int .i64 y1] rfl rfl (news_drew wr _ _ _ rfl) (ints_one rfl) (by omega) (by unfold maxLen; omega) (by omega) (by simp; omega) _ rfl ?_
      intro g9 cap9 w9 hown9 hgrow9 _ _
      have hb9 : Below w.heap.size w w9 := ((HB.out.alloc hsz _).drew).grown hgrow9 (by simp; omega) (fun q hq => (HO.out.lt q hq).1)
      have hx9 : E0.map iv ++ [.int .i64 y0, .int .i64 y1] = (E0 ++ [y0, y1]).map iv := by simp
      rw [hx9, ← HT.out] at hown9
      have HL9 : Hid (E0.length + 2 = (cutsY (a.take (m + 1))).length) := hide (by rw [HT.out]; simp)
      have HO9 := hide hown9
      have HB9 := hide hb9
      clear hown9 hgrow9 hx9 hb9
      refine hK _ _ (fun _ => DW.out _ HB9.out) ?_
      clear hK K
      intro K hK
      simp only [Act.put, List.setIfInBounds_toArray, List.set_cons_zero, List.set_cons_succ] at hK ⊢
      go_simp
      refine hK _ _ (fun h => absurd rfl h) ?_
      clear hK K
      refine NoPanic.normal ?_
      go_wp2
      go_roundw
      case rel => exact ⟨m + 1, by omega, by go_num, _, cap9, by rw [HL9.out], hide (by rw [← HL9.out]; exact own_n HO9.out rfl), HB9⟩
      case measure => simp [intOf]; omega
    · have mz : ¬ (m : Int) < (a.length : Int) := by omega
      have ht : a.take m = a := List.take_of_length_le (by omega)
      rw [ht] at HO ⊢
      clear ht
      go_wp2
      go_loopw [5, 7] (fun v i wr => ∃ m : Nat, m ≤ b.length ∧ i = .int .i64 m ∧ ∃ Av cv, v = .slice Av (cutsY a ++ cutsY (b.take m)).length cv ∧ Hid (wr.ownsRow w.heap.size 3 1 v (cutsY a ++ cutsY (b.take m)).length ((cutsY a ++ cutsY (b.take m)).map iv)) ∧ Hid (Below w.heap.size w wr)) (fun _ i _ => b.length - (intOf i).toNat)
      case atStart => exact ⟨0, Nat.zero_le _, rfl, Av, cv, by simp [cutsY], hide (by simpa [cutsY] using HO.out), HB⟩
      case round =>
        clear HO HB
        obtain ⟨m, hm, rfl, Av, cv, rfl, HO, HB⟩ := hrel
        by_cases hlt : m < b.length
        · obtain ⟨⟨x0, y0, x1, y1⟩, hp⟩ : ∃ p, b[m]? = some p := ⟨_, List.getElem?_eq_getElem hlt⟩
          obtain ⟨bk, off, rfl, hbk, k⟩ := HB0.out (by intro e; rw [e] at hlt; simp at hlt)
          have dW : ∀ W, Below w.heap.size w W → W.cell? ⟨bk, off + m * 4 + 1, none⟩ = some (.int .i64 y0) ∧ W.cell? ⟨bk, off + m * 4 + 3, none⟩ = some (.int .i64 y1) := fun W hW =>
            ⟨(hW.cell (p := ⟨bk, _, none⟩) (by show bk < _; omega)).trans (k m _ hp 1 _ rfl), (hW.cell (p := ⟨bk, _, none⟩) (by show bk < _; omega)).trans (k m _ hp 3 _ rfl)⟩
          obtain ⟨d0, d2⟩ := dW wr HB.out
          have DW := hide dW
          have mz : (m : Int) < (b.length : Int) := by omega
          have HT : Hid (cutsY a ++ cutsY (b.take (m + 1)) = cutsY a ++ cutsY (b.take m) ++ [y0, y1]) := hide (by rw [cutsY_take b m _ hp, List.append_assoc])
          have hlen : (cutsY a ++ cutsY (b.take m)).length ≤ 400000000 := by rw [List.length_append, cutsY_len, cutsY_len, List.length_take]; omega
          have hsz := HB.out.size
          have hbw : bk < wr.heap.size := by omega
          clear k hp dW
          generalize cutsY a ++ cutsY (b.take m) = E0 at *
          go_wp2
          refine wp_region_reads 11 (fun w' => w'.cell? ⟨bk, off + m * 4 + 1, none⟩ = some (.int .i64 y0) ∧ w'.cell? ⟨bk, off + m * 4 + 3, none⟩ = some (.int .i64 y1)) (by kernel_rfl) (by kernel_rfl) ⟨d0, d2⟩ ?_
          simp only [List.take_succ_cons, List.take_zero, List.drop_succ_cons, List.drop_zero]
          iterate 11
            refine ⟨?_, Or.inl ⟨by rfl, ?_⟩, ?_⟩
            rotate_left 1
            · intro w' hSw
              obtain ⟨z1, z2⟩ := hSw
              go_simp
              first | done | with_reducible rfl
            simp only [Act.put, List.setIfInBounds_toArray, List.set_cons_zero, List.set_cons_succ]
          simp only [wpReads]
          intro K hK
          go_simp
          refine hK _ _ (fun _ => ⟨by go_keep, by go_keep⟩) ?_
          clear hK K
          intro K hK
          refine step_append_lies _ rfl (.tmp 33) (.tmp 44) 156 rfl w.heap.size 3 i1 (.int .i64 0) 1 8 Tryz.underlying156 gi gz0 gz1 gz2 rfl (by decide) _ _ _ rfl (own_drew (World.ownsRow.alloc (w := wr) HO.out _)) ⟨wr.heap.size, 0, none⟩ 2 2 [.int .i64 y0, .int .i64 y1] rfl rfl (news_drew wr _ _ _ rfl) (ints_one rfl) (by omega) (by unfold maxLen; omega) (by omega) (by simp; omega) _ rfl ?_
          intro g9 cap9 w9 hown9 hgrow9 _ _
          have hb9 : Below w.heap.size w w9 := ((HB.out.alloc hsz _).drew).grown hgrow9 (by simp; omega) (fun q hq => (HO.out.lt q hq).1)
          have hx9 : E0.map iv ++ [.int .i64 y0, .int .i64 y1] = (E0 ++ [y0, y1]).map iv := by simp
          rw [hx9, ← HT.out] at hown9
          have HL9 : Hid (E0.length + 2 = (cutsY a ++ cutsY (b.take (m + 1))).length) := hide (by rw [HT.out]; simp)
          have HO9 := hide hown9
          have HB9 := hide hb9
          clear hown9 hgrow9 hx9 hb9
          refine hK _ _ (fun _ => DW.out _ HB9.out) ?_
          clear hK K
          intro K hK
          simp only [Act.put, List.setIfInBounds_toArray, List.set_cons_zero, List.set_cons_succ] at hK ⊢
          go_simp
          refine hK _ _ (fun h => absurd rfl h) ?_
          clear hK K
          refine NoPanic.normal ?_
          go_wp2
          go_roundw
          case rel => exact ⟨m + 1, by omega, by go_num, _, cap9, by rw [HL9.out], hide (by rw [← HL9.out]; exact own_n HO9.out rfl), HB9⟩
          case measure => simp [intOf]; omega
        · have mz : ¬ (m : Int) < (b.length : Int) := by omega
          have ht : b.take m = b := List.take_of_length_le (by omega)
          rw [ht] at HO ⊢
          clear ht
          have hsz := HB.out.size
          have hln : (cutsY a ++ cutsY b).length ≤ 100000000 := by rw [List.length_append, cutsY_len, cutsY_len]; omega
          obtain ⟨E, hE⟩ : ∃ E, cutsY a ++ cutsY b = E := ⟨_, rfl⟩
          rw [hE] at hln HO ⊢
          have HE := hide hE
          clear hE
          have hso := rSorted_any (own_rdI HO.out) (Nat.le_refl _) (by omega)
          have HSO := hide hso
          clear hso
          go_wp2_with (go_at_call 169; refine HSO.out.mono ?_; rintro e w3 ⟨vo, rfl, ho3, hb3⟩; have HO3 := hide ho3; have HB3 := hide hb3; clear ho3 hb3)
          go_ret
          exact ⟨vo, rfl, by rw [HE.out]; exact own_base HO3.out hsz, HB.out.trans (HB3.out.mono hsz)⟩
end Go.Proofs.YtdolpeljengpaaaGreat

/- The reference's Canon. -/
namespace Go.Proofs.YtdolpeljengpaaaGreat
open Go.RowKit
set_option linter.unusedVariables false
set_option linter.unusedSimpArgs false

def encBo (x : Bool) : List Value := [.bool x]
theorem flat_encBo (l : List Bool) : l.flatMap encBo = l.map Value.bool := by
  induction l with
  | nil => rfl
  | cons a l ih => simp [List.flatMap_cons, encBo, ih]
/-- The canonical list behind m cuts. -/
def canP (cs : List Int) (bs : List Bool) (m : Nat) : List Sp := (((prs cs).zip bs).take m).foldl (fun out x => if x.2 then sext out x.1.1 x.1.2 else out) []
theorem canP_zero (cs : List Int) (bs : List Bool) : canP cs bs 0 = [] := rfl
theorem canP_step {cs : List Int} {bs : List Bool} {m : Nat} {c d : Int} {p : Bool} (hc : cs[m]? = some c) (hd : cs[m + 1]? = some d) (hp : bs[m]? = some p) : canP cs bs (m + 1) = if p then sext (canP cs bs m) c d else canP cs bs m := by
  have h := prs_get cs m c d hc hd
  have hz : ((prs cs).zip bs)[m]? = some ((c, d), p) := by rw [List.getElem?_zip_eq_some]; exact ⟨h, hp⟩
  obtain ⟨i1, e1⟩ := List.getElem?_eq_some_iff.1 hz
  unfold canP
  rw [List.take_succ_eq_append_getElem i1, List.foldl_append, e1]
  rfl
theorem canP_all {cs : List Int} {bs : List Bool} {m : Nat} (hm : cs.length ≤ m + 1) : canP cs bs m = canF cs bs := by
  unfold canP canF
  rw [List.take_of_length_le]
  have := prs_len cs
  simp; omega
theorem canP_len (cs : List Int) (bs : List Bool) (m : Nat) : (canP cs bs m).length ≤ cs.length := by
  have h1 := canF_len_from (((prs cs).zip bs).take m) []
  have h2 := prs_len cs
  have h3 : (((prs cs).zip bs).take m).length ≤ (prs cs).length := by simp; omega
  unfold canP
  simp at h1 h3 ⊢
  omega

set_option maxRecDepth 100000 in
set_option maxHeartbeats 4000000 in
theorem rCanon_any {w : World} {vc vb : Value} {cs : List Int} {bs : List Bool} {B : Nat} (hc : RdK encI 1 w B vc cs) (hb : RdK encBo 1 w B vb bs) (hB : B ≤ w.heap.size) (hl : cs.length ≤ 100000000) (hlen : bs.length = cs.length) :
    Calls Tryz.prog 124 #[vc, vb] w fun e w' => ∃ vo, e = .returned vo ∧ w'.ownsRow w.heap.size 188 2 vo (canF cs bs).length ((canF cs bs).flatMap encS) ∧ Below w.heap.size w w' := by
  obtain ⟨i1, gi, gz0, gz1, gz2⟩ := info_parts infoSp
  obtain ⟨A, c0, rfl, hca⟩ := hc
  obtain ⟨A2, c2, rfl, hcb⟩ := hb
  have HA := hide hca
  have HB0 := hide hcb
  have HLN := hide hlen
  clear hca hcb
  have hbl : bs.length ≤ 100000000 := by omega
  clear hlen
  go_enter Tryz.func124, Tryz.ntmps124
  go_wp2
  go_loopw [5, 6, 7] (fun v i _ wr => ∃ m : Nat, (m = 0 ∨ m < cs.length) ∧ i = .int .i64 m ∧ ∃ Av n cv, v = .slice Av n cv ∧ Hid (wr.ownsRow w.heap.size 188 2 v n ((canP cs bs m).flatMap encS)) ∧ Hid (Below w.heap.size w wr)) (fun _ i _ _ => cs.length - (intOf i).toNat)
  case atStart => exact ⟨0, .inl rfl, rfl, none, 0, 0, rfl, hide (World.ownsRow_nil _ _ _ _), hide (Below.refl _ _)⟩
  case round =>
    obtain ⟨m, hm, rfl, Av, n, cv, rfl, HO, HB⟩ := hrel
    by_cases hlt : m + 1 < cs.length
    · obtain ⟨c, hc⟩ : ∃ c, cs[m]? = some c := ⟨_, List.getElem?_eq_getElem (by omega)⟩
      obtain ⟨d, hd⟩ : ∃ d, cs[m + 1]? = some d := ⟨_, List.getElem?_eq_getElem hlt⟩
      have hbm : m < bs.length := by rw [HLN.out]; omega
      obtain ⟨p, hp⟩ : ∃ p, bs[m]? = some p := ⟨_, List.getElem?_eq_getElem hbm⟩
      obtain ⟨bk, off, rfl, hbk, kc⟩ := HA.out (by intro e; rw [e] at hlt; simp at hlt)
      obtain ⟨b2, off2, rfl, hb2, kb⟩ := HB0.out (by intro e; rw [e] at hbm; simp at hbm)
      have dW : ∀ W, Below w.heap.size w W → W.cell? ⟨bk, off + m, none⟩ = some (.int .i64 c) ∧ W.cell? ⟨bk, off + (m + 1), none⟩ = some (.int .i64 d) := fun W hW =>
        ⟨(hW.cell (p := ⟨bk, _, none⟩) (by show bk < _; omega)).trans (by have := kc m _ hc 0 _ rfl; rwa [Nat.mul_one] at this), (hW.cell (p := ⟨bk, _, none⟩) (by show bk < _; omega)).trans (by have := kc (m + 1) _ hd 0 _ rfl; rwa [Nat.mul_one] at this)⟩
      have eW : wr.cell? ⟨b2, off2 + m, none⟩ = some (.bool p) := (HB.out.cell (p := ⟨b2, _, none⟩) (by show b2 < _; omega)).trans (by have := kb m _ hp 0 _ rfl; rwa [Nat.mul_one] at this)
      have DW := hide dW
      have mz : (m : Int) + 1 < (cs.length : Int) := by omega
      have mz2 : (m : Int) < (bs.length : Int) := by omega
      have mz3 : (m : Int) < (cs.length : Int) := by omega
      have hT := canP_step hc hd hp
      have hSl := canP_len cs bs m
      have HN := hide (own_len (k := 2) HO.out (fun _ => rfl) (by omega))
      have hn : n ≤ 100000000 := by have := HN.out; omega
      obtain ⟨d0, d1⟩ := dW wr HB.out
      clear kc kb dW hc hd hp
      generalize canP cs bs m = S at *
      cases p with
      | false =>
        have HT : Hid (canP cs bs (m + 1) = S) := hide hT
        clear hT
        go_wp2
        go_roundw
        case rel => exact ⟨m + 1, by omega, by go_num, Av, n, cv, rfl, hide (by rw [HT.out]; exact HO.out), HB⟩
        case measure => simp [intOf]; omega
      | true =>
        have HT : Hid (canP cs bs (m + 1) = sext S c d) := hide hT
        clear hT
        rcases List.eq_nil_or_concat S with hS | ⟨q, ⟨x, y⟩, hS⟩
        · have hn0 : n = 0 := by rw [HN.out, hS]; rfl
          have HE : Hid (sext S c d = S ++ [(c, d)]) := hide (by rw [hS]; rfl)
          clear hS HN hn
          subst hn0
          go_wp2
          go_quiet (fail)
          refine name_exit fun wd hwd => ?_
          have hbd : Below w.heap.size w wd := by rw [hwd]; exact below_drewN HB.out _
          have hod : wd.ownsRow w.heap.size 188 2 (.slice Av 0 cv) (0) (S.flatMap encS) := by rw [hwd]; exact HO.out
          obtain ⟨k1, k2⟩ := DW.out wd hbd
          have HBD := hide hbd
          have HOD := hide hod
          have hsz := hbd.size
          have hbkd : bk < wd.heap.size := by omega
          clear hwd hod hbd
          go_wp2
          have r1 : IntKind.i64.wrap ((m : Int) + 1) = (m : Int) + 1 := by simp [IntKind.wrap, IntKind.bits, IntKind.signed]; omega
          have r2 : (0 : Int) ≤ (m : Int) + 1 := by omega
          have r3 : (m : Int) + 1 < (cs.length : Int) := by omega
          have r4 : ((m : Int) + 1).toNat = m + 1 := by omega
          have r5 : (m : Int) < (cs.length : Int) := by omega
          have r6 : (0 : Int) ≤ (m : Int) := by omega
          refine wp_region_reads 11 (fun w' => w'.cell? ⟨bk, off + m, none⟩ = some (.int .i64 c) ∧ w'.cell? ⟨bk, off + (m + 1), none⟩ = some (.int .i64 d)) (by kernel_rfl) (by kernel_rfl) ⟨k1, k2⟩ ?_
          simp only [List.take_succ_cons, List.take_zero, List.drop_succ_cons, List.drop_zero]
          iterate 11
            refine ⟨?_, Or.inl ⟨by rfl, ?_⟩, ?_⟩
            rotate_left 1
            · intro w' hSw
              obtain ⟨z1, z2⟩ := hSw
              go_simp
              first | done | with_reducible rfl
            simp only [Act.put, List.setIfInBounds_toArray, List.set_cons_zero, List.set_cons_succ]
          clear r1 r2 r3 r4 r5 r6
          simp only [wpReads]
          intro K hK
          go_simp
          refine hK _ _ (fun _ => ⟨by go_keep, by go_keep⟩) ?_
          clear hK K
          intro K hK
          refine step_append_lies _ rfl (.tmp 47) (.tmp 58) 182 rfl w.heap.size 188 i1 (.agg #[.int .i64 0, .int .i64 0]) 2 16 Tryz.underlying182 gi gz0 gz1 gz2 rfl (by decide) _ _ _ rfl (own_drew (World.ownsRow.alloc (w := wd) HOD.out _)) ⟨wd.heap.size, 0, none⟩ 1 1 [.int .i64 c, .int .i64 d] rfl rfl (news_drew wd _ _ _ rfl) (ints_one rfl) (by omega) (by unfold maxLen; omega) (by omega) (by simp; omega) _ rfl ?_
          intro g9 cap9 w9 hown9 hgrow9 _ _
          have hb9 : Below w.heap.size w w9 := ((HBD.out.alloc hsz _).drew).grown hgrow9 (by simp; omega) (fun q hq => (HOD.out.lt q hq).1)
          have hx9 : S.flatMap encS ++ [.int .i64 c, .int .i64 d] = (S ++ [(c, d)]).flatMap encS := by simp [encS]
          rw [hx9, ← HE.out] at hown9
          have HO9 := hide hown9
          have HB9 := hide hb9
          clear hown9 hgrow9 hx9 hb9
          refine hK _ _ (fun _ => DW.out _ HB9.out) ?_
          clear hK K
          intro K hK
          simp only [Act.put, List.setIfInBounds_toArray, List.set_cons_zero, List.set_cons_succ] at hK ⊢
          go_simp
          refine hK _ _ (fun h => absurd rfl h) ?_
          clear hK K
          refine NoPanic.normal ?_
          go_wp2
          go_roundw
          case rel => exact ⟨m + 1, by omega, by go_num, _, _, cap9, rfl, hide (by rw [HT.out]; exact HO9.out), HB9⟩
          case measure => simp [intOf]; omega
        · rw [List.concat_eq_append] at hS
          obtain ⟨j, hj⟩ : ∃ j, q.length = j := ⟨_, rfl⟩
          have hn1 : n = j + 1 := by rw [HN.out, hS, List.length_append, hj]; rfl
          clear HN
          subst hn1
          obtain ⟨g, cap, hv, hBg, hgw⟩ := HO.out.form (by omega)
          injection hv with e1 _ e3
          subst e1; subst e3
          have cy : wr.cell? ⟨g, j * 2 + 1, none⟩ = some (.int .i64 y) := by
            have := (HO.out.cells (g := g) rfl) _ _ (flat_get (k := 2) (fun _ => rfl) S j (x, y) 1 _ (by rw [hS, List.getElem?_append_right (by omega), hj]; simp) rfl)
            rwa [addr_add] at this
          have q1 : (0 : Int) < (j : Int) + 1 := by omega
          have q2 : (j : Int) < (j : Int) + 1 := by omega
          have q3 : IntKind.i64.wrap ((j : Int) + 1 - 1) = j := by simp [IntKind.wrap, IntKind.bits, IntKind.signed]; omega
          have q4 : (0 : Int) ≤ (j : Int) := by omega
          have HJ := hide hj
          have HS := hide hS
          clear hj hS
          by_cases hyc : y = c
          · subst hyc
            have hee : (y == y) = true := by simp
            have HE : Hid (sext S y d = q ++ [(x, d)]) := hide (by rw [HS.out]; unfold sext; simp)
            go_wp2
            go_quiet (fail)
            refine name_exit fun wd hwd => ?_
            have hbd : Below w.heap.size w wd := by rw [hwd]; exact below_drewN HB.out _
            have hod : wd.ownsRow w.heap.size 188 2 (.slice (some ⟨g, 0, none⟩) (j + 1) cv) (j + 1) (S.flatMap encS) := by rw [hwd]; exact HO.out
            have cy2 : wd.cell? ⟨g, j * 2 + 1, none⟩ = some (.int .i64 y) := by rw [hwd]; exact cy
            have f2 : wd.frozen? ⟨g, j * 2 + 1, none⟩ = false := hod.frozenAt _
            have hst := hod.stored (j * 2 + 1) (.int .i64 d)
            have hset := set_last q x y d
            rw [HJ.out, ← HS.out] at hset
            rw [hset] at hst
            obtain ⟨k1, k2⟩ := DW.out wd hbd
            have HST := hide hst
            have HBD := hide hbd
            clear hwd hod hbd hst hset cy
            go_wp2
            go_roundw
            case rel => exact ⟨m + 1, by omega, by go_num, _, _, cv, rfl, hide (by rw [HT.out, HE.out]; exact HST.out.1), hide (HBD.out.setCell hBg _)⟩
            case measure => simp [intOf]; omega
          · have hee : (y == c) = false := by simpa using hyc
            have HE : Hid (sext S c d = S ++ [(c, d)]) := hide (by rw [HS.out]; unfold sext; simp [hyc])
            clear hyc
            go_wp2
            go_quiet (fail)
            refine name_exit fun wd hwd => ?_
            have hbd : Below w.heap.size w wd := by rw [hwd]; exact below_drewN HB.out _
            have hod : wd.ownsRow w.heap.size 188 2 (.slice (some ⟨g, 0, none⟩) (j + 1) cv) (j + 1) (S.flatMap encS) := by rw [hwd]; exact HO.out
            obtain ⟨k1, k2⟩ := DW.out wd hbd
            have HBD := hide hbd
            have HOD := hide hod
            have hsz := hbd.size
            have hbkd : bk < wd.heap.size := by omega
            clear hwd hod hbd
            go_wp2
            have r1 : IntKind.i64.wrap ((m : Int) + 1) = (m : Int) + 1 := by simp [IntKind.wrap, IntKind.bits, IntKind.signed]; omega
            have r2 : (0 : Int) ≤ (m : Int) + 1 := by omega
            have r3 : (m : Int) + 1 < (cs.length : Int) := by omega
            have r4 : ((m : Int) + 1).toNat = m + 1 := by omega
            have r5 : (m : Int) < (cs.length : Int) := by omega
            have r6 : (0 : Int) ≤ (m : Int) := by omega
            refine wp_region_reads 11 (fun w' => w'.cell? ⟨bk, off + m, none⟩ = some (.int .i64 c) ∧ w'.cell? ⟨bk, off + (m + 1), none⟩ = some (.int .i64 d)) (by kernel_rfl) (by kernel_rfl) ⟨k1, k2⟩ ?_
            simp only [List.take_succ_cons, List.take_zero, List.drop_succ_cons, List.drop_zero]
            iterate 11
              refine ⟨?_, Or.inl ⟨by rfl, ?_⟩, ?_⟩
              rotate_left 1
              · intro w' hSw
                obtain ⟨z1, z2⟩ := hSw
                go_simp
                first | done | with_reducible rfl
              simp only [Act.put, List.setIfInBounds_toArray, List.set_cons_zero, List.set_cons_succ]
            clear r1 r2 r3 r4 r5 r6
            simp only [wpReads]
            intro K hK
            go_simp
            refine hK _ _ (fun _ => ⟨by go_keep, by go_keep⟩) ?_
            clear hK K
            intro K hK
            refine step_append_lies _ rfl (.tmp 47) (.tmp 58) 182 rfl w.heap.size 188 i1 (.agg #[.int .i64 0, .int .i64 0]) 2 16 Tryz.underlying182 gi gz0 gz1 gz2 rfl (by decide) _ _ _ rfl (own_drew (World.ownsRow.alloc (w := wd) HOD.out _)) ⟨wd.heap.size, 0, none⟩ 1 1 [.int .i64 c, .int .i64 d] rfl rfl (news_drew wd _ _ _ rfl) (ints_one rfl) (by omega) (by unfold maxLen; omega) (by omega) (by simp; omega) _ rfl ?_
            intro g9 cap9 w9 hown9 hgrow9 _ _
            have hb9 : Below w.heap.size w w9 := ((HBD.out.alloc hsz _).drew).grown hgrow9 (by simp; omega) (fun q hq => (HOD.out.lt q hq).1)
            have hx9 : S.flatMap encS ++ [.int .i64 c, .int .i64 d] = (S ++ [(c, d)]).flatMap encS := by simp [encS]
            rw [hx9, ← HE.out] at hown9
            have HO9 := hide hown9
            have HB9 := hide hb9
            clear hown9 hgrow9 hx9 hb9
            refine hK _ _ (fun _ => DW.out _ HB9.out) ?_
            clear hK K
            intro K hK
            simp only [Act.put, List.setIfInBounds_toArray, List.set_cons_zero, List.set_cons_succ] at hK ⊢
            go_simp
            refine hK _ _ (fun h => absurd rfl h) ?_
            clear hK K
            refine NoPanic.normal ?_
            go_wp2
            go_roundw
            case rel => exact ⟨m + 1, by omega, by go_num, _, _, cap9, rfl, hide (by rw [HT.out]; exact HO9.out), HB9⟩
            case measure => simp [intOf]; omega
    · have mz : ¬ (m : Int) + 1 < (cs.length : Int) := by omega
      have ht := canP_all (cs := cs) (bs := bs) (m := m) (by omega)
      rw [ht] at HO
      have HN := hide (own_len (k := 2) HO.out (fun _ => rfl) (by omega))
      have hml : (m : Int) + 1 ≤ 200000000 := by omega
      clear ht
      go_wp2
      go_ret
      exact ⟨_, rfl, own_n HO.out HN.out, HB.out⟩
end Go.Proofs.YtdolpeljengpaaaGreat

/- The reference's small functions: In, Valid, Has, Holds, Great. -/
namespace Go.Proofs.YtdolpeljengpaaaGreat
open Go.RowKit
set_option linter.unusedVariables false
set_option linter.unusedSimpArgs false

instance (x : Int) : Decidable (fineP x) := by unfold fineP; infer_instance
set_option maxHeartbeats 1000000 in
theorem rIn_any (x : Int) (w : World) : Calls Tryz.prog 146 #[.int .i64 x] w fun e w' => e = .returned (.bool (decide (fineP x))) ∧ w = w' := by
  go_enter Tryz.func146, Tryz.ntmps146
  go_wp2
  all_goals
    go_ret
    refine ⟨ret_eq (bool_eq ?_), rfl⟩
    first
      | exact (decide_eq_false (by simp only [fineP]; omega)).symm
      | exact (decide_eq_true (by simp only [fineP]; omega)).symm
      | exact decide_eq_decide.2 (by simp only [fineP]; omega)

set_option maxHeartbeats 2000000 in
theorem rValid_any (r : R4) (w : World) :
    Calls Tryz.prog 95 #[.agg (encR r).toArray] w fun e w' => e = .returned (.bool (decide (valid4 r))) ∧ Below w.heap.size w w' := by
  obtain ⟨a, b, c, d⟩ := r
  show Calls Tryz.prog 95 #[.agg #[.int .i64 a, .int .i64 b, .int .i64 c, .int .i64 d]] w _
  have h1 : decide (valid4 ⟨a, b, c, d⟩) = (decide (a < c) && decide (b < d) && decide (fineP a) && decide (fineP c) && decide (fineP b) && decide (fineP d)) := by
    rw [Bool.eq_iff_iff, decide_eq_true_iff]; simp [valid4, and_assoc]
  rw [h1]
  have ha := fun W => rIn_any a W
  have hb := fun W => rIn_any b W
  have hc := fun W => rIn_any c W
  have hd := fun W => rIn_any d W
  generalize decide (fineP a) = fa at *
  generalize decide (fineP b) = fb at *
  generalize decide (fineP c) = fc at *
  generalize decide (fineP d) = fd at *
  have HA := hide ha
  have HB := hide hb
  have HC := hide hc
  have HD := hide hd
  clear ha hb hc hd h1
  have fin : Below w.heap.size w (w.alloc (.cells #[.int .i64 a, .int .i64 b, .int .i64 c, .int .i64 d] 69)) := (Below.refl _ _).alloc (Nat.le_refl _) _
  have FIN := hide fin
  clear fin
  by_cases t1 : a < c
  · by_cases t2 : b < d
    · cases fa with
      | false =>
        go_enter Tryz.func95, Tryz.ntmps95
        go_wp2_with (go_at_call 146; refine (HA.out _).mono ?_; rintro e w1 ⟨rfl, rfl⟩)
        go_ret
        exact ⟨ret_eq (bool_eq (by simp)), FIN.out⟩
      | true =>
        cases fc with
        | false =>
          go_enter Tryz.func95, Tryz.ntmps95
          go_wp2_with (fail)
          refine (HA.out _).mono ?_
          rintro e w1 ⟨rfl, rfl⟩
          go_wp2_with (fail)
          refine (HC.out _).mono ?_
          rintro e w1 ⟨rfl, rfl⟩
          go_wp2_with (fail)
          go_ret
          exact ⟨ret_eq (bool_eq (by simp)), FIN.out⟩
        | true =>
          cases fb with
          | false =>
            go_enter Tryz.func95, Tryz.ntmps95
            go_wp2_with (fail)
            refine (HA.out _).mono ?_
            rintro e w1 ⟨rfl, rfl⟩
            go_wp2_with (fail)
            refine (HC.out _).mono ?_
            rintro e w1 ⟨rfl, rfl⟩
            go_wp2_with (fail)
            refine (HB.out _).mono ?_
            rintro e w1 ⟨rfl, rfl⟩
            go_wp2_with (fail)
            go_ret
            exact ⟨ret_eq (bool_eq (by simp)), FIN.out⟩
          | true =>
            go_enter Tryz.func95, Tryz.ntmps95
            go_wp2_with (fail)
            refine (HA.out _).mono ?_
            rintro e w1 ⟨rfl, rfl⟩
            go_wp2_with (fail)
            refine (HC.out _).mono ?_
            rintro e w1 ⟨rfl, rfl⟩
            go_wp2_with (fail)
            refine (HB.out _).mono ?_
            rintro e w1 ⟨rfl, rfl⟩
            go_wp2_with (fail)
            refine (HD.out _).mono ?_
            rintro e w1 ⟨rfl, rfl⟩
            go_wp2_with (fail)
            go_ret
            exact ⟨ret_eq (bool_eq (by simp [t1, t2])), FIN.out⟩
    · go_enter Tryz.func95, Tryz.ntmps95
      have t2' : decide (b < d) = false := decide_eq_false t2
      go_wp2
      go_ret
      exact ⟨ret_eq (bool_eq (by simp [t2])), FIN.out⟩
  · go_enter Tryz.func95, Tryz.ntmps95
    have t1' : decide (a < c) = false := decide_eq_false t1
    go_wp2
    go_ret
    exact ⟨ret_eq (bool_eq (by simp [t1])), FIN.out⟩

set_option maxHeartbeats 2000000 in
theorem rHas_any {w : World} {v : Value} {l : List R4} {B : Nat} (hr : RdK encR 4 w B v l) (hl : l.length ≤ 100000000) (x y : Int) :
    Calls Tryz.prog 123 #[v, .int .i64 x, .int .i64 y] w fun e w' => e = .returned (.bool (decide (pmem l x y))) ∧ w = w' := by
  obtain ⟨A, c, rfl, hc⟩ := hr
  have HR := hide hc
  clear hc
  go_enter Tryz.func123, Tryz.ntmps123
  go_wp2
  go_loop [7] (fun i => ∃ m : Nat, m ≤ l.length ∧ i = .int .i64 m ∧ Hid (∀ r ∈ l.take m, ¬ rin r x y)) (fun i => l.length - (intOf i).toNat)
  case atStart => exact ⟨0, Nat.zero_le _, rfl, hide (by simp)⟩
  case round =>
    obtain ⟨m, hm, rfl, HN⟩ := hrel
    by_cases hlt : m < l.length
    · obtain ⟨⟨x0, y0, x1, y1⟩, hp⟩ : ∃ p, l[m]? = some p := ⟨_, List.getElem?_eq_getElem hlt⟩
      obtain ⟨b, o, rfl, hbl, k⟩ := HR.out (by intro e; rw [e] at hlt; simp at hlt)
      have d0 : w.cell? ⟨b, o + m * 4, none⟩ = some (.int .i64 x0) := k m _ hp 0 _ rfl
      have d1 : w.cell? ⟨b, o + m * 4 + 1, none⟩ = some (.int .i64 y0) := k m _ hp 1 _ rfl
      have d2 : w.cell? ⟨b, o + m * 4 + 2, none⟩ = some (.int .i64 x1) := k m _ hp 2 _ rfl
      have d3 : w.cell? ⟨b, o + m * 4 + 3, none⟩ = some (.int .i64 y1) := k m _ hp 3 _ rfl
      have mz : (m : Int) < (l.length : Int) := by omega
      have HP := hide hp
      clear k hp
      go_wp2
      all_goals first
        | (go_ret
           refine ⟨ret_eq (bool_eq (decide_eq_true ?_).symm), rfl⟩
           exact ⟨_, List.mem_of_getElem? HP.out, by assumption, by assumption, by assumption, by assumption⟩)
        | (go_round
           case rel =>
             refine ⟨m + 1, by omega, by go_num, hide ?_⟩
             obtain ⟨i1, e1⟩ := List.getElem?_eq_some_iff.1 HP.out
             intro r hr
             rw [List.take_succ_eq_append_getElem i1, List.mem_append] at hr
             rcases hr with hr | hr
             · exact HN.out r hr
             · rw [List.mem_singleton] at hr
               subst hr
               rw [e1]
               unfold rin
               simp only
               omega
           case measure => simp [intOf]; omega)
    · have mz : ¬ (m : Int) < (l.length : Int) := by omega
      go_wp2
      go_ret
      refine ⟨ret_eq (bool_eq (decide_eq_false ?_).symm), rfl⟩
      rintro ⟨r, hr, h⟩
      have := HN.out
      rw [List.take_of_length_le (by omega)] at this
      exact this r hr h

def hk (k : Int) (a b : Bool) : Bool := if k = 1 then a && b else if k = 2 then a || b else a && !b
set_option maxHeartbeats 1000000 in
theorem rHolds_any (k : Int) (hk0 : k = 1 ∨ k = 2 ∨ k = 3) (a b : Bool) (w : World) : Calls Tryz.prog 122 #[.int .i64 k, .bool a, .bool b] w fun e w' => e = .returned (.bool (hk k a b)) ∧ w = w' := by
  rcases hk0 with rfl | rfl | rfl <;> cases a <;> cases b
  all_goals
    go_enter Tryz.func122, Tryz.ntmps122
    go_wp2
    go_ret
    exact ⟨rfl, rfl⟩

def greatP (n : Nat) : Prop := (60 < n ∧ n ≤ 400) ∨ 420 < n
instance (n : Nat) : Decidable (greatP n) := by unfold greatP; infer_instance
end Go.Proofs.YtdolpeljengpaaaGreat

/- The reference's Same of spans: two lists are one. -/
namespace Go.Proofs.YtdolpeljengpaaaGreat
open Go.RowKit
set_option linter.unusedVariables false
set_option linter.unusedSimpArgs false

set_option maxHeartbeats 4000000 in
theorem rSameS_any {w : World} {vs vt : Value} {s t : List Sp} {B C : Nat} (hs : RdK encS 2 w B vs s) (ht : RdK encS 2 w C vt t) (ns : s.length ≤ 100000000) (hB : B ≤ w.heap.size) (hC : C ≤ w.heap.size) :
    Calls Tryz.prog 125 #[vs, vt] w fun e w' => e = .returned (.bool (decide (s = t))) ∧ Below w.heap.size w w' := by
  obtain ⟨A1, c1, rfl, h1⟩ := hs
  obtain ⟨A2, c2, rfl, h2⟩ := ht
  have g : Tryz.prog.eqGuardType Tryz.prog.depth 188 = false := by kernel_rfl
  have H1 := hide h1
  have H2 := hide h2
  clear h1 h2
  go_enter Tryz.func125, Tryz.ntmps125
  by_cases hl : s.length = t.length
  · have hne : ((s.length : Int) != (t.length : Int)) = false := by rw [hl]; simp
    have HL := hide hl
    clear hl
    go_wp2
    go_loopw [5] (fun i wr => ∃ k : Nat, k ≤ s.length ∧ i = .int .i64 k ∧ Hid (s.take k = t.take k) ∧ Below w.heap.size w wr) (fun i _ => s.length - (intOf i).toNat)
    case atStart => exact ⟨0, Nat.zero_le _, rfl, hide rfl, Below.refl _ _⟩
    case round =>
      obtain ⟨k, hk, rfl, HT, hb⟩ := hrel
      by_cases hlt : k < s.length
      · obtain ⟨⟨a0, a1⟩, hp⟩ : ∃ p, s[k]? = some p := ⟨_, List.getElem?_eq_getElem hlt⟩
        have hlt2 : k < t.length := by rw [← HL.out]; exact hlt
        obtain ⟨⟨b0, b1⟩, hq⟩ : ∃ p, t[k]? = some p := ⟨_, List.getElem?_eq_getElem hlt2⟩
        obtain ⟨p1, o1, rfl, hp1, k1⟩ := H1.out (by intro e; rw [e] at hlt; simp at hlt)
        obtain ⟨p2, o2, rfl, hp2, k2⟩ := H2.out (by intro e; rw [e] at hlt2; simp at hlt2)
        have x0 : wr.cell? ⟨p1, o1 + k * 2, none⟩ = some (.int .i64 a0) := (hb.cell (p := ⟨p1, _, none⟩) (by show p1 < _; omega)).trans (k1 k _ hp 0 _ rfl)
        have y0 : wr.cell? ⟨p2, o2 + k * 2, none⟩ = some (.int .i64 b0) := (hb.cell (p := ⟨p2, _, none⟩) (by show p2 < _; omega)).trans (k2 k _ hq 0 _ rfl)
        have x1 : wr.cell? ⟨p1, o1 + k * 2 + 1, none⟩ = some (.int .i64 a1) := (hb.cell (p := ⟨p1, _, none⟩) (by show p1 < _; omega)).trans (k1 k _ hp 1 _ rfl)
        have y1 : wr.cell? ⟨p2, o2 + k * 2 + 1, none⟩ = some (.int .i64 b1) := (hb.cell (p := ⟨p2, _, none⟩) (by show p2 < _; omega)).trans (k2 k _ hq 1 _ rfl)
        have z1 : (k : Int) < (s.length : Int) := by omega
        have z2 : (k : Int) < (t.length : Int) := by omega
        have HP := hide hp
        have HQ := hide hq
        clear hp hq k1 k2
        by_cases e0 : a0 = b0
        rotate_left 1
        · have hd : decide (s = t) = false := decide_eq_false fun e => by
            subst e
            have := HP.out.symm.trans HQ.out
            simp only [Option.some.injEq, Prod.mk.injEq] at this
            omega
          have HD := hide hd
          clear hd
          go_wp2
          go_region
          go_wp2
          go_ret
          exact ⟨ret_eq (bool_eq HD.out.symm), hb.drew⟩
        by_cases e1 : a1 = b1
        rotate_left 1
        · have hd : decide (s = t) = false := decide_eq_false fun e => by
            subst e
            have := HP.out.symm.trans HQ.out
            simp only [Option.some.injEq, Prod.mk.injEq] at this
            omega
          have HD := hide hd
          clear hd
          subst e0
          go_wp2
          go_region
          go_wp2
          go_ret
          exact ⟨ret_eq (bool_eq HD.out.symm), hb.drew⟩
        subst e0
        subst e1
        go_wp2
        go_region
        go_wp2
        go_roundw
        case rel =>
          refine ⟨k + 1, by omega, by go_num, hide ?_, hb.drew⟩
          obtain ⟨i1, e1⟩ := List.getElem?_eq_some_iff.1 HP.out
          obtain ⟨i2, e2⟩ := List.getElem?_eq_some_iff.1 HQ.out
          rw [List.take_succ_eq_append_getElem i1, List.take_succ_eq_append_getElem i2, HT.out, e1, e2]
        case measure => simp [intOf]; omega
      · have hlz : ¬ (k : Int) < (s.length : Int) := by omega
        have hd : decide (s = t) = true := decide_eq_true (by
          have := HT.out
          rw [List.take_of_length_le (by omega), List.take_of_length_le (by rw [← HL.out]; omega)] at this
          exact this)
        have HD := hide hd
        clear hd
        go_wp2
        go_ret
        exact ⟨ret_eq (bool_eq HD.out.symm), hb⟩
  · have hne : ((s.length : Int) != (t.length : Int)) = true := by simp; omega
    have hd : decide (s = t) = false := decide_eq_false fun e => hl (by rw [e])
    rw [hd]
    clear hl hd
    go_wp2
    go_ret
    exact ⟨rfl, Below.refl _ _⟩
end Go.Proofs.YtdolpeljengpaaaGreat
