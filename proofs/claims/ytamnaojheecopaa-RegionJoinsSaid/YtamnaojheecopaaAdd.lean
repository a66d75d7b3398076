/- builder.add: one more slab. -/
import Derived.Test.YtamnaojheecopaaBuild
import Derived.Test.YtamnaojheecopaaSlabWA
import Derived.RangeFuncOwn
namespace Go.Proofs.Ytamnaojheecopaa
open Go.RowKit
set_option linter.unusedVariables false
set_option linter.unusedSimpArgs false

theorem own_below {w w1 : World} {B : Nat} {e : TypeId} {size : Nat} {v : Value} {n : Nat} {xs : List Value} (h : w.ownsRow B e size v n xs) (hb : Below w.heap.size w w1) : w1.ownsRow B e size v n xs := by
  refine ⟨h.1, ?_⟩
  rcases h.2 with hn | ⟨g, cap, cur, hv, hg, hh, r⟩
  · exact .inl hn
  · exact .inr ⟨g, cap, cur, hv, hg, (hb.block g (Array.getElem?_eq_some_iff.1 hh).1).trans hh, r⟩
theorem own_apart {w : World} {B B' : Nat} {e e' : TypeId} {size size' : Nat} {v v' : Value} {n n' : Nat} {xs xs' : List Value} (h : w.ownsRow B e size v n xs) (h' : w.ownsRow B' e' size' v' n' xs') (hne : e ≠ e') : v.ownBlock = none ∨ v.ownBlock ≠ v'.ownBlock := by
  rcases h.2 with ⟨rfl, _⟩ | ⟨g, cap, cur, rfl, _, hg, _⟩
  · exact .inl rfl
  · right
    intro he
    rcases h'.2 with ⟨rfl, _⟩ | ⟨g', cap', cur', rfl, _, hg', _⟩
    · simp [Value.ownBlock] at he
    · simp [Value.ownBlock] at he
      subst he
      rw [hg] at hg'
      injection hg' with hg'
      injection hg' with _ h2
      exact hne h2
theorem grown_refl (w : World) (row : Option Nat) : w.grownBy w row := ⟨rfl, rfl, rfl, Nat.le_refl _, fun _ _ _ => rfl⟩
theorem infoRc : (Try.prog.info? 43).map (fun i => (i.zero, i.size, i.bytes)) = some (some (.agg #[.int .i64 0, .int .i64 0, .int .i64 0, .int .i64 0]), 4, 32) := by kernel_rfl
/-- 'l[k].X1 = t', cell by cell. -/
theorem flat_set (t : Int) : ∀ (l : List R4) (k : Nat) (r : R4), l[k]? = some r → (l.flatMap encR).set (k * 4 + 2) (.int .i64 t) = (l.set k { r with x1 := t }).flatMap encR
  | [], k, r, h => by simp at h
  | a :: l, 0, r, h => by
    simp at h; subst h
    rfl
  | a :: l, k + 1, r, h => by
    have := flat_set t l k r (by simpa using h)
    rw [List.set_cons_succ, List.flatMap_cons, List.flatMap_cons, ← this, List.set_append_right _ _ (by show 4 ≤ _; omega)]
    congr 2
    show (k + 1) * 4 + 2 - 4 = _
    omega
/-- The rectangles from place m on, up to place k, end at t. -/
def upTo (t : Int) (m k : Nat) (l : List R4) : List R4 := l.mapIdx fun i r => if m ≤ i ∧ i < k then { r with x1 := t } else r
theorem upTo_len (t : Int) (m k : Nat) (l : List R4) : (upTo t m k l).length = l.length := by simp [upTo]
theorem upTo_start (t : Int) (m : Nat) (l : List R4) : upTo t m m l = l := by
  apply List.ext_getElem?
  intro i
  simp only [upTo, List.getElem?_mapIdx]
  cases l[i]? with
  | none => rfl
  | some r => simp; omega
theorem upTo_step (t : Int) (m k : Nat) (l : List R4) (r : R4) (hm : m ≤ k) (h : (upTo t m k l)[k]? = some r) : (upTo t m k l).set k { r with x1 := t } = upTo t m (k + 1) l := by
  apply List.ext_getElem?
  intro i
  rw [List.getElem?_set]
  have hk : k < (upTo t m k l).length := (List.getElem?_eq_some_iff.1 h).1
  by_cases hik : k = i
  · subst hik
    rw [if_pos rfl, if_pos hk]
    simp only [upTo, List.getElem?_mapIdx] at h ⊢
    cases hl : l[k]? with
    | none => rw [hl] at h; simp at h
    | some q =>
      rw [hl] at h
      simp at h
      subst h
      simp [hm]
  · rw [if_neg hik]
    simp only [upTo, List.getElem?_mapIdx]
    cases l[i]? with
    | none => rfl
    | some q =>
      have : (m ≤ i ∧ i < k) ↔ (m ≤ i ∧ i < k + 1) := by omega
      simp only [Option.map_some]
      by_cases hc : m ≤ i ∧ i < k
      · rw [if_pos hc, if_pos (this.1 hc)]
      · rw [if_neg hc, if_neg (fun g => hc (this.2 g))]
theorem upTo_end (S0 : List Slab) (f0 e t : Int) (s : List Sp) : upTo t (flat S0).length (flat (S0 ++ [⟨f0, e, s⟩])).length (flat (S0 ++ [⟨f0, e, s⟩])) = flat (S0 ++ [⟨f0, t, s⟩]) := by
  rw [flat_append, flat_one, flat_append, flat_one]
  apply List.ext_getElem?
  intro i
  simp only [upTo, List.getElem?_mapIdx, List.length_append]
  by_cases hi : i < (flat S0).length
  · rw [List.getElem?_append_left hi, List.getElem?_append_left hi]
    cases (flat S0)[i]? with
    | none => rfl
    | some q => simp; omega
  · rw [List.getElem?_append_right (by omega), List.getElem?_append_right (by omega)]
    simp only [flat1, List.getElem?_map, List.length_map]
    cases hq : s[i - (flat S0).length]? with
    | none => rfl
    | some q =>
      have := (List.getElem?_eq_some_iff.1 hq).1
      simp only [Option.map_some]
      rw [if_pos (by omega)]

/-- In the builder's second loop: the rectangles put out so far are L. -/
structure AddR (bb Bo : Nat) (w0 : World) (L : List R4) (vs : Value) (s : List Sp) (n : Nat) (t : Int) (wr : World) : Prop where
  low : bb < Bo
  size : Bo ≤ wr.heap.size
  out : ∃ vo, wr.cell? ⟨bb, 0, none⟩ = some vo ∧ wr.ownsRow Bo 43 4 vo L.length (L.flatMap encR)
  c1 : wr.cell? ⟨bb, 1, none⟩ = some vs
  c2 : wr.cell? ⟨bb, 2, none⟩ = some (.int .i64 n)
  c3 : wr.cell? ⟨bb, 3, none⟩ = some (.int .i64 t)
  fz : ∀ j, wr.frozen? ⟨bb, j, none⟩ = false
  own : wr.ownsRow Bo 78 2 vs s.length (s.flatMap encS)
  os : wr.os = w0.os
  tape : wr.tape = w0.tape
  output : wr.output = w0.output
  grow : w0.heap.size ≤ wr.heap.size
  block : ∀ q, q < Bo → q ≠ bb → wr.heap[q]? = w0.heap[q]?
  keep : KeepsOthers w0 wr
theorem keeps_below {w w1 : World} (h : Below w.heap.size w w1) : KeepsOthers w w1 := ⟨h.size, fun k o hk _ => (h.block k (Array.getElem?_eq_some_iff.1 hk).1).trans hk⟩
theorem own_cells {w : World} {B : Nat} {e : TypeId} {size : Nat} {v : Value} {n : Nat} {xs : List Value} (h : w.ownsRow B e size v n xs) : ∀ (j : Nat) (o : Obj), v.ownBlock = some j → w.heap[j]? = some o → o.isCells = true := by
  intro j o hj ho
  rcases h.2 with ⟨rfl, _⟩ | ⟨g, cap, cur, rfl, _, hg, _⟩
  · simp [Value.ownBlock] at hj
  · simp [Value.ownBlock] at hj
    subst hj
    rw [hg] at ho
    injection ho with ho
    subst ho; rfl
theorem AddR.start {bb Bo : Nat} {S : List Slab} {last s : List Sp} {first : Nat} {e t : Int} {vs : Value} {w w1 : World} (h : BW bb Bo S last first e w) (hb : Below w.heap.size w w1) (hs : w.ownsRow Bo 78 2 vs s.length (s.flatMap encS)) :
    AddR bb Bo w (flat S) vs s (flat S).length t (((w1.setCell ⟨bb, 2, none⟩ (.int .i64 ((flat S).length : Nat))).setCell ⟨bb, 1, none⟩ vs).setCell ⟨bb, 3, none⟩ (.int .i64 t)) := by
  have hlow := h.low
  have hbs : bb < w.heap.size := Nat.lt_of_lt_of_le h.low h.size
  obtain ⟨vo, o1, o2⟩ := h.out
  obtain ⟨vl, l1, l2⟩ := h.la
  have hc : ∀ o, w1.cell? ⟨bb, o, none⟩ = w.cell? ⟨bb, o, none⟩ := fun o => hb.cell (p := ⟨bb, o, none⟩) hbs
  have hf : ∀ o, w1.frozen? ⟨bb, o, none⟩ = w.frozen? ⟨bb, o, none⟩ := fun o => hb.frozen (p := ⟨bb, o, none⟩) hbs
  have c2 := h.fi
  have c3 := h.en
  refine ⟨hlow, ?_, ⟨vo, by simp [go_sem, hc, o1], ownsRow_setCell_below (ownsRow_setCell_below (ownsRow_setCell_below (own_below o2 hb) hlow _) hlow _) hlow _⟩, by simp [go_sem, hc, l1], by simp [go_sem, hc, c2], by simp [go_sem, hc, c3], fun j => ?_,
    ownsRow_setCell_below (ownsRow_setCell_below (ownsRow_setCell_below (own_below hs hb) hlow _) hlow _) hlow _, hb.os, hb.tape, hb.output, ?_, fun q h1 h2 => ?_, (((keeps_below hb).trans (KeepsOthers.setCell _ _ _)).trans (KeepsOthers.setCell _ _ _)).trans (KeepsOthers.setCell _ _ _)⟩
  · have := hb.size; have := h.size; simp [World.setCell]; omega
  · rw [World.frozen?_setCell, World.frozen?_setCell, World.frozen?_setCell, hf]; exact h.fz j
  · have := hb.size; simp [World.setCell]; omega
  · have := h.size
    exact (Below.heap_setCell _ _ _ _ h2).trans ((Below.heap_setCell _ _ _ _ h2).trans ((Below.heap_setCell _ _ _ _ h2).trans (hb.block q (by omega))))
/-- One rectangle more: behind the append, and behind the store into the builder's field. -/
theorem AddR.push {bb Bo : Nat} {w0 wr wa w2 : World} {L : List R4} {r : R4} {vs vo v2 : Value} {s : List Sp} {n k : Nat} {t : Int} (h : AddR bb Bo w0 L vs s n t wr) (hvo : wr.cell? ⟨bb, 0, none⟩ = some vo) (how : wr.ownsRow Bo 43 4 vo L.length (L.flatMap encR))
    (ha : Below wr.heap.size wr wa) (hg : wa.grownBy w2 vo.ownBlock) (hown2 : w2.ownsRow Bo 43 4 v2 k ((L ++ [r]).flatMap encR)) :
    w2.cell? ⟨bb, 0, none⟩ = some vo ∧ w2.frozen? ⟨bb, 0, none⟩ = false ∧ Hid (AddR bb Bo w0 (L ++ [r]) vs s n t (w2.setCell ⟨bb, 0, none⟩ v2)) := by
  have hlow := h.low
  have hsz := h.size
  have hB : Below Bo wr w2 := (ha.mono hsz).grown hg (Nat.le_trans hsz ha.size) fun q hq => (how.lt q hq).1
  have hc : ∀ o, w2.cell? ⟨bb, o, none⟩ = wr.cell? ⟨bb, o, none⟩ := fun o => hB.cell (p := ⟨bb, o, none⟩) hlow
  have hf : ∀ o, w2.frozen? ⟨bb, o, none⟩ = wr.frozen? ⟨bb, o, none⟩ := fun o => hB.frozen (p := ⟨bb, o, none⟩) hlow
  have k0 := (hc 0).trans hvo
  have hk := own_len (k := 4) hown2 (fun _ => rfl) (by omega)
  subst hk
  refine ⟨k0, (hf 0).trans (h.fz 0), hide ⟨hlow, ?_, ⟨v2, by simp [go_sem, k0], ownsRow_setCell_below hown2 hlow _⟩, ?_, ?_, ?_, fun j => ?_, ownsRow_setCell_below ((own_below h.own ha).kept hg ?_) hlow _, hB.os.trans h.os, hB.tape.trans h.tape, hB.output.trans h.output, ?_, fun q h1 h2 => ?_, ((h.keep.trans (keeps_below ha)).trans (KeepsOthers.of_grownBy hg fun j o hj ho => ?_)).trans (KeepsOthers.setCell _ _ _)⟩⟩
  · have := hB.size; simp [World.setCell]; omega
  · simp [go_sem, hc, h.c1]
  · simp [go_sem, hc, h.c2]
  · simp [go_sem, hc, h.c3]
  · rw [World.frozen?_setCell, hf]; exact h.fz j
  · exact own_apart h.own how (by decide)
  · have := hB.size; have := h.grow; simp [World.setCell]; omega
  · exact (Below.heap_setCell _ _ _ _ h2).trans ((hB.block q h1).trans (h.block q h1 h2))
  · exact own_cells (own_below how ha) j o hj ho

/-- One rectangle more, behind a box of two cells and the row of one that append reads. -/
theorem AddR.push2 {bb Bo : Nat} {w0 wr wb w2 : World} {L : List R4} {r : R4} {vs vo v2 b0 b1 : Value} {s : List Sp} {n k : Nat} {t : Int} (h : AddR bb Bo w0 L vs s n t wr) (hvo : wr.cell? ⟨bb, 0, none⟩ = some vo) (how : wr.ownsRow Bo 43 4 vo L.length (L.flatMap encR))
    (hbw : Below wr.heap.size wr wb) (o : Obj) (hg : (wb.alloc o).drew.grownBy w2 vo.ownBlock) (hown2 : w2.ownsRow Bo 43 4 v2 k (L.flatMap encR ++ encR r)) (f0 : wb.cell? ⟨wr.heap.size, 0, none⟩ = some b0) (f1 : wb.cell? ⟨wr.heap.size, 1, none⟩ = some b1) :
    w2.cell? ⟨bb, 0, none⟩ = some vo ∧ w2.cell? ⟨wr.heap.size, 0, none⟩ = some b0 ∧ w2.cell? ⟨wr.heap.size, 1, none⟩ = some b1 ∧ w2.frozen? ⟨bb, 0, none⟩ = false ∧ Hid (AddR bb Bo w0 (L ++ [r]) vs s n t (w2.setCell ⟨bb, 0, none⟩ v2)) := by
  have ha : Below wr.heap.size wr (wb.alloc o).drew := (hbw.alloc hbw.size o).drew
  have hx : L.flatMap encR ++ encR r = (L ++ [r]).flatMap encR := by simp
  rw [hx] at hown2
  obtain ⟨p1, p2, p3⟩ := h.push hvo how ha hg hown2
  have far : ∀ (q i : Nat) (u : Value), wb.cell? ⟨q, i, none⟩ = some u → vo.ownBlock ≠ some q → w2.cell? ⟨q, i, none⟩ = some u := fun q i u hu hq =>
    World.grownBy.cell hg (a := ⟨q, i, none⟩) ((World.cell?_alloc_lt wb o ⟨q, i, none⟩ (lt_of_cell hu)).trans hu) (fun e => hq e.symm)
  exact ⟨p1, far _ 0 b0 f0 (fun e => by have := how.lt _ e; omega), far _ 1 b1 f1 (fun e => by have := how.lt _ e; omega), p2, p3⟩

set_option maxRecDepth 100000 in
set_option maxHeartbeats 4000000 in
theorem add_any {bb Bo : Nat} {S : List Slab} {last s : List Sp} {first : Nat} {e f t : Int} {vs : Value} {w : World} (h : BW bb Bo S last first e w) (hs : w.ownsRow Bo 78 2 vs s.length (s.flatMap encS)) (hn : (flat S).length ≤ 100000000) (hsn : s.length ≤ 100000000) (hln : last.length ≤ 100000000)
    (hef : S = [] ∨ e ≤ f) (hft : f < t) :
    Calls Try.prog 66 #[.pointer (some ⟨bb, 0, none⟩), .int .i64 f, .int .i64 t, vs] w fun r w' => r = .returned (.tuple #[]) ∧ ∃ first', BW bb Bo (addS S f t s) s first' t w' ∧ Below bb w w' ∧ (∀ k, k < Bo → k ≠ bb → w'.heap[k]? = w.heap[k]?) ∧ KeepsOthers w w' := by
  obtain ⟨vo, o1, o2⟩ := h.out
  obtain ⟨vl, l1, l2⟩ := h.la
  obtain ⟨Ao, co, hvo, _⟩ := own_rd o2 (fun _ => rfl)
  obtain ⟨Al, cl, hvl, hrl⟩ := own_rd l2 (fun _ => rfl)
  obtain ⟨As, cs, hvs, hrs⟩ := own_rd hs (fun _ => rfl)
  subst hvo; subst hvl; subst hvs
  have c2 := h.fi
  have c3 := h.en
  have z0 := h.fz 0
  have z1 := h.fz 1
  have z2 := h.fz 2
  have z3 := h.fz 3
  by_cases hc : s ≠ [] ∧ e = f ∧ last = s
  · obtain ⟨hsne, rfl, rfl⟩ := hc
    obtain ⟨S0, f0, hS, hfi, hadd, hinv⟩ := BInv.join (t := t) h.inv hsne rfl rfl
    have heq := fun W (hb : Below w.heap.size w W) => eqSpan_any (w := W) (B := w.heap.size) (C := w.heap.size) ((own_rd l2 (fun _ => rfl)).below hb) ((own_rd hs (fun _ => rfl)).below hb) hln hb.size hb.size
    have hd : decide (last = last) = true := decide_eq_true rfl
    rw [hd] at heq
    have HEQ := hide heq
    have hbs : bb < w.heap.size := Nat.lt_of_lt_of_le h.low h.size
    have hfl : first < (flat S).length := by
      rw [hS, flat_append, flat_one, List.length_append, hfi]
      have := List.length_pos_iff.2 hsne
      simp [flat1]; omega
    obtain ⟨g, cap, hvo, hBg, hgw⟩ := o2.form (by omega)
    injection hvo with e1 _ e3
    subst e1; subst e3
    have hlow := h.low
    have hlp : (0 : Int) < (last.length : Int) := by have := List.length_pos_iff.2 hsne; omega
    have hee : (e == e) = true := by simp
    have HO := hide o2
    have HL := hide l2
    have HH := hide h
    have HI := hide hinv
    have HS := hide hS
    have HF := hide hfi
    have HA := hide hadd
    clear hd heq o2 l2 hs h hinv hS hfi hadd hrl hrs
    go_enter Try.func66, Try.ntmps66
    go_wp2_with (go_at_call 84; refine (HEQ.out _ (Below.refl _ _)).mono ?_; rintro r w1 ⟨rfl, hb1⟩; have d0 := (hb1.cell (p := ⟨bb, 0, none⟩) hbs).trans o1; have d2 := (hb1.cell (p := ⟨bb, 2, none⟩) hbs).trans c2; have d3 := (hb1.cell (p := ⟨bb, 3, none⟩) hbs).trans c3; have g3 := (hb1.frozen (p := ⟨bb, 3, none⟩) hbs).trans z3)
    go_loopw [8] (fun i wr => ∃ k : Nat, first ≤ k ∧ k ≤ (flat S).length ∧ i = .int .i64 k ∧ wr.cell? ⟨bb, 0, none⟩ = some (.slice (some ⟨g, 0, none⟩) (flat S).length co) ∧ wr.cell? ⟨bb, 3, none⟩ = some (.int .i64 e) ∧ wr.frozen? ⟨bb, 3, none⟩ = false ∧
        Hid (wr.ownsRow Bo 43 4 (.slice (some ⟨g, 0, none⟩) (flat S).length co) (flat S).length ((upTo t first k (flat S)).flatMap encR)) ∧ Hid (w1.grownBy wr (Value.slice (some ⟨g, 0, none⟩) (flat S).length co).ownBlock)) (fun i _ => (flat S).length - (intOf i).toNat)
    case atStart => exact ⟨first, Nat.le_refl _, by omega, rfl, d0, d3, g3, hide (by rw [upTo_start]; exact own_below HO.out hb1), hide (grown_refl _ _)⟩
    case round =>
      clear d0 d3 g3
      obtain ⟨k, hk1, hk2, rfl, d0, d3, g3, HR, HG⟩ := hrel
      by_cases hlt : k < (flat S).length
      · have hkz : (k : Int) < ((flat S).length : Int) := by omega
        obtain ⟨r, hr⟩ : ∃ r, (upTo t first k (flat S))[k]? = some r := ⟨_, List.getElem?_eq_getElem (by rw [upTo_len]; exact hlt)⟩
        have x1 : wr.cell? ⟨g, k * 4 + 2, none⟩ = some (.int .i64 r.x1) := by
          have := (HR.out.cells (g := g) rfl) _ _ (flat_get (k := 4) (fun _ => rfl) _ k r 2 _ hr rfl)
          rwa [addr_add] at this
        have f1 : wr.frozen? ⟨g, k * 4 + 2, none⟩ = false := HR.out.frozenAt _
        have hst := HR.out.stored (k * 4 + 2) (.int .i64 t)
        rw [flat_set t _ k r hr, upTo_step t first k _ r hk1 hr] at hst
        have HST := hide hst
        have nbg : bb ≠ g := by omega
        have ngb : g ≠ bb := by omega
        clear hr hst
        go_wp2
        go_roundw
        case rel => exact ⟨k + 1, by omega, by omega, by go_num, by simp [go_sem, d0, nbg, ngb], by simp [go_sem, d3, nbg, ngb], by simp [go_sem, g3], hide HST.out.1, hide (HG.out.trans HST.out.2)⟩
        case measure => simp [intOf]; omega
      · obtain rfl : k = (flat S).length := by omega
        have hkz : ¬ ((flat S).length : Int) < ((flat S).length : Int) := by omega
        go_wp2
        refine bodyPost_ret (results_none rfl _ _ _) rfl ?_
        have hend := upTo_end S0 f0 e t last
        rw [← HS.out, ← HF.out, ← HA.out] at hend
        have hlen : (flat (addS S e t last)).length = (flat S).length := by rw [← hend, upTo_len]
        have R := HR.out
        rw [hend] at R
        have hGB : Below Bo w1 wr := (Below.refl Bo w1).grown HG.out (Nat.le_trans HH.out.size hb1.size) (fun q hq => (R.lt q hq).1)
        have hsz : Bo ≤ w.heap.size := HH.out.size
        have hW : ∀ q, q < Bo → q ≠ bb → (wr.setCell ⟨bb, 3, none⟩ (.int .i64 t)).heap[q]? = w.heap[q]? := fun q h1 h2 => (Below.heap_setCell _ _ _ _ h2).trans ((hGB.block q h1).trans (hb1.block q (by omega)))
        have hbw : Below w.heap.size w w1 := hb1
        have hcell : ∀ o, wr.cell? ⟨bb, o, none⟩ = w.cell? ⟨bb, o, none⟩ := fun o => (hGB.cell (p := ⟨bb, o, none⟩) hlow).trans (hb1.cell (p := ⟨bb, o, none⟩) hbs)
        have hfr : ∀ o, wr.frozen? ⟨bb, o, none⟩ = w.frozen? ⟨bb, o, none⟩ := fun o => (hGB.frozen (p := ⟨bb, o, none⟩) hlow).trans (hb1.frozen (p := ⟨bb, o, none⟩) hbs)
        refine ⟨rfl, ⟨first, hlow, ?_, ⟨_, ?_, own_n (ownsRow_setCell_below R (by exact hlow) _) hlen.symm⟩, ⟨_, ?_, ownsRow_setCell_below ((own_below HL.out hb1).kept HG.out ?_) (by exact hlow) _⟩, ?_, ?_, ?_, HI.out⟩, ?_, hW, ((keeps_below hb1).trans (KeepsOthers.of_grownBy HG.out fun j o hj ho => own_cells (own_below HO.out hb1) j o hj ho)).trans (KeepsOthers.setCell _ _ _)⟩
        · have := HG.out.size
          have := hb1.size
          simp [World.setCell]; omega
        · simp [go_sem, d0]
        · simp [go_sem, hcell, l1]
        · exact own_apart HL.out HO.out (by decide)
        · simp [go_sem, hcell, c2]
        · simp [go_sem, d3]
        · intro j
          rw [World.frozen?_setCell, hfr]
          exact HH.out.fz j
        · refine (Below.setCell ?_ (p := ⟨bb, 3, none⟩) (Nat.le_refl bb) _)
          exact (hb1.mono (by omega)).trans (hGB.mono (by omega))
  · obtain ⟨hfl, hinv⟩ := BInv.push (t := t) h.inv hef hft hc
    have hbs : bb < w.heap.size := Nat.lt_of_lt_of_le h.low h.size
    have HC := hide hc
    have HO := hide o2
    have HL := hide l2
    have HS := hide hs
    have HH := hide h
    have HI := hide hinv
    have HF := hide hfl
    have HRS := hide hrs
    have heq := fun W (hb : Below w.heap.size w W) => eqSpan_any (w := W) (B := w.heap.size) (C := w.heap.size) ((own_rd l2 (fun _ => rfl)).below hb) ((own_rd hs (fun _ => rfl)).below hb) hln hb.size hb.size
    have HEQ := hide heq
    clear hc o2 l2 hs h hinv hfl hrl hrs heq
    go_enter Try.func66, Try.ntmps66
    have hlow := HH.out.low
    have AW := hide (AddR.start (t := t) HH.out (Below.refl _ w) HS.out)
    obtain ⟨w1, hw1⟩ : ∃ w1, w1 = w := ⟨_, rfl⟩
    obtain ⟨i1, gi, gz0, gz1, gz2⟩ := info_parts infoRc
    by_cases hs0 : s = []
    · have hlp : ¬ (0 : Int) < (s.length : Int) := by simp [hs0]
      have HS0 : Hid (s.length = 0) := hide (by simp [hs0])
      clear hs0
      go_wp2
      clear o1 l1 c2 c3 z0 z1 z2 z3 hlp
      go_loopw [73] (fun i wr => ∃ m : Nat, m ≤ s.length ∧ i = .int .i64 m ∧ Hid (AddR bb Bo w (flat S ++ (s.take m).map (fun p => ⟨f, p.1, t, p.2⟩)) (.slice As s.length cs) s (flat S).length t wr)) (fun i _ => s.length - (intOf i).toNat)
      case atStart => exact ⟨0, Nat.zero_le _, rfl, hide (by rw [List.take_zero, List.map_nil, List.append_nil]; exact AW.out)⟩
      case round =>
        clear AW
        obtain ⟨m, hm, rfl, HA⟩ := hrel
        by_cases hlt : m < s.length
        · exact absurd hlt (by have := HS0.out; omega)
        · obtain rfl : m = s.length := by omega
          have hmz : ¬ (s.length : Int) < (s.length : Int) := by omega
          have A := HA.out
          rw [List.take_length, ← HF.out] at A
          have HA2 := hide A
          clear A
          go_wp2
          go_end0
          have A := HA2.out
          obtain ⟨vo, a1, a2⟩ := A.out
          exact ⟨rfl, ⟨_, A.low, A.size, ⟨vo, a1, a2⟩, ⟨_, A.c1, A.own⟩, A.c2, A.c3, A.fz, HI.out⟩, ⟨A.os, A.tape, A.output, Nat.le_trans (by omega) A.grow, fun q hq => A.block q (by omega) (by omega)⟩, A.block, A.keep⟩
    · have hlp : (0 : Int) < (s.length : Int) := by have := List.length_pos_iff.2 hs0; omega
      by_cases hef2 : e = f
      · have hee : (e == f) = true := by simpa using hef2
        have hd : decide (last = s) = false := decide_eq_false fun g => HC.out ⟨hs0, hef2, g⟩
        have HD := hide hd
        clear hd hef2 hs0
        go_wp2_with (first | (go_at_call 84; refine (HEQ.out _ (Below.refl _ _)).mono ?_; rintro r w1 ⟨rfl, hb1⟩; rw [HD.out]; have d0 := (hb1.cell (p := ⟨bb, 0, none⟩) hbs).trans o1; have d1 := (hb1.cell (p := ⟨bb, 1, none⟩) hbs).trans l1; have d2 := (hb1.cell (p := ⟨bb, 2, none⟩) hbs).trans c2; have d3 := (hb1.cell (p := ⟨bb, 3, none⟩) hbs).trans c3; have g0 := (hb1.frozen (p := ⟨bb, 0, none⟩) hbs).trans z0; have g1 := (hb1.frozen (p := ⟨bb, 1, none⟩) hbs).trans z1; have g2 := (hb1.frozen (p := ⟨bb, 2, none⟩) hbs).trans z2; have g3 := (hb1.frozen (p := ⟨bb, 3, none⟩) hbs).trans z3))
        clear AW
        have AW := hide (AddR.start (t := t) HH.out hb1 HS.out)
        clear o1 l1 c2 c3 z0 z1 z2 z3 hlp
        go_loopw [73] (fun i wr => ∃ m : Nat, m ≤ s.length ∧ i = .int .i64 m ∧ Hid (AddR bb Bo w (flat S ++ (s.take m).map (fun p => ⟨f, p.1, t, p.2⟩)) (.slice As s.length cs) s (flat S).length t wr)) (fun i _ => s.length - (intOf i).toNat)
        case atStart => exact ⟨0, Nat.zero_le _, rfl, hide (by rw [List.take_zero, List.map_nil, List.append_nil]; exact AW.out)⟩
        case round =>
          clear AW
          obtain ⟨m, hm, rfl, HA⟩ := hrel
          by_cases hlt : m < s.length
          · have hmz : (m : Int) < (s.length : Int) := by omega
            obtain ⟨g2, cap2, hvs, hB2, hg2⟩ := HA.out.own.form (by omega)
            injection hvs with e1 _ e3
            subst e1; subst e3
            obtain ⟨⟨p1, p2⟩, hp⟩ : ∃ p, s[m]? = some p := ⟨_, List.getElem?_eq_getElem hlt⟩
            have x0 : wr.cell? ⟨g2, m * 2, none⟩ = some (.int .i64 p1) := by
              have := (HA.out.own.cells (g := g2) rfl) _ _ (flat_get (k := 2) (fun _ => rfl) _ m _ 0 _ hp rfl)
              rwa [addr_add] at this
            have x1 : wr.cell? ⟨g2, m * 2 + 1, none⟩ = some (.int .i64 p2) := by
              have := (HA.out.own.cells (g := g2) rfl) _ _ (flat_get (k := 2) (fun _ => rfl) _ m _ 1 _ hp rfl)
              rwa [addr_add] at this
            have HT : Hid ((s.take (m + 1)).map (fun p : Sp => (⟨f, p.1, t, p.2⟩ : R4)) = (s.take m).map (fun p : Sp => (⟨f, p.1, t, p.2⟩ : R4)) ++ [⟨f, p1, t, p2⟩]) := hide (by
              obtain ⟨hk, hpe⟩ := List.getElem?_eq_some_iff.1 hp
              rw [List.take_succ_eq_append_getElem hk, List.map_append, hpe]; rfl)
            have hL : (flat S ++ (s.take m).map (fun p : Sp => (⟨f, p.1, t, p.2⟩ : R4))).length ≤ 200000000 := by
              rw [List.length_append, List.length_map, List.length_take]; omega
            clear hp
            go_wp2
            obtain ⟨wb, hwb⟩ : ∃ wb, wb = wr.alloc (.cells #[.int .i64 p1, .int .i64 p2] 78) := ⟨_, rfl⟩
            rw [← hwb]
            obtain ⟨vo, v1, v2⟩ := HA.out.out
            obtain ⟨Av, cv, hv⟩ := own_rd v2 (fun _ => rfl)
            obtain ⟨hv, _⟩ := hv
            subst hv
            have hbw : Below wr.heap.size wr wb := by rw [hwb]; exact (Below.refl _ _).alloc (Nat.le_refl _) _
            have hbbw : bb < wr.heap.size := Nat.lt_of_lt_of_le hlow HA.out.size
            have gv : wb.cell? ⟨bb, 0, none⟩ = some (.slice Av (flat S ++ (s.take m).map (fun p : Sp => (⟨f, p.1, t, p.2⟩ : R4))).length cv) := by rw [hwb]; exact (World.cell?_alloc_lt _ _ ⟨bb, 0, none⟩ hbbw).trans v1
            have gy0 : wb.cell? ⟨wr.heap.size, 0, none⟩ = some (.int .i64 p1) := by rw [hwb]; simp [go_sem]
            have gy1 : wb.cell? ⟨wr.heap.size, 1, none⟩ = some (.int .i64 p2) := by rw [hwb]; simp [go_sem]
            have gs : wb.heap.size = wr.heap.size + 1 := by rw [hwb]; simp
            have gown : wb.ownsRow Bo 43 4 (.slice Av (flat S ++ (s.take m).map (fun p : Sp => (⟨f, p.1, t, p.2⟩ : R4))).length cv) (flat S ++ (s.take m).map (fun p : Sp => (⟨f, p.1, t, p.2⟩ : R4))).length ((flat S ++ (s.take m).map (fun p : Sp => (⟨f, p.1, t, p.2⟩ : R4))).flatMap encR) := by rw [hwb]; exact v2.alloc _
            have HV1 := hide v1
            have HV2 := hide v2
            have HBW := hide hbw
            have HY0 := hide gy0
            have HY1 := hide gy1
            have HO2 := hide gown
            have HT2 : Hid (flat S ++ (s.take (m + 1)).map (fun p : Sp => (⟨f, p.1, t, p.2⟩ : R4)) = (flat S ++ (s.take m).map (fun p : Sp => (⟨f, p.1, t, p.2⟩ : R4))) ++ [⟨f, p1, t, p2⟩]) := hide (by rw [HT.out, List.append_assoc])
            have hbws : bb < wb.heap.size := by omega
            have hbne : wr.heap.size < wb.heap.size := by omega
            have hBow : Bo ≤ wb.heap.size := by have := HA.out.size; omega
            have HA2 := hide HA.out
            clear gs v1 v2 gown hwb hbw x0 x1 HA HT
            generalize flat S ++ (s.take m).map (fun p : Sp => (⟨f, p.1, t, p.2⟩ : R4)) = L at *
            refine wp_region_reads 12 (fun w' => w'.cell? ⟨bb, 0, none⟩ = some (.slice Av L.length cv) ∧ w'.cell? ⟨wr.heap.size, 0, none⟩ = some (.int .i64 p1) ∧ w'.cell? ⟨wr.heap.size, 1, none⟩ = some (.int .i64 p2)) (by kernel_rfl) (by kernel_rfl) ⟨gv, gy0, gy1⟩ ?_
            simp only [List.take_succ_cons, List.take_zero, List.drop_succ_cons, List.drop_zero]
            iterate 12
              refine ⟨?_, Or.inl ⟨by rfl, ?_⟩, ?_⟩
              rotate_left 1
              · intro w' hSw
                obtain ⟨z1, z2, z3⟩ := hSw
                go_simp
                first | done | with_reducible rfl
              simp only [Act.put, List.setIfInBounds_toArray, List.set_cons_zero, List.set_cons_succ]
            simp only [wpReads]
            intro K hK
            go_simp
            refine hK _ _ (fun _ => ⟨by go_keep, by go_keep, by go_keep⟩) ?_
            clear hK K
            intro K hK
            refine step_append_lies _ rfl (.tmp 81) (.tmp 89) 25 rfl Bo 43 i1 (.agg #[.int .i64 0, .int .i64 0, .int .i64 0, .int .i64 0]) 4 32 Try.underlying25 gi gz0 gz1 gz2 rfl (by decide) (.slice Av L.length cv) L.length _ rfl (own_drew (World.ownsRow.alloc (w := wb) HO2.out _)) ⟨wb.heap.size, 0, none⟩ 1 1 [.int .i64 f, .int .i64 p1, .int .i64 t, .int .i64 p2] rfl rfl (news_drew wb _ _ _ rfl) (ints_one rfl) (by omega) (by unfold maxLen; omega) (by omega) (by simp; omega) _ rfl ?_
            intro g9 cap9 w9 hown9 hgrow9 _ _
            obtain ⟨s1, s2, s3, s4, HF9⟩ := HA2.out.push2 (r := ⟨f, p1, t, p2⟩) HV1.out HV2.out HBW.out _ hgrow9 hown9 HY0.out HY1.out
            clear hown9 hgrow9
            refine hK _ _ (fun _ => ⟨s1, s2, s3⟩) ?_
            clear hK K
            intro K hK
            simp only [Act.put, List.setIfInBounds_toArray, List.set_cons_zero, List.set_cons_succ] at hK ⊢
            go_simp
            refine hK _ _ (fun _ => ⟨s1, s2, s3⟩) ?_
            clear hK K
            intro K hK
            simp only [Act.put, List.setIfInBounds_toArray, List.set_cons_zero, List.set_cons_succ] at hK ⊢
            go_simp
            refine hK _ _ (fun _ => ⟨s1, s2, s3⟩) ?_
            clear hK K
            intro K hK
            simp only [Act.put, List.setIfInBounds_toArray, List.set_cons_zero, List.set_cons_succ] at hK ⊢
            go_simp
            refine hK _ _ (fun h => absurd rfl h) ?_
            clear hK K
            refine NoPanic.normal ?_
            go_wp2
            go_roundw
            case rel => exact ⟨m + 1, by omega, by go_num, hide (by rw [HT2.out]; exact HF9.out)⟩
            case measure => simp [intOf]; omega
          · obtain rfl : m = s.length := by omega
            have hmz : ¬ (s.length : Int) < (s.length : Int) := by omega
            have A := HA.out
            rw [List.take_length, ← HF.out] at A
            have HA2 := hide A
            clear A
            go_wp2
            go_end0
            have A := HA2.out
            obtain ⟨vo, a1, a2⟩ := A.out
            exact ⟨rfl, ⟨_, A.low, A.size, ⟨vo, a1, a2⟩, ⟨_, A.c1, A.own⟩, A.c2, A.c3, A.fz, HI.out⟩, ⟨A.os, A.tape, A.output, Nat.le_trans (by omega) A.grow, fun q hq => A.block q (by omega) (by omega)⟩, A.block, A.keep⟩
      · have hee : (e == f) = false := by simpa using hef2
        clear hef2 hs0
        go_wp2
        clear o1 l1 c2 c3 z0 z1 z2 z3 hlp
        go_loopw [73] (fun i wr => ∃ m : Nat, m ≤ s.length ∧ i = .int .i64 m ∧ Hid (AddR bb Bo w (flat S ++ (s.take m).map (fun p => ⟨f, p.1, t, p.2⟩)) (.slice As s.length cs) s (flat S).length t wr)) (fun i _ => s.length - (intOf i).toNat)
        case atStart => exact ⟨0, Nat.zero_le _, rfl, hide (by rw [List.take_zero, List.map_nil, List.append_nil]; exact AW.out)⟩
        case round =>
          clear AW
          obtain ⟨m, hm, rfl, HA⟩ := hrel
          by_cases hlt : m < s.length
          · have hmz : (m : Int) < (s.length : Int) := by omega
            obtain ⟨g2, cap2, hvs, hB2, hg2⟩ := HA.out.own.form (by omega)
            injection hvs with e1 _ e3
            subst e1; subst e3
            obtain ⟨⟨p1, p2⟩, hp⟩ : ∃ p, s[m]? = some p := ⟨_, List.getElem?_eq_getElem hlt⟩
            have x0 : wr.cell? ⟨g2, m * 2, none⟩ = some (.int .i64 p1) := by
              have := (HA.out.own.cells (g := g2) rfl) _ _ (flat_get (k := 2) (fun _ => rfl) _ m _ 0 _ hp rfl)
              rwa [addr_add] at this
            have x1 : wr.cell? ⟨g2, m * 2 + 1, none⟩ = some (.int .i64 p2) := by
              have := (HA.out.own.cells (g := g2) rfl) _ _ (flat_get (k := 2) (fun _ => rfl) _ m _ 1 _ hp rfl)
              rwa [addr_add] at this
            have HT : Hid ((s.take (m + 1)).map (fun p : Sp => (⟨f, p.1, t, p.2⟩ : R4)) = (s.take m).map (fun p : Sp => (⟨f, p.1, t, p.2⟩ : R4)) ++ [⟨f, p1, t, p2⟩]) := hide (by
              obtain ⟨hk, hpe⟩ := List.getElem?_eq_some_iff.1 hp
              rw [List.take_succ_eq_append_getElem hk, List.map_append, hpe]; rfl)
            have hL : (flat S ++ (s.take m).map (fun p : Sp => (⟨f, p.1, t, p.2⟩ : R4))).length ≤ 200000000 := by
              rw [List.length_append, List.length_map, List.length_take]; omega
            clear hp
            go_wp2
            obtain ⟨wb, hwb⟩ : ∃ wb, wb = wr.alloc (.cells #[.int .i64 p1, .int .i64 p2] 78) := ⟨_, rfl⟩
            rw [← hwb]
            obtain ⟨vo, v1, v2⟩ := HA.out.out
            obtain ⟨Av, cv, hv⟩ := own_rd v2 (fun _ => rfl)
            obtain ⟨hv, _⟩ := hv
            subst hv
            have hbw : Below wr.heap.size wr wb := by rw [hwb]; exact (Below.refl _ _).alloc (Nat.le_refl _) _
            have hbbw : bb < wr.heap.size := Nat.lt_of_lt_of_le hlow HA.out.size
            have gv : wb.cell? ⟨bb, 0, none⟩ = some (.slice Av (flat S ++ (s.take m).map (fun p : Sp => (⟨f, p.1, t, p.2⟩ : R4))).length cv) := by rw [hwb]; exact (World.cell?_alloc_lt _ _ ⟨bb, 0, none⟩ hbbw).trans v1
            have gy0 : wb.cell? ⟨wr.heap.size, 0, none⟩ = some (.int .i64 p1) := by rw [hwb]; simp [go_sem]
            have gy1 : wb.cell? ⟨wr.heap.size, 1, none⟩ = some (.int .i64 p2) := by rw [hwb]; simp [go_sem]
            have gs : wb.heap.size = wr.heap.size + 1 := by rw [hwb]; simp
            have gown : wb.ownsRow Bo 43 4 (.slice Av (flat S ++ (s.take m).map (fun p : Sp => (⟨f, p.1, t, p.2⟩ : R4))).length cv) (flat S ++ (s.take m).map (fun p : Sp => (⟨f, p.1, t, p.2⟩ : R4))).length ((flat S ++ (s.take m).map (fun p : Sp => (⟨f, p.1, t, p.2⟩ : R4))).flatMap encR) := by rw [hwb]; exact v2.alloc _
            have HV1 := hide v1
            have HV2 := hide v2
            have HBW := hide hbw
            have HY0 := hide gy0
            have HY1 := hide gy1
            have HO2 := hide gown
            have HT2 : Hid (flat S ++ (s.take (m + 1)).map (fun p : Sp => (⟨f, p.1, t, p.2⟩ : R4)) = (flat S ++ (s.take m).map (fun p : Sp => (⟨f, p.1, t, p.2⟩ : R4))) ++ [⟨f, p1, t, p2⟩]) := hide (by rw [HT.out, List.append_assoc])
            have hbws : bb < wb.heap.size := by omega
            have hbne : wr.heap.size < wb.heap.size := by omega
            have hBow : Bo ≤ wb.heap.size := by have := HA.out.size; omega
            have HA2 := hide HA.out
            clear gs v1 v2 gown hwb hbw x0 x1 HA HT
            generalize flat S ++ (s.take m).map (fun p : Sp => (⟨f, p.1, t, p.2⟩ : R4)) = L at *
            refine wp_region_reads 12 (fun w' => w'.cell? ⟨bb, 0, none⟩ = some (.slice Av L.length cv) ∧ w'.cell? ⟨wr.heap.size, 0, none⟩ = some (.int .i64 p1) ∧ w'.cell? ⟨wr.heap.size, 1, none⟩ = some (.int .i64 p2)) (by kernel_rfl) (by kernel_rfl) ⟨gv, gy0, gy1⟩ ?_
            simp only [List.take_succ_cons, List.take_zero, List.drop_succ_cons, List.drop_zero]
            iterate 12
              refine ⟨?_, Or.inl ⟨by rfl, ?_⟩, ?_⟩
              rotate_left 1
              · intro w' hSw
                obtain ⟨z1, z2, z3⟩ := hSw
                go_simp
                first | done | with_reducible rfl
              simp only [Act.put, List.setIfInBounds_toArray, List.set_cons_zero, List.set_cons_succ]
            simp only [wpReads]
            intro K hK
            go_simp
            refine hK _ _ (fun _ => ⟨by go_keep, by go_keep, by go_keep⟩) ?_
            clear hK K
            intro K hK
            refine step_append_lies _ rfl (.tmp 81) (.tmp 89) 25 rfl Bo 43 i1 (.agg #[.int .i64 0, .int .i64 0, .int .i64 0, .int .i64 0]) 4 32 Try.underlying25 gi gz0 gz1 gz2 rfl (by decide) (.slice Av L.length cv) L.length _ rfl (own_drew (World.ownsRow.alloc (w := wb) HO2.out _)) ⟨wb.heap.size, 0, none⟩ 1 1 [.int .i64 f, .int .i64 p1, .int .i64 t, .int .i64 p2] rfl rfl (news_drew wb _ _ _ rfl) (ints_one rfl) (by omega) (by unfold maxLen; omega) (by omega) (by simp; omega) _ rfl ?_
            intro g9 cap9 w9 hown9 hgrow9 _ _
            obtain ⟨s1, s2, s3, s4, HF9⟩ := HA2.out.push2 (r := ⟨f, p1, t, p2⟩) HV1.out HV2.out HBW.out _ hgrow9 hown9 HY0.out HY1.out
            clear hown9 hgrow9
            refine hK _ _ (fun _ => ⟨s1, s2, s3⟩) ?_
            clear hK K
            intro K hK
            simp only [Act.put, List.setIfInBounds_toArray, List.set_cons_zero, List.set_cons_succ] at hK ⊢
            go_simp
            refine hK _ _ (fun _ => ⟨s1, s2, s3⟩) ?_
            clear hK K
            intro K hK
            simp only [Act.put, List.setIfInBounds_toArray, List.set_cons_zero, List.set_cons_succ] at hK ⊢
            go_simp
            refine hK _ _ (fun _ => ⟨s1, s2, s3⟩) ?_
            clear hK K
            intro K hK
            simp only [Act.put, List.setIfInBounds_toArray, List.set_cons_zero, List.set_cons_succ] at hK ⊢
            go_simp
            refine hK _ _ (fun h => absurd rfl h) ?_
            clear hK K
            refine NoPanic.normal ?_
            go_wp2
            go_roundw
            case rel => exact ⟨m + 1, by omega, by go_num, hide (by rw [HT2.out]; exact HF9.out)⟩
            case measure => simp [intOf]; omega
          · obtain rfl : m = s.length := by omega
            have hmz : ¬ (s.length : Int) < (s.length : Int) := by omega
            have A := HA.out
            rw [List.take_length, ← HF.out] at A
            have HA2 := hide A
            clear A
            go_wp2
            go_end0
            have A := HA2.out
            obtain ⟨vo, a1, a2⟩ := A.out
            exact ⟨rfl, ⟨_, A.low, A.size, ⟨vo, a1, a2⟩, ⟨_, A.c1, A.own⟩, A.c2, A.c3, A.fz, HI.out⟩, ⟨A.os, A.tape, A.output, Nat.le_trans (by omega) A.grow, fun q hq => A.block q (by omega) (by omega)⟩, A.block, A.keep⟩
end Go.Proofs.Ytamnaojheecopaa
