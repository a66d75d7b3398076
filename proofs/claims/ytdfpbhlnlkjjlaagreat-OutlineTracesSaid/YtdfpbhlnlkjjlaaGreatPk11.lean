/- Texts laid together: OudE, OudG, OutW, RoundR. Lemmas for the statements of this seat; no condition. -/
import Derived.Test.YtdfpbhlnlkjjlaaGreatPk10
import Derived.StillTactics
import Derived.Test.YtdfpbhlnlkjjlaaGreatPk9
import Derived.Test.YtdfpbhlnlkjjlaaGreatShelfB
import Derived.Test.YtdfpbhlnlkjjlaaGreatPk2
import Derived.Test.YtdfpbhlnlkjjlaaGreatPk7
import Derived.Test.YtdfpbhlnlkjjlaaGreatPk1

/- Outlines: loops's iterator. -/
namespace Go.Proofs.YtdfpbhlnlkjjlaaGreat
open Go.RowKit Go.Maps
set_option linter.unusedVariables false
set_option linter.unusedSimpArgs false
attribute [local go_sem] Oper.semAt_some
theorem grown_trans {w1 w2 w3 : World} {r : Option Nat} (h : w1.grownBy w2 r) (g : w2.grownBy w3 r) : w1.grownBy w3 r :=
 ⟨g.os.trans h.os, g.tape.trans h.tape, g.output.trans h.output, Nat.le_trans h.size g.size, fun k hk hne => (g.block k (Nat.lt_of_lt_of_le hk h.size) hne).trans (h.block k hk hne)⟩
theorem grown_below {w1 w2 : World} {r : Option Nat} (hb : Below w1.heap.size w1 w2) : w1.grownBy w2 r := ⟨hb.os, hb.tape, hb.output, hb.size, fun k hk _ => hb.block k hk⟩
theorem grown_new {w1 w2 w3 : World} {r q : Option Nat} (h : w1.grownBy w2 r) (g : w2.grownBy w3 q) (hq : ∀ k, q = some k → w1.heap.size ≤ k) : w1.grownBy w3 r :=
 ⟨g.os.trans h.os, g.tape.trans h.tape, g.output.trans h.output, Nat.le_trans h.size g.size, fun k hk hne => (g.block k (Nat.lt_of_lt_of_le hk h.size) (fun e => by have := hq k e.symm; omega)).trans (h.block k hk hne)⟩
def KpL (bb n : Nat) (A B : World) : Prop := A.heap.size ≤ B.heap.size ∧ ∀ b, b < n → b ≠ bb → B.heap[b]? = A.heap[b]?
theorem KpL.trans {b n : Nat} {A B C : World} (h : KpL b n A B) (k : KpL b n B C) : KpL b n A C := ⟨Nat.le_trans h.1 k.1, fun q h1 h2 => (k.2 q h1 h2).trans (h.2 q h1 h2)⟩
structure ItS (n bb : Nat) (w0 wr : World) : Prop where
 sz : w0.heap.size ≤ wr.heap.size
 blk : ∀ b, b < w0.heap.size → b ≠ n + 3 → b ≠ bb → wr.heap[b]? = w0.heap[b]?
theorem ItS.cell {n bb : Nat} {w0 wr : World} (h : ItS n bb w0 wr) {b o : Nat} {v : Value} (hc : w0.cell? ⟨b, o, none⟩ = some v) (h1 : b ≠ n + 3) (h2 : b ≠ bb) : wr.cell? ⟨b, o, none⟩ = some v :=
 (World.cell?_of_block (h.blk b (lt_of_cell hc) h1 h2)).trans hc
theorem ItS.grown {n bb : Nat} {w0 wr w2 : World} (h : ItS n bb w0 wr) (g : wr.grownBy w2 (some (n + 3))) : ItS n bb w0 w2 :=
 ⟨Nat.le_trans h.sz g.size, fun b h1 h2 h3 => (g.block b (Nat.lt_of_lt_of_le h1 h.sz) (fun e => h2 (by injection e))).trans (h.blk b h1 h2 h3)⟩
theorem ItS.kp {n bb : Nat} {w0 wr w2 : World} (h : ItS n bb w0 wr) (g : KpL bb w0.heap.size wr w2) : ItS n bb w0 w2 :=
 ⟨Nat.le_trans h.sz g.1, fun b h1 h2 h3 => (g.2 b h1 h3).trans (h.blk b h1 h2 h3)⟩
theorem Gs.of_blocks {B bM n0 n1 : Nat} {K : List Pt} {p : Pt → List Eg} {vals : Pt → Value} {w w' : World} (h : Gs B bM n0 n1 K p vals w) (hb : ∀ b, b < w.heap.size → b = bM ∨ B ≤ b → w'.heap[b]? = w.heap[b]?) : Gs B bM n0 n1 K p vals w' := by
 have hlt := h.bM_lt
 obtain ⟨D, ⟨⟨es, clock, h1, h2⟩, hs⟩, d2, d3⟩ := h.map
 refine ⟨⟨D, ⟨⟨es, clock, (hb bM hlt (.inl rfl)).trans h1, h2⟩, hs⟩, d2, d3⟩, fun k hk => ?_, h.apart, h.rng, h.nd⟩
 obtain ⟨g, c, e, hgap, hr⟩ := h.vs k hk
 refine ⟨g, c, e, hgap, hr.1, ?_⟩
 rcases hr.2 with hn | ⟨g2, cap, cur, e2, hB, hg, hrest⟩
 ·exact .inl hn
 ·exact .inr ⟨g2, cap, cur, e2, hB, (hb g2 (Array.getElem?_eq_some_iff.1 hg).1 (.inr hB)).trans hg, hrest⟩
theorem Es.of_block {b m : Nat} {op : Eg → Bool} {w w' : World} (h : Es b m op w) (hb : w'.heap[b]? = w.heap[b]?) : Es b m op w' := by
 obtain ⟨D, ⟨es, clock, h1, h2⟩, d2⟩ := h
 exact ⟨D, ⟨es, clock, hb.trans h1, h2⟩, d2⟩
def OkLp (l : List Pt) (args : Array Value) (W : World) : Prop := ∃ A c B, args = #[.slice A l.length c] ∧ W.ownsRow B 53 2 (.slice A l.length c) l.length (l.flatMap encS) ∧ 0 < l.length ∧ l.length ≤ 100000
theorem wp_join0 {P : Program} {c : Code} {Q : Exit → Act → World → Prop} {a : Act} {w : World} {F : Act} {R : World → Prop} (h1 : c.wp P (fun e a' w' => e = .normal ∧ a' = F ∧ R w') a w) (h2 : ∀ w', R w' → Q .normal F w') : c.wp P Q a w :=
 wp_mono h1 fun e a' w' ⟨h3, h4, h5⟩ => by subst h3; subst h4; exact h2 w' h5
def BxE (W : World) (q : Nat) (e : Eg) : Prop := q < W.heap.size ∧ (W.cell? ⟨q, 0, none⟩ = some (.int .i64 e.1.1) ∧ W.cell? ⟨q, 1, none⟩ = some (.int .i64 e.1.2) ∧ W.cell? ⟨q, 2, none⟩ = some (.int .i64 e.2.1) ∧ W.cell? ⟨q, 3, none⟩ = some (.int .i64 e.2.2)) ∧ (W.frozen? ⟨q, 0, none⟩ = false ∧ W.frozen? ⟨q, 1, none⟩ = false ∧ W.frozen? ⟨q, 2, none⟩ = false ∧ W.frozen? ⟨q, 3, none⟩ = false)
theorem BxE.same {W V : World} {q : Nat} {e : Eg} (h : BxE W q e) (hs : W.heap.size ≤ V.heap.size) (hb : V.heap[q]? = W.heap[q]?) : BxE V q e := by
 obtain ⟨h1, ⟨a, b, c, d⟩, x, y, z, u⟩ := h
 have hc := fun o => World.cell?_of_block (w := W) (w' := V) (a := ⟨q, o, none⟩) hb
 have hf := fun o => World.frozen?_of_block (w := W) (w' := V) (a := ⟨q, o, none⟩) hb
 exact ⟨Nat.lt_of_lt_of_le h1 hs, ⟨(hc 0).trans a, (hc 1).trans b, (hc 2).trans c, (hc 3).trans d⟩, (hf 0).trans x, (hf 1).trans y, (hf 2).trans z, (hf 3).trans u⟩
theorem BxE.below {W V : World} {q : Nat} {e : Eg} (h : BxE W q e) (hb : Below W.heap.size W V) : BxE V q e := h.same hb.size (hb.block q h.1)
theorem BxE.grown {W V : World} {q : Nat} {e : Eg} {r : Option Nat} (h : BxE W q e) (hg : W.grownBy V r) (hne : r ≠ some q) : BxE V q e := h.same hg.size (hg.block q h.1 (Ne.symm hne))
structure InS (S : Cs) (E : List Eg) (vs : List (Un × Nat)) (e0 : Eg) (n : Nat) (w3 wx : World) (m : Nat) (e : Eg) (op : Eg → Bool) (m2 q : Nat) (v : Value) : Prop where
 tr : Trip S E vs op e0 e m
 es : Es (n + 3) m2 op wx
 gr : w3.grownBy wx (some (n + 3))
 own : wx.ownsRow w3.heap.size 53 2 v (cnr S (uE e0 0) m).length ((cnr S (uE e0 0) m).flatMap encS)
 bx : BxE wx q e
 q3 : n + 5 ≤ q
 qb : w3.heap.size ≤ q
 nq : v.ownBlock ≠ some q
 cnt : (cnr S (uE e0 0) m).length + opN E op ≤ E.length
 pos : m = 0 → op e = true
abbrev setE (W : World) (q : Nat) (f : Eg) : World := (((W.setCell ⟨q, 0, none⟩ (.int .i64 f.1.1)).setCell ⟨q, 1, none⟩ (.int .i64 f.1.2)).setCell ⟨q, 2, none⟩ (.int .i64 f.2.1)).setCell ⟨q, 3, none⟩ (.int .i64 f.2.2)
theorem grown_setE (W : World) (q : Nat) (f : Eg) : W.grownBy (setE W q f) (some q) := by
 refine ⟨rfl, rfl, rfl, by simp, fun k _ hk => ?_⟩
 have hne : k ≠ q := fun e => hk (by rw [e])
 show (World.setCell _ _ _).heap[k]? = _
 rw [Go.Deep.blk_setCell_other _ _ _ _ hne, Go.Deep.blk_setCell_other _ _ _ _ hne, Go.Deep.blk_setCell_other _ _ _ _ hne, Go.Deep.blk_setCell_other _ _ _ _ hne]
theorem InS.fin {S : Cs} {E : List Eg} {vs : List (Un × Nat)} {e0 : Eg} {n : Nat} {w3 wx : World} {m : Nat} {e : Eg} {op : Eg → Bool} {m2 q : Nat} {v : Value} (hs : InS S E vs e0 n w3 wx m e op m2 q v) (h : EdgesOf S E) {f : Eg} (hf : f ∈ E) (hn : uE f 0 = nx S (uE e (lnE e - 1))) (ho : op e = true)
  {wA : World} (es : Es (n + 3) m2 (fun g => op g && decide (g ≠ e)) wA) (gr : w3.grownBy wA (some (n + 3))) {v' : Value} {C : List Pt} (hC : C = cnr S (uE e0 0) m ++ if wayF f = wayF e then [] else [e.2]) (own : wA.ownsRow w3.heap.size 53 2 v' C.length (C.flatMap encS)) (hq : q < wA.heap.size) (hnq : v'.ownBlock ≠ some q) :
  C = cnr S (uE e0 0) (m + lnE e) ∧ InS S E vs e0 n w3 ((setE wA q f).alloc (.cells #[.int .i64 f.1.1, .int .i64 f.1.2, .int .i64 f.2.1, .int .i64 f.2.2] 74)) (m + lnE e) f (fun g => op g && decide (g ≠ e)) m2 wA.heap.size v' ∧ opN E (fun g => op g && decide (g ≠ e)) + 1 = opN E op := by
 have hc := h.cnr_edge hs.tr.in1 hf hn hs.tr.it
 have hd := opN_del h.nodup hs.tr.in1 ho (op2 := fun g => op g && decide (g ≠ e)) (fun g => rfl)
 have hC2 : C = cnr S (uE e0 0) (m + lnE e) := by rw [hC, hc.2]
 have hset := grown_setE wA q f
 have hsz : (setE wA q f).heap.size = wA.heap.size := by simp
 have hq3 := hs.q3
 have hqb := hs.qb
 refine ⟨hC2, ⟨hs.tr.step h ho hf hn (fun g _ => rfl), ?_, ?_, ?_, ?_, ?_, ?_, ?_, ?_, fun h0 => ?_⟩, hd⟩
 ·exact ((es.grown hset (fun h5 => by injection h5 with h5; omega)).grown (grown_below (r := none) ((Below.refl _ _).alloc (Nat.le_refl _) _)) (by simp) : Es (n + 3) m2 _ _)
 ·exact grown_trans (grown_new gr hset (fun k hk => by injection hk with hk; omega)) (grown_below ((Below.refl _ _).alloc (Nat.le_refl _) _))
 ·rw [← hC2]
  exact (own.kept hset (.inr hnq)).alloc _
 ·rw [← hsz]
  refine ⟨?_, ⟨?_, ?_, ?_, ?_⟩, ?_, ?_, ?_, ?_⟩ <;> simp [go_sem]
 ·have := gr.size
  have := hs.es.lt
  omega
 ·exact gr.size
 ·intro h5
  have := (own.lt _ h5).2
  omega
 ·have hle : C.length ≤ (cnr S (uE e0 0) m).length + 1 := by
   rw [hC]
   split <;> simp
  have := hs.cnt
  rw [← hC2]
  omega
 ·have := (h.at_ hs.tr.in1).1
  omega
set_option maxRecDepth 100000 in
set_option maxHeartbeats 32000000 in
theorem loops2_it {S : Cs} {E : List Eg} (h : EdgesOf S E) {M : Nat} (hM : bdC S M) (hE : ∀ e ∈ E, okE e) (hl : E.length ≤ 100000) {n bf bb mk me : Nat} {v : Value} {wz w0 : World} (hL : LpS n v (fromE E) (fun e => decide (e ∈ E)) mk me wz w0)
    (hf : w0.cell? ⟨bf, 0, none⟩ = some (.func (.func 58) #[] #[.pointer (some ⟨n + 2, 0, none⟩)])) (hr : RdK encG 4 w0 n v E) (hvb : ∀ b o k c, v = .slice (some ⟨b, o, none⟩) k c → b ≠ bb) (hbb : bb < n) (hfb : bf ≠ bb) (hf3 : bf ≠ n + 3) :
    IterM (n + 3) Tryz.prog 61 #[.pointer (some ⟨n, 0, none⟩), .pointer (some ⟨n + 4, 0, none⟩), .pointer (some ⟨bf, 0, none⟩)] (trL S E E.length) OkLp (KpL bb w0.heap.size) w0 := by
  intro l J Jx W hW hJ hY h0
  obtain ⟨i1, gi, gz0, gz1, gz2⟩ := info_parts infoPtO
  refine callsIn_of_wp Tryz.func61 rfl trivial ?_
  simp only [Tryz.ntmps61, List.size_toArray, List.length_cons, List.length_nil, Nat.reduceAdd, Nat.reduceSub, Array.replicate_succ, Array.replicate_zero, List.push_toArray, List.append_toArray, List.nil_append, List.cons_append]
  obtain ⟨A, c, rfl, hc⟩ := hr
  have HR := hide hc
  have HY := hide hY
  have HJ := hide hJ
  have HE := hide hE
  have HH := hide h
  have HL := hide hL
  have HF := hide hf
  have HVB := hide hvb
  have hI0 : ItS n bb w0 W := ⟨hW.size, fun b h1 _ _ => hW.block b h1⟩
  obtain ⟨m0, hes, _⟩ := hL.es
  have HES0 : Hid (∃ m2 op, Es (n + 3) m2 op W ∧ Fol S E [] op) := hide ⟨m0, _, hes.grown (row := none) ⟨hW.os, hW.tape, hW.output, hW.size, fun k hk _ => hW.block k hk⟩ (by simp), Fol.nil fun f hf => by simpa using hf⟩
  have c0 : W.cell? ⟨n, 0, none⟩ = some (.slice A E.length c) := hI0.cell hL.cl (by omega) (by omega)
  clear hc hY hJ hE h hL hf hvb hes
  gi_wp2
  gi_loopw [6, 7, 8, 9, 12] (fun _ _ _ _ p wr => ∃ k : Nat, k ≤ E.length ∧ p = .int .i64 (k : Int) ∧ Hid (J (trL S E k) wr) ∧ Hid (ItS n bb w0 wr) ∧ Hid (∃ m2 op, Es (n + 3) m2 op wr ∧ Fol S E (vsF S E k) op))
    (fun _ _ _ _ p _ => E.length - (intOf p).toNat)
  case atStart => exact ⟨0, Nat.zero_le _, rfl, hide h0, hide hI0, HES0⟩
  case round =>
    obtain ⟨k, hk, rfl, HJk, HI, HO⟩ := hrel
    clear c0
    by_cases hlt : k < E.length
    · refine wpIn_wide.2 ?_
      have kz : (k : Int) < (E.length : Int) := by omega
      obtain ⟨e0, ht⟩ : ∃ t, E[k]? = some t := ⟨_, List.getElem?_eq_getElem hlt⟩
      obtain ⟨b, o, rfl, hb, kc⟩ := HR.out (by intro e; rw [e] at hlt; simp at hlt)
      have hbb2 : b ≠ bb := HVB.out b o _ _ rfl
      have d0 : wr.cell? ⟨b, o + k * 4, none⟩ = some (.int .i64 e0.1.1) := HI.out.cell (kc k _ ht 0 _ rfl) (by omega) hbb2
      have d1 : wr.cell? ⟨b, o + k * 4 + 1, none⟩ = some (.int .i64 e0.1.2) := HI.out.cell (kc k _ ht 1 _ rfl) (by omega) hbb2
      have d2 : wr.cell? ⟨b, o + k * 4 + 2, none⟩ = some (.int .i64 e0.2.1) := HI.out.cell (kc k _ ht 2 _ rfl) (by omega) hbb2
      have d3 : wr.cell? ⟨b, o + k * 4 + 3, none⟩ = some (.int .i64 e0.2.2) := HI.out.cell (kc k _ ht 3 _ rfl) (by omega) hbb2
      have HT := hide ht
      have HOK := hide (HE.out _ (List.mem_of_getElem? ht))
      obtain ⟨m2, op, hes, hF⟩ := HO.out
      have co : wr.cell? ⟨n + 4, 0, none⟩ = some (.map (some (n + 3))) := HI.out.cell HL.out.co (by omega) (by omega)
      have hno : n + 4 < wr.heap.size := lt_of_cell co
      have HF0 := hide hF
      clear kc ht hbb2 HO hF
      go_upto_region 3 with fail
      refine wp_name fun w2 hw2 => ?_
      obtain ⟨q6, hq6⟩ : ∃ q, wr.heap.size = q := ⟨_, rfl⟩
      have hb2 : Below wr.heap.size wr w2 := by
        rw [hw2]
        repeat (first | with_reducible exact Below.refl _ _ | with_reducible refine Below.setCell ?_ (by first | (simp; done) | (simp; omega)) _ | with_reducible refine Below.alloc ?_ (by first | omega | (simp; omega) | simp) _)
      have x0 : w2.cell? ⟨q6, 0, none⟩ = some (.int .i64 e0.1.1) := by rw [hw2, ← hq6]; simp [go_sem]
      have x1 : w2.cell? ⟨q6, 1, none⟩ = some (.int .i64 e0.1.2) := by rw [hw2, ← hq6]; simp [go_sem]
      have x2 : w2.cell? ⟨q6, 2, none⟩ = some (.int .i64 e0.2.1) := by rw [hw2, ← hq6]; simp [go_sem]
      have x3 : w2.cell? ⟨q6, 3, none⟩ = some (.int .i64 e0.2.2) := by rw [hw2, ← hq6]; simp [go_sem]
      have HG2 : Hid (wr.grownBy w2 (some (n + 3))) := hide (grown_below hb2)
      replace co := (hb2.cell (p := ⟨n + 4, 0, none⟩) hno).trans co
      have HES2 := hide (hes.below hb2)
      have hq62 : q6 < w2.heap.size := lt_of_cell x0
      have hq6n : n + 5 ≤ q6 := by rw [← hq6]; exact Nat.le_trans HL.out.sz HI.out.sz
      rw [hq6]
      clear hw2 hb2 hq6 d0 d1 d2 d3 hes hno
      obtain ⟨ov, hov⟩ : ∃ x, op e0 = x := ⟨_, rfl⟩
      cases ov with
      | false =>
        have HSH : Hid (trL S E (k + 1) = trL S E k ∧ vsF S E (k + 1) = vsF S E k) := hide (by
          have hnf : ¬ freeE S (vsF S E k) e0 := fun h5 => by
            have := (HF0.out.op_iff e0 (List.mem_of_getElem? HT.out)).2 h5
            rw [hov] at this
            cases this
          exact ⟨trL_shut HT.out hnf, vsF_shut HT.out hnf⟩)
        go_wp2_with (refine wpList_look_es rfl _ _ rfl rfl HES2.out e0 rfl HOK.out _ hov ?_)
        gi_wp2
        go_roundw
        case rel => exact ⟨k + 1, by omega, by go_num, hide (by rw [HSH.out.1]; exact HJ.out _ _ _ HJk.out HG2.out), hide (HI.out.grown HG2.out), hide ⟨m2, op, HES2.out, by rw [HSH.out.2]; exact HF0.out⟩⟩
        case measure => simp [intOf]; omega
      | true =>
        go_wp2_with (refine wpList_look_es rfl _ _ rfl rfl HES2.out e0 rfl HOK.out _ hov ?_)
        refine wp_name fun w3 hw3 => ?_
        obtain ⟨q8, hq8⟩ : ∃ q, w2.heap.size = q := ⟨_, rfl⟩
        have hb3 : Below w2.heap.size w2 w3 := by
          rw [hw3]
          repeat (first | with_reducible exact Below.refl _ _ | with_reducible refine Below.setCell ?_ (by first | (simp; done) | (simp; omega)) _ | with_reducible refine Below.alloc ?_ (by first | omega | (simp; omega) | simp) _)
        have HBX : Hid (BxE w3 q8 e0) := hide (by
          rw [hw3, ← hq8]
          refine ⟨?_, ⟨?_, ?_, ?_, ?_⟩, ?_, ?_, ?_, ?_⟩ <;> simp [go_sem])
        have HI2 := hide (HI.out.grown HG2.out)
        have HTR : Hid (Trip S E (vsF S E k) op e0 e0 0) := hide (HF0.out.start (List.mem_of_getElem? HT.out) hov)
        have HFR : Hid (freeE S (vsF S E k) e0) := hide ((HF0.out.op_iff e0 (List.mem_of_getElem? HT.out)).1 hov)
        have HES3 := hide (HES2.out.below hb3)
        have hq8n : n + 5 ≤ q8 := by omega
        have HIN : Hid (InS S E (vsF S E k) e0 n w2 w3 0 e0 op m2 q8 (.slice none 0 0)) := hide ⟨HTR.out, HES3.out, grown_below hb3, World.ownsRow_nil _ _ _ _, HBX.out, hq8n, by omega, by simp [Value.ownBlock], by have := opN_le E op; simpa [cnr] using this, fun _ => hov⟩
        rw [hq8]
        clear hw3 hb3 hq8 x0 x1 x2 x3 co HES2 HBX HTR HES3 hov
        generalize wr = wi at *
        go_loopg [7, 8, 9] E.length (fun gg o t _ wx => ∃ (m : Nat) (e : Eg) (op : Eg → Bool) (m2 q : Nat) (Ao : Option Addr) (co : Nat), o = .slice Ao (cnr S (uE e0 0) m).length co ∧ t = .pointer (some ⟨q, 0, none⟩) ∧ opN E op ≤ gg ∧ Hid (InS S E (vsF S E k) e0 n w2 wx m e op m2 q (.slice Ao (cnr S (uE e0 0) m).length co)))
        case atStart => exact ⟨0, e0, op, m2, q8, none, 0, rfl, rfl, opN_le _ _, HIN⟩
        case round =>
          clear HIN
          obtain ⟨m, e, op1, m21, q, Ao, cq, rfl, rfl, hgg, HIN⟩ := hrel
          have HIX := hide (HI2.out.grown HIN.out.gr)
          have co : wr.cell? ⟨n + 4, 0, none⟩ = some (.map (some (n + 3))) := HIX.out.cell HL.out.co (by omega) (by omega)
          have HOE := hide (HE.out _ HIN.out.tr.in1)
          obtain ⟨hqx, ⟨x0, x1, x2, x3⟩, _⟩ := HIN.out.bx
          obtain ⟨ov, hov⟩ : ∃ x, op1 e = x := ⟨_, rfl⟩
          cases ov with
          | false =>
            have hm : 0 < m := Nat.pos_of_ne_zero fun h5 => by
              have := HIN.out.pos h5
              rw [hov] at this
              cases this
            obtain ⟨hcyc, hfol⟩ := HIN.out.tr.stop HH.out hm hov
            obtain ⟨ht1, hpost⟩ := trL_post HT.out HFR.out hcyc
            have HVS : Hid (vsF S E (k + 1) = vsF S E k ++ [(uE e0 0, m)]) := hide (by rw [vsF_free HT.out HFR.out, cyN_eq hcyc])
            have HT1 := hide ht1
            have HFL := hide hfol
            have hJ2 := HJ.out _ _ _ HJk.out (grown_trans HG2.out HIN.out.gr)
            have hok : OkLp (cnr S (uE e0 0) m) #[.slice Ao (cnr S (uE e0 0) m).length cq] wr := ⟨Ao, cq, w2.heap.size, rfl, HIN.out.own, by obtain ⟨_, _, _, _, h5, _⟩ := turned_lp hcyc; exact h5, by have := HIN.out.cnt; omega⟩
            have HJ2 := hide hJ2
            have HOKL := hide hok
            have HPOST := hide hpost
            have HES := hide HIN.out.es
            clear ht1 hpost hcyc hfol hJ2 hok HJk hm
            go_upto_region 14 with (refine wpList_look_es rfl _ _ rfl rfl HIN.out.es e rfl HOE.out _ hov ?_)
            obtain ⟨fn, tmps, assign, body, hy, hRR⟩ := HY.out (trL S E k) (cnr S (uE e0 0) m) #[.slice Ao (cnr S (uE e0 0) m).length cq] wr HJ2.out HPOST.out HOKL.out
            clear x0 x1 x2 x3 co hqx hov hgg
            refine (wpIn_wide (n := 0)).1 ?_
            gi_wp2
            refine ⟨rfl, hRR.mono ?_⟩
            rintro r W3 (⟨rfl, hJ3, hk3⟩ | ⟨rfl, hJx3⟩)
            · have HJ3 := hide hJ3
              have HK3 := hide hk3
              clear hJ3 hk3 hRR
              gi_wp2
              go_wp2
              go_roundw
              case rel => exact ⟨k + 1, by omega, by go_num, hide (by rw [HT1.out]; exact HJ3.out), hide (HIX.out.kp HK3.out), hide ⟨m21, op1, HES.out.of_block (HK3.out.2 (n + 3) (by have := HL.out.sz; omega) (by omega)), by rw [HVS.out]; exact HFL.out⟩⟩
              case measure => simp [intOf]; omega
            · have HJx := hide hJx3
              clear hJx3 hRR
              gi_wp2
              go_wp2
              refine bodyPost_ret (results_none rfl _ _ _) rfl ?_
              exact ⟨⟨_, rfl⟩, .inr ⟨_, HJx.out⟩⟩
          | true =>
            obtain ⟨f, hf, hnx, j, hj1, hj2⟩ := HH.out.pick HIN.out.tr.in1
            have HFE := hide hf
            have HNX := hide hnx
            have HOV := hide hov
            have HJ1 := hide hj1
            have HJ2 := hide hj2
            have hqn := HIN.out.q3
            have HDC : Hid (∀ (w7 : World), wr.grownBy w7 (some (n + 3)) → Es (n + 3) m21 (fun g => op1 g && decide (g ≠ e)) w7 → ItS n bb w0 w7 ∧ BxE w7 q e) := hide (fun w7 g7 _ => ⟨HIX.out.grown g7, HIN.out.bx.grown g7 (fun h5 => by injection h5 with h5; omega)⟩)
            clear hf hnx hj1 hj2
            go_wp2_with (first
              | (refine wpList_look_es rfl _ _ rfl rfl HIN.out.es e rfl HOE.out _ hov ?_
                 clear hov)
              | (refine wpList_del_es rfl _ _ rfl rfl HIN.out.es e rfl HOE.out ?_
                 intro w7 g7 s7 es7
                 have HG7 := hide g7
                 have HES7 := hide es7
                 have HI7 := hide (HDC.out w7 g7 es7).1
                 have HB7 := hide (HDC.out w7 g7 es7).2
                 obtain ⟨hq7, ⟨y0, y1, y2, y3⟩, _⟩ := HB7.out
                 have cf : w7.cell? ⟨bf, 0, none⟩ = some (.func (.func 58) #[] #[.pointer (some ⟨n + 2, 0, none⟩)]) := HI7.out.cell HF.out hf3 hfb
                 clear g7 s7 es7 x0 x1 x2 x3 co hqx HDC))
            obtain ⟨K, vals, hgs, hp, hK⟩ := HL.out.gs
            have hc7 : w7.cell? ⟨n + 2, 0, none⟩ = some (.map (some (n + 1))) := HI7.out.cell HL.out.cn (by omega) (by omega)
            obtain ⟨⟨f0, f1⟩, f2, f3⟩ := f
            have HFO := hide ((follow_any hc7 (hgs.of_blocks (fun b hb hor => HI7.out.blk b hb (by omega) (by omega))) hp HOE.out (Nat.le_trans (fromE_len E e.2) hl) HJ1.out HJ2.out).mono (fun r w' hh => (show r = .returned (.agg #[.int .i64 f0, .int .i64 f1, .int .i64 f2, .int .i64 f3]) ∧ Below w7.heap.size w7 w' from hh)))
            clear hgs hp hK hc7
            refine HFO.out.mono ?_
            rintro r w8 ⟨rfl, hb8⟩
            have HB8 := hide (HB7.out.below hb8)
            have HES8 := hide (HES7.out.below hb8)
            have HG8 : Hid (w2.grownBy w8 (some (n + 3))) := hide (grown_trans (grown_trans HIN.out.gr HG7.out) (grown_below hb8))
            have HOW8 := hide (own_below (HIN.out.own.kept HG7.out (.inr (fun h5 => by have := (HIN.out.own.lt _ h5).1; omega))) hb8)
            clear hb8 HFO HES7 HI7 HG7 cf y0 y1 y2 y3 hq7 HB7
            go_upto_region 9 with fail
            refine wp_name fun w9 hw9 => ?_
            obtain ⟨q9, hq9⟩ : ∃ q, w8.heap.size = q := ⟨_, rfl⟩
            have hb9 : Below w8.heap.size w8 w9 := by
              rw [hw9]
              repeat (first | with_reducible exact Below.refl _ _ | with_reducible refine Below.setCell ?_ (by first | (simp; done) | (simp; omega)) _ | with_reducible refine Below.alloc ?_ (by first | omega | (simp; omega) | simp) _)
            have HX9 : Hid (BxE w9 q9 ((f0, f1), f2, f3)) := hide (by
              rw [hw9, ← hq9]
              refine ⟨?_, ⟨?_, ?_, ?_, ?_⟩, ?_, ?_, ?_, ?_⟩ <;> simp [go_sem])
            have HB9 := hide (HB8.out.below hb9)
            have HES9 := hide (HES8.out.below hb9)
            have HG9 := hide (grown_trans HG8.out (grown_below (r := some (n + 3)) hb9))
            have HOW9 := hide (own_below HOW8.out hb9)
            have HRQ : Hid (∀ g, (Value.slice Ao (cnr S (uE e0 0) m).length cq).ownBlock = some g → w2.heap.size ≤ g ∧ g < q9) := hide (fun g hg => by
              have := HOW8.out.lt g hg
              rw [← hq9]
              exact this)
            rw [hq9]
            clear hw9 hb9 hq9 HB8 HES8 HG8 HOW8
            obtain ⟨hq9l, ⟨y0, y1, y2, y3⟩, _⟩ := HX9.out
            obtain ⟨hql, ⟨x0, x1, x2, x3⟩, _⟩ := HB9.out
            have HWF := hide (fun y : Above w9 => above_of (x := y) (way_any ((f0, f1), f2, f3) y.get))
            have HWE := hide (fun y : Above w9 => above_of (x := y) (way_any e y.get))
            obtain ⟨W0, hW0⟩ : ∃ x, wayF e = x := ⟨_, rfl⟩
            obtain ⟨W1, hW1⟩ : ∃ x, wayF ((f0, f1), f2, f3) = x := ⟨_, rfl⟩
            have HW0 := hide hW0
            have HW1 := hide hW1
            rw [hW0] at HWE
            rw [hW1] at HWF
            obtain ⟨px, py⟩ := W0
            obtain ⟨rx, ry⟩ := W1
            simp only [encG] at HWE HWF
            clear hW0 hW1
            have gq : Tryz.prog.eqGuardType Tryz.prog.depth 53 = false := by kernel_rfl
            by_cases hw : (rx, ry) = (px, py)
            · obtain ⟨rfl, rfl⟩ := Prod.mk.inj hw
              refine wp_hab fun hab => ?_
              refine wp_region_above (by kernel_rfl) (by kernel_rfl) ?_
              repeat (go_big_quiet_step ((go_at_call 41; first | with_reducible exact HWF.out _ | with_reducible exact HWE.out _)))
              refine wpQuiet_nil ?_
              refine above_ends fun wA hbA => ?_
              have HXA := hide (HX9.out.below hbA)
              have HBA := hide (HB9.out.below hbA)
              have HFI := hide (HIN.out.fin HH.out HFE.out HNX.out HOV.out (HES9.out.below hbA) (grown_trans HG9.out (grown_below hbA)) (C := cnr S (uE e0 0) m) (by rw [HW0.out, HW1.out, if_pos rfl, List.append_nil]) (own_below HOW9.out hbA) HBA.out.1 HIN.out.nq)
              clear hab hbA x0 x1 x2 x3 y0 y1 y2 y3 HWF HWE HX9 HB9 HES9 HG9 HOW9
              obtain ⟨hq9A, ⟨y0, y1, y2, y3⟩, _⟩ := HXA.out
              obtain ⟨hqA, ⟨x0, x1, x2, x3⟩, s0, s1, s2, s3⟩ := HBA.out
              go_wp2
              go_roundg (opN E (fun g => op1 g && decide (g ≠ e)))
              case measure => have := HFI.out.2.2; omega
              case rel => exact ⟨m + lnE e, ((f0, f1), f2, f3), _, m21, wA.heap.size, Ao, cq, by rw [← HFI.out.1], by simp, Nat.le_refl _, hide (by rw [← HFI.out.1]; exact HFI.out.2.1)⟩
            · have HWX := hide hw
              clear hw
              apply wp_join0 (R := fun w' => Below w9.heap.size w9 w')
              · by_cases hx : rx = px
                rotate_left 1
                · have b0 : (rx == px) = false := by simpa using hx
                  clear hx
                  refine wp_hab fun hab => ?_
                  refine wp_region_above (by kernel_rfl) (by kernel_rfl) ?_
                  repeat (go_big_quiet_step ((go_at_call 41; first | with_reducible exact HWF.out _ | with_reducible exact HWE.out _)))
                  refine wpQuiet_nil ?_
                  refine above_ends fun wA hbA => ?_
                  exact ⟨rfl, rfl, hbA⟩
                · have hy : ¬ ry = py := fun h5 => HWX.out (by rw [hx, h5])
                  have b0 : (rx == px) = true := by simpa using hx
                  have b1 : (ry == py) = false := by simpa using hy
                  clear hx hy
                  refine wp_hab fun hab => ?_
                  refine wp_region_above (by kernel_rfl) (by kernel_rfl) ?_
                  repeat (go_big_quiet_step ((go_at_call 41; first | with_reducible exact HWF.out _ | with_reducible exact HWE.out _)))
                  refine wpQuiet_nil ?_
                  refine above_ends fun wA hbA => ?_
                  exact ⟨rfl, rfl, hbA⟩
              · intro wA hbA
                have HWN : Hid (¬ wayF ((f0, f1), f2, f3) = wayF e) := hide (by rw [HW0.out, HW1.out]; exact HWX.out)
                have HXA := hide (HX9.out.below hbA)
                have HBA := hide (HB9.out.below hbA)
                have HESA := hide (HES9.out.below hbA)
                have HGA := hide (grown_trans HG9.out (grown_below (r := some (n + 3)) hbA))
                have HOWA := hide (own_below HOW9.out hbA)
                clear hbA x0 x1 x2 x3 y0 y1 y2 y3 HWF HWE HX9 HB9 HES9 HG9 HOW9 gq HW0 HW1
                obtain ⟨hqA, ⟨x0, x1, x2, x3⟩, _⟩ := HBA.out
                have hcl : (cnr S (uE e0 0) m).length ≤ 100000 := by have := HIN.out.cnt; omega
                have hw2A := HGA.out.size
                have HX : Hid ((cnr S (uE e0 0) m).flatMap encS ++ [.int .i64 e.2.1, .int .i64 e.2.2] = (cnr S (uE e0 0) m ++ [e.2]).flatMap encS) := hide (by simp [encS])
                go_wp2_with (at_builtin; go_loud (refine wpList_append_lies _ rfl (.tmp 34) (.tmp 37) 36 rfl w2.heap.size 53 i1 (.agg #[.int .i64 0, .int .i64 0]) 2 16 Tryz.underlying36 gi gz0 gz1 gz2 rfl (by decide) _ (cnr S (uE e0 0) m).length _ rfl (World.ownsRow.alloc HOWA.out _) ⟨wA.heap.size, 0, none⟩ 1 1 [.int .i64 e.2.1, .int .i64 e.2.2] rfl rfl (news_new wA _ _ _ rfl) (ints_one rfl) (by omega) (by unfold maxLen; omega) (by omega) (by simp; omega) _ rfl ?_))
                intro g9 cap9 wB hown9 hgrow9 hor9 hlt9
                rw [HX.out] at hown9
                have HLOC : Hid ((Value.slice Ao (cnr S (uE e0 0) m).length cq).ownBlock = some g9 ∨ wA.heap.size < g9) := hide (by
                  rcases hor9 with h5 | h5
                  · exact .inl h5
                  · right
                    first | omega | (simp at h5; omega))
                have HXB := hide ((HXA.out.below ((Below.refl _ _).alloc (Nat.le_refl _) _)).grown hgrow9 (fun h5 => by have := (HRQ.out q9 h5).2; omega))
                have HBB := hide ((HBA.out.below ((Below.refl _ _).alloc (Nat.le_refl _) _)).grown hgrow9 HIN.out.nq)
                have HLN : Hid ((cnr S (uE e0 0) m ++ [e.2]).length = (cnr S (uE e0 0) m).length + 1) := hide (by simp)
                have HFI := hide (HIN.out.fin HH.out HFE.out HNX.out HOV.out (wA := wB) ((HESA.out.below ((Below.refl _ _).alloc (Nat.le_refl _) _)).grown hgrow9 (fun h5 => by have := (HRQ.out _ h5.symm).1; have := HESA.out.lt; have := HG2.out.size; have := HIN.out.es.lt; omega)) (grown_new (grown_trans HGA.out (grown_below ((Below.refl _ _).alloc (Nat.le_refl _) _))) hgrow9 (fun g hg => (HRQ.out g hg).1)) (C := cnr S (uE e0 0) m ++ [e.2]) (by rw [if_neg HWN.out]) (v' := .slice (some ⟨g9, 0, none⟩) ((cnr S (uE e0 0) m).length + 1) cap9) (by rw [HLN.out]; exact hown9) HBB.out.1 (fun h5 => by
                  have h6 : g9 = q := by simpa [Value.ownBlock] using h5
                  rcases HLOC.out with h7 | h7
                  · rw [h6] at h7
                    exact HIN.out.nq h7
                  · omega))
                clear hown9 hgrow9 hor9 hlt9 x0 x1 x2 x3
                obtain ⟨hq9B, ⟨y0, y1, y2, y3⟩, _⟩ := HXB.out
                obtain ⟨hqB, ⟨x0, x1, x2, x3⟩, s0, s1, s2, s3⟩ := HBB.out
                go_wp2
                go_roundg (opN E (fun g => op1 g && decide (g ≠ e)))
                case measure => have := HFI.out.2.2; omega
                case rel => exact ⟨m + lnE e, ((f0, f1), f2, f3), _, m21, wB.heap.size, some ⟨g9, 0, none⟩, cap9, by rw [← HFI.out.1, HLN.out], by simp, Nat.le_refl _, hide (by rw [← HFI.out.1, HLN.out]; exact HFI.out.2.1)⟩
    · have kz : ¬ (k : Int) < (E.length : Int) := by omega
      obtain rfl : k = E.length := by omega
      gi_wp2
      go_end0
      exact ⟨⟨_, rfl⟩, .inl HJk.out⟩
end Go.Proofs.YtdfpbhlnlkjjlaaGreat

/- Outlines: loops compared, with nothing but new blocks laid; slices.SortFunc at loops. -/
namespace Go.Proofs.YtdfpbhlnlkjjlaaGreat
open Go.RowKit Go.Sort
set_option linter.unusedVariables false
set_option linter.unusedSimpArgs false
def Grw (w w' : World) : Prop := ∃ q os, w' = grow (w.drewN q) os
theorem Grw.refl (w : World) : Grw w w := ⟨0, #[], by rw [grow_empty]; rfl⟩
theorem Grw.trans {a b c : World} (h : Grw a b) (k : Grw b c) : Grw a c := by
 obtain ⟨q, os, rfl⟩ := h
 obtain ⟨r, ps, rfl⟩ := k
 exact ⟨q + r, os ++ ps, by show grow (grow ((a.drewN q).drewN r) os) ps = _; rw [grow_grow, World.drewN_drewN]⟩
theorem Grw.alloc {a b : World} (h : Grw a b) (o : Obj) : Grw a (b.alloc o) := h.trans ⟨0, #[o], by rw [alloc_eq_grow]; rfl⟩
theorem Grw.drew {a b : World} (h : Grw a b) : Grw a b.drew := h.trans ⟨1, #[], by rw [grow_empty]; rfl⟩
theorem Grw.below {a b : World} (h : Grw a b) : Below a.heap.size a b := by
 obtain ⟨q, os, rfl⟩ := h
 refine ⟨rfl, rfl, rfl, ?_, fun k hk => ?_⟩
 ·show a.heap.size ≤ (a.heap ++ os).size
  simp
 ·show (a.heap ++ os)[k]? = _
  rw [Array.getElem?_append_left hk]
set_option maxRecDepth 100000 in
set_option maxHeartbeats 4000000 in
theorem cmpG_any (a b : Pt) (w : World) :
  Calls Tryz.prog 40 #[.agg #[.int .i64 a.1, .int .i64 a.2], .agg #[.int .i64 b.1, .int .i64 b.2]] w fun r w' => r = .returned (.int .i64 (cmpP a b)) ∧ Grw w w' := by
 obtain ⟨ax, ay⟩ := a
 obtain ⟨bx, cy⟩ := b
 have HW : Hid (cmpP (ax, ay) (bx, cy) = if cmpI ax bx = 0 then cmpI ay cy else cmpI ax bx) := hide rfl
 obtain ⟨R, hR⟩ : ∃ R, cmpP (ax, ay) (bx, cy) = R := ⟨_, rfl⟩
 rw [hR] at HW ⊢
 simp only
 clear hR
 have HC := hide (fun (x y : Int) (W : World) => cmpI_any x y W)
 go_enter Tryz.func40, Tryz.ntmps40
 go_upto_region 1 with fail
 refine wp_name fun w0 hw0 => ?_
 have HB0 : Hid (Grw w w0) := hide (by rw [hw0]; exact ((Grw.refl _).alloc _).alloc _)
 have d0 : w0.cell? ⟨w.heap.size, 0, none⟩ = some (.int .i64 ax) := by rw [hw0]; simp [go_sem]
 have d1 : w0.cell? ⟨w.heap.size, 1, none⟩ = some (.int .i64 ay) := by rw [hw0]; simp [go_sem]
 have d2 : w0.cell? ⟨w.heap.size + 1, 0, none⟩ = some (.int .i64 bx) := by rw [hw0]; simp [go_sem]
 have d3 : w0.cell? ⟨w.heap.size + 1, 1, none⟩ = some (.int .i64 cy) := by rw [hw0]; simp [go_sem]
 have hs0 : w.heap.size + 1 < w0.heap.size := by rw [hw0]; simp
 have hs1 : w.heap.size < w0.heap.size := by omega
 have HD := hide (And.intro (And.intro d0 (And.intro d1 (And.intro d2 d3))) (And.intro hs0 hs1))
 clear hw0 d0 d1 d2 d3
 have HBK : Hid (Grw w0 w0.drew) := hide (Grw.refl _).drew
 refine wp_region_mix [0, 1, 2, 3, 5, 6, 7, 8] [4, 9, 10, 11, 12] (fun w' => Grw w0 w') (by kernel_rfl) (by kernel_rfl) HBK.out ?_
 simp only [List.map_cons, List.map_nil, opAt, List.getElem?_cons_succ, List.getElem?_cons_zero, Option.getD_some]
 generalize w0.drew = wk at *
 iterate 8
  refine ⟨?_, Or.inl ⟨by rfl, ?_⟩, ?_⟩
  rotate_left 1
  ·intro w' hSw
   obtain ⟨⟨d0, d1, d2, d3⟩, hs0, hs1⟩ := HD.out
   replace d0 := (hSw.below.cell (p := ⟨w.heap.size, 0, none⟩) hs1).trans d0
   replace d1 := (hSw.below.cell (p := ⟨w.heap.size, 1, none⟩) hs1).trans d1
   replace d2 := (hSw.below.cell (p := ⟨w.heap.size + 1, 0, none⟩) hs0).trans d2
   replace d3 := (hSw.below.cell (p := ⟨w.heap.size + 1, 1, none⟩) hs0).trans d3
   clear hSw
   go_simp
   first | done | with_reducible rfl
  simp only [Act.put, List.setIfInBounds_toArray, List.set_cons_zero, List.set_cons_succ]
 simp only [wpReads]
 intro K hK
 simp only [Act.put, List.setIfInBounds_toArray, List.set_cons_zero, List.set_cons_succ] at hK ⊢
 go_simp
 refine (HC.out _ _ _).mono ?_
 rintro e wc ⟨rfl, rfl⟩
 refine hK _ _ (fun _ => HBK.out) ?_
 clear hK K
 intro K hK
 simp only [Act.put, List.setIfInBounds_toArray, List.set_cons_zero, List.set_cons_succ] at hK ⊢
 go_simp
 refine (HC.out _ _ _).mono ?_
 rintro e wc ⟨rfl, rfl⟩
 refine hK _ _ (fun _ => HBK.out) ?_
 clear hK K
 intro K hK
 simp only [Act.put, List.setIfInBounds_toArray, List.set_cons_zero, List.set_cons_succ] at hK ⊢
 go_simp
 have HB1 : Hid (Grw w0 (wc.alloc (.cells #[.int .i64 (cmpI ax bx), .int .i64 (cmpI ay cy)] 3))) := hide (HBK.out.alloc _)
 refine hK _ _ (fun _ => HB1.out) ?_
 clear hK K
 intro K hK
 simp only [Act.put, List.setIfInBounds_toArray, List.set_cons_zero, List.set_cons_succ] at hK ⊢
 go_simp
 refine (or2_any (b := wc.heap.size) (x := cmpI ax bx) (y := cmpI ay cy) (by simp) (by simp [go_sem]) (by simp [go_sem])).mono ?_
 rintro e wd ⟨rfl, rfl⟩
 refine hK _ _ (fun _ => HB1.out) ?_
 clear hK K
 intro K hK
 simp only [Act.put, List.setIfInBounds_toArray, List.set_cons_zero, List.set_cons_succ] at hK ⊢
 go_simp
 refine hK _ _ (fun h => absurd rfl h) ?_
 clear hK K
 refine NoPanic.normal ?_
 rw [← HW.out]
 go_wp2_with (fail)
 go_ret
 exact ⟨rfl, HB0.out.trans HB1.out⟩
set_option maxRecDepth 100000 in
set_option maxHeartbeats 4000000 in
theorem cmpLG_any {w : World} {vs vt : Value} {s t : List Pt} {B : Nat} (hB : B ≤ w.heap.size) (hs : RdK encS 2 w B vs s) (ht : RdK encS 2 w B vt t) (ns : s.length ≤ 100000000) (nt : t.length ≤ 100000000) :
  Calls Tryz.prog 39 #[vs, vt, .func (.func 40) #[] #[]] w fun e w' => e = .returned (.int .i64 (cmpL s t)) ∧ Grw w w' := by
 obtain ⟨A1, c1, rfl, h1⟩ := hs
 obtain ⟨A2, c2, rfl, h2⟩ := ht
 have H1 := hide h1
 have H2 := hide h2
 clear h1 h2
 go_enter Tryz.func39, Tryz.ntmps39
 go_wp2
 go_loopw [13] (fun i wr => ∃ k : Nat, k ≤ s.length ∧ k ≤ t.length ∧ i = .int .i64 k ∧ Hid (cmpL s t = cmpL (s.drop k) (t.drop k)) ∧ Hid (Grw w wr)) (fun i _ => s.length - (intOf i).toNat)
 case atStart => exact ⟨0, Nat.zero_le _, Nat.zero_le _, rfl, hide rfl, hide (Grw.refl _)⟩
 case round =>
  obtain ⟨k, hk, hk2, rfl, HT, HB⟩ := hrel
  by_cases hlt : k < s.length
  ·obtain ⟨⟨a0, a1⟩, hp⟩ : ∃ p, s[k]? = some p := ⟨_, List.getElem?_eq_getElem hlt⟩
   obtain ⟨p1, o1, rfl, hp1, k1⟩ := H1.out (by intro e; rw [e] at hlt; simp at hlt)
   have hp1w : p1 < w.heap.size := by omega
   have x0 : wr.cell? ⟨p1, o1 + k * 2, none⟩ = some (.int .i64 a0) := (HB.out.below.cell (p := ⟨p1, _, none⟩) hp1w).trans (k1 k _ hp 0 _ rfl)
   have x1 : wr.cell? ⟨p1, o1 + k * 2 + 1, none⟩ = some (.int .i64 a1) := (HB.out.below.cell (p := ⟨p1, _, none⟩) hp1w).trans (k1 k _ hp 1 _ rfl)
   have z1 : (k : Int) < (s.length : Int) := by omega
   have HP := hide hp
   clear hp k1
   by_cases hlt2 : k < t.length
   ·obtain ⟨⟨b0, b1⟩, hq⟩ : ∃ p, t[k]? = some p := ⟨_, List.getElem?_eq_getElem hlt2⟩
    obtain ⟨p2, o2, rfl, hp2, k2⟩ := H2.out (by intro e; rw [e] at hlt2; simp at hlt2)
    have hp2w : p2 < w.heap.size := by omega
    have hp2r : p2 < wr.heap.size := Nat.lt_of_lt_of_le hp2w HB.out.below.size
    have hp1r : p1 < wr.heap.size := Nat.lt_of_lt_of_le hp1w HB.out.below.size
    have y0 : wr.cell? ⟨p2, o2 + k * 2, none⟩ = some (.int .i64 b0) := (HB.out.below.cell (p := ⟨p2, _, none⟩) hp2w).trans (k2 k _ hq 0 _ rfl)
    have y1 : wr.cell? ⟨p2, o2 + k * 2 + 1, none⟩ = some (.int .i64 b1) := (HB.out.below.cell (p := ⟨p2, _, none⟩) hp2w).trans (k2 k _ hq 1 _ rfl)
    have z2 : ¬ (k : Int) ≥ (t.length : Int) := by omega
    have hst : cmpL s t = if cmpP (a0, a1) (b0, b1) = 0 then cmpL (s.drop (k + 1)) (t.drop (k + 1)) else cmpP (a0, a1) (b0, b1) := by
     rw [HT.out, drop_at HP.out, drop_at hq]
     rfl
    have HST := hide hst
    clear hq k2 hst
    go_upto_region 7 with fail
    refine wp_name fun w1 hw1 => ?_
    have hb1 : Grw wr w1 := by
     rw [hw1]
     repeat (first | with_reducible exact Grw.refl _ | with_reducible refine Grw.alloc ?_ _)
    obtain ⟨n0, hn0⟩ : ∃ n, wr.heap.size = n := ⟨_, rfl⟩
    have e0 : w1.cell? ⟨n0, 0, none⟩ = some (.int .i64 a0) := by rw [hw1, ← hn0]; simp [go_sem]
    have e1 : w1.cell? ⟨n0, 1, none⟩ = some (.int .i64 a1) := by rw [hw1, ← hn0]; simp [go_sem]
    have e2 : w1.cell? ⟨n0 + 1, 0, none⟩ = some (.int .i64 b0) := by rw [hw1, ← hn0]; simp [go_sem]
    have e3 : w1.cell? ⟨n0 + 1, 1, none⟩ = some (.int .i64 b1) := by rw [hw1, ← hn0]; simp [go_sem]
    have HB1 := hide (HB.out.trans hb1)
    have HC := hide (cmpG_any (a0, a1) (b0, b1) w1)
    obtain ⟨R, hR⟩ : ∃ R, cmpP (a0, a1) (b0, b1) = R := ⟨_, rfl⟩
    rw [hR] at HC HST
    rw [hn0]
    simp only at HC
    clear hw1 hb1 hn0 hR HB x0 x1 y0 y1 hp1r hp2r
    go_wp2_with (fail)
    go_at_call 40
    refine HC.out.mono ?_
    rintro e w2 ⟨rfl, hb2⟩
    have HB2 := hide (HB1.out.trans hb2)
    clear hb2 HC HB1 e0 e1 e2 e3
    by_cases hr0 : R = 0
    ·have HN : Hid (cmpL s t = cmpL (s.drop (k + 1)) (t.drop (k + 1))) := hide (by rw [HST.out, if_pos hr0])
     subst hr0
     go_wp2
     go_roundw
     case rel => exact ⟨k + 1, by omega, by omega, by go_num, HN, HB2⟩
     case measure => simp [intOf]; omega
    ·have HN : Hid (cmpL s t = R) := hide (by rw [HST.out, if_neg hr0])
     have zr : (R != 0) = true := by simpa using hr0
     go_wp2
     go_ret
     exact ⟨ret_eq (by rw [HN.out]; rfl), HB2.out⟩
   ·have z2 : (k : Int) ≥ (t.length : Int) := by omega
    have HN : Hid (cmpL s t = 1) := hide (by
     rw [HT.out, drop_at HP.out, List.drop_of_length_le (l := t) (i := k) (by omega)]
     rfl)
    go_wp2
    go_ret
    refine ⟨ret_eq (by rw [HN.out]; rfl), ?_⟩
    have := HB.out
    have hsw := HB.out.below.size
    repeat (first | with_reducible assumption | with_reducible refine Grw.alloc ?_ _)
  ·have z1 : ¬ (k : Int) < (s.length : Int) := by omega
   have e1 : s.drop k = [] := List.drop_of_length_le (by omega)
   by_cases hlt2 : s.length < t.length
   ·have z2 : (s.length : Int) < (t.length : Int) := by omega
    have HN : Hid (cmpL s t = -1) := hide (by
     rw [HT.out, e1, drop_at (List.getElem?_eq_getElem (show k < t.length by omega))]
     rfl)
    go_wp2
    go_ret
    exact ⟨ret_eq (by rw [HN.out]; rfl), HB.out⟩
   ·have z2 : ¬ (s.length : Int) < (t.length : Int) := by omega
    have HN : Hid (cmpL s t = 0) := hide (by
     rw [HT.out, e1, List.drop_of_length_le (by omega)]
     rfl)
    go_wp2
    go_ret
    exact ⟨ret_eq (by rw [HN.out]; rfl), HB.out⟩
theorem enter_Of1 : ∀ args w, (callFunc 38 args).run Tryz.prog w = .ok (.enter 38 args) w := enters_of Tryz.func38 (by kernel_rfl) rfl
theorem cmpOf_any {w : World} {vs vt : Value} {s t : List Pt} {B : Nat} (hB : B ≤ w.heap.size) (hs : RdK encS 2 w B vs s) (ht : RdK encS 2 w B vt t) (ns : s.length ≤ 100000000) (nt : t.length ≤ 100000000) :
  Calls Tryz.prog 38 #[vs, vt] w fun e w' => e = .returned (.int .i64 (cmpL s t)) ∧ Grw w w' := by
 have HC := hide (cmpLG_any hB hs ht ns nt)
 obtain ⟨A1, c1, rfl, _⟩ := hs
 obtain ⟨A2, c2, rfl, _⟩ := ht
 go_enter Tryz.func38, Tryz.ntmps38
 go_wp2_with (fail)
 refine HC.out.mono ?_
 rintro e w2 ⟨rfl, hb⟩
 go_wp2
 go_ret
 exact ⟨rfl, hb⟩
theorem cmpP_zero (a b : Pt) : cmpP a b = 0 ↔ a = b := by
 obtain ⟨ax, ay⟩ := a
 obtain ⟨bx, cy⟩ := b
 unfold cmpP cmpI
 simp only [Prod.mk.injEq]
 repeat' split
 all_goals omega
theorem cmpL_lt : ∀ a b : List Pt, cmpL a b < 0 ↔ ltL a b
 | [], [] => by simp [cmpL, ltL]
 | [], _ :: _ => by simp [cmpL, ltL]
 | _ :: _, [] => by simp [cmpL, ltL]
 | a :: s, b :: t => by
  unfold cmpL ltL
  by_cases e : a = b
  ·rw [if_pos ((cmpP_zero a b).2 e), if_pos e]
   exact cmpL_lt s t
  ·rw [if_neg fun h => e ((cmpP_zero a b).1 h), if_neg e]
   exact cmpP_lt a b
instance decLtL (a b : List Pt) : Decidable (ltL a b) := decidable_of_iff (cmpL a b < 0) (cmpL_lt a b)
abbrev GoodL (w : World) (base : Nat) : Type := { p : Value × List Pt // w.ownsRow base 53 2 p.1 p.2.length (p.2.flatMap encS) ∧ p.2.length ≤ 100000000 }
instance (w : World) (base : Nat) : Inhabited (GoodL w base) := ⟨⟨(.slice none 0 0, []), World.ownsRow_nil _ _ _ _, by simp⟩⟩
def encL {w : World} {base : Nat} (x : GoodL w base) : Value := x.1.1
def cfL {w : World} {base : Nat} (x y : GoodL w base) : Int := cmpL x.1.2 y.1.2
theorem cfL_lt {w : World} {base : Nat} (x y : GoodL w base) : ltOf cfL x y = decide (ltL x.1.2 y.1.2) := by
 unfold ltOf cfL
 rw [decide_eq_decide]
 exact cmpL_lt _ _
theorem swoL (w : World) (base : Nat) : SWO (ltOf (cfL (w := w) (base := base))) where
 irrefl x := by rw [cfL_lt]; exact decide_eq_false (ltL_irr _)
 trans x y z h1 h2 := by
  rw [cfL_lt] at *
  exact decide_eq_true (ltL_tr (of_decide_eq_true h1) (of_decide_eq_true h2))
 ntrans x y z h1 h2 := by
  rw [cfL_lt] at *
  have a := of_decide_eq_false h1
  have b := of_decide_eq_false h2
  refine decide_eq_false fun h => ?_
  by_cases e : x.1.2 = y.1.2
  ·rw [e] at h; exact b h
  ·rcases ltL_or e with h5 | h5
   ·exact a h5
   ·exact b (ltL_tr h5 h)
theorem lift_l {w : World} {base : Nat} : ∀ (L : List (List Pt)) (vs : List Value), vs.length = L.length → (∀ (i : Nat) (l : List Pt), L[i]? = some l → ∃ u, vs[i]? = some u ∧ w.ownsRow base 53 2 u l.length (l.flatMap encS)) → (∀ l ∈ L, l.length ≤ 100000000) → ∃ D : List (GoodL w base), D.map (fun x => x.1.1) = vs ∧ D.map (fun x => x.1.2) = L
 | [], [], _, _, _ => ⟨[], rfl, rfl⟩
 | [], _ :: _, h, _, _ => by simp at h
 | _ :: _, [], h, _, _ => by simp at h
 | l :: L, v :: vs, h, h2, h3 => by
  obtain ⟨D, d1, d2⟩ := lift_l L vs (by simpa using h) (fun i x hx => by
   obtain ⟨u, h4, h5⟩ := h2 (i + 1) x (by simpa using hx)
   exact ⟨u, by simpa using h4, h5⟩) (fun x hx => h3 x (by simp [hx]))
  obtain ⟨u, h4, h5⟩ := h2 0 l rfl
  have : v = u := by simpa using h4
  subst this
  exact ⟨⟨(v, l), h5, h3 l (by simp)⟩ :: D, by simp [d1], by simp [d2]⟩
theorem sortLp_any (base : Nat) (v : Value) (L : List (List Pt)) (vs : List Value) (w : World) (hown : w.ownsRow base 36 1 v L.length vs) (hrd : ∀ (i : Nat) (l : List Pt), L[i]? = some l → ∃ u, vs[i]? = some u ∧ w.ownsRow base 53 2 u l.length (l.flatMap encS)) (hl : ∀ l ∈ L, l.length ≤ 100000000) (hsz : L.length < 4611686018427387904) :
  Calls Tryz.prog 37 #[v, .func (.func 38) #[] #[]] w fun e w' => e = .returned (.tuple #[]) ∧
   ∃ (L' : List (List Pt)) (vs' : List Value), L'.Perm L ∧ L'.Pairwise (fun a b => ¬ ltL b a) ∧ w'.ownsRow base 36 1 v L'.length vs' ∧ (∀ (i : Nat) (l : List Pt), L'[i]? = some l → ∃ u, vs'[i]? = some u ∧ w'.ownsRow base 53 2 u l.length (l.flatMap encS)) ∧ w.grownBy w' v.ownBlock := by
 by_cases h0 : L = []
 ·subst h0
  obtain ⟨p, cap, rfl⟩ := own_form hown
  have h := AnyF.slices_SortFunc_none Tryz.sortLp p cap (.func (.func 38) #[] #[]) w
  change Calls Tryz.prog 37 _ _ _ at h
  refine h.mono ?_
  rintro e w' ⟨rfl, rfl⟩
  exact ⟨rfl, [], vs, .refl _, .nil, hown, fun i l hi => by simp at hi, grown_self _ _⟩
 ·have hvl : vs.length = L.length := by have := hown.1; omega
  obtain ⟨D, hD1, hD2⟩ := lift_l L vs hvl hrd hl
  have hlen : D.length = L.length := by rw [← hD2]; simp
  have hown0 := hown
  have e1 : vs = D.map encL := hD1.symm
  rw [e1, ← hlen] at hown
  have hv : v ≠ .slice none 0 0 := by
   rintro rfl
   rcases hown.2 with ⟨_, h⟩ | ⟨g, cap, cur, h, _⟩
   ·exact h0 (List.eq_nil_of_length_eq_zero (by omega))
   ·cases h
  obtain ⟨g, cap, rfl, hb, hg, hn, hm, _, hH⟩ := Lib.holds_of_ownsRow hown hv
  have hone : OneCell (encL (w := w) (base := base)) := fun x => by
   obtain ⟨⟨u, l⟩, h1, _⟩ := x
   rcases h1.2 with ⟨h2, _⟩ | ⟨_, _, _, h2, _⟩ <;> (simp only at h2; subst h2; rfl)
  have hcmp : CmpLays1 Tryz.prog 38 #[] (encL (w := w) (base := base)) cfL g 0 D.toArray.size w := fun m os dk _ x y => by
   have hgr : w.grownBy (sortWorld encL w g 0 m dk os) (some g) := putRow_grown w m g dk os
   have key : ∀ z : GoodL w base, RdK encS 2 (sortWorld encL w g 0 m dk os) (sortWorld encL w g 0 m dk os).heap.size (encL z) z.1.2 := fun z => own_rd (z.2.1.kept hgr (own_apart z.2.1 hown0 (by decide))) (fun _ => rfl)
   exact cmpOf_any (Nat.le_refl _) (key x) (key y) x.2.2 y.2.2
  have hcon := Any.slices_SortFunc Tryz.sortLpB encL hone cfL (swoL w base) 38 #[] g 0 cap D.toArray w enter_Of1 hcmp hH hg (by simpa [hlen] using hsz)
  change Calls Tryz.prog 37 _ _ _ at hcon
  rw [List.size_toArray] at hcon
  refine hcon.mono ?_
  rintro e w' ⟨rfl, d', n, os, hp, hs, rfl⟩
  obtain ⟨hp1, _, hp3⟩ := hp
  have hsz' : d'.toList.length = D.length := by simpa using hp1
  have hperm : d'.toList.Perm D := by
   have e1 : (d'.extract 0 D.length).toList = d'.toList := by
    rw [Array.toList_extract, List.extract_eq_take_drop, List.drop_zero, Nat.sub_zero, ← hsz', List.take_length]
   have e2 : (D.toArray.extract 0 D.length).toList = D := by
    simp [List.extract]
   rw [e1, e2] at hp3
   exact hp3
  have hgr : w.grownBy (sortWorld encL w g 0 n d' os) (some g) := putRow_grown w n g d' os
  refine ⟨rfl, d'.toList.map (fun x => x.1.2), d'.toList.map encL, ?_, ?_, ?_, fun i l hi => ?_, hgr⟩
  ·rw [← hD2]; exact hperm.map _
  ·rw [List.pairwise_map, List.pairwise_iff_getElem]
   intro i j hi hj hij
   have := hs i j (Nat.zero_le _) hij (by rw [← hsz']; exact hj)
   have hi' : i < d'.size := by simpa using hi
   have hj' : j < d'.size := by simpa using hj
   rw [getElem!_pos d' i hi', getElem!_pos d' j hj', cfL_lt] at this
   have := of_decide_eq_false this
   rw [Array.getElem_toList, Array.getElem_toList]
   exact this
  ·have h9 := Lib.ownsRow_putRow (enc := encL) (q := n) (k := d'.toList.length) (ys := d'.toList) hown hsz' (Nat.le_of_eq hsz')
   rw [List.take_length] at h9
   have eW : d'.toList.toArray = d' := by simp
   rw [eW] at h9
   rw [List.length_map]
   have h10 := own_grow h9 os
   rw [hsz'] at h10 ⊢
   exact h10
  ·rw [List.getElem?_map] at hi
   rcases hx : d'.toList[i]? with _ | x
   ·rw [hx] at hi; cases hi
   ·rw [hx] at hi
    have : x.1.2 = l := by simpa using hi
    subst this
    refine ⟨encL x, by rw [List.getElem?_map, hx]; rfl, x.2.1.kept hgr (own_apart x.2.1 hown0 (by decide))⟩
end Go.Proofs.YtdfpbhlnlkjjlaaGreat

/- Outlines: edges. -/
namespace Go.Proofs.YtdfpbhlnlkjjlaaGreat
open Go.RowKit
set_option linter.unusedVariables false
set_option linter.unusedSimpArgs false
theorem levE_take {l : List R4} {k : Nat} {t : R4} (h : l[k]? = some t) : (l.take (k + 1)).flatMap levE = (l.take k).flatMap levE ++ levE t := by
 rw [List.take_add_one, h, List.flatMap_append]
 simp
theorem levE_len : ∀ l : List R4, (l.flatMap levE).length = 2 * l.length
 | [] => rfl
 | t :: l => by rw [List.flatMap_cons, List.length_append, levE_len l, List.length_cons]; show 2 + _ = _; omega
theorem ys_can {l : List R4} (hc : RCan l) (p : R4 → Bool) (c : Int) (hp : ∀ t ∈ l, p t = true → t.x0 ≤ c ∧ c < t.x1) : SCan (ysP l p) := by
 have hs := crossL_can hc c
 have hsub : (ysP l p).Sublist (crossL l c) := by
  unfold ysP crossL
  refine List.Sublist.map _ ?_
  have e : l.filter p = (l.filter fun r => decide (r.x0 ≤ c) && decide (c < r.x1)).filter p := by
   rw [List.filter_filter]
   refine List.filter_congr fun t ht => ?_
   cases h5 : p t
   ·rfl
   ·have := hp t ht h5
    simp [this.1, this.2]
  rw [e]
  exact List.filter_sublist
 exact ⟨fun q hq => hs.1 q (hsub.subset hq), hs.2.sublist hsub⟩
theorem side_self {l : List R4} {p : R4 → Bool} (h : SCan (ysP l p)) : sideF l p = ysP l p := by
 unfold sideF
 exact (sjoin_eq (h := hFst) rfl h.1 (by simp) h fun x => by simp [hFst]).symm
theorem bef_ok {l : List R4} (hc : RCan l) (hv : ∀ t ∈ l, validS (t.y0, t.y1)) (x : Int) : (befE l x).length ≤ l.length ∧ SCan (befE l x) ∧ ∀ p ∈ befE l x, validS p := by
 have h := ys_can hc (fun t => t.x1 == x) (x - 1) fun t ht h5 => by
  have := (can_wf hc t ht).1
  have : t.x1 = x := by simpa using h5
  omega
 unfold befE
 rw [side_self h]
 refine ⟨ysP_len _ _, h, fun q hq => ?_⟩
 unfold ysP at hq
 obtain ⟨t, ht, rfl⟩ := List.mem_map.1 hq
 exact hv t (List.mem_filter.1 ht).1
theorem beh_ok {l : List R4} (hc : RCan l) (hv : ∀ t ∈ l, validS (t.y0, t.y1)) (x : Int) : (behE l x).length ≤ l.length ∧ SCan (behE l x) ∧ ∀ p ∈ behE l x, validS p := by
 have h := ys_can hc (fun t => t.x0 == x) x fun t ht h5 => by
  have := (can_wf hc t ht).1
  have : t.x0 = x := by simpa using h5
  omega
 unfold behE
 rw [side_self h]
 refine ⟨ysP_len _ _, h, fun q hq => ?_⟩
 unfold ysP at hq
 obtain ⟨t, ht, rfl⟩ := List.mem_map.1 hq
 exact hv t (List.mem_filter.1 ht).1
theorem sub_len {l : List R4} (hc : RCan l) (hv : ∀ t ∈ l, validS (t.y0, t.y1)) (hl : l.length ≤ 100) (x : Int) : (sjoin hSub (befE l x) (behE l x)).length ≤ 400 ∧ (sjoin hSub (behE l x) (befE l x)).length ≤ 400 := by
 have h1 := (bef_ok hc hv x).1
 have h2 := (beh_ok hc hv x).1
 have h3 := sjoin_len hSub (befE l x) (behE l x)
 have h4 := sjoin_len hSub (behE l x) (befE l x)
 constructor <;> omega
def upA (x : Int) (s : Sp) : Eg := ((x, s.1), (x, s.2))
def upB (x : Int) (s : Sp) : Eg := ((x, s.2), (x, s.1))
theorem uprE_up (l : List R4) (x : Int) : uprE l x = (sjoin hSub (befE l x) (behE l x)).map (upA x) ++ (sjoin hSub (behE l x) (befE l x)).map (upB x) := rfl
theorem upr_len {l : List R4} (hc : RCan l) (hv : ∀ t ∈ l, validS (t.y0, t.y1)) (hl : l.length ≤ 100) (x : Int) : (uprE l x).length ≤ 800 := by
 have := sub_len hc hv hl x
 rw [uprE_up, List.length_append, List.length_map, List.length_map]
 omega
theorem uprs_len {l : List R4} (hc : RCan l) (hv : ∀ t ∈ l, validS (t.y0, t.y1)) (hl : l.length ≤ 100) : ∀ xs : List Int, (xs.flatMap (uprE l)).length ≤ 800 * xs.length
 | [] => by simp
 | x :: xs => by
  have := upr_len hc hv hl x
  have := uprs_len hc hv hl xs
  rw [List.flatMap_cons, List.length_append, List.length_cons]
  omega
theorem EdI.cuts {w wr w1 : World} {vo vc vc' : Value} {E : List Eg} {C D : List Int} (h : EdI w wr vo vc E C) (g : wr.grownBy w1 vc.ownBlock) (ho : w1.ownsRow w.heap.size 3 1 vc' D.length (D.map iv)) (hb : vc'.ownBlock = vc.ownBlock) : EdI w w1 vo vc' E D := by
 refine ⟨h.low.grown g h.low.size (fun q hq => (h.rc.lt q hq).1), h.ro.kept g ?_, ho, fun k hk => by rw [hb]; exact h.dj k hk⟩
 cases hv : vo.ownBlock with
 | none => exact .inl rfl
 | some k => exact .inr fun e => h.dj k hv e.symm
theorem grown_below' {w1 w2 : World} {r : Option Nat} (hb : Below w1.heap.size w1 w2) : w1.grownBy w2 r := ⟨hb.os, hb.tape, hb.output, hb.size, fun k hk _ => hb.block k hk⟩
theorem own_far {wm : World} {B n c : Nat} {A : Option Addr} {D : List Sp} (ho : wm.ownsRow B 104 2 (.slice A n c) D.length (D.flatMap encS)) {r0 : Option Nat} (hr : ∀ k, r0 = some k → k < B) : D ≠ [] → ∃ bd od, A = some ⟨bd, od, none⟩ ∧ (bd < wm.heap.size ∧ r0 ≠ some bd) ∧ ∀ j y, D[j]? = some y → ∀ i u, (encS y)[i]? = some u → wm.cell? ⟨bd, od + j * 2 + i, none⟩ = some u := fun hne => by
 obtain ⟨A2, c2, hv, h2⟩ := own_rd ho (fun _ => rfl)
 injection hv with e1 _ _
 subst e1
 obtain ⟨bd, od, rfl, hb, hk⟩ := h2 hne
 refine ⟨bd, od, rfl, ⟨hb, fun h5 => ?_⟩, hk⟩
 have h6 := (ho.lt bd rfl).1
 have := hr bd h5
 omega
structure OuJ (wm : World) (r0 : Option Nat) (v : Value) (wr : World) : Prop where
 gr : wm.grownBy wr r0
 row : v.ownBlock = r0 ∨ ∀ k, v.ownBlock = some k → wm.heap.size ≤ k
theorem OuJ.below {wm wr w2 : World} {r0 : Option Nat} {v : Value} (h : OuJ wm r0 v wr) (hb : Below wr.heap.size wr w2) : OuJ wm r0 v w2 :=
 ⟨⟨hb.os.trans h.gr.os, hb.tape.trans h.gr.tape, hb.output.trans h.gr.output, Nat.le_trans h.gr.size hb.size, fun k hk hne => (hb.block k (Nat.lt_of_lt_of_le hk h.gr.size)).trans (h.gr.block k hk hne)⟩, h.row⟩
theorem OuJ.push {wm wr w9 : World} {r0 : Option Nat} {v : Value} {g n cap : Nat} (h : OuJ wm r0 v wr) (hg : wr.grownBy w9 v.ownBlock) (hn : v.ownBlock = some g ∨ wr.heap.size ≤ g) : OuJ wm r0 (.slice (some ⟨g, 0, none⟩) n cap) w9 := by
 refine ⟨⟨hg.os.trans h.gr.os, hg.tape.trans h.gr.tape, hg.output.trans h.gr.output, Nat.le_trans h.gr.size hg.size, fun k hk hne => (hg.block k (Nat.lt_of_lt_of_le hk h.gr.size) (fun e => ?_)).trans (h.gr.block k hk hne)⟩, ?_⟩
 ·rcases h.row with h1 | h1
  ·exact hne (e.trans h1)
  ·have := h1 k e.symm
   omega
 ·have hs := h.gr.size
  rcases hn with h1 | h1
  ·rcases h.row with h2 | h2
   ·exact .inl (by rw [← h2, h1]; rfl)
   ·exact .inr fun k hk => h2 k (by rw [h1]; exact hk)
  ·refine .inr fun k hk => ?_
   have : g = k := by simpa [Value.ownBlock] using hk
   omega
theorem OuJ.cell {wm wr : World} {r0 : Option Nat} {v u : Value} (h : OuJ wm r0 v wr) {b o : Nat} (hb : b < wm.heap.size) (hne : r0 ≠ some b) (hc : wm.cell? ⟨b, o, none⟩ = some u) : wr.cell? ⟨b, o, none⟩ = some u :=
 (World.cell?_of_block (h.gr.block b hb (Ne.symm hne))).trans hc
set_option maxRecDepth 100000 in
set_option maxHeartbeats 32000000 in
theorem edges_any {w : World} {v : Value} {l : List R4} (hr : RdK encR 4 w w.heap.size v l) (hl : l.length ≤ 100) (hc0 : RCan l) (hv : ∀ t ∈ l, validS (t.y0, t.y1)) :
  Calls Tryz.prog 35 #[v] w fun e w' => ∃ vo, e = .returned vo ∧ w'.ownsRow w.heap.size 74 4 vo (edgesF l).length ((edgesF l).flatMap encG) ∧ Below w.heap.size w w' := by
 obtain ⟨i1, gi, gz0, gz1, gz2⟩ := info_parts infoInt
 obtain ⟨i2, fi, fz0, fz1, fz2⟩ := info_parts infoEg
 have HRD := hide hr
 obtain ⟨A, c, rfl, hc⟩ := hr
 have HR := hide hc
 have HV := hide hv
 have HCN := hide hc0
 clear hc hv hc0
 go_enter Tryz.func35, Tryz.ntmps35
 go_wp2
 go_loopw [3, 4, 21] (fun o cu i wr => ∃ (k : Nat) (Ao Ac : Option Addr) (co cc : Nat), k ≤ l.length ∧ i = .int .i64 (k : Int) ∧ o = .slice Ao ((l.take k).flatMap levE).length co ∧ cu = .slice Ac (cutsL (l.take k)).length cc ∧ Hid (EdI w wr (.slice Ao ((l.take k).flatMap levE).length co) (.slice Ac (cutsL (l.take k)).length cc) ((l.take k).flatMap levE) (cutsL (l.take k)))) (fun _ _ i _ => l.length - (intOf i).toNat)
 case atStart => exact ⟨0, none, none, 0, 0, Nat.zero_le _, rfl, rfl, rfl, hide (EdI.nil w)⟩
 case round =>
  obtain ⟨k, Ao, Ac, co, cc, hk, rfl, rfl, rfl, HE⟩ := hrel
  by_cases hlt : k < l.length
  ·have kz : (k : Int) < (l.length : Int) := by omega
   obtain ⟨⟨a0, a1, a2, a3⟩, ht⟩ : ∃ t, l[k]? = some t := ⟨_, List.getElem?_eq_getElem hlt⟩
   obtain ⟨b, o, rfl, hb, kc⟩ := HR.out (by intro e; rw [e] at hlt; simp at hlt)
   have d0 : wr.cell? ⟨b, o + k * 4, none⟩ = some (.int .i64 a0) := (HE.out.low.cell (p := ⟨b, _, none⟩) hb).trans (kc k _ ht 0 _ rfl)
   have d1 : wr.cell? ⟨b, o + k * 4 + 1, none⟩ = some (.int .i64 a1) := (HE.out.low.cell (p := ⟨b, _, none⟩) hb).trans (kc k _ ht 1 _ rfl)
   have d2 : wr.cell? ⟨b, o + k * 4 + 2, none⟩ = some (.int .i64 a2) := (HE.out.low.cell (p := ⟨b, _, none⟩) hb).trans (kc k _ ht 2 _ rfl)
   have d3 : wr.cell? ⟨b, o + k * 4 + 3, none⟩ = some (.int .i64 a3) := (HE.out.low.cell (p := ⟨b, _, none⟩) hb).trans (kc k _ ht 3 _ rfl)
   have hbr : b < wr.heap.size := Nat.lt_of_lt_of_le hb HE.out.low.size
   have HN1 := hide (levE_take ht)
   have HN2 : Hid (cutsL (l.take (k + 1)) = cutsL (l.take k) ++ [a0, a2]) := hide (cutsL_take l k _ ht)
   have HL1 : Hid (((l.take k).flatMap levE).length ≤ 800) := hide (by rw [levE_len, List.length_take]; omega)
   have HL2 : Hid ((cutsL (l.take k)).length ≤ 800) := hide (by rw [cutsL_len, List.length_take]; omega)
   clear ht kc
   generalize (l.take k).flatMap levE = E at *
   generalize cutsL (l.take k) = C at *
   go_upto_region 6 with fail
   refine wp_name fun w1 hw1 => ?_
   obtain ⟨q, hq⟩ : ∃ q, wr.heap.size = q := ⟨_, rfl⟩
   have hb1 : Below wr.heap.size wr w1 := by
    rw [hw1]
    repeat (first | with_reducible exact Below.refl _ _ | with_reducible refine Below.setCell ?_ (by first | (simp; done) | (simp; omega)) _ | with_reducible refine Below.alloc ?_ (by first | omega | (simp; omega) | simp) _)
   have e0 : w1.cell? ⟨q, 0, none⟩ = some (.int .i64 a0) := by rw [hw1, ← hq]; simp [go_sem]
   have e1 : w1.cell? ⟨q, 1, none⟩ = some (.int .i64 a1) := by rw [hw1, ← hq]; simp [go_sem]
   have e2 : w1.cell? ⟨q, 2, none⟩ = some (.int .i64 a2) := by rw [hw1, ← hq]; simp [go_sem]
   have e3 : w1.cell? ⟨q, 3, none⟩ = some (.int .i64 a3) := by rw [hw1, ← hq]; simp [go_sem]
   have hq1 : q < w1.heap.size := lt_of_cell e0
   have HE1 := hide (HE.out.below hb1)
   have HQC : Hid (∀ g, (Value.slice Ac C.length cc).ownBlock = some g → g < q) := hide (fun g hg => by rw [← hq]; exact (HE.out.rc.lt g hg).2)
   have hws : w.heap.size ≤ w1.heap.size := HE1.out.low.size
   have hl2 := HL2.out
   have hl1 := HL1.out
   rw [hq]
   clear hw1 hb1 hq d0 d1 d2 d3 hbr HE
   go_wp2_with (at_builtin; go_loud (refine wpList_append_lies _ rfl (.tmp 25) (.tmp 30) 96 rfl w.heap.size 3 i1 (.int .i64 0) 1 8 Tryz.underlying96 gi gz0 gz1 gz2 rfl (by decide) _ C.length _ rfl (World.ownsRow.alloc HE1.out.rc _) ⟨w1.heap.size, 0, none⟩ 2 2 [.int .i64 a0, .int .i64 a2] rfl rfl (news_new w1 _ _ _ rfl) (ints_one rfl) (by omega) (by unfold maxLen; omega) (by omega) (by simp; omega) _ rfl ?_))
   intro g9 cap9 w9 hown9 hgrow9 hn9 _
   have HE9 : Hid (EdI w w9 (.slice Ao E.length co) (.slice (some ⟨g9, 0, none⟩) (C ++ [a0, a2]).length cap9) E (C ++ [a0, a2])) := hide ((HE1.out.below ((Below.refl _ _).alloc (Nat.le_refl _) _)).pushC hgrow9 (by simpa using hown9) (hn9.imp id (fun e => by rw [e]; simp)))
   have hcq : ∀ j, w9.cell? ⟨q, j, none⟩ = w1.cell? ⟨q, j, none⟩ := fun j => (World.cell?_of_block (hgrow9.block q (by simp; omega) (fun h5 => by have := HQC.out q h5.symm; omega))).trans (World.cell?_alloc_lt _ _ ⟨q, j, none⟩ hq1)
   replace e0 := (hcq 0).trans e0
   replace e1 := (hcq 1).trans e1
   replace e2 := (hcq 2).trans e2
   replace e3 := (hcq 3).trans e3
   have hws9 : w.heap.size ≤ w9.heap.size := HE9.out.low.size
   clear hown9 hgrow9 hn9 hcq
   go_wp2_with (at_builtin; go_loud (refine wpList_append_lies _ rfl (.tmp 32) (.tmp 55) 66 rfl w.heap.size 74 i2 (.agg #[.int .i64 0, .int .i64 0, .int .i64 0, .int .i64 0]) 4 32 Tryz.underlying66 fi fz0 fz1 fz2 rfl (by decide) _ E.length _ rfl (World.ownsRow.alloc HE9.out.ro _) ⟨w9.heap.size, 0, none⟩ 2 2 [.int .i64 a0, .int .i64 a1, .int .i64 a2, .int .i64 a1, .int .i64 a2, .int .i64 a3, .int .i64 a0, .int .i64 a3] rfl rfl (news_new w9 _ _ _ rfl) (ints_one rfl) (by omega) (by unfold maxLen; omega) (by omega) (by simp; omega) _ rfl ?_))
   intro g8 cap8 w8 hown8 hgrow8 hn8 _
   have HE8 : Hid (EdI w w8 (.slice (some ⟨g8, 0, none⟩) (E ++ levE ⟨a0, a1, a2, a3⟩).length cap8) (.slice (some ⟨g9, 0, none⟩) (C ++ [a0, a2]).length cap9) (E ++ levE ⟨a0, a1, a2, a3⟩) (C ++ [a0, a2])) := hide ((HE9.out.below ((Below.refl _ _).alloc (Nat.le_refl _) _)).pushO hgrow8 (by simpa [encG, levE] using hown8) (hn8.imp id (fun e => by rw [e]; simp)))
   clear hown8 hgrow8 hn8
   go_wp2
   go_roundw
   case rel => exact ⟨k + 1, some ⟨g8, 0, none⟩, some ⟨g9, 0, none⟩, cap8, cap9, by omega, by go_num, by rw [HN1.out]; simp [levE], by rw [HN2.out]; simp, hide (by rw [HN1.out, HN2.out]; exact HE8.out)⟩
   case measure => simp [intOf]; omega
  ·have kz : ¬ (k : Int) < (l.length : Int) := by omega
   obtain rfl : k = l.length := by omega
   rw [List.take_length] at HE
   rw [List.take_length]
   have hcl : (cutsL l).length < 4611686018427387904 := by rw [cutsL_len]; omega
   have HM : Hid (((cutsL l).mergeSort fun x y => decide (x ≤ y)).length = (cutsL l).length) := hide (List.length_mergeSort _)
   have hwr : w.heap.size ≤ wr.heap.size := HE.out.low.size
   have HLE : Hid ((l.flatMap levE).length = 2 * l.length) := hide (levE_len l)
   obtain ⟨EL, hEL⟩ : ∃ y, l.flatMap levE = y := ⟨_, rfl⟩
   obtain ⟨CL, hCL⟩ : ∃ y, cutsL l = y := ⟨_, rfl⟩
   have HEL := hide hEL
   have HCL := hide hCL
   rw [hEL] at HE HLE
   rw [hCL] at HE HM hcl
   rw [hEL, hCL]
   clear hEL hCL
   go_wp2_with (fail)
   go_at_call 62
   refine (sortI_any _ (.slice Ac CL.length cc) _ wr HE.out.rc hcl).mono ?_
   rintro e w1 ⟨rfl, ho1, hg1⟩
   have HE1 := hide (HE.out.cuts hg1 (D := CL.mergeSort fun x y => decide (x ≤ y)) (own_n ho1 HM.out.symm) rfl)
   clear ho1 hg1
   go_wp2_with (fail)
   go_at_call 63
   refine (compI_any _ (.slice Ac CL.length cc) _ w1 HE1.out.rc (by rw [HM.out]; exact hcl)).mono ?_
   rintro e w2 ⟨v2, rfl, hv2, ho2, hg2⟩
   have HE2 := hide (HE1.out.cuts hg2 ho2 hv2)
   obtain ⟨A2, c2, rfl⟩ := own_form ho2
   clear ho2 hg2 hv2
   have HX : Hid (Lib.compact (CL.mergeSort fun x y => decide (x ≤ y)) = xsE l) := hide (by rw [← HCL.out]; rfl)
   rw [HX.out] at HE2
   rw [HX.out]
   have HXL : Hid ((xsE l).length ≤ 200) := hide (by
    have h5 := cutsOf_len (cutsL l)
    have h6 := cutsL_len l
    have h7 : xsE l = cutsOf (cutsL l) := rfl
    rw [h7]
    omega)
   have HUL := hide (uprs_len HCN.out HV.out hl)
   have hxl := HXL.out
   clear HE1 HE
   go_wp2
   go_loopw [3, 63] (fun o i wr => ∃ (k : Nat) (Ao : Option Addr) (co : Nat), k ≤ (xsE l).length ∧ i = .int .i64 (k : Int) ∧ o = .slice Ao (EL ++ ((xsE l).take k).flatMap (uprE l)).length co ∧ Hid (EdI w wr (.slice Ao (EL ++ ((xsE l).take k).flatMap (uprE l)).length co) (.slice A2 (xsE l).length c2) (EL ++ ((xsE l).take k).flatMap (uprE l)) (xsE l))) (fun _ i _ => (xsE l).length - (intOf i).toNat)
   case atStart => exact ⟨0, Ao, co, Nat.zero_le _, rfl, by simp, by simpa using HE2⟩
   case round =>
    clear HE2
    obtain ⟨k, Ao1, co1, hk, rfl, rfl, HE⟩ := hrel
    by_cases hlt : k < (xsE l).length
    ·have kz : (k : Int) < ((xsE l).length : Int) := by omega
     obtain ⟨x, hx⟩ : ∃ x, (xsE l)[k]? = some x := ⟨_, List.getElem?_eq_getElem hlt⟩
     obtain ⟨gx, cx, hfx, hgx1, hgx2⟩ := HE.out.rc.form (by omega)
     injection hfx with ex1 _ ex3
     subst ex1; subst ex3
     have dx : wr.cell? ⟨gx, k, none⟩ = some (.int .i64 x) := by
      have := (HE.out.rc.cells (g := gx) rfl) k (iv x) (by simp [hx])
      rw [addr_add] at this
      exact this
     have HTX : Hid (EL ++ ((xsE l).take (k + 1)).flatMap (uprE l) = ((EL ++ ((xsE l).take k).flatMap (uprE l)) ++ (sjoin hSub (befE l x) (behE l x)).map (upA x)) ++ (sjoin hSub (behE l x) (befE l x)).map (upB x)) := hide (by rw [List.take_add_one, hx, Option.toList_some, List.flatMap_append, List.flatMap_cons, List.flatMap_nil, List.append_nil, uprE_up]; simp only [List.append_assoc])
     have HLE1 : Hid ((EL ++ ((xsE l).take k).flatMap (uprE l)).length ≤ 90000 + 400 * 200) := hide (by
      have h5 := HUL.out ((xsE l).take k)
      have h6 := HXL.out
      have h7 := HLE.out
      rw [List.length_take] at h5
      rw [List.length_append]
      omega)
     have hgxr : gx < wr.heap.size := lt_of_cell dx
     have HRB : Hid (∀ g, (Value.slice Ao1 (EL ++ ((xsE l).take k).flatMap (uprE l)).length co1).ownBlock = some g → g < wr.heap.size) := hide (fun g hg => (HE.out.ro.lt g hg).2)
     obtain ⟨E1, hE1⟩ : ∃ y, EL ++ ((xsE l).take k).flatMap (uprE l) = y := ⟨_, rfl⟩
     rw [hE1] at HTX HLE1 HE HRB
     rw [hE1]
     clear hx hE1 hlt
     go_upto_region 13 with fail
     refine wp_name fun w3 hw3 => ?_
     obtain ⟨q8, hq8⟩ : ∃ q, wr.heap.size = q := ⟨_, rfl⟩
     have hb3 : Below wr.heap.size wr w3 := by
      rw [hw3]
      repeat (first | with_reducible exact Below.refl _ _ | with_reducible refine Below.setCell ?_ (by first | (simp; done) | (simp; omega)) _ | with_reducible refine Below.alloc ?_ (by first | omega | (simp; omega) | simp) _)
     have HC3 : Hid (w3.cell? ⟨q8, 0, none⟩ = some (.int .i64 x)) := hide (by rw [hw3, ← hq8]; simp [go_sem])
     have HE3 := hide (HE.out.below hb3)
     have hqw : w.heap.size ≤ q8 := by rw [← hq8]; exact HE.out.low.size
     rw [hq8] at HRB
     rw [hq8]
     clear hw3 hb3 hq8 dx hgxr HE
     have hq83 : q8 < w3.heap.size := lt_of_cell HC3.out
     have HS1 := hide (side_any (w := w3) (v := .slice A l.length c) (l := l) 65 #[.pointer (some ⟨q8, 0, none⟩)] (fun t => t.x1 == x) enter_edges1 ((HRD.out.below HE3.out.low).mono HE3.out.low.size) (by omega) HV.out (fun V t hV => edges1_any ((hV.cell (p := ⟨q8, 0, none⟩) hq83).trans HC3.out) t))
     go_wp2_with (fail)
     go_at_call 64
     refine HS1.out.mono ?_
     rintro e w4 ⟨A4, c4, rfl, ho4, hb4⟩
     have HO4 : Hid (w4.ownsRow w3.heap.size 104 2 (.slice A4 (befE l x).length c4) (befE l x).length ((befE l x).flatMap encS)) := hide ho4
     have HE4 := hide (HE3.out.below hb4)
     have HC4 := hide ((hb4.cell (p := ⟨q8, 0, none⟩) hq83).trans HC3.out)
     have hq84 : q8 < w4.heap.size := Nat.lt_of_lt_of_le hq83 hb4.size
     have hw34 := hb4.size
     clear ho4 hb4 HS1 HE3 HC3
     have HS2 := hide (side_any (w := w4) (v := .slice A l.length c) (l := l) 66 #[.pointer (some ⟨q8, 0, none⟩)] (fun t => t.x0 == x) enter_edges2 ((HRD.out.below HE4.out.low).mono HE4.out.low.size) (by omega) HV.out (fun V t hV => edges2_any ((hV.cell (p := ⟨q8, 0, none⟩) hq84).trans HC4.out) t))
     go_wp2_with (fail)
     go_at_call 64
     refine HS2.out.mono ?_
     rintro e w5 ⟨A5, c5, rfl, ho5, hb5⟩
     have HO5 : Hid (w5.ownsRow w4.heap.size 104 2 (.slice A5 (behE l x).length c5) (behE l x).length ((behE l x).flatMap encS)) := hide ho5
     have HO45 := hide (own_below HO4.out hb5)
     have HE5 := hide (HE4.out.below hb5)
     have HC5 := hide ((hb5.cell (p := ⟨q8, 0, none⟩) hq84).trans HC4.out)
     have hq85 : q8 < w5.heap.size := Nat.lt_of_lt_of_le hq84 hb5.size
     have hw45 := hb5.size
     clear ho5 hb5 HS2 HE4 HC4 HO4
     obtain ⟨bl1, bl2, bl3⟩ := bef_ok HCN.out HV.out x
     obtain ⟨bh1, bh2, bh3⟩ := beh_ok HCN.out HV.out x
     obtain ⟨sl1, sl2⟩ := sub_len HCN.out HV.out hl x
     have HF1 : Hid (sjF hSub (befE l x) (behE l x) = (sjoin hSub (befE l x) (behE l x), 0)) := hide (by unfold sjF; rw [if_neg (by omega)])
     have HF2 : Hid (sjF hSub (behE l x) (befE l x) = (sjoin hSub (behE l x) (befE l x), 0)) := hide (by unfold sjF; rw [if_neg (by omega)])
     have HM1 := hide (spSub_any (befE l x) (behE l x) _ _ w5 ((own_rd HO45.out (fun _ => rfl)).mono (Nat.le_refl _)) (own_rd HO5.out (fun _ => rfl)) (by omega) (by omega) bl2 bh2 bl3 bh3)
     rw [HF1.out] at HM1
     have HBS := hide (And.intro (And.intro bl2 bl3) (And.intro bh2 bh3))
     have HSL := hide (And.intro sl1 sl2)
     clear bl2 bl3 bh2 bh3 sl1 sl2 HF1
     go_wp2_with (fail)
     go_at_call 67
     refine HM1.out.mono ?_
     rintro e w6 ⟨⟨A6, c6, rfl, ho6⟩, hb6⟩
     have HO6 := hide ho6
     simp only at HO6
     have HO56 := hide (own_below HO5.out hb6)
     have HO46 := hide (own_below HO45.out hb6)
     have HE6 := hide (HE5.out.below hb6)
     have HC6 := hide ((hb6.cell (p := ⟨q8, 0, none⟩) hq85).trans HC5.out)
     have hq86 : q8 < w6.heap.size := Nat.lt_of_lt_of_le hq85 hb6.size
     have hw56 := hb6.size
     clear ho6 hb6 HM1 HE5 HC5 HO5 HO45
     have HM2 := hide (spSub_any (behE l x) (befE l x) _ _ w6 (own_rd HO56.out (fun _ => rfl)) (own_rd HO46.out (fun _ => rfl)) (by omega) (by omega) HBS.out.2.1 HBS.out.1.1 HBS.out.2.2 HBS.out.1.2)
     rw [HF2.out] at HM2
     go_wp2_with (fail)
     go_at_call 67
     refine HM2.out.mono ?_
     rintro e wm ⟨⟨A7, c7, rfl, ho7⟩, hb7⟩
     have HO7 := hide ho7
     simp only at HO7
     have HO67 := hide (own_below HO6.out hb7)
     have HEM := hide (HE6.out.below hb7)
     have HCM := hide ((hb7.cell (p := ⟨q8, 0, none⟩) hq86).trans HC6.out)
     have hq87 : q8 < wm.heap.size := Nat.lt_of_lt_of_le hq86 hb7.size
     clear ho7 hb7 HM2 HE6 HC6 HO6 HO56 HO46 HF2 HBS bl1 bh1
     obtain ⟨D1, hD1⟩ : ∃ y, sjoin hSub (befE l x) (behE l x) = y := ⟨_, rfl⟩
     obtain ⟨D2, hD2⟩ : ∃ y, sjoin hSub (behE l x) (befE l x) = y := ⟨_, rfl⟩
     rw [hD1] at HTX HSL HO67
     rw [hD2] at HTX HSL HO7
     simp only [hD1, hD2]
     clear hD1 hD2
     obtain ⟨r0, hr0⟩ : ∃ y, (Value.slice Ao1 E1.length co1).ownBlock = y := ⟨_, rfl⟩
     have HR0 : Hid (∀ g, r0 = some g → g < q8) := hide (fun g hg => HRB.out g (hr0.trans hg))
     have HR1 := hide (own_far HO67.out (r0 := r0) (fun g hg => by have := HR0.out g hg; omega))
     have HR2 := hide (own_far HO7.out (r0 := r0) (fun g hg => by have := HR0.out g hg; omega))
     have HQ8 : Hid (q8 < wm.heap.size ∧ r0 ≠ some q8 ∧ wm.cell? ⟨q8, 0, none⟩ = some (.int .i64 x)) := hide ⟨hq87, fun h5 => by have := HR0.out q8 h5; omega, HCM.out⟩
     have HJ1 : Hid (OuJ wm r0 (.slice Ao1 E1.length co1) wm) := hide ⟨grown_below' (Below.refl _ _), .inl hr0⟩
     have HE1 := HEM
     have hdl1 : D1.length ≤ 400 := HSL.out.1
     have hdl2 : D2.length ≤ 400 := HSL.out.2
     clear HEM HCM HO67 HO7 hr0 HRB hq87 hq86 hq85 hq84 hq83
     go_wp2
     go_loopw [3, 87] (fun o i wr => ∃ (j : Nat) (Ao : Option Addr) (co : Nat), j ≤ D1.length ∧ i = .int .i64 (j : Int) ∧ o = .slice Ao (E1 ++ (D1.take j).map (upA x)).length co ∧ Hid (EdI w wr (.slice Ao (E1 ++ (D1.take j).map (upA x)).length co) (.slice (some ⟨gx, 0, none⟩) (xsE l).length c2) (E1 ++ (D1.take j).map (upA x)) (xsE l)) ∧ Hid (OuJ wm r0 (.slice Ao (E1 ++ (D1.take j).map (upA x)).length co) wr)) (fun _ i _ => D1.length - (intOf i).toNat)
     case atStart => exact ⟨0, Ao1, co1, Nat.zero_le _, rfl, by simp, by simpa using HE1, by simpa using HJ1⟩
     case round =>
      obtain ⟨j, Ao, co, hj, rfl, rfl, HEJ, HBJ⟩ := hrel
      by_cases hjl : j < D1.length
      ·have jz : (j : Int) < (D1.length : Int) := by omega
       obtain ⟨⟨s0, s1⟩, hs⟩ : ∃ s, D1[j]? = some s := ⟨_, List.getElem?_eq_getElem hjl⟩
       obtain ⟨bd, od, rfl, hbd, kd⟩ := HR1.out (by intro e; rw [e] at hjl; simp at hjl)
       have d0 : wr.cell? ⟨bd, od + j * 2, none⟩ = some (.int .i64 s0) := HBJ.out.cell hbd.1 hbd.2 (kd j _ hs 0 _ rfl)
       have d1 : wr.cell? ⟨bd, od + j * 2 + 1, none⟩ = some (.int .i64 s1) := HBJ.out.cell hbd.1 hbd.2 (kd j _ hs 1 _ rfl)
       have dx : wr.cell? ⟨q8, 0, none⟩ = some (.int .i64 x) := HBJ.out.cell HQ8.out.1 HQ8.out.2.1 HQ8.out.2.2
       have HTK : Hid (E1 ++ (D1.take (j + 1)).map (upA x) = (E1 ++ (D1.take j).map (upA x)) ++ [upA x (s0, s1)]) := hide (by rw [List.take_add_one, hs]; simp)
       have hq8r : q8 < wr.heap.size := lt_of_cell dx
       have HLN : Hid ((E1 ++ (D1.take j).map (upA x)).length ≤ 200000) := hide (by
        rw [List.length_append, List.length_map, List.length_take]
        have := HLE1.out
        have := HSL.out
        omega)
       obtain ⟨EJ, hEJ⟩ : ∃ y, E1 ++ (D1.take j).map (upA x) = y := ⟨_, rfl⟩
       rw [hEJ] at HTK HLN HEJ HBJ
       rw [hEJ]
       clear hs kd hEJ
       go_upto_region 20 with fail
       refine wp_name fun w1 hw1 => ?_
       obtain ⟨q, hq⟩ : ∃ q, wr.heap.size = q := ⟨_, rfl⟩
       have hb1 : Below wr.heap.size wr w1 := by
        rw [hw1]
        repeat (first | with_reducible exact Below.refl _ _ | with_reducible refine Below.setCell ?_ (by first | (simp; done) | (simp; omega)) _ | with_reducible refine Below.alloc ?_ (by first | omega | (simp; omega) | simp) _)
       have e0 : w1.cell? ⟨q, 0, none⟩ = some (.int .i64 s0) := by rw [hw1, ← hq]; simp [go_sem]
       have e1 : w1.cell? ⟨q, 1, none⟩ = some (.int .i64 s1) := by rw [hw1, ← hq]; simp [go_sem]
       replace dx := (hb1.cell (p := ⟨q8, 0, none⟩) hq8r).trans dx
       have HE1 := hide (HEJ.out.below hb1)
       have HB1 := hide (HBJ.out.below hb1)
       have hws : w.heap.size ≤ w1.heap.size := HE1.out.low.size
       have hle := HLN.out
       rw [hq]
       clear hw1 hb1 hq d0 d1 HEJ HBJ hq8r
       go_wp2_with (at_builtin; go_loud (refine wpList_append_lies _ rfl (.tmp 91) (.tmp 101) 66 rfl w.heap.size 74 i2 (.agg #[.int .i64 0, .int .i64 0, .int .i64 0, .int .i64 0]) 4 32 Tryz.underlying66 fi fz0 fz1 fz2 rfl (by decide) _ EJ.length _ rfl (World.ownsRow.alloc HE1.out.ro _) ⟨w1.heap.size, 0, none⟩ 1 1 [.int .i64 x, .int .i64 s0, .int .i64 x, .int .i64 s1] rfl rfl (news_new w1 _ _ _ rfl) (ints_one rfl) (by omega) (by unfold maxLen; omega) (by omega) (by simp; omega) _ rfl ?_))
       intro g9 cap9 w9 hown9 hgrow9 hn9 _
       have HB9 : Hid (OuJ wm r0 (.slice (some ⟨g9, 0, none⟩) (EJ ++ [upA x (s0, s1)]).length cap9) w9) := hide ((HB1.out.below ((Below.refl _ _).alloc (Nat.le_refl _) _)).push hgrow9 (hn9.imp id (fun e => by rw [e]; simp)))
       have HE9 : Hid (EdI w w9 (.slice (some ⟨g9, 0, none⟩) (EJ ++ [upA x (s0, s1)]).length cap9) (.slice (some ⟨gx, 0, none⟩) (xsE l).length c2) (EJ ++ [upA x (s0, s1)]) (xsE l)) := hide ((HE1.out.below ((Below.refl _ _).alloc (Nat.le_refl _) _)).pushO hgrow9 (by simpa [encG, upA] using hown9) (hn9.imp id (fun e => by rw [e]; simp)))
       clear hown9 hgrow9 hn9
       go_wp2
       go_roundw
       case rel => exact ⟨j + 1, some ⟨g9, 0, none⟩, cap9, by omega, by go_num, by rw [HTK.out]; simp, hide (by rw [HTK.out]; exact HE9.out), hide (by rw [HTK.out]; exact HB9.out)⟩
       case measure => simp [intOf]; omega
      ·have jz : ¬ (j : Int) < (D1.length : Int) := by omega
       obtain rfl : j = D1.length := by omega
       rw [List.take_length] at HEJ HBJ
       rw [List.take_length]
       have HE2 := HEJ
       have HJ2 := HBJ
       have HLE2 : Hid ((E1 ++ D1.map (upA x)).length ≤ 90000 + 400 * 201) := hide (by
        have := HLE1.out
        have := HSL.out.1
        rw [List.length_append, List.length_map]
        omega)
       obtain ⟨E2, hE2⟩ : ∃ y, E1 ++ D1.map (upA x) = y := ⟨_, rfl⟩
       rw [hE2] at HE2 HJ2 HLE2 HTX
       rw [hE2]
       clear hE2 HEJ HBJ HE1 HJ1
       obtain ⟨Ao2, hAo2⟩ : ∃ y, y = Ao := ⟨_, rfl⟩
       obtain ⟨co2, hco2⟩ : ∃ y, y = co := ⟨_, rfl⟩
       subst hAo2
       subst hco2
       go_wp2
       go_loopw [3, 106] (fun o i wr => ∃ (j : Nat) (Ao : Option Addr) (co : Nat), j ≤ D2.length ∧ i = .int .i64 (j : Int) ∧ o = .slice Ao (E2 ++ (D2.take j).map (upB x)).length co ∧ Hid (EdI w wr (.slice Ao (E2 ++ (D2.take j).map (upB x)).length co) (.slice (some ⟨gx, 0, none⟩) (xsE l).length c2) (E2 ++ (D2.take j).map (upB x)) (xsE l)) ∧ Hid (OuJ wm r0 (.slice Ao (E2 ++ (D2.take j).map (upB x)).length co) wr)) (fun _ i _ => D2.length - (intOf i).toNat)
       case atStart => exact ⟨0, Ao2, co2, Nat.zero_le _, rfl, by simp, by simpa using HE2, by simpa using HJ2⟩
       case round =>
        obtain ⟨j, Ao, co, hj, rfl, rfl, HEJ, HBJ⟩ := hrel
        by_cases hjl : j < D2.length
        ·have jz : (j : Int) < (D2.length : Int) := by omega
         obtain ⟨⟨s0, s1⟩, hs⟩ : ∃ s, D2[j]? = some s := ⟨_, List.getElem?_eq_getElem hjl⟩
         obtain ⟨bd, od, rfl, hbd, kd⟩ := HR2.out (by intro e; rw [e] at hjl; simp at hjl)
         have d0 : wr.cell? ⟨bd, od + j * 2, none⟩ = some (.int .i64 s0) := HBJ.out.cell hbd.1 hbd.2 (kd j _ hs 0 _ rfl)
         have d1 : wr.cell? ⟨bd, od + j * 2 + 1, none⟩ = some (.int .i64 s1) := HBJ.out.cell hbd.1 hbd.2 (kd j _ hs 1 _ rfl)
         have dx : wr.cell? ⟨q8, 0, none⟩ = some (.int .i64 x) := HBJ.out.cell HQ8.out.1 HQ8.out.2.1 HQ8.out.2.2
         have HTK : Hid (E2 ++ (D2.take (j + 1)).map (upB x) = (E2 ++ (D2.take j).map (upB x)) ++ [upB x (s0, s1)]) := hide (by rw [List.take_add_one, hs]; simp)
         have hq8r : q8 < wr.heap.size := lt_of_cell dx
         have HLN : Hid ((E2 ++ (D2.take j).map (upB x)).length ≤ 200000) := hide (by
          rw [List.length_append, List.length_map, List.length_take]
          have := HLE2.out
          have := HSL.out
          omega)
         obtain ⟨EJ, hEJ⟩ : ∃ y, E2 ++ (D2.take j).map (upB x) = y := ⟨_, rfl⟩
         rw [hEJ] at HTK HLN HEJ HBJ
         rw [hEJ]
         clear hs kd hEJ
         go_upto_region 25 with fail
         refine wp_name fun w1 hw1 => ?_
         obtain ⟨q, hq⟩ : ∃ q, wr.heap.size = q := ⟨_, rfl⟩
         have hb1 : Below wr.heap.size wr w1 := by
          rw [hw1]
          repeat (first | with_reducible exact Below.refl _ _ | with_reducible refine Below.setCell ?_ (by first | (simp; done) | (simp; omega)) _ | with_reducible refine Below.alloc ?_ (by first | omega | (simp; omega) | simp) _)
         have e0 : w1.cell? ⟨q, 0, none⟩ = some (.int .i64 s0) := by rw [hw1, ← hq]; simp [go_sem]
         have e1 : w1.cell? ⟨q, 1, none⟩ = some (.int .i64 s1) := by rw [hw1, ← hq]; simp [go_sem]
         replace dx := (hb1.cell (p := ⟨q8, 0, none⟩) hq8r).trans dx
         have HE1 := hide (HEJ.out.below hb1)
         have HB1 := hide (HBJ.out.below hb1)
         have hws : w.heap.size ≤ w1.heap.size := HE1.out.low.size
         have hle := HLN.out
         rw [hq]
         clear hw1 hb1 hq d0 d1 HEJ HBJ hq8r
         go_wp2_with (at_builtin; go_loud (refine wpList_append_lies _ rfl (.tmp 110) (.tmp 120) 66 rfl w.heap.size 74 i2 (.agg #[.int .i64 0, .int .i64 0, .int .i64 0, .int .i64 0]) 4 32 Tryz.underlying66 fi fz0 fz1 fz2 rfl (by decide) _ EJ.length _ rfl (World.ownsRow.alloc HE1.out.ro _) ⟨w1.heap.size, 0, none⟩ 1 1 [.int .i64 x, .int .i64 s1, .int .i64 x, .int .i64 s0] rfl rfl (news_new w1 _ _ _ rfl) (ints_one rfl) (by omega) (by unfold maxLen; omega) (by omega) (by simp; omega) _ rfl ?_))
         intro g9 cap9 w9 hown9 hgrow9 hn9 _
         have HB9 : Hid (OuJ wm r0 (.slice (some ⟨g9, 0, none⟩) (EJ ++ [upB x (s0, s1)]).length cap9) w9) := hide ((HB1.out.below ((Below.refl _ _).alloc (Nat.le_refl _) _)).push hgrow9 (hn9.imp id (fun e => by rw [e]; simp)))
         have HE9 : Hid (EdI w w9 (.slice (some ⟨g9, 0, none⟩) (EJ ++ [upB x (s0, s1)]).length cap9) (.slice (some ⟨gx, 0, none⟩) (xsE l).length c2) (EJ ++ [upB x (s0, s1)]) (xsE l)) := hide ((HE1.out.below ((Below.refl _ _).alloc (Nat.le_refl _) _)).pushO hgrow9 (by simpa [encG, upB] using hown9) (hn9.imp id (fun e => by rw [e]; simp)))
         clear hown9 hgrow9 hn9
         go_wp2
         go_roundw
         case rel => exact ⟨j + 1, some ⟨g9, 0, none⟩, cap9, by omega, by go_num, by rw [HTK.out]; simp, hide (by rw [HTK.out]; exact HE9.out), hide (by rw [HTK.out]; exact HB9.out)⟩
         case measure => simp [intOf]; omega
        ·have jz : ¬ (j : Int) < (D2.length : Int) := by omega
         obtain rfl : j = D2.length := by omega
         rw [List.take_length] at HEJ HBJ
         rw [List.take_length]
         go_wp2
         go_roundw
         case rel => exact ⟨k + 1, Ao, co, by omega, by go_num, by rw [HTX.out], hide (by rw [HTX.out]; exact HEJ.out)⟩
         case measure => simp [intOf]; omega
    ·have kz : ¬ (k : Int) < ((xsE l).length : Int) := by omega
     obtain rfl : k = (xsE l).length := by omega
     rw [List.take_length] at HE
     have HFIN : Hid (EL ++ (xsE l).flatMap (uprE l) = edgesF l) := hide (by rw [← HEL.out]; rfl)
     rw [HFIN.out] at HE
     rw [List.take_length, HFIN.out]
     go_wp2
     go_ret
     exact ⟨_, rfl, HE.out.ro, HE.out.low⟩
end Go.Proofs.YtdfpbhlnlkjjlaaGreat

/- Regions inside a round, by the walks that serve outside of one: plain ones, and those that draw their order (reads under a condition, then a tail). -/
namespace Go.Proofs.YtdfpbhlnlkjjlaaGreat
open Go.RowKit
set_option linter.unusedVariables false
set_option linter.unusedSimpArgs false
theorem wpIn_region_mix_round {P : Program} {id r n : Nat} {Q : Exit → Act → World → Prop} {a : Act} {w : World} {l : List Oper} (R T : List Nat) (S : World → Prop) (hm : P.follows .mixedOrders = true) (hB : mixB .any l.toArray R T = true) (hnd : noDefer l = true) (hout : ∀ a w, ¬ Q .outgrown a w) (hS : S w.drew)
  (h : wpReads P l.toArray S (fun a' => wpTail P l.toArray S (NoPanic Q) (T.map (opAt l)) a' w.drew) (R.map (opAt l)) a) : (Code.region id l.toArray true).wpIn (Fence.wide.inRound r) n P Q a w := by
 refine wpIn_mono (Q := NoPanic Q) (wpIn_region_any hm (wpAny_round (Q := NoPanic Q) (noDefer_spec hnd) (fun a w h => hout a w h) _ _ _ _ (wpAny_of_E (S := S) (L := l.length - 1) _ _ _ _ ?_))) NoPanic.imp
 simp only [mixB, Bool.and_eq_true, decide_eq_true_eq, beq_iff_eq, List.size_toArray] at hB
 obtain ⟨⟨⟨b1, b2⟩, b3⟩, b4⟩ := hB
 have := wpReads_mix (Q := NoPanic Q) (S := S) (l := l) (T := T) (w := w.drew) (Region.noSelect_spec b1) (fun _ _ _ _ h => h) (fun t ht => by rw [b3] at ht; injection ht with ht; exact ht.symm) hS R _ a b4 h
 rw [b2] at this
 exact this
end Go.Proofs.YtdfpbhlnlkjjlaaGreat
