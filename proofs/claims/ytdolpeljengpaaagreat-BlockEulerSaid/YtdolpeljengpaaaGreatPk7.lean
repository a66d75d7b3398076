/- Texts laid together: StrN, StrV, StrO, StrQ, StrEq, StrW, StrY, StrX, StrU. Lemmas for the statements of this seat; no condition. -/
import Derived.Test.YtdolpeljengpaaaGreatPk6
import Derived.Test.YtdolpeljengpaaaGreatPk4
import Derived.Test.YtdolpeljengpaaaGreatPk1
import Derived.Test.YtdolpeljengpaaaGreatPk2
import Derived.Laws.StructEq
import Derived.Deep.QuietTactic
import Derived.BigQuiet

/- street.network: the walk. -/
namespace Go.Proofs.YtdolpeljengpaaaGreat
open Go.RowKit Go.Maps
set_option linter.unusedVariables false
set_option linter.unusedSimpArgs false

theorem infoEd : (Tryz.prog.info? 109).map (fun i => (i.zero, i.size, i.bytes)) = some (some (.agg #[.int .i64 0, .int .i64 0]), 2, 16) := by kernel_rfl
theorem frozen_grow {w w' : World} {row : Option Nat} (h : w.grownBy w' row) {b o : Nat} (hb : b < w.heap.size) (hne : some b ≠ row) : w'.frozen? ⟨b, o, none⟩ = w.frozen? ⟨b, o, none⟩ := by
  unfold World.frozen?
  rw [h.block b hb hne]
theorem codeE_big {h v : Int → Int → Bool} {N : List Pt} {i : Nat} {e : Ei} (he : e ∈ codeE h v N i) (hi : i ≤ 400) : bigP e := by
  unfold codeE edI at he
  simp only [List.mem_map, List.mem_flatMap, List.mem_range, List.mem_append] at he
  obtain ⟨⟨a, b⟩, ⟨j, hj, h1⟩, rfl⟩ := he
  have hab : a ≤ j ∧ b = j := by
    rcases h1 with h1 | h1
    · unfold ltE at h1
      split at h1
      · rw [List.mem_singleton] at h1
        injection h1 with e1 e2
        rw [e1]
        exact ⟨lastG_lt _ _ _ _, e2⟩
      · cases h1
    · unfold dnE at h1
      split at h1
      · rw [List.mem_singleton] at h1
        injection h1 with e1 e2
        rw [e1]
        exact ⟨lastG_lt _ _ _ _, e2⟩
      · cases h1
  unfold bigP
  simp only
  omega
theorem set_grow (W : World) (b o : Nat) (u : Value) : W.grownBy (W.setCell ⟨b, o, none⟩ u) (some b) := ⟨rfl, rfl, rfl, by simp, fun k _ hk => Below.heap_setCell _ _ _ _ (fun e => hk (by rw [e]))⟩
theorem own_setB {W : World} {B e k n : Nat} {v : Value} {xs : List Value} {b o : Nat} {u : Value} (h : W.ownsRow B e k v n xs) (hb : b < B) : (W.setCell ⟨b, o, none⟩ u).ownsRow B e k v n xs := by
  refine h.kept (set_grow W b o u) ?_
  rcases hq : v.ownBlock with _ | q
  · exact .inl rfl
  · right
    intro e
    have h1 := (h.lt q hq).1
    injection e with e
    omega
/-- The state of network's loop: the box of nodes and edges, and the two maps of last indices, above the world that the nodes were found in. -/
structure Nw (w2 wr : World) (nv ev : Value) (l : List Sg) (E : List Ei) (m : Nat) : Prop where
  low : Below w2.heap.size w2 wr
  sz : w2.heap.size + 3 ≤ wr.heap.size
  c0 : wr.cell? ⟨w2.heap.size, 0, none⟩ = some nv
  c1 : wr.cell? ⟨w2.heap.size, 1, none⟩ = some ev
  fr : wr.frozen? ⟨w2.heap.size, 1, none⟩ = false
  own : wr.ownsRow (w2.heap.size + 3) 109 2 ev E.length (E.flatMap encS)
  m8 : LM (w2.heap.size + 1) m (lastI Prod.snd (nodesF l) m) wr
  m9 : LM (w2.heap.size + 2) m (lastI Prod.fst (nodesF l) m) wr
theorem Nw.below {w2 wr w' : World} {nv ev : Value} {l : List Sg} {E : List Ei} {m : Nat} (h : Nw w2 wr nv ev l E m) (hb : Below wr.heap.size wr w') : Nw w2 w' nv ev l E m := by
  have hs := h.sz
  exact ⟨h.low.trans (hb.mono h.low.size), Nat.le_trans h.sz hb.size, (hb.cell (p := ⟨_, 0, none⟩) (by simp only; omega)).trans h.c0, (hb.cell (p := ⟨_, 1, none⟩) (by simp only; omega)).trans h.c1, (hb.frozen (p := ⟨_, 1, none⟩) (by simp only; omega)).trans h.fr, h.own.kept (below_grow hb) own_none_or, h.m8.below hb, h.m9.below hb⟩
theorem Nw.app {w2 wr w6 w9 w10 : World} {nv ev ev' : Value} {l : List Sg} {E : List Ei} {m : Nat} (h : Nw w2 wr nv ev l E m) (hb : Below wr.heap.size wr w6) {e : Ei} {xs : List Value} (hx : xs = (E ++ [e]).flatMap encS)
    (ho : w9.ownsRow (w2.heap.size + 3) 109 2 ev' (E.length + 1) xs) (hg : w6.grownBy w9 ev.ownBlock) (hw : w10 = w9.setCell ⟨w2.heap.size, 1, none⟩ ev') : Nw w2 w10 nv ev' l (E ++ [e]) m := by
  have h6 := h.below hb
  have hs := h6.sz
  have hlt : ∀ q, ev.ownBlock = some q → w2.heap.size + 3 ≤ q := fun q hq => (h6.own.lt q hq).1
  have hne : ∀ i, i < 3 → some (w2.heap.size + i) ≠ ev.ownBlock := fun i hi e => by have := hlt _ e.symm; omega
  have n0 := hne 0 (by omega)
  have h9s := hg.size
  have hl9 : Below w2.heap.size w2 w9 := h6.low.grown hg h6.low.size (fun q hq => by have := hlt q hq; omega)
  have c0 := (cell_grow hg (b := w2.heap.size) (o := 0) (by omega) n0).trans h6.c0
  have c1 := (cell_grow hg (b := w2.heap.size) (o := 1) (by omega) n0).trans h6.c1
  have fr := (frozen_grow hg (b := w2.heap.size) (o := 1) (by omega) n0).trans h6.fr
  have k8 := h6.m8.grown hg (hne 1 (by omega))
  have k9 := h6.m9.grown hg (hne 2 (by omega))
  have hgz : w9.grownBy w10 (some w2.heap.size) := by
    rw [hw]
    exact ⟨rfl, rfl, rfl, by simp, fun k _ hk => Below.heap_setCell _ _ _ _ (fun e => hk (by rw [e]))⟩
  refine ⟨?_, ?_, ?_, ?_, ?_, ?_, ?_, ?_⟩
  · rw [hw]; exact Below.setCell hl9 (Nat.le_refl _) _
  · have := hgz.size; omega
  · rw [hw]; simp [go_sem, c0]
  · rw [hw]; simp [go_sem, c1]
  · rw [hw]; simp [go_sem, fr]
  · rw [List.length_append, List.length_singleton, ← hx]
    refine ho.kept hgz ?_
    rcases hq : ev'.ownBlock with _ | q
    · exact .inl rfl
    · right
      intro e
      have h1 := (ho.lt q hq).1
      injection e with e
      omega
  · exact k8.grown hgz (by simp)
  · exact k9.grown hgz (by simp)
theorem Nw.at9 {w2 wr w6 w9 : World} {nv ev : Value} {l : List Sg} {E : List Ei} {m : Nat} (h : Nw w2 wr nv ev l E m) (hb : Below wr.heap.size wr w6) (hg : w6.grownBy w9 ev.ownBlock) :
    w9.cell? ⟨w2.heap.size, 1, none⟩ = some ev ∧ w9.frozen? ⟨w2.heap.size, 1, none⟩ = false ∧ w2.heap.size < w9.heap.size := by
  have h6 := h.below hb
  have hs := h6.sz
  have n0 : some w2.heap.size ≠ ev.ownBlock := fun e => by have := (h6.own.lt _ e.symm).1; omega
  have h9s := hg.size
  exact ⟨(cell_grow hg (b := w2.heap.size) (o := 1) (by omega) n0).trans h6.c1, (frozen_grow hg (b := w2.heap.size) (o := 1) (by omega) n0).trans h6.fr, by omega⟩
/-- The boxes of a round: the point's, the bools'; and where the edges' row does not lie. -/
def Bx (wx : World) (g5 g7 : Nat) (px py : Int) (q4 : Bool) (ev : Value) : Prop :=
  wx.cell? ⟨g5, 0, none⟩ = some (.int .i64 px) ∧ wx.cell? ⟨g5, 1, none⟩ = some (.int .i64 py) ∧ wx.cell? ⟨g7, 3, none⟩ = some (.bool q4) ∧ g5 < wx.heap.size ∧ g7 < wx.heap.size ∧ ev.ownBlock ≠ some g5 ∧ ev.ownBlock ≠ some g7
theorem Bx.app {wx w6 w9 w10 : World} {g5 g7 g9 b : Nat} {px py : Int} {q4 : Bool} {ev ev' u : Value} (h : Bx wx g5 g7 px py q4 ev) (hb : Below wx.heap.size wx w6) (hg : w6.grownBy w9 ev.ownBlock) (hor : ev.ownBlock = some g9 ∨ g9 = w6.heap.size)
    (hw : w10 = w9.setCell ⟨b, 1, none⟩ u) (h5 : b < g5) (h7 : b < g7) (he : ev'.ownBlock = some g9) : Bx w10 g5 g7 px py q4 ev' := by
  obtain ⟨a1, a2, a3, a4, a5, a6, a7⟩ := h
  have hs := hb.size
  have hs2 := hg.size
  have n5 : b ≠ g5 := by omega
  have n7 : b ≠ g7 := by omega
  have k5 : g9 ≠ g5 := by
    rcases hor with h | h
    · exact fun e => a6 (by rw [h, e])
    · omega
  have k7 : g9 ≠ g7 := by
    rcases hor with h | h
    · exact fun e => a7 (by rw [h, e])
    · omega
  have far : ∀ (g o : Nat), b ≠ g → w10.cell? ⟨g, o, none⟩ = w9.cell? ⟨g, o, none⟩ := fun g o hn => by rw [hw]; exact World.cell?_setCell_far _ _ _ _ hn
  have hz : w10.heap.size = w9.heap.size := by rw [hw]; simp
  refine ⟨(far _ _ n5).trans ((cell_grow hg (by omega) (Ne.symm a6)).trans ((hb.cell (p := ⟨g5, 0, none⟩) a4).trans a1)), (far _ _ n5).trans ((cell_grow hg (by omega) (Ne.symm a6)).trans ((hb.cell (p := ⟨g5, 1, none⟩) a4).trans a2)), (far _ _ n7).trans ((cell_grow hg (by omega) (Ne.symm a7)).trans ((hb.cell (p := ⟨g7, 3, none⟩) a5).trans a3)), by omega, by omega, ?_, ?_⟩
  · rw [he]; exact fun e => k5 (by injection e)
  · rw [he]; exact fun e => k7 (by injection e)
theorem Nw.put {w2 wr : World} {nv ev : Value} {l : List Sg} {E : List Ei} {m : Nat} (h : Nw w2 wr nv ev l E m) (hm : m ≤ 400) (hp : bigP (nd (nodesF l) m)) :
    ∃ wa, (Instr.mapUpdate 105 (.map (some (w2.heap.size + 1))) (.int .i64 (nd (nodesF l) m).2) (.int .i64 m)).run Tryz.prog wr = .ok () wa ∧ wr.grownBy wa (some (w2.heap.size + 1)) ∧
      ∃ wb, (Instr.mapUpdate 105 (.map (some (w2.heap.size + 2))) (.int .i64 (nd (nodesF l) m).1) (.int .i64 m)).run Tryz.prog wa = .ok () wb ∧ Nw w2 wb nv ev l E (m + 1) := by
  obtain ⟨⟨x1, x2⟩, y1, y2⟩ := hp
  obtain ⟨wa, r1, g1, k1⟩ := h.m8.store (k := (nd (nodesF l) m).2) (v := m) (by unfold okK; omega) (by unfold okK; omega) (by unfold maxLen; omega)
  obtain ⟨wb, r2, g2, k2⟩ := (h.m9.grown g1 (fun e => by injection e with e; omega)).store (k := (nd (nodesF l) m).1) (v := m) (by unfold okK; omega) (by unfold okK; omega) (by unfold maxLen; omega)
  have hs := h.sz
  have hsa := g1.size
  have hsb := g2.size
  refine ⟨wa, r1, g1, wb, r2, ?_⟩
  refine ⟨(h.low.grown g1 h.low.size (fun q hq => by injection hq with hq; omega)).grown g2 (by omega) (fun q hq => by injection hq with hq; omega), by omega, ?_, ?_, ?_, ?_, ?_, ?_⟩
  · exact (cell_grow g2 (by omega) (fun e => by injection e with e; omega)).trans ((cell_grow g1 (by omega) (fun e => by injection e with e; omega)).trans h.c0)
  · exact (cell_grow g2 (by omega) (fun e => by injection e with e; omega)).trans ((cell_grow g1 (by omega) (fun e => by injection e with e; omega)).trans h.c1)
  · exact (frozen_grow g2 (by omega) (fun e => by injection e with e; omega)).trans ((frozen_grow g1 (by omega) (fun e => by injection e with e; omega)).trans h.fr)
  · have hk : ∀ q, q = w2.heap.size + 1 ∨ q = w2.heap.size + 2 → ev.ownBlock = none ∨ some q ≠ ev.ownBlock := fun q hq => by
      right
      intro e
      have := (h.own.lt q e.symm).1
      omega
    have hkk : ∀ q, q = w2.heap.size + 1 ∨ q = w2.heap.size + 2 → ev.ownBlock = none ∨ ev.ownBlock ≠ some q := fun q hq => by
      rcases hk q hq with h | h
      · exact .inl h
      · exact .inr (Ne.symm h)
    exact (h.own.kept g1 (hkk _ (.inl rfl))).kept g2 (hkk _ (.inr rfl))
  · rw [lastI_succ]
    exact k1.grown g2 (fun e => by injection e with e; omega)
  · rw [lastI_succ]
    exact k2

/-- What network gives. -/
def NetQ (w w' : World) (l : List Sg) (e : Ending) : Prop :=
  ((nodesF l).length ≤ 400 → ∃ nv ev, e = .returned (.tuple #[.agg #[nv, ev], .bool true]) ∧ w'.ownsRow w.heap.size 51 2 nv (nodesF l).length ((nodesF l).flatMap encS) ∧ w'.ownsRow w.heap.size 109 2 ev (edI (edgesF l)).length ((edI (edgesF l)).flatMap encS)) ∧
  (400 < (nodesF l).length → e = .returned (.tuple #[.agg #[.slice none 0 0, .slice none 0 0], .bool false]))
set_option maxHeartbeats 8000000 in
theorem network_any {w : World} {v : Value} {l0 : List Sg} (hr : RdK encSg 4 w w.heap.size v l0) (hl0 : l0.length ≤ 800) (hv0 : ∀ s ∈ l0, okSg s) :
    Calls Tryz.prog 62 #[v] w fun e w' => NetQ w w' (thin l0) e ∧ Below w.heap.size w w' := by
  have HCO : Hid (∀ W, Below w.heap.size w W → Calls Tryz.prog 106 #[v] W fun e w' => ∃ u, e = .returned u ∧ Roads W.heap.size (thin l0) u w' ∧ Below W.heap.size W w') := hide (fun W hb => collect_any ((hr.below hb).mono hb.size) hl0 hv0)
  have hv : ∀ s ∈ thin l0, okSg s := fun s hs => hv0 s (thin_mem hs)
  have hl : (thin l0).length ≤ 800 := Nat.le_trans (thin_len l0) hl0
  generalize thin l0 = l at *
  have HV := hide hv
  clear hv hr hv0 hl0
  have hmm := @run_makeMap Tryz.prog
  go_enter Tryz.func62, Tryz.ntmps62
  go_wp2_with (fail)
  have hba : Below w.heap.size w (w.alloc (.cells #[.slice none 0 0, .slice none 0 0] 25)) := (Below.refl _ _).alloc (Nat.le_refl _) _
  refine (HCO.out _ hba).mono ?_
  rintro e w1 ⟨u, rfl, hro, hb⟩
  have HB1 : Hid (Below w.heap.size w w1) := hide (hba.trans (hb.mono hba.size))
  have HR1 : Hid ((∀ i, i < 2 → w1.cell? ⟨w.heap.size, i, none⟩ = some (.slice none 0 0) ∧ w1.frozen? ⟨w.heap.size, i, none⟩ = false) ∧ w.heap.size < w1.heap.size) := hide (by
    refine ⟨fun i hi => ?_, Nat.lt_of_lt_of_le (by simp) hb.size⟩
    match i, hi with
    | 0, _ => exact ⟨(hb.cell (p := ⟨w.heap.size, 0, none⟩) (by simp)).trans (by simp [go_sem]), (hb.frozen (p := ⟨w.heap.size, 0, none⟩) (by simp)).trans (by simp [go_sem])⟩
    | 1, _ => exact ⟨(hb.cell (p := ⟨w.heap.size, 1, none⟩) (by simp)).trans (by simp [go_sem]), (hb.frozen (p := ⟨w.heap.size, 1, none⟩) (by simp)).trans (by simp [go_sem])⟩)
  obtain ⟨b1, b2, K1, K2, v1, v2, rfl, m1, m2, k1, k2, e1, e2⟩ := hro
  have HM := hide (And.intro m1 (And.intro m2 (And.intro k1 (And.intro k2 (And.intro e1 e2)))))
  clear m1 m2 k1 k2 e1 e2 hb hba
  go_wp2_with (fail)
  have hbb : Below w1.heap.size w1 (w1.alloc (.cells #[.map (some b1), .map (some b2)] 163)) := (Below.refl _ _).alloc (Nat.le_refl _) _
  refine (nodes_any (HM.out.1.below hbb) (HM.out.2.1.below hbb) HM.out.2.2.1 HM.out.2.2.2.1 HM.out.2.2.2.2.1 HM.out.2.2.2.2.2 HV.out hl).mono ?_
  rintro e w3 ⟨⟨A, c, L, ok, rfl, ho, hcase⟩, hb⟩
  have hb3 := hbb.trans (hb.mono hbb.size)
  have HB3 : Hid (Below w.heap.size w w3) := hide (HB1.out.trans (hb3.mono HB1.out.size))
  have HR3 : Hid ((∀ i, i < 2 → w3.cell? ⟨w.heap.size, i, none⟩ = some (.slice none 0 0) ∧ w3.frozen? ⟨w.heap.size, i, none⟩ = false) ∧ w.heap.size < w3.heap.size) := hide ⟨fun i hi => ⟨(hb3.cell (p := ⟨w.heap.size, i, none⟩) HR1.out.2).trans (HR1.out.1 i hi).1, (hb3.frozen (p := ⟨w.heap.size, i, none⟩) HR1.out.2).trans (HR1.out.1 i hi).2⟩, Nat.lt_of_lt_of_le HR1.out.2 hb3.size⟩
  have HT3 : Hid (w3.cell? ⟨w1.heap.size, 0, none⟩ = some (.map (some b1)) ∧ w3.cell? ⟨w1.heap.size, 1, none⟩ = some (.map (some b2)) ∧ w1.heap.size < w3.heap.size) := hide ⟨(hb.cell (p := ⟨w1.heap.size, 0, none⟩) (by simp)).trans (by simp [go_sem]), (hb.cell (p := ⟨w1.heap.size, 1, none⟩) (by simp)).trans (by simp [go_sem]), Nat.lt_of_lt_of_le (by simp) hb.size⟩
  have HRO : Hid (Roads (w.heap.size + 1) l (.agg #[.map (some b1), .map (some b2)]) w3) := hide (by
    have h : Roads (w.heap.size + 1) l (.agg #[.map (some b1), .map (some b2)]) w1 := ⟨b1, b2, K1, K2, v1, v2, rfl, by have h := HM.out.1; simpa using h, by have h := HM.out.2.1; simpa using h, HM.out.2.2.1, HM.out.2.2.2.1, by have h := HM.out.2.2.2.2.1; simpa using h, by have h := HM.out.2.2.2.2.2; simpa using h⟩
    exact h.below hb3)
  have ho' := own_base ho (base := w.heap.size + 1) (by have := hbb.size; have := HR1.out.2; omega)
  have HNO := hide ho'
  have hw1 : w.heap.size ≤ w1.heap.size := HB1.out.size
  clear HB1 HR1 HM hbb hb3 hb ho ho' K1 K2 v1 v2
  rcases hcase with ⟨hn, rfl, rfl⟩ | ⟨hn, rfl⟩
  · obtain ⟨_, _, hsl, hcc⟩ := own_rd HNO.out (fun _ => rfl)
    injection hsl with q1 _ q3
    subst q1
    subst q3
    have HR := hide hcc
    clear hcc
    go_upto_region 7 with fail
    refine wp_name fun w4 hw4 => ?_
    clear hmm
    have HN4 : Hid (Nw w3 w4 (.slice A (nodesF l).length c) (.slice none 0 0) l [] 0) := hide (by
      have q8 := LM.made (w3.alloc (.cells #[.slice A (nodesF l).length c, .slice none 0 0] 25))
      have q9 := LM.made ((w3.alloc (.cells #[.slice A (nodesF l).length c, .slice none 0 0] 25)).alloc (.map #[] 0))
      have e1 : (w3.alloc (.cells #[.slice A (nodesF l).length c, .slice none 0 0] 25)).heap.size = w3.heap.size + 1 := by simp
      have e2 : ((w3.alloc (.cells #[.slice A (nodesF l).length c, .slice none 0 0] 25)).alloc (.map #[] 0)).heap.size = w3.heap.size + 2 := by simp
      rw [e1] at q8
      rw [e2] at q9
      rw [← lastI_zero Prod.snd (nodesF l)] at q8
      rw [← lastI_zero Prod.fst (nodesF l)] at q9
      rw [hw4]
      exact ⟨(((Below.refl _ _).alloc (Nat.le_refl _) _).alloc (by simp) _).alloc (by simp; omega) _, by simp, by simp [go_sem], by simp [go_sem], by simp [go_sem], World.ownsRow_nil _ _ _ _, q8.below ((Below.refl _ _).alloc (Nat.le_refl _) _), q9⟩)
    clear hw4
    go_wp2
    go_loopw [29] (fun i wr => ∃ m : Nat, m ≤ (nodesF l).length ∧ i = .int .i64 m ∧ Hid (∃ ev, Nw w3 wr (.slice A (nodesF l).length c) ev l (codeE (htB l) (vtB l) (nodesF l) m) m)) (fun i _ => (nodesF l).length - (intOf i).toNat)
    case atStart => exact ⟨0, Nat.zero_le _, rfl, hide ⟨_, HN4.out⟩⟩
    case round =>
      clear HN4
      obtain ⟨m, hm, rfl, HH⟩ := hrel
      by_cases hlt : m < (nodesF l).length
      · obtain ⟨ev, hnw⟩ := HH.out
        obtain ⟨Ae, ce, rfl⟩ := own_form hnw.own
        have HNW := hide hnw
        have HEL := hide (codeE_len (htB l) (vtB l) (nodesF l) m)
        have HSU := hide (codeE_succ (htB l) (vtB l) (nodesF l) m)
        clear HH hnw
        generalize codeE (htB l) (vtB l) (nodesF l) m = E at *
        have hel : E.length ≤ 2 * m := HEL.out
        obtain ⟨⟨px, py⟩, hs⟩ : ∃ p, (nodesF l)[m]? = some p := ⟨_, List.getElem?_eq_getElem hlt⟩
        have HND : Hid (nd (nodesF l) m = (px, py)) := hide (by unfold nd; rw [List.getD_eq_getElem?_getD, hs]; rfl)
        have hbp := node_big HV.out (((nodesF_ok HV.out).2 (px, py)).1 (List.mem_of_getElem? hs))
        have HBP := hide hbp
        obtain ⟨b, o, rfl, hbl, k⟩ := HR.out (by intro e; rw [e] at hlt; simp at hlt)
        have d0 : wr.cell? ⟨b, o + m * 2, none⟩ = some (.int .i64 px) := (HNW.out.low.cell (p := ⟨b, _, none⟩) hbl).trans (k m _ hs 0 _ rfl)
        have d1 : wr.cell? ⟨b, o + m * 2 + 1, none⟩ = some (.int .i64 py) := (HNW.out.low.cell (p := ⟨b, _, none⟩) hbl).trans (k m _ hs 1 _ rfl)
        have mz : (m : Int) < ((nodesF l).length : Int) := by omega
        clear k hs
        go_upto_region 9 with fail
        go_upto_region 10 with fail
        refine wp_name fun w5 hw5 => ?_
        obtain ⟨g5, hg5⟩ : ∃ g, g = wr.heap.size := ⟨_, rfl⟩
        have hb5 : Below wr.heap.size wr w5 := by
          rw [hw5]
          repeat (first | with_reducible exact Below.refl _ _ | with_reducible refine Below.setCell ?_ (by first | (simp; done) | (simp; omega)) _ | with_reducible refine Below.alloc ?_ (by first | omega | (simp; omega) | simp) _)
        have p0 : w5.cell? ⟨g5, 0, none⟩ = some (.int .i64 px) := by rw [hw5, hg5]; simp [go_sem]
        have p1 : w5.cell? ⟨g5, 1, none⟩ = some (.int .i64 py) := by rw [hw5, hg5]; simp [go_sem]
        have hlt5 : g5 < w5.heap.size := by rw [hw5, hg5]; simp
        have HN5 := hide (HNW.out.below hb5)
        have z0 := (HN5.out.low.cell (p := ⟨w1.heap.size, 0, none⟩) HT3.out.2.2).trans HT3.out.1
        have z1 := (HN5.out.low.cell (p := ⟨w1.heap.size, 1, none⟩) HT3.out.2.2).trans HT3.out.2.1
        rw [← hg5]
        have hsz5 : w3.heap.size + 3 ≤ g5 := by rw [hg5]; exact HNW.out.sz
        have HOB : Hid (∀ q, (Value.slice Ae E.length ce).ownBlock = some q → q < g5) := hide (fun q hq => by rw [hg5]; exact (HNW.out.own.lt q hq).2)
        clear hw5 hb5 hg5 d0 d1 HNW
        go_wp2_with (fail)
        refine (around_any (HRO.out.below HN5.out.low) HV.out hl HBP.out).mono ?_
        rintro e w6 ⟨rfl, hb6⟩
        have hr : arndV l (px, py) = .agg #[.bool (htB l px py), .bool (vtB l px py), .bool (htB l (px - 1) py), .bool (vtB l px (py - 1))] := rfl
        rw [hr]
        clear hr
        have HLT : Hid (ltE (htB l) (nodesF l) m = if htB l (px - 1) py = true then [(lastG Prod.snd (nodesF l) m py, m)] else []) := hide (by unfold ltE; rw [HND.out])
        have HDN : Hid (dnE (vtB l) (nodesF l) m = if vtB l px (py - 1) = true then [(lastG Prod.fst (nodesF l) m px, m)] else []) := hide (by unfold dnE; rw [HND.out])
        generalize htB l px py = q1
        generalize vtB l px py = q2
        generalize htB l (px - 1) py = q3 at *
        generalize vtB l px (py - 1) = q4 at *
        go_upto_region 11 with fail
        refine wp_name fun w7 hw7 => ?_
        obtain ⟨g7, hg7⟩ : ∃ g, g = w6.heap.size := ⟨_, rfl⟩
        have hb7 : Below w5.heap.size w5 w7 := by
          rw [hw7]
          exact hb6.alloc hb6.size _
        have HB7 : Hid (Bx w7 g5 g7 px py q4 (.slice Ae E.length ce)) := hide ⟨(hb7.cell (p := ⟨g5, 0, none⟩) hlt5).trans p0, (hb7.cell (p := ⟨g5, 1, none⟩) hlt5).trans p1, by rw [hw7, hg7]; simp [go_sem], Nat.lt_of_lt_of_le hlt5 hb7.size, by rw [hw7, hg7]; simp, fun e => Nat.lt_irrefl _ (HOB.out _ e), fun e => by have := HOB.out _ e; have := hb6.size; omega⟩
        have a2 : w7.cell? ⟨g7, 2, none⟩ = some (.bool q3) := by rw [hw7, hg7]; simp [go_sem]
        have hg57 : g5 < g7 := by have := hb6.size; omega
        have HN7 := hide (HN5.out.below hb7)
        have p0' := HB7.out.1
        have p1' := HB7.out.2.1
        rw [← hg7]
        clear hw7 hb7 hb6 hg7 p0 p1 z0 z1 HN5 hlt5
        obtain ⟨i2, fi, fz0, fz1, fz2⟩ := info_parts infoEd
        cases q3
        · go_upto_region 13 with fail
          have HE1 : Hid (E = E ++ edI (ltE (htB l) (nodesF l) m)) := hide (by rw [HLT.out]; simp [edI])
          have he1 : E.length ≤ 2 * m + 1 := by omega
          clear a2 p0' p1'
          have b4 := HB7.out.2.2.1
          have hsB := HB7.out.2.2.2.2.1
          have p0 := HB7.out.1
          have p1 := HB7.out.2.1
          cases q4
          · go_upto_region 15 with fail
            have HE2 : Hid (E = E ++ edI (ltE (htB l) (nodesF l) m) ++ edI (dnE (vtB l) (nodesF l) m)) := hide (by rw [← HE1.out, HDN.out]; simp [edI])
            clear b4 p0 p1 hsB
            have x0 := HB7.out.1
            have x1 := HB7.out.2.1
            have hsB := HB7.out.2.2.2.1
            obtain ⟨wa, ra, ga, wb, rb, hn⟩ := (HN7.out.below ((Below.refl _ _).drew)).put (by omega) (by rw [HND.out]; exact HBP.out)
            rw [HND.out] at ra rb
            have y0 : wa.cell? ⟨g5, 0, none⟩ = some (.int .i64 px) := (cell_grow ga hsB (fun e => by injection e with e; omega)).trans x0
            have y1 : wa.cell? ⟨g5, 1, none⟩ = some (.int .i64 py) := (cell_grow ga hsB (fun e => by injection e with e; omega)).trans x1
            have HNB := hide hn
            clear hn ga
            refine wp_region_mix [0, 1, 2, 3, 4, 5, 6, 7] [8, 9] (fun w' => w'.cell? ⟨g5, 0, none⟩ = some (.int .i64 px) ∧ w'.cell? ⟨g5, 1, none⟩ = some (.int .i64 py)) (by kernel_rfl) (by kernel_rfl) ⟨x0, x1⟩ ?_
            simp only [List.map_cons, List.map_nil, opAt, List.getElem?_cons_succ, List.getElem?_cons_zero, Option.getD_some]
            iterate 8
              refine ⟨?_, Or.inl ⟨by rfl, ?_⟩, ?_⟩
              rotate_left 1
              · intro w' hSw
                obtain ⟨z0, z1⟩ := hSw
                go_simp
                first | done | with_reducible rfl
              simp only [Act.put, List.setIfInBounds_toArray, List.set_cons_zero, List.set_cons_succ]

            simp only [wpReads]
            intro K hK
            simp only [Act.put, List.setIfInBounds_toArray, List.set_cons_zero, List.set_cons_succ] at hK ⊢
            go_simp
            refine hK _ _ (fun _ => ⟨y0, y1⟩) ?_
            clear hK K
            intro K hK
            simp only [Act.put, List.setIfInBounds_toArray, List.set_cons_zero, List.set_cons_succ] at hK ⊢
            go_simp
            refine hK _ _ (fun h => absurd rfl h) ?_
            clear hK K
            refine NoPanic.normal ?_
            go_wp2
            go_roundw
            case rel => exact ⟨m + 1, by omega, by go_num, hide ⟨_, by rw [HSU.out, ← HE2.out]; exact HNB.out⟩⟩
            case measure => simp [intOf]; omega
          · have lk := HN7.out.m9.look (k := px) (by have := HBP.out; unfold bigP at this; unfold okK; simp only at this; omega)
            have c1 := HN7.out.c1
            have hszN := HN7.out.sz
            go_wp2_with (at_builtin; go_loud (refine wpList_append_lies _ rfl (.tmp 53) (.tmp 60) 23 rfl (w3.heap.size + 3) 109 i2 (.agg #[.int .i64 0, .int .i64 0]) 2 16 Tryz.underlying23 fi fz0 fz1 fz2 rfl (by decide) _ E.length _ rfl (World.ownsRow.alloc HN7.out.own _) ⟨w7.heap.size, 0, none⟩ 1 1 [.int .i64 (lastI Prod.fst (nodesF l) m px), .int .i64 m] rfl rfl (news_new w7 _ _ _ (by simp)) (ints_one rfl) (by omega) (by unfold maxLen; omega) (by omega) (by simp; omega) _ rfl ?_))
            intro gA capA wA hownA hgrowA horA hltA
            have hal := (Below.refl w7.heap.size w7).alloc (Nat.le_refl _) (.cells #[.int .i64 (lastI Prod.fst (nodesF l) m px), .int .i64 m] 109)
            obtain ⟨s1, s2, s3⟩ := HN7.out.at9 hal hgrowA
            have hxA : E.flatMap encS ++ [.int .i64 (lastI Prod.fst (nodesF l) m px), .int .i64 m] = (E ++ [(lastI Prod.fst (nodesF l) m px, (m : Int))]).flatMap encS := by simp [encS]
            go_upto_region 15 with fail
            refine wp_name fun wE hwE => ?_
            have HNE := hide (HN7.out.app hal (e := (lastI Prod.fst (nodesF l) m px, (m : Int))) hxA hownA hgrowA hwE)
            have HBE := hide (HB7.out.app (g9 := gA) (ev' := .slice (some ⟨gA, 0, none⟩) (E ++ [(lastI Prod.fst (nodesF l) m px, (m : Int))]).length capA) hal hgrowA (horA.imp id (fun h => by rw [h]; simp)) hwE (by omega) (by omega) rfl)
            have HE2 : Hid (E ++ [(lastI Prod.fst (nodesF l) m px, (m : Int))] = E ++ edI (ltE (htB l) (nodesF l) m) ++ edI (dnE (vtB l) (nodesF l) m)) := hide (by rw [← HE1.out, HDN.out]; simp [edI, lastI])
            clear hwE lk c1 hszN hownA hgrowA horA hltA hal s1 s2 s3 hxA b4 p0 p1 hsB
            have x0 := HBE.out.1
            have x1 := HBE.out.2.1
            have hsB := HBE.out.2.2.2.1
            obtain ⟨wa, ra, ga, wb, rb, hn⟩ := (HNE.out.below ((Below.refl _ _).drew)).put (by omega) (by rw [HND.out]; exact HBP.out)
            rw [HND.out] at ra rb
            have y0 : wa.cell? ⟨g5, 0, none⟩ = some (.int .i64 px) := (cell_grow ga hsB (fun e => by injection e with e; omega)).trans x0
            have y1 : wa.cell? ⟨g5, 1, none⟩ = some (.int .i64 py) := (cell_grow ga hsB (fun e => by injection e with e; omega)).trans x1
            have HNB := hide hn
            clear hn ga
            refine wp_region_mix [0, 1, 2, 3, 4, 5, 6, 7] [8, 9] (fun w' => w'.cell? ⟨g5, 0, none⟩ = some (.int .i64 px) ∧ w'.cell? ⟨g5, 1, none⟩ = some (.int .i64 py)) (by kernel_rfl) (by kernel_rfl) ⟨x0, x1⟩ ?_
            simp only [List.map_cons, List.map_nil, opAt, List.getElem?_cons_succ, List.getElem?_cons_zero, Option.getD_some]
            iterate 8
              refine ⟨?_, Or.inl ⟨by rfl, ?_⟩, ?_⟩
              rotate_left 1
              · intro w' hSw
                obtain ⟨z0, z1⟩ := hSw
                go_simp
                first | done | with_reducible rfl
              simp only [Act.put, List.setIfInBounds_toArray, List.set_cons_zero, List.set_cons_succ]

            simp only [wpReads]
            intro K hK
            simp only [Act.put, List.setIfInBounds_toArray, List.set_cons_zero, List.set_cons_succ] at hK ⊢
            go_simp
            refine hK _ _ (fun _ => ⟨y0, y1⟩) ?_
            clear hK K
            intro K hK
            simp only [Act.put, List.setIfInBounds_toArray, List.set_cons_zero, List.set_cons_succ] at hK ⊢
            go_simp
            refine hK _ _ (fun h => absurd rfl h) ?_
            clear hK K
            refine NoPanic.normal ?_
            go_wp2
            go_roundw
            case rel => exact ⟨m + 1, by omega, by go_num, hide ⟨_, by rw [HSU.out, ← HE2.out]; exact HNB.out⟩⟩
            case measure => simp [intOf]; omega
        · have lk := HN7.out.m8.look (k := py) (by have := HBP.out; unfold bigP at this; unfold okK; simp only at this; omega)
          have c1 := HN7.out.c1
          have hsz7 := HN7.out.sz
          go_wp2_with (at_builtin; go_loud (refine wpList_append_lies _ rfl (.tmp 40) (.tmp 47) 23 rfl (w3.heap.size + 3) 109 i2 (.agg #[.int .i64 0, .int .i64 0]) 2 16 Tryz.underlying23 fi fz0 fz1 fz2 rfl (by decide) _ E.length _ rfl (World.ownsRow.alloc HN7.out.own _) ⟨w7.heap.size, 0, none⟩ 1 1 [.int .i64 (lastI Prod.snd (nodesF l) m py), .int .i64 m] rfl rfl (news_new w7 _ _ _ (by simp)) (ints_one rfl) (by omega) (by unfold maxLen; omega) (by omega) (by simp; omega) _ rfl ?_))
          intro g9 cap9 w9 hown9 hgrow9 hor9 hlt9
          have hal := (Below.refl w7.heap.size w7).alloc (Nat.le_refl _) (.cells #[.int .i64 (lastI Prod.snd (nodesF l) m py), .int .i64 m] 109)
          obtain ⟨s1, s2, s3⟩ := HN7.out.at9 hal hgrow9
          have hx9 : E.flatMap encS ++ [.int .i64 (lastI Prod.snd (nodesF l) m py), .int .i64 m] = (E ++ [(lastI Prod.snd (nodesF l) m py, (m : Int))]).flatMap encS := by simp [encS]
          go_upto_region 13 with fail
          refine wp_name fun w8 hw8 => ?_
          have HN8 := hide (HN7.out.app hal (e := (lastI Prod.snd (nodesF l) m py, (m : Int))) hx9 hown9 hgrow9 hw8)
          have HB8 := hide (HB7.out.app (g9 := g9) (ev' := .slice (some ⟨g9, 0, none⟩) (E ++ [(lastI Prod.snd (nodesF l) m py, (m : Int))]).length cap9) hal hgrow9 (hor9.imp id (fun h => by rw [h]; simp)) hw8 (by omega) (by omega) rfl)
          have HE1 : Hid (E ++ [(lastI Prod.snd (nodesF l) m py, (m : Int))] = E ++ edI (ltE (htB l) (nodesF l) m)) := hide (by rw [HLT.out]; simp [edI, lastI])
          have he1 : (E ++ [(lastI Prod.snd (nodesF l) m py, (m : Int))]).length ≤ 2 * m + 1 := by rw [List.length_append, List.length_singleton]; omega
          have hln : (E ++ [(lastI Prod.snd (nodesF l) m py, (m : Int))]).length = E.length + 1 := by simp
          rw [← hln] at HN8
          clear hw8 lk c1 hsz7 hown9 hgrow9 hor9 hlt9 hal s1 s2 s3 hx9 hln a2 p0' p1'
          generalize E ++ [(lastI Prod.snd (nodesF l) m py, (m : Int))] = E1 at *
          have b4 := HB8.out.2.2.1
          have hsB := HB8.out.2.2.2.2.1
          have p0 := HB8.out.1
          have p1 := HB8.out.2.1
          cases q4
          · go_upto_region 15 with fail
            have HE2 : Hid (E1 = E ++ edI (ltE (htB l) (nodesF l) m) ++ edI (dnE (vtB l) (nodesF l) m)) := hide (by rw [← HE1.out, HDN.out]; simp [edI])
            clear b4 p0 p1 hsB
            have x0 := HB8.out.1
            have x1 := HB8.out.2.1
            have hsB := HB8.out.2.2.2.1
            obtain ⟨wa, ra, ga, wb, rb, hn⟩ := (HN8.out.below ((Below.refl _ _).drew)).put (by omega) (by rw [HND.out]; exact HBP.out)
            rw [HND.out] at ra rb
            have y0 : wa.cell? ⟨g5, 0, none⟩ = some (.int .i64 px) := (cell_grow ga hsB (fun e => by injection e with e; omega)).trans x0
            have y1 : wa.cell? ⟨g5, 1, none⟩ = some (.int .i64 py) := (cell_grow ga hsB (fun e => by injection e with e; omega)).trans x1
            have HNB := hide hn
            clear hn ga
            refine wp_region_mix [0, 1, 2, 3, 4, 5, 6, 7] [8, 9] (fun w' => w'.cell? ⟨g5, 0, none⟩ = some (.int .i64 px) ∧ w'.cell? ⟨g5, 1, none⟩ = some (.int .i64 py)) (by kernel_rfl) (by kernel_rfl) ⟨x0, x1⟩ ?_
            simp only [List.map_cons, List.map_nil, opAt, List.getElem?_cons_succ, List.getElem?_cons_zero, Option.getD_some]
            iterate 8
              refine ⟨?_, Or.inl ⟨by rfl, ?_⟩, ?_⟩
              rotate_left 1
              · intro w' hSw
                obtain ⟨z0, z1⟩ := hSw
                go_simp
                first | done | with_reducible rfl
              simp only [Act.put, List.setIfInBounds_toArray, List.set_cons_zero, List.set_cons_succ]

            simp only [wpReads]
            intro K hK
            simp only [Act.put, List.setIfInBounds_toArray, List.set_cons_zero, List.set_cons_succ] at hK ⊢
            go_simp
            refine hK _ _ (fun _ => ⟨y0, y1⟩) ?_
            clear hK K
            intro K hK
            simp only [Act.put, List.setIfInBounds_toArray, List.set_cons_zero, List.set_cons_succ] at hK ⊢
            go_simp
            refine hK _ _ (fun h => absurd rfl h) ?_
            clear hK K
            refine NoPanic.normal ?_
            go_wp2
            go_roundw
            case rel => exact ⟨m + 1, by omega, by go_num, hide ⟨_, by rw [HSU.out, ← HE2.out]; exact HNB.out⟩⟩
            case measure => simp [intOf]; omega
          · have lk := HN8.out.m9.look (k := px) (by have := HBP.out; unfold bigP at this; unfold okK; simp only at this; omega)
            have c1 := HN8.out.c1
            have hszN := HN8.out.sz
            go_wp2_with (at_builtin; go_loud (refine wpList_append_lies _ rfl (.tmp 53) (.tmp 60) 23 rfl (w3.heap.size + 3) 109 i2 (.agg #[.int .i64 0, .int .i64 0]) 2 16 Tryz.underlying23 fi fz0 fz1 fz2 rfl (by decide) _ E1.length _ rfl (World.ownsRow.alloc HN8.out.own _) ⟨w8.heap.size, 0, none⟩ 1 1 [.int .i64 (lastI Prod.fst (nodesF l) m px), .int .i64 m] rfl rfl (news_new w8 _ _ _ (by simp)) (ints_one rfl) (by omega) (by unfold maxLen; omega) (by omega) (by simp; omega) _ rfl ?_))
            intro gA capA wA hownA hgrowA horA hltA
            have hal := (Below.refl w8.heap.size w8).alloc (Nat.le_refl _) (.cells #[.int .i64 (lastI Prod.fst (nodesF l) m px), .int .i64 m] 109)
            obtain ⟨s1, s2, s3⟩ := HN8.out.at9 hal hgrowA
            have hxA : E1.flatMap encS ++ [.int .i64 (lastI Prod.fst (nodesF l) m px), .int .i64 m] = (E1 ++ [(lastI Prod.fst (nodesF l) m px, (m : Int))]).flatMap encS := by simp [encS]
            go_upto_region 15 with fail
            refine wp_name fun wE hwE => ?_
            have HNE := hide (HN8.out.app hal (e := (lastI Prod.fst (nodesF l) m px, (m : Int))) hxA hownA hgrowA hwE)
            have HBE := hide (HB8.out.app (g9 := gA) (ev' := .slice (some ⟨gA, 0, none⟩) (E1 ++ [(lastI Prod.fst (nodesF l) m px, (m : Int))]).length capA) hal hgrowA (horA.imp id (fun h => by rw [h]; simp)) hwE (by omega) (by omega) rfl)
            have HE2 : Hid (E1 ++ [(lastI Prod.fst (nodesF l) m px, (m : Int))] = E ++ edI (ltE (htB l) (nodesF l) m) ++ edI (dnE (vtB l) (nodesF l) m)) := hide (by rw [← HE1.out, HDN.out]; simp [edI, lastI])
            clear hwE lk c1 hszN hownA hgrowA horA hltA hal s1 s2 s3 hxA b4 p0 p1 hsB
            have x0 := HBE.out.1
            have x1 := HBE.out.2.1
            have hsB := HBE.out.2.2.2.1
            obtain ⟨wa, ra, ga, wb, rb, hn⟩ := (HNE.out.below ((Below.refl _ _).drew)).put (by omega) (by rw [HND.out]; exact HBP.out)
            rw [HND.out] at ra rb
            have y0 : wa.cell? ⟨g5, 0, none⟩ = some (.int .i64 px) := (cell_grow ga hsB (fun e => by injection e with e; omega)).trans x0
            have y1 : wa.cell? ⟨g5, 1, none⟩ = some (.int .i64 py) := (cell_grow ga hsB (fun e => by injection e with e; omega)).trans x1
            have HNB := hide hn
            clear hn ga
            refine wp_region_mix [0, 1, 2, 3, 4, 5, 6, 7] [8, 9] (fun w' => w'.cell? ⟨g5, 0, none⟩ = some (.int .i64 px) ∧ w'.cell? ⟨g5, 1, none⟩ = some (.int .i64 py)) (by kernel_rfl) (by kernel_rfl) ⟨x0, x1⟩ ?_
            simp only [List.map_cons, List.map_nil, opAt, List.getElem?_cons_succ, List.getElem?_cons_zero, Option.getD_some]
            iterate 8
              refine ⟨?_, Or.inl ⟨by rfl, ?_⟩, ?_⟩
              rotate_left 1
              · intro w' hSw
                obtain ⟨z0, z1⟩ := hSw
                go_simp
                first | done | with_reducible rfl
              simp only [Act.put, List.setIfInBounds_toArray, List.set_cons_zero, List.set_cons_succ]

            simp only [wpReads]
            intro K hK
            simp only [Act.put, List.setIfInBounds_toArray, List.set_cons_zero, List.set_cons_succ] at hK ⊢
            go_simp
            refine hK _ _ (fun _ => ⟨y0, y1⟩) ?_
            clear hK K
            intro K hK
            simp only [Act.put, List.setIfInBounds_toArray, List.set_cons_zero, List.set_cons_succ] at hK ⊢
            go_simp
            refine hK _ _ (fun h => absurd rfl h) ?_
            clear hK K
            refine NoPanic.normal ?_
            go_wp2
            go_roundw
            case rel => exact ⟨m + 1, by omega, by go_num, hide ⟨_, by rw [HSU.out, ← HE2.out]; exact HNB.out⟩⟩
            case measure => simp [intOf]; omega
      · obtain rfl : m = (nodesF l).length := by omega
        have mz : ¬ ((nodesF l).length : Int) < ((nodesF l).length : Int) := by omega
        obtain ⟨ev, hnw⟩ := HH.out
        obtain ⟨Ae, ce, rfl⟩ := own_form hnw.own
        have HNW := hide hnw
        have HEL := codeE_len (htB l) (vtB l) (nodesF l) (nodesF l).length
        have HPM : Hid ((codeE (htB l) (vtB l) (nodesF l) (nodesF l).length).Perm (edI (edgesF l)) ∧ (edI (edgesF l)).Pairwise ptLt) := hide ⟨edI_perm (net_ok HV.out).code_perm, edI_srt (net_ok HV.out).edges_srt⟩
        have HEB : Hid (∀ e ∈ codeE (htB l) (vtB l) (nodesF l) (nodesF l).length, bigP e) := hide (fun e he => codeE_big he (by omega))
        clear HH hnw
        generalize codeE (htB l) (vtB l) (nodesF l) (nodesF l).length = E at *
        have c1 := HNW.out.c1
        have hszr := HNW.out.sz
        go_wp2_with (fail)
        clear c1
        refine (sortEd_any (w3.heap.size + 3) _ E HEB.out _ HNW.out.own (by omega)).mono ?_
        rintro e wS ⟨rfl, E', hp, hs, ho, hg⟩
        have hE : E' = edI (edgesF l) := sorted_ext ptLt_irrefl (fun _ _ _ => ptLt_trans) (strict_of hp (HPM.out.1.nodup_iff.2 (HPM.out.2.imp fun h e => by subst e; exact ptLt_irrefl _ h)) hs) HPM.out.2 fun p => by rw [hp.mem_iff, HPM.out.1.mem_iff]
        have hlen := hp.length_eq
        subst hE
        have hob : ∀ q, (Value.slice Ae E.length ce).ownBlock = some q → w3.heap.size + 3 ≤ q := fun q hq => (HNW.out.own.lt q hq).1
        have hn0 : some w3.heap.size ≠ (Value.slice Ae E.length ce).ownBlock := fun e => by have := hob _ e.symm; omega
        have c0 := (cell_grow hg (b := w3.heap.size) (o := 0) (by omega) hn0).trans HNW.out.c0
        have c1 := (cell_grow hg (b := w3.heap.size) (o := 1) (by omega) hn0).trans HNW.out.c1
        have hn1 : some w.heap.size ≠ (Value.slice Ae E.length ce).ownBlock := fun e => by have := hob _ e.symm; have := HR3.out.2; omega
        have hl3 := HR3.out.2
        have r0 := (cell_grow hg (b := w.heap.size) (o := 0) (by omega) hn1).trans ((HNW.out.low.cell (p := ⟨w.heap.size, 0, none⟩) hl3).trans (HR3.out.1 0 (by omega)).1)
        have r1 := (cell_grow hg (b := w.heap.size) (o := 1) (by omega) hn1).trans ((HNW.out.low.cell (p := ⟨w.heap.size, 1, none⟩) hl3).trans (HR3.out.1 1 (by omega)).1)
        have q0 := (frozen_grow hg (b := w.heap.size) (o := 0) (by omega) hn1).trans ((HNW.out.low.frozen (p := ⟨w.heap.size, 0, none⟩) hl3).trans (HR3.out.1 0 (by omega)).2)
        have q1 := (frozen_grow hg (b := w.heap.size) (o := 1) (by omega) hn1).trans ((HNW.out.low.frozen (p := ⟨w.heap.size, 1, none⟩) hl3).trans (HR3.out.1 1 (by omega)).2)
        have hwS : w.heap.size < wS.heap.size := by have := hg.size; omega
        have HBS : Hid (Below w.heap.size w wS) := hide ((HB3.out.trans (HNW.out.low.mono (by omega))).grown hg (by omega) (fun q hq => by have := hob q hq; omega))
        have HNS := hide ((HNO.out.kept (below_grow HNW.out.low) own_none_or).kept hg (by
          rcases hb : (Value.slice A (nodesF l).length c).ownBlock with _ | q
          · exact .inl rfl
          · right
            intro e
            have h1 := (HNO.out.lt q hb).2
            have h2 := hob _ e.symm
            omega))
        have HES := hide ho
        have h800 : decide (((edI (edgesF l)).length : Int) ≤ 800) = true := decide_eq_true (by omega)
        rw [← hlen] at c1 ⊢
        rw [← hlen] at HES
        clear hp hs ho hg hob hn0 hn1
        clear hlen
        obtain ⟨EE, hEE⟩ : ∃ EE, edI (edgesF l) = EE := ⟨_, rfl⟩
        rw [hEE] at c1 HES h800 ⊢
        have HEE := hide hEE
        clear hEE
        go_upto_region 18 with fail
        refine wp_region_mix [0, 1, 2, 3, 4] [5, 6] (fun w' => w'.cell? ⟨w3.heap.size, 0, none⟩ = some (.slice A (nodesF l).length c) ∧ w'.cell? ⟨w3.heap.size, 1, none⟩ = some (.slice Ae EE.length ce)) (by kernel_rfl) (by kernel_rfl) ⟨c0, c1⟩ ?_
        simp only [List.map_cons, List.map_nil, opAt, List.getElem?_cons_succ, List.getElem?_cons_zero, Option.getD_some]
        iterate 5
          refine ⟨?_, Or.inl ⟨by rfl, ?_⟩, ?_⟩
          rotate_left 1
          · intro w' hSw
            obtain ⟨z0, z1⟩ := hSw
            go_simp
            first | done | with_reducible rfl
          simp only [Act.put, List.setIfInBounds_toArray, List.set_cons_zero, List.set_cons_succ]

        simp only [wpReads]
        have r0' : wS.drew.cell? ⟨w.heap.size, 0, none⟩ = some (.slice none 0 0) := r0
        have r1' : wS.drew.cell? ⟨w.heap.size, 1, none⟩ = some (.slice none 0 0) := r1
        have q0' : wS.drew.frozen? ⟨w.heap.size, 0, none⟩ = false := q0
        have q1' : wS.drew.frozen? ⟨w.heap.size, 1, none⟩ = false := q1
        have hwS' : w.heap.size < wS.drew.heap.size := hwS
        have n30 : w3.heap.size ≠ w.heap.size := by omega
        intro K hK
        simp only [Act.put, List.setIfInBounds_toArray, List.set_cons_zero, List.set_cons_succ] at hK ⊢
        go_simp
        refine hK _ _ (fun _ => ⟨(World.cell?_setCell_far _ _ _ _ n30.symm).trans ((World.cell?_setCell_far _ _ _ _ n30.symm).trans c0), (World.cell?_setCell_far _ _ _ _ n30.symm).trans ((World.cell?_setCell_far _ _ _ _ n30.symm).trans c1)⟩) ?_
        clear hK K
        intro K hK
        simp only [Act.put, List.setIfInBounds_toArray, List.set_cons_zero, List.set_cons_succ] at hK ⊢
        go_simp
        refine hK _ _ (fun h => absurd rfl h) ?_
        clear hK K
        refine NoPanic.normal ?_
        go_wp2
        refine bodyPost_ret (v := .tuple #[.agg #[.slice A (nodesF l).length c, .slice Ae EE.length ce], .bool true]) (by simp [results, Tryz.results62, go_sem, r0, r1, q0, q1, hwS, r0', r1', q0', q1', hwS']) rfl ⟨⟨fun _ => ⟨_, _, rfl, ?_, ?_⟩, fun h => by omega⟩, ?_⟩
        · exact own_base (own_drew (own_setB (own_setB HNS.out (Nat.lt_succ_self _)) (Nat.lt_succ_self _))) (Nat.le_succ _)
        · rw [HEE.out]
          have hl3 : w.heap.size < w3.heap.size + 3 := by omega
          exact own_base (own_drew (own_setB (own_setB HES.out hl3) hl3)) (Nat.le_of_lt hl3)
        · exact (Below.setCell (Below.setCell HBS.out (Nat.le_refl _) _) (Nat.le_refl _) _).drew
  · have r0 := (HR3.out.1 0 (by omega)).1
    have r1 := (HR3.out.1 1 (by omega)).1
    have q0 := (HR3.out.1 0 (by omega)).2
    have q1 := (HR3.out.1 1 (by omega)).2
    have hlt := HR3.out.2
    go_wp2_with (fail)
    refine bodyPost_ret (v := .tuple #[.agg #[.slice none 0 0, .slice none 0 0], .bool false]) (by simp [results, Tryz.results62, go_sem, r0, r1, q0, q1, hlt]) rfl ⟨⟨fun h => by omega, fun _ => rfl⟩, ?_⟩
    exact Below.setCell (Below.setCell HB3.out (Nat.le_refl _) _) (Nat.le_refl _) _
end Go.Proofs.YtdolpeljengpaaaGreat

/- street.inside and street.valid: what is a segment. -/
namespace Go.Proofs.YtdolpeljengpaaaGreat
open Go.RowKit
set_option linter.unusedVariables false
set_option linter.unusedSimpArgs false

theorem inside_any (x y : Int) (w : World) :
    Calls Tryz.prog 105 #[.agg #[.int .i64 x, .int .i64 y]] w fun e w' => e = .returned (.bool (decide (finS x) && decide (finS y))) ∧ Below w.heap.size w w' := by
  have hb : Below w.heap.size w (w.alloc (.cells #[.int .i64 x, .int .i64 y] 51)) := (Below.refl _ _).alloc (Nat.le_refl _) _
  have HB := hide hb
  clear hb
  by_cases t1 : -1000000 ≤ min x y
  · have HT := hide t1
    by_cases t2 : max x y ≤ 1000000
    · have HT2 := hide t2
      have h1 : decide (-1000000 ≤ min x y) = true := decide_eq_true t1
      have h2 : decide (max x y ≤ 1000000) = true := decide_eq_true t2
      go_enter Tryz.func105, Tryz.ntmps105
      go_wp2
      go_ret
      refine ⟨ret_eq (bool_eq ?_), HB.out⟩
      have := HT.out; have := HT2.out
      rw [decide_eq_true (show finS x by unfold finS; omega), decide_eq_true (show finS y by unfold finS; omega)]
      rfl
    · have HT2 := hide t2
      have h1 : decide (-1000000 ≤ min x y) = true := decide_eq_true t1
      have h2 : decide (max x y ≤ 1000000) = false := decide_eq_false t2
      go_enter Tryz.func105, Tryz.ntmps105
      go_wp2
      go_ret
      refine ⟨ret_eq (bool_eq ?_), HB.out⟩
      have := HT2.out
      symm
      rw [Bool.and_eq_false_iff, decide_eq_false_iff_not, decide_eq_false_iff_not]
      unfold finS
      omega
  · have HT := hide t1
    have h1 : decide (-1000000 ≤ min x y) = false := decide_eq_false t1
    go_enter Tryz.func105, Tryz.ntmps105
    go_wp2
    go_ret
    refine ⟨ret_eq (bool_eq ?_), HB.out⟩
    have := HT.out
    symm
    rw [Bool.and_eq_false_iff, decide_eq_false_iff_not, decide_eq_false_iff_not]
    unfold finS
    omega
theorem valid_eq (s : Sg) : decide (okSg s) = ((decide (finS s.ax) && decide (finS s.ay)) && (decide (finS s.cx) && decide (finS s.cy)) && (decide (s.ax = s.cx) != decide (s.ay = s.cy))) := by
  rw [Bool.eq_iff_iff, decide_eq_true_iff]
  unfold okSg
  by_cases h1 : s.ax = s.cx <;> by_cases h2 : s.ay = s.cy <;> simp [h1, h2, and_assoc]
set_option maxHeartbeats 4000000 in
theorem svalid_any (s : Sg) (w : World) :
    Calls Tryz.prog 61 #[.agg #[.int .i64 s.ax, .int .i64 s.ay, .int .i64 s.cx, .int .i64 s.cy]] w fun e w' => e = .returned (.bool (decide (okSg s))) ∧ Below w.heap.size w w' := by
  obtain ⟨a, b, c, d⟩ := s
  rw [valid_eq]
  simp only
  have ha := fun W => inside_any a b W
  have hc := fun W => inside_any c d W
  generalize (decide (finS a) && decide (finS b)) = f at *
  generalize (decide (finS c) && decide (finS d)) = g at *
  have HA := hide ha
  have HC := hide hc
  clear ha hc
  have hb0 : Below w.heap.size w (w.alloc (.cells #[.int .i64 a, .int .i64 b, .int .i64 c, .int .i64 d] 53)) := (Below.refl _ _).alloc (Nat.le_refl _) _
  have HB0 := hide hb0
  have s0 : (w.alloc (.cells #[.int .i64 a, .int .i64 b, .int .i64 c, .int .i64 d] 53)).heap.size = w.heap.size + 1 := by simp
  have HS0 := hide s0
  clear hb0 s0
  cases f with
  | false =>
    go_enter Tryz.func61, Tryz.ntmps61
    go_wp2_with (fail)
    refine (HA.out _).mono ?_
    rintro e w1 ⟨rfl, hb1⟩
    have HB1 := hide (HB0.out.trans (hb1.mono (by rw [HS0.out]; omega)))
    clear hb1
    go_wp2
    go_ret
    exact ⟨ret_eq (bool_eq (by simp)), HB1.out⟩
  | true =>
    cases g with
    | false =>
      go_enter Tryz.func61, Tryz.ntmps61
      go_wp2_with (fail)
      refine (HA.out _).mono ?_
      rintro e w1 ⟨rfl, hb1⟩
      have k : ∀ i, i < 4 → w1.cell? ⟨w.heap.size, i, none⟩ = (w.alloc (.cells #[.int .i64 a, .int .i64 b, .int .i64 c, .int .i64 d] 53)).cell? ⟨w.heap.size, i, none⟩ := fun i _ => hb1.cell (p := ⟨w.heap.size, i, none⟩) (by simp)
      have k2 : w1.cell? ⟨w.heap.size, 2, none⟩ = some (.int .i64 c) := (k 2 (by omega)).trans (by simp [go_sem])
      have k3 : w1.cell? ⟨w.heap.size, 3, none⟩ = some (.int .i64 d) := (k 3 (by omega)).trans (by simp [go_sem])
      have HB1 := hide (HB0.out.trans (hb1.mono (by rw [HS0.out]; omega)))
      clear hb1 k
      go_wp2_with (fail)
      refine (HC.out _).mono ?_
      rintro e w2 ⟨rfl, hb2⟩
      have HB2 := hide (HB1.out.trans (hb2.mono HB1.out.size))
      clear hb2 k2 k3
      go_wp2
      go_ret
      exact ⟨ret_eq (bool_eq (by simp)), HB2.out⟩
    | true =>
      by_cases t1 : a = c <;> by_cases t2 : b = d
      · subst t1
        subst t2
        have HV : Hid (((true && true) && (decide (a = a) != decide (b = b))) = false) := hide (by simp)
        go_enter Tryz.func61, Tryz.ntmps61
        go_wp2_with (fail)
        refine (HA.out _).mono ?_
        rintro e w1 ⟨rfl, hb1⟩
        have k : ∀ i, i < 4 → w1.cell? ⟨w.heap.size, i, none⟩ = (w.alloc (.cells #[.int .i64 a, .int .i64 b, .int .i64 a, .int .i64 b] 53)).cell? ⟨w.heap.size, i, none⟩ := fun i _ => hb1.cell (p := ⟨w.heap.size, i, none⟩) (by simp)
        have k0 : w1.cell? ⟨w.heap.size, 0, none⟩ = some (.int .i64 a) := (k 0 (by omega)).trans (by simp [go_sem])
        have k1 : w1.cell? ⟨w.heap.size, 1, none⟩ = some (.int .i64 b) := (k 1 (by omega)).trans (by simp [go_sem])
        have k2 : w1.cell? ⟨w.heap.size, 2, none⟩ = some (.int .i64 a) := (k 2 (by omega)).trans (by simp [go_sem])
        have k3 : w1.cell? ⟨w.heap.size, 3, none⟩ = some (.int .i64 b) := (k 3 (by omega)).trans (by simp [go_sem])
        have HB1 := hide (HB0.out.trans (hb1.mono (by rw [HS0.out]; omega)))
        have hl1 : w.heap.size < w1.heap.size := Nat.lt_of_lt_of_le (by simp) hb1.size
        clear hb1 k
        go_wp2_with (fail)
        refine (HC.out _).mono ?_
        rintro e w2 ⟨rfl, hb2⟩
        have HB2 := hide (HB1.out.trans (hb2.mono HB1.out.size))
        have m0 := (hb2.cell (p := ⟨w.heap.size, 0, none⟩) hl1).trans k0
        have m1 := (hb2.cell (p := ⟨w.heap.size, 1, none⟩) hl1).trans k1
        have m2 := (hb2.cell (p := ⟨w.heap.size, 2, none⟩) hl1).trans k2
        have m3 := (hb2.cell (p := ⟨w.heap.size, 3, none⟩) hl1).trans k3
        clear hb2 k0 k1 k2 k3 hl1
        go_wp2
        go_ret
        exact ⟨ret_eq (bool_eq (by rw [HV.out]; try simp)), HB2.out⟩
      · subst t1
        have u2 : (b == d) = false := by simpa using t2
        have HV : Hid (((true && true) && (decide (a = a) != decide (b = d))) = true) := hide (by simp [t2])
        clear t2
        go_enter Tryz.func61, Tryz.ntmps61
        go_wp2_with (fail)
        refine (HA.out _).mono ?_
        rintro e w1 ⟨rfl, hb1⟩
        have k : ∀ i, i < 4 → w1.cell? ⟨w.heap.size, i, none⟩ = (w.alloc (.cells #[.int .i64 a, .int .i64 b, .int .i64 a, .int .i64 d] 53)).cell? ⟨w.heap.size, i, none⟩ := fun i _ => hb1.cell (p := ⟨w.heap.size, i, none⟩) (by simp)
        have k0 : w1.cell? ⟨w.heap.size, 0, none⟩ = some (.int .i64 a) := (k 0 (by omega)).trans (by simp [go_sem])
        have k1 : w1.cell? ⟨w.heap.size, 1, none⟩ = some (.int .i64 b) := (k 1 (by omega)).trans (by simp [go_sem])
        have k2 : w1.cell? ⟨w.heap.size, 2, none⟩ = some (.int .i64 a) := (k 2 (by omega)).trans (by simp [go_sem])
        have k3 : w1.cell? ⟨w.heap.size, 3, none⟩ = some (.int .i64 d) := (k 3 (by omega)).trans (by simp [go_sem])
        have HB1 := hide (HB0.out.trans (hb1.mono (by rw [HS0.out]; omega)))
        have hl1 : w.heap.size < w1.heap.size := Nat.lt_of_lt_of_le (by simp) hb1.size
        clear hb1 k
        go_wp2_with (fail)
        refine (HC.out _).mono ?_
        rintro e w2 ⟨rfl, hb2⟩
        have HB2 := hide (HB1.out.trans (hb2.mono HB1.out.size))
        have m0 := (hb2.cell (p := ⟨w.heap.size, 0, none⟩) hl1).trans k0
        have m1 := (hb2.cell (p := ⟨w.heap.size, 1, none⟩) hl1).trans k1
        have m2 := (hb2.cell (p := ⟨w.heap.size, 2, none⟩) hl1).trans k2
        have m3 := (hb2.cell (p := ⟨w.heap.size, 3, none⟩) hl1).trans k3
        clear hb2 k0 k1 k2 k3 hl1
        go_wp2
        go_ret
        exact ⟨ret_eq (bool_eq (by rw [HV.out]; try simp)), HB2.out⟩
      · have u1 : (a == c) = false := by simpa using t1
        subst t2
        have HV : Hid (((true && true) && (decide (a = c) != decide (b = b))) = true) := hide (by simp [t1])
        clear t1
        go_enter Tryz.func61, Tryz.ntmps61
        go_wp2_with (fail)
        refine (HA.out _).mono ?_
        rintro e w1 ⟨rfl, hb1⟩
        have k : ∀ i, i < 4 → w1.cell? ⟨w.heap.size, i, none⟩ = (w.alloc (.cells #[.int .i64 a, .int .i64 b, .int .i64 c, .int .i64 b] 53)).cell? ⟨w.heap.size, i, none⟩ := fun i _ => hb1.cell (p := ⟨w.heap.size, i, none⟩) (by simp)
        have k0 : w1.cell? ⟨w.heap.size, 0, none⟩ = some (.int .i64 a) := (k 0 (by omega)).trans (by simp [go_sem])
        have k1 : w1.cell? ⟨w.heap.size, 1, none⟩ = some (.int .i64 b) := (k 1 (by omega)).trans (by simp [go_sem])
        have k2 : w1.cell? ⟨w.heap.size, 2, none⟩ = some (.int .i64 c) := (k 2 (by omega)).trans (by simp [go_sem])
        have k3 : w1.cell? ⟨w.heap.size, 3, none⟩ = some (.int .i64 b) := (k 3 (by omega)).trans (by simp [go_sem])
        have HB1 := hide (HB0.out.trans (hb1.mono (by rw [HS0.out]; omega)))
        have hl1 : w.heap.size < w1.heap.size := Nat.lt_of_lt_of_le (by simp) hb1.size
        clear hb1 k
        go_wp2_with (fail)
        refine (HC.out _).mono ?_
        rintro e w2 ⟨rfl, hb2⟩
        have HB2 := hide (HB1.out.trans (hb2.mono HB1.out.size))
        have m0 := (hb2.cell (p := ⟨w.heap.size, 0, none⟩) hl1).trans k0
        have m1 := (hb2.cell (p := ⟨w.heap.size, 1, none⟩) hl1).trans k1
        have m2 := (hb2.cell (p := ⟨w.heap.size, 2, none⟩) hl1).trans k2
        have m3 := (hb2.cell (p := ⟨w.heap.size, 3, none⟩) hl1).trans k3
        clear hb2 k0 k1 k2 k3 hl1
        go_wp2
        go_ret
        exact ⟨ret_eq (bool_eq (by rw [HV.out]; try simp)), HB2.out⟩
      · have u1 : (a == c) = false := by simpa using t1
        have u2 : (b == d) = false := by simpa using t2
        have HV : Hid (((true && true) && (decide (a = c) != decide (b = d))) = false) := hide (by simp [t1, t2])
        clear t1 t2
        go_enter Tryz.func61, Tryz.ntmps61
        go_wp2_with (fail)
        refine (HA.out _).mono ?_
        rintro e w1 ⟨rfl, hb1⟩
        have k : ∀ i, i < 4 → w1.cell? ⟨w.heap.size, i, none⟩ = (w.alloc (.cells #[.int .i64 a, .int .i64 b, .int .i64 c, .int .i64 d] 53)).cell? ⟨w.heap.size, i, none⟩ := fun i _ => hb1.cell (p := ⟨w.heap.size, i, none⟩) (by simp)
        have k0 : w1.cell? ⟨w.heap.size, 0, none⟩ = some (.int .i64 a) := (k 0 (by omega)).trans (by simp [go_sem])
        have k1 : w1.cell? ⟨w.heap.size, 1, none⟩ = some (.int .i64 b) := (k 1 (by omega)).trans (by simp [go_sem])
        have k2 : w1.cell? ⟨w.heap.size, 2, none⟩ = some (.int .i64 c) := (k 2 (by omega)).trans (by simp [go_sem])
        have k3 : w1.cell? ⟨w.heap.size, 3, none⟩ = some (.int .i64 d) := (k 3 (by omega)).trans (by simp [go_sem])
        have HB1 := hide (HB0.out.trans (hb1.mono (by rw [HS0.out]; omega)))
        have hl1 : w.heap.size < w1.heap.size := Nat.lt_of_lt_of_le (by simp) hb1.size
        clear hb1 k
        go_wp2_with (fail)
        refine (HC.out _).mono ?_
        rintro e w2 ⟨rfl, hb2⟩
        have HB2 := hide (HB1.out.trans (hb2.mono HB1.out.size))
        have m0 := (hb2.cell (p := ⟨w.heap.size, 0, none⟩) hl1).trans k0
        have m1 := (hb2.cell (p := ⟨w.heap.size, 1, none⟩) hl1).trans k1
        have m2 := (hb2.cell (p := ⟨w.heap.size, 2, none⟩) hl1).trans k2
        have m3 := (hb2.cell (p := ⟨w.heap.size, 3, none⟩) hl1).trans k3
        clear hb2 k0 k1 k2 k3 hl1
        go_wp2
        go_ret
        exact ⟨ret_eq (bool_eq (by rw [HV.out]; try simp)), HB2.out⟩
end Go.Proofs.YtdolpeljengpaaaGreat

/- street.Make: the walk. -/
namespace Go.Proofs.YtdolpeljengpaaaGreat
open Go.RowKit Go.Maps
set_option linter.unusedVariables false
set_option linter.unusedSimpArgs false

/-- What Make answers. -/
def madeN (l : List Sg) : Int := if 400 < l.length then 4 else if ¬ ∀ s ∈ l, okSg s then 8 else if 400 < (nodesF l).length then 4 else 0
def MakeQ (w w' : World) (l : List Sg) (e : Ending) : Prop :=
  ∃ nv ev, e = .returned (.tuple #[.agg #[nv, ev], .int .i64 (madeN l)]) ∧ (madeN l = 0 → w'.ownsRow w.heap.size 51 2 nv (nodesF l).length ((nodesF l).flatMap encS) ∧ w'.ownsRow w.heap.size 109 2 ev (edI (edgesF l)).length ((edI (edgesF l)).flatMap encS)) ∧ (madeN l ≠ 0 → nv = .slice none 0 0 ∧ ev = .slice none 0 0)
/-- The box of the result, and what lies below. -/
def Rb (w wr : World) : Prop := (∀ i, i < 2 → wr.cell? ⟨w.heap.size, i, none⟩ = some (.slice none 0 0) ∧ wr.frozen? ⟨w.heap.size, i, none⟩ = false) ∧ w.heap.size < wr.heap.size ∧ Below w.heap.size w wr
theorem Rb.below {w wr w' : World} (h : Rb w wr) (hb : Below wr.heap.size wr w') : Rb w w' :=
  ⟨fun i hi => ⟨(hb.cell (p := ⟨w.heap.size, i, none⟩) h.2.1).trans (h.1 i hi).1, (hb.frozen (p := ⟨w.heap.size, i, none⟩) h.2.1).trans (h.1 i hi).2⟩, Nat.lt_of_lt_of_le h.2.1 hb.size, h.2.2.trans (hb.mono (Nat.le_of_lt h.2.1))⟩
theorem Rb.made (w : World) : Rb w (w.alloc (.cells #[.slice none 0 0, .slice none 0 0] 25)) := by
  refine ⟨fun i hi => ?_, by simp, (Below.refl _ _).alloc (Nat.le_refl _) _⟩
  match i, hi with
  | 0, _ => exact ⟨by simp [go_sem], by simp [go_sem]⟩
  | 1, _ => exact ⟨by simp [go_sem], by simp [go_sem]⟩
set_option maxRecDepth 100000 in
set_option maxHeartbeats 8000000 in
theorem Make_any {w : World} {v : Value} {l : List Sg} (hr : RdK encSg 4 w w.heap.size v l) :
    Calls Tryz.prog 23 #[v] w fun e w' => MakeQ w w' l e ∧ Below w.heap.size w w' := by
  have HRK := hide hr
  obtain ⟨A, c, rfl, hc⟩ := hr
  have HRC := hide hc
  clear hc
  by_cases hl : l.length ≤ 400
  · have hz : ¬ (400 : Int) < (l.length : Int) := by omega
    have HL := hide hl
    go_enter Tryz.func23, Tryz.ntmps23
    go_upto_region 3 with fail
    refine wp_name fun w0 hw0 => ?_
    have HR0 : Hid (Rb w w0) := hide (by rw [hw0]; exact Rb.made w)
    clear hw0 hz hl
    go_wp2
    go_loopw [14] (fun i wr => ∃ m : Nat, m ≤ l.length ∧ i = .int .i64 m ∧ Hid (Rb w wr) ∧ Hid (∀ s ∈ l.take m, okSg s)) (fun i _ => l.length - (intOf i).toNat)
    case atStart => exact ⟨0, Nat.zero_le _, rfl, HR0, hide (by simp)⟩
    case round =>
      clear HR0
      obtain ⟨m, hm, rfl, HR, HV⟩ := hrel
      have hll := HL.out
      by_cases hlt : m < l.length
      · obtain ⟨s, hs⟩ : ∃ p, l[m]? = some p := ⟨_, List.getElem?_eq_getElem hlt⟩
        obtain ⟨b, o, rfl, hbl, k⟩ := HRC.out (by intro e; rw [e] at hlt; simp at hlt)
        have hb := HR.out.2.2
        have d0 : wr.cell? ⟨b, o + m * 4, none⟩ = some (.int .i64 s.ax) := (hb.cell (p := ⟨b, _, none⟩) hbl).trans (k m _ hs 0 _ rfl)
        have d1 : wr.cell? ⟨b, o + m * 4 + 1, none⟩ = some (.int .i64 s.ay) := (hb.cell (p := ⟨b, _, none⟩) hbl).trans (k m _ hs 1 _ rfl)
        have d2 : wr.cell? ⟨b, o + m * 4 + 2, none⟩ = some (.int .i64 s.cx) := (hb.cell (p := ⟨b, _, none⟩) hbl).trans (k m _ hs 2 _ rfl)
        have d3 : wr.cell? ⟨b, o + m * 4 + 3, none⟩ = some (.int .i64 s.cy) := (hb.cell (p := ⟨b, _, none⟩) hbl).trans (k m _ hs 3 _ rfl)
        have mz : (m : Int) < (l.length : Int) := by omega
        have HS := hide hs
        clear k hs hb
        go_wp2_with (fail)
        have hal : Below wr.heap.size wr (wr.alloc (.cells #[.int .i64 s.ax, .int .i64 s.ay, .int .i64 s.cx, .int .i64 s.cy] 53)) := (Below.refl _ _).alloc (Nat.le_refl _) _
        refine (svalid_any s _).mono ?_
        rintro e w5 ⟨rfl, hb5⟩
        have HR5 := hide (HR.out.below (hal.trans (hb5.mono hal.size)))
        clear hal hb5 d0 d1 d2 d3 HR
        by_cases hv : okSg s
        · rw [decide_eq_true hv]
          have HOK := hide hv
          clear hv
          go_wp2
          go_roundw
          case rel =>
            refine ⟨m + 1, by omega, by go_num, HR5, hide ?_⟩
            intro q hq
            rw [List.take_add_one, HS.out, Option.toList_some, List.mem_append, List.mem_singleton] at hq
            rcases hq with hq | rfl
            · exact HV.out q hq
            · exact HOK.out
          case measure => simp [intOf]; omega
        · rw [decide_eq_false hv]
          have HM : Hid (madeN l = 8) := hide (by
            unfold madeN
            rw [if_neg (by have := HL.out; omega), if_pos (fun h => hv (h s (List.mem_of_getElem? HS.out)))])
          clear hv
          have r0 := (HR5.out.1 0 (by omega)).1
          have r1 := (HR5.out.1 1 (by omega)).1
          have q0 := (HR5.out.1 0 (by omega)).2
          have q1 := (HR5.out.1 1 (by omega)).2
          have hlt0 := HR5.out.2.1
          go_wp2
          refine bodyPost_ret (v := .tuple #[.agg #[.slice none 0 0, .slice none 0 0], .int .i64 8]) (by simp [results, Tryz.results23, go_sem, r0, r1, q0, q1, hlt0]) rfl ⟨⟨_, _, by rw [HM.out], fun h => by rw [HM.out] at h; omega, fun _ => ⟨rfl, rfl⟩⟩, ?_⟩
          exact Below.setCell (Below.setCell HR5.out.2.2 (Nat.le_refl _) _) (Nat.le_refl _) _
      · have mz : ¬ (m : Int) < (l.length : Int) := by omega
        have hV : ∀ s ∈ l, okSg s := by
          have := HV.out
          rwa [List.take_of_length_le (by omega)] at this
        have HVV := hide hV
        clear hV
        go_wp2_with (fail)
        refine (network_any ((HRK.out.below HR.out.2.2).mono (Nat.le_of_lt HR.out.2.1)) (Nat.le_trans HL.out (by omega)) HVV.out).mono ?_
        rintro e w5 ⟨hq, hb5⟩
        rw [thin_all HL.out] at hq
        have HR5 := hide (HR.out.below hb5)
        by_cases hn : (nodesF l).length ≤ 400
        · obtain ⟨nv, ev, rfl, o1, o2⟩ := hq.1 hn
          have HM : Hid (madeN l = 0) := hide (by
            unfold madeN
            rw [if_neg (by have := HL.out; omega), if_neg (fun h => h HVV.out), if_neg (by omega)])
          have HO := hide (And.intro (own_base o1 (base := w.heap.size + 1) HR.out.2.1) (own_base o2 (base := w.heap.size + 1) HR.out.2.1))
          obtain ⟨An, cn, rfl⟩ := own_form o1
          obtain ⟨Ae, ce, rfl⟩ := own_form o2
          clear hq hb5 o1 o2 hn
          have r0 := (HR5.out.1 0 (by omega)).1
          have r1 := (HR5.out.1 1 (by omega)).1
          have q0 := (HR5.out.1 0 (by omega)).2
          have q1 := (HR5.out.1 1 (by omega)).2
          have hlt0 := HR5.out.2.1
          go_wp2
          refine bodyPost_ret (v := .tuple #[.agg #[.slice An (nodesF l).length cn, .slice Ae (edI (edgesF l)).length ce], .int .i64 0]) (by simp [results, Tryz.results23, go_sem, r0, r1, q0, q1, hlt0]) rfl ⟨⟨_, _, by rw [HM.out], fun _ => ⟨own_base (World.ownsRow.alloc (own_setB (own_setB HO.out.1 (Nat.lt_succ_self _)) (Nat.lt_succ_self _)) _) (Nat.le_succ _), own_base (World.ownsRow.alloc (own_setB (own_setB HO.out.2 (Nat.lt_succ_self _)) (Nat.lt_succ_self _)) _) (Nat.le_succ _)⟩, fun h => absurd HM.out h⟩, ?_⟩
          exact (Below.setCell (Below.setCell HR5.out.2.2 (Nat.le_refl _) _) (Nat.le_refl _) _).alloc (by simp; omega) _
        · have hq := hq.2 (by omega)
          subst hq
          have HM : Hid (madeN l = 4) := hide (by
            unfold madeN
            rw [if_neg (by have := HL.out; omega), if_neg (fun h => h HVV.out), if_pos (by omega)])
          clear hb5 hn
          have r0 := (HR5.out.1 0 (by omega)).1
          have r1 := (HR5.out.1 1 (by omega)).1
          have q0 := (HR5.out.1 0 (by omega)).2
          have q1 := (HR5.out.1 1 (by omega)).2
          have hlt0 := HR5.out.2.1
          go_wp2
          refine bodyPost_ret (v := .tuple #[.agg #[.slice none 0 0, .slice none 0 0], .int .i64 4]) (by simp [results, Tryz.results23, go_sem, r0, r1, q0, q1, hlt0]) rfl ⟨⟨_, _, by rw [HM.out], fun h => by rw [HM.out] at h; omega, fun _ => ⟨rfl, rfl⟩⟩, ?_⟩
          exact (Below.setCell (Below.setCell HR5.out.2.2 (Nat.le_refl _) _) (Nat.le_refl _) _).alloc (by simp; omega) _
  · have hz : (400 : Int) < (l.length : Int) := by omega
    have HM : Hid (madeN l = 4) := hide (by unfold madeN; rw [if_pos (by omega)])
    clear hl
    go_enter Tryz.func23, Tryz.ntmps23
    go_wp2
    refine bodyPost_ret (v := .tuple #[.agg #[.slice none 0 0, .slice none 0 0], .int .i64 4]) (by simp [results, Tryz.results23, go_sem]) rfl ⟨⟨_, _, by rw [HM.out], fun h => by rw [HM.out] at h; omega, fun _ => ⟨rfl, rfl⟩⟩, ?_⟩
    repeat (first | with_reducible exact Below.refl _ _ | with_reducible refine Below.setCell ?_ (by first | (simp; done) | (simp; omega)) _ | with_reducible refine Below.alloc ?_ (by first | omega | (simp; omega) | simp) _)
end Go.Proofs.YtdolpeljengpaaaGreat

/- street.drawn: the walk. -/
namespace Go.Proofs.YtdolpeljengpaaaGreat
open Go.RowKit Go.Maps
set_option linter.unusedVariables false
set_option linter.unusedSimpArgs false

theorem infoSg : (Tryz.prog.info? 53).map (fun i => (i.zero, i.size, i.bytes)) = some (some (.agg #[.int .i64 0, .int .i64 0, .int .i64 0, .int .i64 0]), 4, 32) := by kernel_rfl
/-- What drawn answers. -/
def DrawnQ (w w' : World) (N : List Pt) (E : List Ei) (e : Ending) : Prop :=
  ∃ ov ok, e = .returned (.tuple #[ov, .bool ok]) ∧ ((∀ e ∈ E, okEi N e) → ok = true ∧ w'.ownsRow w.heap.size 53 4 ov E.length ((segsI N E).flatMap encSg)) ∧ (¬ (∀ e ∈ E, okEi N e) → ok = false)
def Dst (w wr : World) (nv ev : Value) : Prop := Below w.heap.size w wr ∧ w.heap.size < wr.heap.size ∧ wr.cell? ⟨w.heap.size, 0, none⟩ = some nv ∧ wr.cell? ⟨w.heap.size, 1, none⟩ = some ev
theorem Dst.below {w wr w' : World} {nv ev : Value} (h : Dst w wr nv ev) (hb : Below wr.heap.size wr w') : Dst w w' nv ev :=
  ⟨h.1.trans (hb.mono (Nat.le_of_lt h.2.1)), Nat.lt_of_lt_of_le h.2.1 hb.size, (hb.cell (p := ⟨w.heap.size, 0, none⟩) h.2.1).trans h.2.2.1, (hb.cell (p := ⟨w.heap.size, 1, none⟩) h.2.1).trans h.2.2.2⟩
set_option maxRecDepth 100000 in
set_option maxHeartbeats 8000000 in
theorem drawn_any {w : World} {nv ev : Value} {N : List Pt} {E : List Ei} (hn : RdK encS 2 w w.heap.size nv N) (he : RdK encS 2 w w.heap.size ev E) (nl : N.length ≤ 400) (el : E.length ≤ 800) :
    Calls Tryz.prog 89 #[.agg #[nv, ev]] w fun e w' => DrawnQ w w' N E e ∧ Below w.heap.size w w' := by
  obtain ⟨An, cn, rfl, hn⟩ := hn
  obtain ⟨Ae, ce, rfl, he⟩ := he
  have HNR := hide hn
  have HER := hide he
  clear hn he
  obtain ⟨i2, fi, fz0, fz1, fz2⟩ := info_parts infoSg
  go_enter Tryz.func89, Tryz.ntmps89
  go_upto_region 2 with fail
  refine wp_name fun w0 hw0 => ?_
  have HS0 : Hid (Dst w w0 (.slice An N.length cn) (.slice Ae E.length ce)) := hide ⟨by rw [hw0]; exact (Below.refl _ _).alloc (Nat.le_refl _) _, by rw [hw0]; simp, by rw [hw0]; simp [go_sem], by rw [hw0]; simp [go_sem]⟩
  have c1 := HS0.out.2.2.2
  clear hw0
  go_wp2
  clear c1
  go_loopw [4, 11] (fun o i wr => ∃ (m : Nat) (Ao : Option Addr) (co : Nat), m ≤ E.length ∧ i = .int .i64 (m : Int) ∧ o = .slice Ao m co ∧ Hid (Dst w wr (.slice An N.length cn) (.slice Ae E.length ce)) ∧ Hid (wr.ownsRow (w.heap.size + 1) 53 4 (.slice Ao m co) m ((segsI N (E.take m)).flatMap encSg)) ∧ Hid (∀ e ∈ E.take m, okEi N e)) (fun _ i _ => E.length - (intOf i).toNat)
  case atStart => exact ⟨0, none, 0, Nat.zero_le _, rfl, rfl, HS0, hide (World.ownsRow_nil _ _ _ _), hide (by simp)⟩
  case round =>
    clear HS0
    obtain ⟨m, Ao, co, hm, rfl, rfl, HST, HO, HOK⟩ := hrel
    by_cases hlt : m < E.length
    · obtain ⟨⟨i, j⟩, hs⟩ : ∃ p, E[m]? = some p := ⟨_, List.getElem?_eq_getElem hlt⟩
      obtain ⟨b, o, rfl, hbl, k⟩ := HER.out (by intro e; rw [e] at hlt; simp at hlt)
      have hb := HST.out.1
      have d0 : wr.cell? ⟨b, o + m * 2, none⟩ = some (.int .i64 i) := (hb.cell (p := ⟨b, _, none⟩) hbl).trans (k m _ hs 0 _ rfl)
      have d1 : wr.cell? ⟨b, o + m * 2 + 1, none⟩ = some (.int .i64 j) := (hb.cell (p := ⟨b, _, none⟩) hbl).trans (k m _ hs 1 _ rfl)
      have mz : (m : Int) < (E.length : Int) := by omega
      have HS := hide hs
      clear k hs hb
      go_upto_region 5 with fail
      refine wp_name fun w5 hw5 => ?_
      obtain ⟨g5, hg5⟩ : ∃ g, g = wr.heap.size := ⟨_, rfl⟩
      have hb5 : Below wr.heap.size wr w5 := by
        rw [hw5]
        repeat (first | with_reducible exact Below.refl _ _ | with_reducible refine Below.setCell ?_ (by first | (simp; done) | (simp; omega)) _ | with_reducible refine Below.alloc ?_ (by first | omega | (simp; omega) | simp) _)
      have e0 : w5.cell? ⟨g5, 0, none⟩ = some (.int .i64 i) := by rw [hw5, hg5]; simp [go_sem]
      have e1 : w5.cell? ⟨g5, 1, none⟩ = some (.int .i64 j) := by rw [hw5, hg5]; simp [go_sem]
      have hz5 : w5.heap.size = g5 + 1 := by rw [hw5, hg5]; simp
      have hwg : w.heap.size < g5 := by rw [hg5]; exact HST.out.2.1
      have HS5 := hide (HST.out.below hb5)
      have HO5 := hide (HO.out.kept (below_grow hb5) own_none_or)
      rw [← hg5]
      have c0 := HS5.out.2.2.1
      have c1 := HS5.out.2.2.2
      clear hw5 hb5 hg5 d0 d1 HST HO
      by_cases t1 : min i j < 0
      · have t1z : decide (min i j < 0) = true := decide_eq_true t1
        have HNE : Hid (¬ ∀ e ∈ E, okEi N e) := hide (fun h => by
          obtain ⟨⟨h1, h2, h3, h4⟩, _⟩ := h _ (List.mem_of_getElem? HS.out)
          simp only at h1 h3
          omega)
        clear t1
        go_wp2
        go_ret2
        exact ⟨⟨_, _, rfl, fun h => absurd h HNE.out, fun _ => rfl⟩, HS5.out.1⟩
      · have t1z : decide (min i j < 0) = false := decide_eq_false t1
        by_cases t2 : (N.length : Int) ≤ max i j
        · have t2z : decide ((N.length : Int) ≤ max i j) = true := decide_eq_true t2
          have HNE : Hid (¬ ∀ e ∈ E, okEi N e) := hide (fun h => by
            obtain ⟨⟨h1, h2, h3, h4⟩, _⟩ := h _ (List.mem_of_getElem? HS.out)
            simp only at h2 h4
            omega)
          clear t1 t2
          go_wp2
          go_ret2
          exact ⟨⟨_, _, rfl, fun h => absurd h HNE.out, fun _ => rfl⟩, HS5.out.1⟩
        · have t2z : decide ((N.length : Int) ≤ max i j) = false := decide_eq_false t2
          obtain ⟨I, rfl⟩ : ∃ I : Nat, i = (I : Int) := ⟨i.toNat, by omega⟩
          obtain ⟨J, rfl⟩ : ∃ J : Nat, j = (J : Int) := ⟨j.toNat, by omega⟩
          have hI : I < N.length := by omega
          have hJ : J < N.length := by omega
          obtain ⟨⟨px, py⟩, hp⟩ : ∃ p, N[I]? = some p := ⟨_, List.getElem?_eq_getElem hI⟩
          obtain ⟨⟨qx, qy⟩, hq⟩ : ∃ p, N[J]? = some p := ⟨_, List.getElem?_eq_getElem hJ⟩
          obtain ⟨bn, on, rfl, hbn, kn⟩ := HNR.out (by intro e; rw [e] at hI; simp at hI)
          have f0 : w5.cell? ⟨bn, on + I * 2, none⟩ = some (.int .i64 px) := (HS5.out.1.cell (p := ⟨bn, _, none⟩) hbn).trans (kn I _ hp 0 _ rfl)
          have f1 : w5.cell? ⟨bn, on + I * 2 + 1, none⟩ = some (.int .i64 py) := (HS5.out.1.cell (p := ⟨bn, _, none⟩) hbn).trans (kn I _ hp 1 _ rfl)
          have f2 : w5.cell? ⟨bn, on + J * 2, none⟩ = some (.int .i64 qx) := (HS5.out.1.cell (p := ⟨bn, _, none⟩) hbn).trans (kn J _ hq 0 _ rfl)
          have f3 : w5.cell? ⟨bn, on + J * 2 + 1, none⟩ = some (.int .i64 qy) := (HS5.out.1.cell (p := ⟨bn, _, none⟩) hbn).trans (kn J _ hq 1 _ rfl)
          have HSG : Hid (sgI N ((I : Int), (J : Int)) = ⟨px, py, qx, qy⟩) := hide (by
            unfold sgI nd
            simp only [Int.toNat_natCast, List.getD_eq_getElem?_getD, hp, hq, Option.getD_some])
          have iz : (I : Int) < (N.length : Int) := by omega
          have jz : (J : Int) < (N.length : Int) := by omega
          clear t1 t2 hp hq kn
          go_upto_region 7 with fail
          refine wp_region_mix [0, 1, 2, 3, 4, 5, 6, 7, 8, 9, 10, 11, 12] [13, 14] (fun w' => (w'.cell? ⟨w.heap.size, 0, none⟩ = some (.slice (some ⟨bn, on, none⟩) N.length cn)) ∧ (w'.cell? ⟨g5, 0, none⟩ = some (.int .i64 (I : Int)) ∧ w'.cell? ⟨g5, 1, none⟩ = some (.int .i64 (J : Int))) ∧ (w'.cell? ⟨bn, on + I * 2, none⟩ = some (.int .i64 px) ∧ w'.cell? ⟨bn, on + I * 2 + 1, none⟩ = some (.int .i64 py)) ∧ (w'.cell? ⟨bn, on + J * 2, none⟩ = some (.int .i64 qx) ∧ w'.cell? ⟨bn, on + J * 2 + 1, none⟩ = some (.int .i64 qy))) (by kernel_rfl) (by kernel_rfl) ⟨c0, ⟨e0, e1⟩, ⟨f0, f1⟩, f2, f3⟩ ?_
          simp only [List.map_cons, List.map_nil, opAt, List.getElem?_cons_succ, List.getElem?_cons_zero, Option.getD_some]
          iterate 13
            refine ⟨?_, Or.inl ⟨by rfl, ?_⟩, ?_⟩
            rotate_left 1
            · intro w' hSw
              obtain ⟨y0, ⟨y1, y2⟩, ⟨y3, y4⟩, y5, y6⟩ := hSw
              go_simp
              first | done | with_reducible rfl
            simp only [Act.put, List.setIfInBounds_toArray, List.set_cons_zero, List.set_cons_succ]

          simp only [wpReads]
          intro K hK
          simp only [Act.put, List.setIfInBounds_toArray, List.set_cons_zero, List.set_cons_succ] at hK ⊢
          go_simp
          refine hK _ _ (fun _ => ⟨by go_keep, ⟨by go_keep, by go_keep⟩, ⟨by go_keep, by go_keep⟩, by go_keep, by go_keep⟩) ?_
          clear hK K
          intro K hK
          simp only [Act.put, List.setIfInBounds_toArray, List.set_cons_zero, List.set_cons_succ] at hK ⊢
          go_simp
          refine hK _ _ (fun h => absurd rfl h) ?_
          clear hK K
          refine NoPanic.normal ?_
          go_upto_region 8 with fail
          refine wp_name fun w7 hw7 => ?_
          have hb7 : Below w5.heap.size w5 w7 := by
            rw [hw7]
            repeat (first | with_reducible exact Below.refl _ _ | with_reducible refine Below.drew ?_ | with_reducible refine Below.setCell ?_ (by first | (simp; done) | (simp; omega)) _ | with_reducible refine Below.alloc ?_ (by first | omega | (simp; omega) | simp) _)
          have z0 : w7.cell? ⟨g5 + 1, 0, none⟩ = some (.int .i64 px) := by rw [hw7, ← hz5]; simp [go_sem]
          have z1 : w7.cell? ⟨g5 + 1, 1, none⟩ = some (.int .i64 py) := by rw [hw7, ← hz5]; simp [go_sem]
          have z2 : w7.cell? ⟨g5 + 1, 2, none⟩ = some (.int .i64 qx) := by rw [hw7, ← hz5]; simp [go_sem]
          have z3 : w7.cell? ⟨g5 + 1, 3, none⟩ = some (.int .i64 qy) := by rw [hw7, ← hz5]; simp [go_sem]
          have h7 : g5 + 1 < w7.heap.size := by rw [hw7, ← hz5]; simp
          have HS7 := hide (HS5.out.below hb7)
          have HO7 := hide (HO5.out.kept (below_grow hb7) own_none_or)
          clear hw7 hb7 c0 c1 e0 e1 f0 f1 f2 f3 HS5 HO5
          go_wp2_with (fail)
          refine (svalid_any ⟨px, py, qx, qy⟩ _).mono ?_
          rintro e w8 ⟨rfl, hb8⟩
          have y0 := (hb8.cell (p := ⟨g5 + 1, 0, none⟩) h7).trans z0
          have y1 := (hb8.cell (p := ⟨g5 + 1, 1, none⟩) h7).trans z1
          have y2 := (hb8.cell (p := ⟨g5 + 1, 2, none⟩) h7).trans z2
          have y3 := (hb8.cell (p := ⟨g5 + 1, 3, none⟩) h7).trans z3
          have HS8 := hide (HS7.out.below hb8)
          have HO8 := hide (HO7.out.kept (below_grow hb8) own_none_or)
          have hw8 : w.heap.size + 1 ≤ w8.heap.size := HS8.out.2.1
          clear hb8 z0 z1 z2 z3 h7 HS7 HO7
          by_cases hv : okSg ⟨px, py, qx, qy⟩
          · rw [decide_eq_true hv]
            have HOE : Hid (okEi N ((I : Int), (J : Int))) := hide (by
              refine ⟨⟨by simp only; omega, by simp only; omega, by simp only; omega, by simp only; omega⟩, ?_⟩
              rw [HSG.out]; exact hv)
            clear hv
            go_wp2_with (at_builtin; go_loud (refine wpList_append_lies _ rfl (.tmp 48) (.tmp 50) 47 rfl (w.heap.size + 1) 53 i2 (.agg #[.int .i64 0, .int .i64 0, .int .i64 0, .int .i64 0]) 4 32 Tryz.underlying47 fi fz0 fz1 fz2 rfl (by decide) _ m _ rfl (World.ownsRow.alloc HO8.out _) ⟨w8.heap.size, 0, none⟩ 1 1 [.int .i64 px, .int .i64 py, .int .i64 qx, .int .i64 qy] rfl rfl (news_new w8 _ _ _ (by simp)) (ints_one rfl) (by omega) (by unfold maxLen; omega) (by omega) (by simp; omega) _ rfl ?_))
            intro g9 cap9 w9 hown9 hgrow9 hor9 hlt9
            have hal : Below w8.heap.size w8 (w8.alloc (.cells #[.int .i64 px, .int .i64 py, .int .i64 qx, .int .i64 qy] 53)) := (Below.refl _ _).alloc (Nat.le_refl _) _
            have ho' : ∀ q, (Value.slice Ao m co).ownBlock = some q → w.heap.size + 1 ≤ q := fun q hq => (HO8.out.lt q hq).1
            have hnn : some w.heap.size ≠ (Value.slice Ao m co).ownBlock := fun e => by have := ho' _ e.symm; omega
            have HSa := HS8.out.below hal
            have HS9 : Hid (Dst w w9 (.slice (some ⟨bn, on, none⟩) N.length cn) (.slice (some ⟨b, o, none⟩) E.length ce)) := hide ⟨HSa.1.grown hgrow9 (Nat.le_of_lt HSa.2.1) (fun q hq => by have := ho' q hq; omega), Nat.lt_of_lt_of_le HSa.2.1 hgrow9.size, (cell_grow hgrow9 HSa.2.1 hnn).trans HSa.2.2.1, (cell_grow hgrow9 HSa.2.1 hnn).trans HSa.2.2.2⟩
            have hx9 : (segsI N (E.take m)).flatMap encSg ++ [.int .i64 px, .int .i64 py, .int .i64 qx, .int .i64 qy] = (segsI N (E.take (m + 1))).flatMap encSg := by
              rw [List.take_add_one, HS.out, Option.toList_some]
              unfold segsI
              rw [List.map_append, List.flatMap_append, List.map_cons, List.map_nil, HSG.out]
              simp [encSg]
            rw [hx9] at hown9
            have HO9 := hide hown9
            have HOK9 : Hid (∀ e ∈ E.take (m + 1), okEi N e) := hide (by
              intro q hq
              rw [List.take_add_one, HS.out, Option.toList_some, List.mem_append, List.mem_singleton] at hq
              rcases hq with hq | rfl
              · exact HOK.out q hq
              · exact HOE.out)
            clear hown9 hgrow9 hor9 hlt9 hal ho' hnn HSa hx9 y0 y1 y2 y3 HS8 HO8
            go_wp2
            go_roundw
            case rel => exact ⟨m + 1, _, cap9, by omega, by go_num, rfl, HS9, HO9, HOK9⟩
            case measure => simp [intOf]; omega
          · rw [decide_eq_false hv]
            have HNE : Hid (¬ ∀ e ∈ E, okEi N e) := hide (fun h => hv (by
              have := (h _ (List.mem_of_getElem? HS.out)).2
              rwa [HSG.out] at this))
            clear hv
            go_wp2
            go_ret2
            exact ⟨⟨_, _, rfl, fun h => absurd h HNE.out, fun _ => rfl⟩, HS8.out.1⟩
    · have mz : ¬ (m : Int) < (E.length : Int) := by omega
      have ht : E.take m = E := List.take_of_length_le (by omega)
      rw [ht] at HO HOK
      obtain rfl : m = E.length := by omega
      go_wp2
      go_ret2
      exact ⟨⟨_, _, rfl, fun _ => ⟨rfl, own_base HO.out (Nat.le_succ _)⟩, fun h => absurd HOK.out h⟩, HST.out.1⟩
end Go.Proofs.YtdolpeljengpaaaGreat

/- slices.Equal at points and at edges: two lists are one. -/
namespace Go.Proofs.YtdolpeljengpaaaGreat
open Go.RowKit
set_option linter.unusedVariables false
set_option linter.unusedSimpArgs false

set_option maxHeartbeats 4000000 in
theorem eqPt_any {w : World} {vs vt : Value} {s t : List Pt} {B C : Nat} (hs : RdK encS 2 w B vs s) (ht : RdK encS 2 w C vt t) (ns : s.length ≤ 100000000) (hB : B ≤ w.heap.size) (hC : C ≤ w.heap.size) :
    Calls Tryz.prog 152 #[vs, vt] w fun e w' => e = .returned (.bool (decide (s = t))) ∧ Below w.heap.size w w' := by
  obtain ⟨A1, c1, rfl, h1⟩ := hs
  obtain ⟨A2, c2, rfl, h2⟩ := ht
  have g : Tryz.prog.eqGuardType Tryz.prog.depth 51 = false := by kernel_rfl
  have H1 := hide h1
  have H2 := hide h2
  clear h1 h2
  go_enter Tryz.func152, Tryz.ntmps152
  by_cases hl : s.length = t.length
  · have hne : ((s.length : Int) != (t.length : Int)) = false := by rw [hl]; simp
    have HL := hide hl
    clear hl
    go_wp2
    go_loopw [13] (fun i wr => ∃ k : Nat, k ≤ s.length ∧ i = .int .i64 k ∧ Hid (s.take k = t.take k) ∧ Below w.heap.size w wr) (fun i _ => s.length - (intOf i).toNat)
    case atStart => exact ⟨0, Nat.zero_le _, rfl, hide rfl, Below.refl _ _⟩
    case round =>
      obtain ⟨k, hk, rfl, HT, hb⟩ := hrel
      by_cases hlt : k < s.length
      · obtain ⟨⟨a0, a1⟩, hp⟩ : ∃ p, s[k]? = some p := ⟨_, List.getElem?_eq_getElem hlt⟩
        have hlt2 : k < t.length := by rw [← HL.out]; exact hlt
        obtain ⟨⟨b0, b1⟩, hq⟩ : ∃ p, t[k]? = some p := ⟨_, List.getElem?_eq_getElem hlt2⟩
        obtain ⟨p1, o1, rfl, hp1, k1⟩ := H1.out (by intro e; rw [e] at hlt; simp at hlt)
        obtain ⟨p2, o2, rfl, hp2, k2⟩ := H2.out (by intro e; rw [e] at hlt2; simp at hlt2)
        have x0 : wr.cell? ⟨p1, o1 + k * 2, none⟩ = some (.int .i64 a0) := (hb.cell (p := ⟨p1, _, none⟩) (by show p1 < _; omega)).trans (k1 k _ hp 0 _ rfl)
        have y0 : wr.cell? ⟨p2, o2 + k * 2, none⟩ = some (.int .i64 b0) := (hb.cell (p := ⟨p2, _, none⟩) (by show p2 < _; omega)).trans (k2 k _ hq 0 _ rfl)
        have x1 : wr.cell? ⟨p1, o1 + k * 2 + 1, none⟩ = some (.int .i64 a1) := (hb.cell (p := ⟨p1, _, none⟩) (by show p1 < _; omega)).trans (k1 k _ hp 1 _ rfl)
        have y1 : wr.cell? ⟨p2, o2 + k * 2 + 1, none⟩ = some (.int .i64 b1) := (hb.cell (p := ⟨p2, _, none⟩) (by show p2 < _; omega)).trans (k2 k _ hq 1 _ rfl)
        have z1 : (k : Int) < (s.length : Int) := by omega
        have z2 : (k : Int) < (t.length : Int) := by omega
        have HP := hide hp
        have HQ := hide hq
        clear hp hq k1 k2
        by_cases e0 : a0 = b0
        rotate_left 1
        · have hd : decide (s = t) = false := decide_eq_false fun e => by
            subst e
            have := HP.out.symm.trans HQ.out
            simp only [Option.some.injEq, Prod.mk.injEq] at this
            omega
          have HD := hide hd
          clear hd
          go_wp2
          go_region
          go_wp2
          go_ret
          exact ⟨ret_eq (bool_eq HD.out.symm), hb.drew⟩
        by_cases e1 : a1 = b1
        rotate_left 1
        · have hd : decide (s = t) = false := decide_eq_false fun e => by
            subst e
            have := HP.out.symm.trans HQ.out
            simp only [Option.some.injEq, Prod.mk.injEq] at this
            omega
          have HD := hide hd
          clear hd
          subst e0
          go_wp2
          go_region
          go_wp2
          go_ret
          exact ⟨ret_eq (bool_eq HD.out.symm), hb.drew⟩
        subst e0
        subst e1
        go_wp2
        go_region
        go_wp2
        go_roundw
        case rel =>
          refine ⟨k + 1, by omega, by go_num, hide ?_, hb.drew⟩
          obtain ⟨i1, e1⟩ := List.getElem?_eq_some_iff.1 HP.out
          obtain ⟨i2, e2⟩ := List.getElem?_eq_some_iff.1 HQ.out
          rw [List.take_succ_eq_append_getElem i1, List.take_succ_eq_append_getElem i2, HT.out, e1, e2]
        case measure => simp [intOf]; omega
      · have hlz : ¬ (k : Int) < (s.length : Int) := by omega
        have hd : decide (s = t) = true := decide_eq_true (by
          have := HT.out
          rw [List.take_of_length_le (by omega), List.take_of_length_le (by rw [← HL.out]; omega)] at this
          exact this)
        have HD := hide hd
        clear hd
        go_wp2
        go_ret
        exact ⟨ret_eq (bool_eq HD.out.symm), hb⟩
  · have hne : ((s.length : Int) != (t.length : Int)) = true := by simp; omega
    have hd : decide (s = t) = false := decide_eq_false fun e => hl (by rw [e])
    rw [hd]
    clear hl hd
    go_wp2
    go_ret
    exact ⟨rfl, Below.refl _ _⟩

set_option maxHeartbeats 4000000 in
theorem eqEd_any {w : World} {vs vt : Value} {s t : List Ei} {B C : Nat} (hs : RdK encS 2 w B vs s) (ht : RdK encS 2 w C vt t) (ns : s.length ≤ 100000000) (hB : B ≤ w.heap.size) (hC : C ≤ w.heap.size) :
    Calls Tryz.prog 153 #[vs, vt] w fun e w' => e = .returned (.bool (decide (s = t))) ∧ Below w.heap.size w w' := by
  obtain ⟨A1, c1, rfl, h1⟩ := hs
  obtain ⟨A2, c2, rfl, h2⟩ := ht
  have g : Tryz.prog.eqGuardType Tryz.prog.depth 109 = false := by kernel_rfl
  have H1 := hide h1
  have H2 := hide h2
  clear h1 h2
  go_enter Tryz.func153, Tryz.ntmps153
  by_cases hl : s.length = t.length
  · have hne : ((s.length : Int) != (t.length : Int)) = false := by rw [hl]; simp
    have HL := hide hl
    clear hl
    go_wp2
    go_loopw [13] (fun i wr => ∃ k : Nat, k ≤ s.length ∧ i = .int .i64 k ∧ Hid (s.take k = t.take k) ∧ Below w.heap.size w wr) (fun i _ => s.length - (intOf i).toNat)
    case atStart => exact ⟨0, Nat.zero_le _, rfl, hide rfl, Below.refl _ _⟩
    case round =>
      obtain ⟨k, hk, rfl, HT, hb⟩ := hrel
      by_cases hlt : k < s.length
      · obtain ⟨⟨a0, a1⟩, hp⟩ : ∃ p, s[k]? = some p := ⟨_, List.getElem?_eq_getElem hlt⟩
        have hlt2 : k < t.length := by rw [← HL.out]; exact hlt
        obtain ⟨⟨b0, b1⟩, hq⟩ : ∃ p, t[k]? = some p := ⟨_, List.getElem?_eq_getElem hlt2⟩
        obtain ⟨p1, o1, rfl, hp1, k1⟩ := H1.out (by intro e; rw [e] at hlt; simp at hlt)
        obtain ⟨p2, o2, rfl, hp2, k2⟩ := H2.out (by intro e; rw [e] at hlt2; simp at hlt2)
        have x0 : wr.cell? ⟨p1, o1 + k * 2, none⟩ = some (.int .i64 a0) := (hb.cell (p := ⟨p1, _, none⟩) (by show p1 < _; omega)).trans (k1 k _ hp 0 _ rfl)
        have y0 : wr.cell? ⟨p2, o2 + k * 2, none⟩ = some (.int .i64 b0) := (hb.cell (p := ⟨p2, _, none⟩) (by show p2 < _; omega)).trans (k2 k _ hq 0 _ rfl)
        have x1 : wr.cell? ⟨p1, o1 + k * 2 + 1, none⟩ = some (.int .i64 a1) := (hb.cell (p := ⟨p1, _, none⟩) (by show p1 < _; omega)).trans (k1 k _ hp 1 _ rfl)
        have y1 : wr.cell? ⟨p2, o2 + k * 2 + 1, none⟩ = some (.int .i64 b1) := (hb.cell (p := ⟨p2, _, none⟩) (by show p2 < _; omega)).trans (k2 k _ hq 1 _ rfl)
        have z1 : (k : Int) < (s.length : Int) := by omega
        have z2 : (k : Int) < (t.length : Int) := by omega
        have HP := hide hp
        have HQ := hide hq
        clear hp hq k1 k2
        by_cases e0 : a0 = b0
        rotate_left 1
        · have hd : decide (s = t) = false := decide_eq_false fun e => by
            subst e
            have := HP.out.symm.trans HQ.out
            simp only [Option.some.injEq, Prod.mk.injEq] at this
            omega
          have HD := hide hd
          clear hd
          go_wp2
          go_region
          go_wp2
          go_ret
          exact ⟨ret_eq (bool_eq HD.out.symm), hb.drew⟩
        by_cases e1 : a1 = b1
        rotate_left 1
        · have hd : decide (s = t) = false := decide_eq_false fun e => by
            subst e
            have := HP.out.symm.trans HQ.out
            simp only [Option.some.injEq, Prod.mk.injEq] at this
            omega
          have HD := hide hd
          clear hd
          subst e0
          go_wp2
          go_region
          go_wp2
          go_ret
          exact ⟨ret_eq (bool_eq HD.out.symm), hb.drew⟩
        subst e0
        subst e1
        go_wp2
        go_region
        go_wp2
        go_roundw
        case rel =>
          refine ⟨k + 1, by omega, by go_num, hide ?_, hb.drew⟩
          obtain ⟨i1, e1⟩ := List.getElem?_eq_some_iff.1 HP.out
          obtain ⟨i2, e2⟩ := List.getElem?_eq_some_iff.1 HQ.out
          rw [List.take_succ_eq_append_getElem i1, List.take_succ_eq_append_getElem i2, HT.out, e1, e2]
        case measure => simp [intOf]; omega
      · have hlz : ¬ (k : Int) < (s.length : Int) := by omega
        have hd : decide (s = t) = true := decide_eq_true (by
          have := HT.out
          rw [List.take_of_length_le (by omega), List.take_of_length_le (by rw [← HL.out]; omega)] at this
          exact this)
        have HD := hide hd
        clear hd
        go_wp2
        go_ret
        exact ⟨ret_eq (bool_eq HD.out.symm), hb⟩
  · have hne : ((s.length : Int) != (t.length : Int)) = true := by simp; omega
    have hd : decide (s = t) = false := decide_eq_false fun e => hl (by rw [e])
    rw [hd]
    clear hl hd
    go_wp2
    go_ret
    exact ⟨rfl, Below.refl _ _⟩
end Go.Proofs.YtdolpeljengpaaaGreat

/- street.Same: the walk. -/
namespace Go.Proofs.YtdolpeljengpaaaGreat
open Go.RowKit
set_option linter.unusedVariables false
set_option linter.unusedSimpArgs false

set_option maxHeartbeats 4000000 in
theorem strSame_any {w : World} {n1 e1 n2 e2 : Value} {N1 N2 : List Pt} {E1 E2 : List Ei} (h1 : RdK encS 2 w w.heap.size n1 N1) (h2 : RdK encS 2 w w.heap.size e1 E1) (h3 : RdK encS 2 w w.heap.size n2 N2) (h4 : RdK encS 2 w w.heap.size e2 E2) (l1 : N1.length ≤ 100000000) (l2 : E1.length ≤ 100000000) :
    Calls Tryz.prog 101 #[.agg #[n1, e1], .agg #[n2, e2]] w fun e w' => e = .returned (.bool (decide (N1 = N2) && decide (E1 = E2))) ∧ Below w.heap.size w w' := by
  have HP := hide (fun (W : World) (hb : Below w.heap.size w W) => eqPt_any (w := W) (h1.below hb) (h3.below hb) l1 hb.size hb.size)
  have HE := hide (fun (W : World) (hb : Below w.heap.size w W) => eqEd_any (w := W) (h2.below hb) (h4.below hb) l2 hb.size hb.size)
  obtain ⟨A1, c1, rfl, _⟩ := h1
  obtain ⟨A2, c2, rfl, _⟩ := h2
  obtain ⟨A3, c3, rfl, _⟩ := h3
  obtain ⟨A4, c4, rfl, _⟩ := h4
  generalize decide (N1 = N2) = x at *
  generalize decide (E1 = E2) = y at *
  clear l1 l2
  go_enter Tryz.func101, Tryz.ntmps101
  go_upto_region 1 with fail
  refine wp_name fun w0 hw0 => ?_
  have hb0 : Below w.heap.size w w0 := by
    rw [hw0]
    exact ((Below.refl _ _).alloc (Nat.le_refl _) _).alloc (by simp) _
  have d0 : w0.cell? ⟨w.heap.size, 0, none⟩ = some (.slice A1 N1.length c1) := by rw [hw0]; simp [go_sem]
  have d1 : w0.cell? ⟨w.heap.size, 1, none⟩ = some (.slice A2 E1.length c2) := by rw [hw0]; simp [go_sem]
  have d2 : w0.cell? ⟨w.heap.size + 1, 0, none⟩ = some (.slice A3 N2.length c3) := by rw [hw0]; simp [go_sem]
  have d3 : w0.cell? ⟨w.heap.size + 1, 1, none⟩ = some (.slice A4 E2.length c4) := by rw [hw0]; simp [go_sem]
  have hs0 : w.heap.size + 1 < w0.heap.size := by rw [hw0]; simp
  have HB0 := hide hb0
  clear hw0 hb0
  cases x
  · go_wp2_with (fail)
    refine (HP.out _ HB0.out).mono ?_
    rintro e w1 ⟨rfl, hb1⟩
    have HB1 := hide (HB0.out.trans (hb1.mono HB0.out.size))
    clear hb1 d0 d1 d2 d3
    go_wp2
    go_ret
    exact ⟨rfl, HB1.out⟩
  · go_wp2_with (fail)
    refine (HP.out _ HB0.out).mono ?_
    rintro e w1 ⟨rfl, hb1⟩
    have HB1 := hide (HB0.out.trans (hb1.mono HB0.out.size))
    have k1 := (hb1.cell (p := ⟨w.heap.size, 1, none⟩) (by simp only; omega)).trans d1
    have k3 := (hb1.cell (p := ⟨w.heap.size + 1, 1, none⟩) hs0).trans d3
    clear hb1 d0 d1 d2 d3
    go_wp2_with (fail)
    refine (HE.out _ HB1.out).mono ?_
    rintro e w2 ⟨rfl, hb2⟩
    have HB2 := hide (HB1.out.trans (hb2.mono HB1.out.size))
    clear hb2 k1 k3
    go_wp2
    go_ret
    exact ⟨ret_eq (bool_eq (by simp)), HB2.out⟩
end Go.Proofs.YtdolpeljengpaaaGreat

/- A network that is its own has no line of over 400 parts: what Check finds is what it says. -/
namespace Go.Proofs.YtdolpeljengpaaaGreat
open Go.RowKit
set_option linter.unusedVariables false
set_option linter.unusedSimpArgs false

/-- What Check answers, as the code finds it. -/
def chkC (N : List Pt) (E : List Ei) : Int := if 400 < N.length ∨ 800 < E.length then 4 else if ¬ (∀ e ∈ E, okEi N e) then 8 else if (nodesF (thin (segsI N E))).length ≤ 400 ∧ nodesF (thin (segsI N E)) = N ∧ edI (edgesF (thin (segsI N E))) = E then 0 else 8
theorem row_le {N : List Pt} {h v : Int → Int → Bool} (hok : ∀ e ∈ edgesG h v N, okSg (sgI N ((e.1 : Int), (e.2 : Int)))) (y : Int) : (rowSp (segsI N (edI (edgesG h v N))) y).length ≤ N.length := by
  unfold rowSp segsI edI
  rw [List.length_map, List.map_map, List.filter_map, List.length_map]
  unfold edgesG at *
  rw [List.filter_flatMap]
  refine Nat.le_trans (len_flat _ 1 fun a ha => ?_) (by simp)
  rw [List.filter_append, List.length_append]
  have e1 : (List.filter ((fun s : Sg => decide (s.ay = s.cy) && decide (s.ay = y)) ∘ (sgI N ∘ fun e : Ed => ((e.1 : Int), (e.2 : Int)))) (upE v N a)) = [] := by
    rw [List.filter_eq_nil_iff]
    intro e he hp
    have hk := hok e (List.mem_flatMap.2 ⟨a, ha, List.mem_append.2 (.inl he)⟩)
    obtain ⟨_, h2, h3⟩ := mem_upE.1 he
    unfold nxt at h3
    simp only [Function.comp, Bool.and_eq_true, decide_eq_true_eq] at hp
    have h4 := hk.2
    unfold sgI at h4 hp
    simp only [Int.toNat_natCast] at h4 hp
    rw [h2] at h4 hp
    have h5 := h3.2.2.1
    exact (h4.1 (by first | exact h5.symm | exact h5)) hp.1
  rw [e1]
  have e2 := List.length_filter_le ((fun s : Sg => decide (s.ay = s.cy) && decide (s.ay = y)) ∘ (sgI N ∘ fun e : Ed => ((e.1 : Int), (e.2 : Int)))) (rtE h N a)
  have e3 : (rtE h N a).length ≤ 1 := by
    unfold rtE
    split
    · rw [List.length_map]
      cases rtO N a <;> simp
    · simp
  simp only [List.length_nil]
  omega
theorem col_le {N : List Pt} {h v : Int → Int → Bool} (hok : ∀ e ∈ edgesG h v N, okSg (sgI N ((e.1 : Int), (e.2 : Int)))) (x : Int) : (colSp (segsI N (edI (edgesG h v N))) x).length ≤ N.length := by
  unfold colSp segsI edI
  rw [List.length_map, List.map_map, List.filter_map, List.length_map]
  unfold edgesG at *
  rw [List.filter_flatMap]
  refine Nat.le_trans (len_flat _ 1 fun a ha => ?_) (by simp)
  rw [List.filter_append, List.length_append]
  have e1 : (List.filter ((fun s : Sg => !decide (s.ay = s.cy) && decide (s.ax = x)) ∘ (sgI N ∘ fun e : Ed => ((e.1 : Int), (e.2 : Int)))) (rtE h N a)) = [] := by
    rw [List.filter_eq_nil_iff]
    intro e he hp
    obtain ⟨_, h2, h3⟩ := mem_rtE.1 he
    unfold nxt at h3
    simp only [Function.comp, Bool.and_eq_true, Bool.not_eq_true', decide_eq_false_iff_not, decide_eq_true_eq] at hp
    unfold sgI at hp
    simp only [Int.toNat_natCast] at hp
    rw [h2] at hp
    have h5 := h3.2.2.1
    exact hp.1 (by first | exact h5.symm | exact h5)
  rw [e1]
  have e2 := List.length_filter_le ((fun s : Sg => !decide (s.ay = s.cy) && decide (s.ax = x)) ∘ (sgI N ∘ fun e : Ed => ((e.1 : Int), (e.2 : Int)))) (upE v N a)
  have e3 : (upE v N a).length ≤ 1 := by
    unfold upE
    split
    · rw [List.length_map]
      cases upO N a <;> simp
    · simp
  simp only [List.length_nil]
  omega
theorem thin_net {N : List Pt} {E : List Ei} {M : List Sg} (hok : ∀ e ∈ E, okEi N e) (hn : N.length ≤ 400) (h1 : nodesF M = N) (h2 : edI (edgesF M) = E) : thin (segsI N E) = segsI N E := by
  subst h1
  subst h2
  have hk : ∀ e ∈ edgesF M, okSg (sgI (nodesF M) ((e.1 : Int), (e.2 : Int))) := fun e he => (hok _ (List.mem_map.2 ⟨e, he, rfl⟩)).2
  unfold thin
  rw [List.filter_eq_self]
  intro s _
  have h1 := row_le hk s.ay
  have h2 := col_le hk s.ax
  split
  · exact decide_eq_true (Nat.le_trans h1 hn)
  · exact decide_eq_true (Nat.le_trans h2 hn)
theorem chkC_eq (N : List Pt) (E : List Ei) : chkC N E = chkN N E := by
  unfold chkC chkN
  split
  · rfl
  · rename_i h0
    split
    · rfl
    · rename_i hk
      have hok : ∀ e ∈ E, okEi N e := Classical.byContradiction hk
      have hn : N.length ≤ 400 := by omega
      by_cases h : thin (segsI N E) = segsI N E
      · rw [h]
      · rw [if_neg (fun q => h (thin_net hok hn q.2.1 q.2.2)), if_neg (fun q => h (thin_net hok hn q.2.1 q.2.2))]
end Go.Proofs.YtdolpeljengpaaaGreat

/- street.Check: the walk. -/
namespace Go.Proofs.YtdolpeljengpaaaGreat
open Go.RowKit Go.Maps
set_option linter.unusedVariables false
set_option linter.unusedSimpArgs false

set_option maxRecDepth 100000 in
set_option maxHeartbeats 8000000 in
theorem Check_any {w : World} {nv ev : Value} {N : List Pt} {E : List Ei} (hn : RdK encS 2 w w.heap.size nv N) (he : RdK encS 2 w w.heap.size ev E) :
    Calls Tryz.prog 56 #[.agg #[nv, ev]] w fun e w' => e = .returned (.int .i64 (chkC N E)) ∧ Below w.heap.size w w' := by
  have HN := hide hn
  have HE := hide he
  obtain ⟨An, cn, rfl, _⟩ := hn
  obtain ⟨Ae, ce, rfl, _⟩ := he
  have hb0 : Below w.heap.size w (w.alloc (.cells #[.slice An N.length cn, .slice Ae E.length ce] 25)) := (Below.refl _ _).alloc (Nat.le_refl _) _
  have HB0 := hide hb0
  have x0 : (w.alloc (.cells #[.slice An N.length cn, .slice Ae E.length ce] 25)).cell? ⟨w.heap.size, 0, none⟩ = some (.slice An N.length cn) := by simp [go_sem]
  have x1 : (w.alloc (.cells #[.slice An N.length cn, .slice Ae E.length ce] 25)).cell? ⟨w.heap.size, 1, none⟩ = some (.slice Ae E.length ce) := by simp [go_sem]
  have HX := hide (And.intro x0 x1)
  have s0 : w.heap.size < (w.alloc (.cells #[.slice An N.length cn, .slice Ae E.length ce] 25)).heap.size := by simp
  have HS0 := hide s0
  clear hb0 x0 x1 s0
  by_cases h1 : 400 < N.length
  · have z1 : (400 : Int) < (N.length : Int) := by omega
    have HC : Hid (chkC N E = 4) := hide (by unfold chkC; rw [if_pos (.inl h1)])
    clear h1
    go_enter Tryz.func56, Tryz.ntmps56
    go_wp2
    go_ret
    exact ⟨ret_eq (by rw [HC.out]; rfl), HB0.out⟩
  · have z1 : ¬ (400 : Int) < (N.length : Int) := by omega
    by_cases h2 : 800 < E.length
    · have z2 : (800 : Int) < (E.length : Int) := by omega
      have HC : Hid (chkC N E = 4) := hide (by unfold chkC; rw [if_pos (.inr h2)])
      clear h1 h2
      go_enter Tryz.func56, Tryz.ntmps56
      go_wp2
      go_ret
      exact ⟨ret_eq (by rw [HC.out]; rfl), HB0.out⟩
    · have z2 : ¬ (800 : Int) < (E.length : Int) := by omega
      have H1 := hide (show N.length ≤ 400 by omega)
      have H2 := hide (show E.length ≤ 800 by omega)
      have HC0 : Hid (chkC N E = if ¬ (∀ e ∈ E, okEi N e) then 8 else if (nodesF (thin (segsI N E))).length ≤ 400 ∧ nodesF (thin (segsI N E)) = N ∧ edI (edgesF (thin (segsI N E))) = E then 0 else 8) := hide (by unfold chkC; rw [if_neg (by omega)])
      clear h1 h2
      go_enter Tryz.func56, Tryz.ntmps56
      go_wp2_with (fail)
      refine (drawn_any ((HN.out.below HB0.out).mono HB0.out.size) ((HE.out.below HB0.out).mono HB0.out.size) H1.out H2.out).mono ?_
      rintro e w1 ⟨⟨ov, ok, rfl, hq1, hq2⟩, hb1⟩
      have HB1 := hide (HB0.out.trans (hb1.mono HB0.out.size))
      have k0 := (hb1.cell (p := ⟨w.heap.size, 0, none⟩) HS0.out).trans HX.out.1
      have k1 := (hb1.cell (p := ⟨w.heap.size, 1, none⟩) HS0.out).trans HX.out.2
      have hs1 : w.heap.size < w1.heap.size := Nat.lt_of_lt_of_le HS0.out hb1.size
      by_cases hv : ∀ e ∈ E, okEi N e
      · obtain ⟨rfl, ho⟩ := hq1 hv
        have hsl : (segsI N E).length = E.length := by unfold segsI; simp
        rw [← hsl] at ho
        have HRD := hide (own_rd ho (fun _ => rfl))
        have HSL := hide hsl
        have HOK : Hid (∀ s ∈ segsI N E, okSg s) := hide (fun s hs => by
          obtain ⟨e, he, rfl⟩ := List.mem_map.1 hs
          exact (hv e he).2)
        have HV := hide hv
        clear hq1 hq2 hb1 ho hsl hv
        go_wp2_with (fail)
        refine (network_any HRD.out (by rw [HSL.out]; exact H2.out) HOK.out).mono ?_
        rintro e w2 ⟨hq, hb2⟩
        have HB2 := hide (HB1.out.trans (hb2.mono HB1.out.size))
        have m0 := (hb2.cell (p := ⟨w.heap.size, 0, none⟩) hs1).trans k0
        have m1 := (hb2.cell (p := ⟨w.heap.size, 1, none⟩) hs1).trans k1
        have hs2 : w.heap.size < w2.heap.size := Nat.lt_of_lt_of_le hs1 hb2.size
        clear hb2 k0 k1
        by_cases hn4 : (nodesF (thin (segsI N E))).length ≤ 400
        · obtain ⟨nv, ev, rfl, o1, o2⟩ := hq.1 hn4
          have HR1 := hide (own_rd o1 (fun _ => rfl))
          have HR2 := hide (own_rd o2 (fun _ => rfl))
          have HEL : Hid ((edI (edgesF (thin (segsI N E)))).length ≤ 800) := hide (by
            have := edges_len (htB (thin (segsI N E))) (vtB (thin (segsI N E))) (nodesF (thin (segsI N E)))
            unfold edI edgesF
            rw [List.length_map]
            omega)
          have HC : Hid (chkC N E = if (decide (nodesF (thin (segsI N E)) = N) && decide (edI (edgesF (thin (segsI N E))) = E)) = true then 0 else 8) := hide (by
            rw [HC0.out, if_neg (fun h => h HV.out)]
            by_cases a : nodesF (thin (segsI N E)) = N <;> by_cases b : edI (edgesF (thin (segsI N E))) = E <;> simp [a, b] <;> (rw [a] at hn4; omega))
          have HN4 := hide hn4
          obtain ⟨A3, c3, rfl⟩ := own_form o1
          obtain ⟨A4, c4, rfl⟩ := own_form o2
          clear hq o1 o2 hn4
          go_wp2_with (fail)
          have hba : Below w2.heap.size w2 (w2.alloc (.cells #[.slice A3 (nodesF (thin (segsI N E))).length c3, .slice A4 (edI (edgesF (thin (segsI N E)))).length c4] 25)) := (Below.refl _ _).alloc (Nat.le_refl _) _
          have hwa := HB2.out.trans (hba.mono (Nat.le_of_lt hs2))
          refine (strSame_any ((HR1.out.below hba).mono hba.size) ((HR2.out.below hba).mono hba.size) ((HN.out.below hwa).mono (Nat.le_trans (Nat.le_of_lt hs2) hba.size)) ((HE.out.below hwa).mono (Nat.le_trans (Nat.le_of_lt hs2) hba.size)) (Nat.le_trans HN4.out (by omega)) (Nat.le_trans HEL.out (by omega))).mono ?_
          rintro e w3 ⟨rfl, hb3⟩
          have HB3 := hide (hwa.trans (hb3.mono (Nat.le_trans (Nat.le_of_lt hs2) hba.size)))
          clear hb3 hwa hba m0 m1
          generalize (decide (nodesF (thin (segsI N E)) = N) && decide (edI (edgesF (thin (segsI N E))) = E)) = r at *
          cases r
          · go_wp2
            go_ret
            exact ⟨ret_eq (by rw [HC.out]; rfl), HB3.out⟩
          · go_wp2
            go_ret
            exact ⟨ret_eq (by rw [HC.out]; rfl), HB3.out⟩
        · have hq := hq.2 (by omega)
          subst hq
          have HC : Hid (chkC N E = 8) := hide (by
            rw [HC0.out, if_neg (fun h => h HV.out), if_neg (fun h => hn4 h.1)])
          clear hn4
          go_wp2
          go_ret
          exact ⟨ret_eq (by rw [HC.out]; rfl), HB2.out.alloc (Nat.le_of_lt hs2) _⟩
      · have hf := hq2 hv
        subst hf
        have HC : Hid (chkC N E = 8) := hide (by rw [HC0.out, if_pos hv])
        clear hq1 hq2 hv hb1
        go_wp2
        go_ret
        exact ⟨ret_eq (by rw [HC.out]; rfl), HB1.out⟩
end Go.Proofs.YtdolpeljengpaaaGreat

/- street.Segments: the walk. -/
namespace Go.Proofs.YtdolpeljengpaaaGreat
open Go.RowKit Go.Maps
set_option linter.unusedVariables false
set_option linter.unusedSimpArgs false

/-- What Segments gives. -/
def SegsQ (w w' : World) (N : List Pt) (E : List Ei) (e : Ending) : Prop := ∃ ov, e = .returned (.tuple #[ov, .int .i64 (chkN N E)]) ∧ (chkN N E = 0 → w'.ownsRow w.heap.size 53 4 ov (segsI N E).length ((segsI N E).flatMap encSg)) ∧ (chkN N E ≠ 0 → ov = .slice none 0 0)
set_option maxRecDepth 100000 in
set_option maxHeartbeats 8000000 in
theorem Segments_any {w : World} {nv ev : Value} {N : List Pt} {E : List Ei} (hn : RdK encS 2 w w.heap.size nv N) (he : RdK encS 2 w w.heap.size ev E) :
    Calls Tryz.prog 45 #[.agg #[nv, ev]] w fun e w' => SegsQ w w' N E e ∧ Below w.heap.size w w' := by
  have HN := hide hn
  have HE := hide he
  obtain ⟨An, cn, rfl, _⟩ := hn
  obtain ⟨Ae, ce, rfl, _⟩ := he
  have hb0 : Below w.heap.size w (w.alloc (.cells #[.slice An N.length cn, .slice Ae E.length ce] 25)) := (Below.refl _ _).alloc (Nat.le_refl _) _
  have HB0 := hide hb0
  have x0 : (w.alloc (.cells #[.slice An N.length cn, .slice Ae E.length ce] 25)).cell? ⟨w.heap.size, 0, none⟩ = some (.slice An N.length cn) := by simp [go_sem]
  have x1 : (w.alloc (.cells #[.slice An N.length cn, .slice Ae E.length ce] 25)).cell? ⟨w.heap.size, 1, none⟩ = some (.slice Ae E.length ce) := by simp [go_sem]
  have HX := hide (And.intro x0 x1)
  have s0 : w.heap.size < (w.alloc (.cells #[.slice An N.length cn, .slice Ae E.length ce] 25)).heap.size := by simp
  have HS0 := hide s0
  clear hb0 x0 x1 s0
  go_enter Tryz.func45, Tryz.ntmps45
  go_wp2_with (fail)
  refine (Check_any ((HN.out.below HB0.out).mono HB0.out.size) ((HE.out.below HB0.out).mono HB0.out.size)).mono ?_
  rintro e w1 ⟨rfl, hb1⟩
  rw [chkC_eq]
  have HB1 := hide (HB0.out.trans (hb1.mono HB0.out.size))
  have k0 := (hb1.cell (p := ⟨w.heap.size, 0, none⟩) HS0.out).trans HX.out.1
  have k1 := (hb1.cell (p := ⟨w.heap.size, 1, none⟩) HS0.out).trans HX.out.2
  have hs1 : w.heap.size < w1.heap.size := Nat.lt_of_lt_of_le HS0.out hb1.size
  clear hb1
  obtain ⟨r, hr⟩ : ∃ r, chkN N E = r := ⟨_, rfl⟩
  rw [hr]
  have HR := hide hr
  clear hr
  by_cases h0 : r = 0
  · subst h0
    obtain ⟨g1, g2, g3, _⟩ := chkN_ok HR.out
    have HOK := hide g3
    have HL := hide (And.intro g1 g2)
    clear g1 g2 g3
    go_wp2_with (fail)
    refine (drawn_any ((HN.out.below HB1.out).mono HB1.out.size) ((HE.out.below HB1.out).mono HB1.out.size) HL.out.1 HL.out.2).mono ?_
    rintro e w2 ⟨⟨ov, ok, rfl, hq1, _⟩, hb2⟩
    obtain ⟨rfl, ho⟩ := hq1 HOK.out
    have hsl : (segsI N E).length = E.length := by unfold segsI; simp
    rw [← hsl] at ho
    have HO := hide (own_base ho (Nat.le_of_lt hs1))
    have HB2 := hide (HB1.out.trans (hb2.mono HB1.out.size))
    obtain ⟨Ao, co, rfl⟩ := own_form ho
    clear hq1 ho hb2 hsl k0 k1
    go_wp2
    go_ret2
    exact ⟨⟨_, by rw [HR.out]; rfl, fun _ => HO.out, fun h => absurd HR.out h⟩, HB2.out⟩
  · have hz : (r != 0) = true := by simpa using h0
    have HZ := hide h0
    clear h0
    go_wp2
    go_ret2
    exact ⟨⟨_, by rw [HR.out]; rfl, fun h => absurd (HR.out.symm.trans h) HZ.out, fun _ => rfl⟩, HB1.out⟩
end Go.Proofs.YtdolpeljengpaaaGreat
