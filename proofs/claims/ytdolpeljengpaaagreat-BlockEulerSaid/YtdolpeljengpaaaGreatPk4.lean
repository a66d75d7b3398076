/- Texts laid together: StrA, StrB, MStrF, MStrG, MStrH, MBuild, EqS, Build. Lemmas for the statements of this seat; no condition. -/
import Derived.Test.YtdolpeljengpaaaGreatPk1
import Derived.Test.YtdolpeljengpaaaGreatPk2
import Derived.Test.YtdolpeljengpaaaGreatPk3
import Derived.Deep.DeepCutAuto
import Derived.Laws.StructEq
import Derived.Deep.QuietTactic
import Derived.BigQuiet

/- street.collect: the lines of segments, in two maps. -/
namespace Go.Proofs.YtdolpeljengpaaaGreat
open Go.RowKit Go.Maps
set_option linter.unusedVariables false
set_option linter.unusedSimpArgs false

def encSg (s : Sg) : List Value := [.int .i64 s.ax, .int .i64 s.ay, .int .i64 s.cx, .int .i64 s.cy]
def spR (s : Sg) : Sp := (min s.ax s.cx, max s.ax s.cx)
def spC (s : Sg) : Sp := (min s.ay s.cy, max s.ay s.cy)
def rowC (l : List Sg) (y : Int) : List Sp := sjoin hFst (rowSp l y) []
def colC (l : List Sg) (x : Int) : List Sp := sjoin hFst (colSp l x) []
theorem rowSp_take {l : List Sg} {m : Nat} {s : Sg} (h : l[m]? = some s) (y : Int) : rowSp (l.take (m + 1)) y = if s.ay = s.cy ∧ s.ay = y then rowSp (l.take m) y ++ [spR s] else rowSp (l.take m) y := by
  unfold rowSp
  rw [List.take_add_one, h, Option.toList_some, List.filter_append, List.map_append]
  by_cases e : s.ay = s.cy ∧ s.ay = y
  · have hf : (decide (s.ay = s.cy) && decide (s.ay = y)) = true := by rw [decide_eq_true e.1, decide_eq_true e.2]; rfl
    rw [List.filter_cons_of_pos (p := fun s : Sg => decide (s.ay = s.cy) && decide (s.ay = y)) hf, if_pos e]
    rfl
  · have hf : ¬ (decide (s.ay = s.cy) && decide (s.ay = y)) = true := fun hh => e (by rw [Bool.and_eq_true, decide_eq_true_eq, decide_eq_true_eq] at hh; exact hh)
    rw [List.filter_cons_of_neg (p := fun s : Sg => decide (s.ay = s.cy) && decide (s.ay = y)) hf, if_neg e]
    simp
theorem colSp_take {l : List Sg} {m : Nat} {s : Sg} (h : l[m]? = some s) (x : Int) : colSp (l.take (m + 1)) x = if ¬ s.ay = s.cy ∧ s.ax = x then colSp (l.take m) x ++ [spC s] else colSp (l.take m) x := by
  unfold colSp
  rw [List.take_add_one, h, Option.toList_some, List.filter_append, List.map_append]
  by_cases e : ¬ s.ay = s.cy ∧ s.ax = x
  · have hf : (!decide (s.ay = s.cy) && decide (s.ax = x)) = true := by rw [decide_eq_false e.1, decide_eq_true e.2]; rfl
    rw [List.filter_cons_of_pos (p := fun s : Sg => !decide (s.ay = s.cy) && decide (s.ax = x)) hf, if_pos e]
    rfl
  · have hf : ¬ (!decide (s.ay = s.cy) && decide (s.ax = x)) = true := fun hh => e (by rw [Bool.and_eq_true, Bool.not_eq_true', decide_eq_false_iff_not, decide_eq_true_eq] at hh; exact hh)
    rw [List.filter_cons_of_neg (p := fun s : Sg => !decide (s.ay = s.cy) && decide (s.ax = x)) hf, if_neg e]
    simp
theorem rowSp_len (l : List Sg) (y : Int) : (rowSp l y).length ≤ l.length := by
  unfold rowSp
  rw [List.length_map]
  exact List.length_filter_le _ _
theorem colSp_len (l : List Sg) (x : Int) : (colSp l x).length ≤ l.length := by
  unfold colSp
  rw [List.length_map]
  exact List.length_filter_le _ _
theorem rowSp_ok {l : List Sg} (hv : ∀ s ∈ l, okSg s) (y : Int) : ∀ p ∈ rowSp l y, validS p := by
  intro p hp
  obtain ⟨s, hs, rfl⟩ := List.mem_map.1 hp
  rw [List.mem_filter] at hs
  simp only [Bool.and_eq_true, decide_eq_true_eq] at hs
  obtain ⟨⟨⟨a1, a2⟩, ⟨a3, a4⟩, ⟨a5, a6⟩, a7, a8⟩, h2⟩ := hv s hs.1
  unfold validS
  simp only
  omega
theorem colSp_ok {l : List Sg} (hv : ∀ s ∈ l, okSg s) (x : Int) : ∀ p ∈ colSp l x, validS p := by
  intro p hp
  obtain ⟨s, hs, rfl⟩ := List.mem_map.1 hp
  rw [List.mem_filter] at hs
  simp only [Bool.and_eq_true, Bool.not_eq_true', decide_eq_false_iff_not, decide_eq_true_eq] at hs
  obtain ⟨⟨⟨a1, a2⟩, ⟨a3, a4⟩, ⟨a5, a6⟩, a7, a8⟩, h2⟩ := hv s hs.1
  unfold validS
  simp only
  omega
/-- Keys are those with lines. -/
def KeysOk (K : List Int) (p : Int → List Sp) : Prop := ∀ k, k ∈ K ↔ p k ≠ []
theorem keys_push {K : List Int} {p : Int → List Sp} (h : KeysOk K p) (k : Int) (s : Sp) : KeysOk (addI K k) (fun k' => if k' = k then p k ++ [s] else p k') := by
  intro k'
  rw [mem_addI]
  by_cases e : k' = k
  · simp [e]
  · simp only [e, if_false, false_or]
    exact h k'
theorem addI_len (K : List Int) (k : Int) : (addI K k).length ≤ K.length + 1 := by
  unfold addI
  split
  · omega
  · simp
/-- No row of the one map is a row of the other. -/
def Apart2 (K1 : List Int) (v1 : Int → Value) (K2 : List Int) (v2 : Int → Value) : Prop := ∀ a ∈ K1, ∀ b ∈ K2, ((v1 a).ownBlock = none ∨ (v1 a).ownBlock ≠ (v2 b).ownBlock) ∧ ((v2 b).ownBlock = none ∨ (v2 b).ownBlock ≠ (v1 a).ownBlock)
theorem Apart2.symm {K1 K2 : List Int} {v1 v2 : Int → Value} (h : Apart2 K1 v1 K2 v2) : Apart2 K2 v2 K1 v1 := fun a ha b hb => ⟨(h b hb a ha).2, (h b hb a ha).1⟩
theorem gv_in {K : List Int} {vals : Int → Value} {k : Int} (h : k ∈ K) : gvI K vals k = vals k := if_pos h
theorem gv_out {K : List Int} {vals : Int → Value} {k : Int} (h : k ∉ K) : gvI K vals k = .slice none 0 0 := if_neg h
theorem Apart2.push {K1 K2 : List Int} {v1 v2 : Int → Value} (h : Apart2 K1 v1 K2 v2) {B2 : Nat} {p2 : Int → List Sp} {w : World} (h2 : MV B2 K2 p2 v2 w) {k : Int} {v : Value} (hv : v.ownBlock = none ∨ v.ownBlock = (gvI K1 v1 k).ownBlock ∨ ∀ g, v.ownBlock = some g → w.heap.size ≤ g) : Apart2 (addI K1 k) (fun k' => if k' = k then v else v1 k') K2 v2 := by
  intro a ha b hb
  by_cases e : a = k
  · subst e
    simp only [if_true]
    rcases hv with hv | hv | hv
    · refine ⟨.inl hv, ?_⟩
      rcases own_none_or (v := v2 b) with h4 | h4
      · exact .inl h4
      · exact .inr fun e => h4 (e.trans hv)
    · by_cases hm : a ∈ K1
      · rw [hv, gv_in hm]
        exact h a hm b hb
      · rw [gv_out hm] at hv
        have hv' : v.ownBlock = none := hv
        refine ⟨.inl hv', ?_⟩
        rcases own_none_or (v := v2 b) with h4 | h4
        · exact .inl h4
        · exact .inr fun e => h4 (e.trans hv')
    · rcases hb2 : (v2 b).ownBlock with _ | g
      · refine ⟨?_, .inl rfl⟩
        exact own_none_or
      · have h1 := (h2.vs b hb).lt g hb2
        constructor
        · right
          intro e
          have := hv g e
          omega
        · right
          intro e
          have := hv g e.symm
          omega
  · rcases mem_addI.1 ha with h1 | h1
    · exact absurd h1 e
    · simp only [if_neg e]
      exact h a h1 b hb
theorem Ms.same {B bM : Nat} {K : List Int} {p q : Int → List Sp} {vals : Int → Value} {w : World} (h : Ms B bM K p vals w) (e : ∀ k ∈ K, p k = q k) : Ms B bM K q vals w :=
  ⟨h.map, fun k hk => by rw [← e k hk]; exact h.mv.vs k hk, h.mv.apart, h.mv.rng, h.mv.nd⟩
theorem Ms.base {B B0 bM : Nat} {K : List Int} {p : Int → List Sp} {vals : Int → Value} {w : World} (h : Ms B bM K p vals w) (hB : B0 ≤ B) : Ms B0 bM K p vals w :=
  ⟨h.map, fun k hk => own_base (h.mv.vs k hk) hB, h.mv.apart, h.mv.rng, h.mv.nd⟩
theorem Ms.row_ge {B bM : Nat} {K : List Int} {p : Int → List Sp} {vals : Int → Value} {w : World} (h : Ms B bM K p vals w) (k : Int) : ∀ q, (gvI K vals k).ownBlock = some q → B ≤ q ∧ q < w.heap.size := fun q hq => by
  by_cases hm : k ∈ K
  · rw [gv_in hm] at hq
    exact (h.mv.vs k hm).lt q hq
  · rw [gv_out hm] at hq
    cases hq
theorem Ms.own {B bM : Nat} {K : List Int} {p : Int → List Sp} {vals : Int → Value} {w : World} (h : Ms B bM K p vals w) (hp : ∀ k, k ∉ K → p k = []) (k : Int) : w.ownsRow B 188 2 (gvI K vals k) (p k).length ((p k).flatMap encS) := by
  by_cases hm : k ∈ K
  · rw [gv_in hm]
    exact h.mv.vs k hm
  · rw [gv_out hm, hp k hm]
    exact World.ownsRow_nil _ _ _ _
theorem Ms.others {B bM : Nat} {K : List Int} {p : Int → List Sp} {vals : Int → Value} {w : World} (h : Ms B bM K p vals w) (k : Int) : ∀ k' ∈ K, k' ≠ k → (vals k').ownBlock = none ∨ (vals k').ownBlock ≠ (gvI K vals k).ownBlock := fun k' hk' hne => by
  by_cases hm : k ∈ K
  · rw [gv_in hm]
    exact h.mv.apart k' hk' k hm hne
  · rw [gv_out hm]
    exact own_none_or
theorem Apart2.rows {K1 K2 : List Int} {v1 v2 : Int → Value} (h : Apart2 K1 v1 K2 v2) (k : Int) : ∀ b ∈ K2, (v2 b).ownBlock = none ∨ (v2 b).ownBlock ≠ (gvI K1 v1 k).ownBlock := fun b hb => by
  by_cases hm : k ∈ K1
  · rw [gv_in hm]
    exact (h k hm b hb).2
  · rw [gv_out hm]
    exact own_none_or
theorem Ms.map_ge {B bM : Nat} {K : List Int} {p : Int → List Sp} {vals : Int → Value} {w : World} (h : Ms B bM K p vals w) {k : Int} : some bM ≠ (gvI K vals k).ownBlock := by
  by_cases hm : k ∈ K
  · rw [gv_in hm]
    exact h.not_map (h.mv.vs k hm)
  · rw [gv_out hm]
    simp [Value.ownBlock]
/-- The two maps, the box that holds them. -/
structure Col (w0 wr : World) (h0 : Nat) (K1 K2 : List Int) (p1 p2 : Int → List Sp) (v1 v2 : Int → Value) : Prop where
  m1 : Ms (h0 + 4) (h0 + 1) K1 p1 v1 wr
  m2 : Ms (h0 + 4) (h0 + 1 + 1) K2 p2 v2 wr
  ap : Apart2 K1 v1 K2 v2
  c0 : wr.cell? ⟨h0 + 1 + 1 + 1, 0, none⟩ = some (.map (some (h0 + 1)))
  c1 : wr.cell? ⟨h0 + 1 + 1 + 1, 1, none⟩ = some (.map (some (h0 + 1 + 1)))
  low : Below h0 w0 wr
  sz : h0 + 4 ≤ wr.heap.size
  rb : wr.heap[h0]? = some (Obj.cells #[.map none, .map none] 163)
theorem Col.below {w0 wr w' : World} {h0 : Nat} {K1 K2 : List Int} {p1 p2 : Int → List Sp} {v1 v2 : Int → Value} (h : Col w0 wr h0 K1 K2 p1 p2 v1 v2) (hb : Below wr.heap.size wr w') : Col w0 w' h0 K1 K2 p1 p2 v1 v2 :=
  ⟨h.m1.below hb, h.m2.below hb, h.ap, (hb.cell (p := ⟨h0 + 1 + 1 + 1, 0, none⟩) (by have := h.sz; show h0 + 1 + 1 + 1 < _; omega)).trans h.c0, (hb.cell (p := ⟨h0 + 1 + 1 + 1, 1, none⟩) (by have := h.sz; show h0 + 1 + 1 + 1 < _; omega)).trans h.c1, h.low.trans (hb.mono (by have := h.sz; omega)), Nat.le_trans h.sz hb.size, (hb.block h0 (by have := h.sz; omega)).trans h.rb⟩
theorem cell_grow {w w' : World} {row : Option Nat} (h : w.grownBy w' row) {b o : Nat} (hb : b < w.heap.size) (hne : some b ≠ row) : w'.cell? ⟨b, o, none⟩ = w.cell? ⟨b, o, none⟩ := World.cell?_of_block (h.block b hb hne)
/-- One more span in the rows. -/
theorem Col.push1 {w0 wr w5 w9 : World} {h0 : Nat} {K1 K2 : List Int} {p1 p2 : Int → List Sp} {v1 v2 : Int → Value} (h : Col w0 wr h0 K1 K2 p1 p2 v1 v2) (hb : Below wr.heap.size wr w5) {k : Int} (hk : okK k) (hn : K1.length < maxLen) (hg : w5.grownBy w9 (gvI K1 v1 k).ownBlock) {g n cap : Nat} {s : Sp} (hl : n = (p1 k ++ [s]).length)
    (ho : w9.ownsRow (h0 + 4) 188 2 (.slice (some ⟨g, 0, none⟩) n cap) n ((p1 k ++ [s]).flatMap encS)) (hloc : (gvI K1 v1 k).ownBlock = some g ∨ w5.heap.size ≤ g) :
    ∃ wz, (Instr.mapUpdate 161 (.map (some (h0 + 1))) (.int .i64 k) (.slice (some ⟨g, 0, none⟩) n cap)).run Tryz.prog w9 = .ok () wz ∧ ∃ v1', Col w0 wz h0 (addI K1 k) K2 (fun k' => if k' = k then p1 k ++ [s] else p1 k') p2 v1' v2 := by
  subst hl
  have h5 := h.below hb
  have hloc' : (Value.slice (some ⟨g, 0, none⟩) (p1 k ++ [s]).length cap).ownBlock = none ∨ (Value.slice (some ⟨g, 0, none⟩) (p1 k ++ [s]).length cap).ownBlock = (gvI K1 v1 k).ownBlock ∨ ∀ g', (Value.slice (some ⟨g, 0, none⟩) (p1 k ++ [s]).length cap).ownBlock = some g' → w5.heap.size ≤ g' := by
    right
    rcases hloc with hl | hl
    · exact .inl (by rw [hl]; rfl)
    · refine .inr fun g' hg' => ?_
      have : g = g' := by simpa [Value.ownBlock] using hg'
      omega
  obtain ⟨wz, hrun, hgz, hmz⟩ := h5.m1.store hk hn hg h5.m1.map_ge (h5.m1.others k) ho hloc'
  refine ⟨wz, hrun, _, hmz, ?_, h5.ap.push h5.m2.mv hloc', ?_, ?_, ?_, ?_, ?_⟩
  · have h2 := h5.m2.grown hg (fun e => by have := (h5.m1.row_ge k _ e.symm).1; omega) (h5.ap.rows k)
    exact h2.grown hgz (fun e => by injection e with e; omega) fun b hb => .inr fun e => by have := (h2.mv.vs b hb).lt _ e; omega
  · have e1 := cell_grow hg (b := h0 + 1 + 1 + 1) (o := 0) (by have := h5.sz; omega) (fun e => by have := (h5.m1.row_ge k _ e.symm).1; omega)
    exact (cell_grow hgz (by have := h5.sz; have := hg.size; omega) (fun e => by injection e with e; omega)).trans (e1.trans h5.c0)
  · have e1 := cell_grow hg (b := h0 + 1 + 1 + 1) (o := 1) (by have := h5.sz; omega) (fun e => by have := (h5.m1.row_ge k _ e.symm).1; omega)
    exact (cell_grow hgz (by have := h5.sz; have := hg.size; omega) (fun e => by injection e with e; omega)).trans (e1.trans h5.c1)
  · exact (h5.low.grown hg (by have := h5.sz; omega) fun q hq => by have := (h5.m1.row_ge k q hq).1; omega).grown hgz (by have := h5.sz; have := hg.size; omega) fun q hq => by injection hq with hq; omega
  · have := h5.sz
    have := hg.size
    have := hgz.size
    omega
  · exact (hgz.block h0 (by have := h5.sz; have := hg.size; omega) (fun e => by injection e with e; omega)).trans ((hg.block h0 (by have := h5.sz; omega) (fun e => by have := (h5.m1.row_ge k _ e.symm).1; omega)).trans h5.rb)
theorem Col.push2 {w0 wr w5 w9 : World} {h0 : Nat} {K1 K2 : List Int} {p1 p2 : Int → List Sp} {v1 v2 : Int → Value} (h : Col w0 wr h0 K1 K2 p1 p2 v1 v2) (hb : Below wr.heap.size wr w5) {k : Int} (hk : okK k) (hn : K2.length < maxLen) (hg : w5.grownBy w9 (gvI K2 v2 k).ownBlock) {g n cap : Nat} {s : Sp} (hl : n = (p2 k ++ [s]).length)
    (ho : w9.ownsRow (h0 + 4) 188 2 (.slice (some ⟨g, 0, none⟩) n cap) n ((p2 k ++ [s]).flatMap encS)) (hloc : (gvI K2 v2 k).ownBlock = some g ∨ w5.heap.size ≤ g) :
    ∃ wz, (Instr.mapUpdate 161 (.map (some (h0 + 1 + 1))) (.int .i64 k) (.slice (some ⟨g, 0, none⟩) n cap)).run Tryz.prog w9 = .ok () wz ∧ ∃ v2', Col w0 wz h0 K1 (addI K2 k) p1 (fun k' => if k' = k then p2 k ++ [s] else p2 k') v1 v2' := by
  subst hl
  have h5 := h.below hb
  have hloc' : (Value.slice (some ⟨g, 0, none⟩) (p2 k ++ [s]).length cap).ownBlock = none ∨ (Value.slice (some ⟨g, 0, none⟩) (p2 k ++ [s]).length cap).ownBlock = (gvI K2 v2 k).ownBlock ∨ ∀ g', (Value.slice (some ⟨g, 0, none⟩) (p2 k ++ [s]).length cap).ownBlock = some g' → w5.heap.size ≤ g' := by
    right
    rcases hloc with hl | hl
    · exact .inl (by rw [hl]; rfl)
    · refine .inr fun g' hg' => ?_
      have : g = g' := by simpa [Value.ownBlock] using hg'
      omega
  obtain ⟨wz, hrun, hgz, hmz⟩ := h5.m2.store hk hn hg h5.m2.map_ge (h5.m2.others k) ho hloc'
  refine ⟨wz, hrun, _, ?_, hmz, (h5.ap.symm.push h5.m1.mv hloc').symm, ?_, ?_, ?_, ?_, ?_⟩
  · have h2 := h5.m1.grown hg (fun e => by have := (h5.m2.row_ge k _ e.symm).1; omega) (h5.ap.symm.rows k)
    exact h2.grown hgz (fun e => by injection e with e; omega) fun b hb => .inr fun e => by have := (h2.mv.vs b hb).lt _ e; omega
  · have e1 := cell_grow hg (b := h0 + 1 + 1 + 1) (o := 0) (by have := h5.sz; omega) (fun e => by have := (h5.m2.row_ge k _ e.symm).1; omega)
    exact (cell_grow hgz (by have := h5.sz; have := hg.size; omega) (fun e => by injection e with e; omega)).trans (e1.trans h5.c0)
  · have e1 := cell_grow hg (b := h0 + 1 + 1 + 1) (o := 1) (by have := h5.sz; omega) (fun e => by have := (h5.m2.row_ge k _ e.symm).1; omega)
    exact (cell_grow hgz (by have := h5.sz; have := hg.size; omega) (fun e => by injection e with e; omega)).trans (e1.trans h5.c1)
  · exact (h5.low.grown hg (by have := h5.sz; omega) fun q hq => by have := (h5.m2.row_ge k q hq).1; omega).grown hgz (by have := h5.sz; have := hg.size; omega) fun q hq => by injection hq with hq; omega
  · have := h5.sz
    have := hg.size
    have := hgz.size
    omega
  · exact (hgz.block h0 (by have := h5.sz; have := hg.size; omega) (fun e => by injection e with e; omega)).trans ((hg.block h0 (by have := h5.sz; omega) (fun e => by have := (h5.m2.row_ge k _ e.symm).1; omega)).trans h5.rb)
theorem iter_ne {w : World} {b r n : Nat} {D : DataW Unit} {left : Lit → Bool} {cnt : Nat} (h : w.ranges Tryz.prog 3 slD b r n D left cnt) {B m : Nat} {e : TypeId} {s : Nat} {v : Value} {xs : List Value} (ho : w.ownsRow B e s v m xs) : v.ownBlock = none ∨ v.ownBlock ≠ some r := by
  obtain ⟨es, clock, since, seen, c0, _, _, _, _, hr, _⟩ := h
  rcases ho.2 with ⟨rfl, _⟩ | ⟨g, cap, cur, rfl, _, hg, _⟩
  · exact .inl rfl
  · right
    intro e1
    have : g = r := by simpa [Value.ownBlock] using e1
    subst this
    rw [hg] at hr
    cases hr
theorem Col.grown {w0 wr w' : World} {h0 : Nat} {K1 K2 : List Int} {p1 p2 : Int → List Sp} {v1 v2 : Int → Value} (h : Col w0 wr h0 K1 K2 p1 p2 v1 v2) {row : Option Nat} (hg : wr.grownBy w' row) (n : ∀ q, row = some q → h0 < q ∧ q ≠ h0 + 1 ∧ q ≠ h0 + 1 + 1 ∧ q ≠ h0 + 1 + 1 + 1)
    (r1 : ∀ k ∈ K1, (v1 k).ownBlock = none ∨ (v1 k).ownBlock ≠ row) (r2 : ∀ k ∈ K2, (v2 k).ownBlock = none ∨ (v2 k).ownBlock ≠ row) : Col w0 w' h0 K1 K2 p1 p2 v1 v2 :=
  ⟨h.m1.grown hg (fun e => (n _ e.symm).2.1 rfl) r1, h.m2.grown hg (fun e => (n _ e.symm).2.2.1 rfl) r2, h.ap, (cell_grow hg (by have := h.sz; omega) (fun e => (n _ e.symm).2.2.2 rfl)).trans h.c0, (cell_grow hg (by have := h.sz; omega) (fun e => (n _ e.symm).2.2.2 rfl)).trans h.c1,
    h.low.grown hg (by have := h.sz; omega) (fun q hq => Nat.le_of_lt (n q hq).1), Nat.le_trans h.sz hg.size, (hg.block h0 (by have := h.sz; omega) (fun e => Nat.lt_irrefl _ (n _ e.symm).1)).trans h.rb⟩
/-- A step of the range over the rows: the iterator's block turns. -/
theorem Col.step1 {w0 wr w' : World} {h0 r : Nat} {K1 K2 : List Int} {p1 p2 : Int → List Sp} {v1 v2 : Int → Value} {left : Lit → Bool} {cnt : Nat} (h : Col w0 wr h0 K1 K2 p1 p2 v1 v2) (hm : Mr (h0 + 4) (h0 + 1) r K1 p1 v1 left cnt wr) (hr : h0 + 4 ≤ r) (hg : wr.grownBy w' (some r)) : Col w0 w' h0 K1 K2 p1 p2 v1 v2 := by
  obtain ⟨D, d1, _⟩ := hm.map
  exact h.grown hg (fun q hq => by injection hq with hq; omega) (fun k hk => iter_ne d1 (h.m1.mv.vs k hk)) (fun k hk => iter_ne d1 (h.m2.mv.vs k hk))
theorem Col.step2 {w0 wr w' : World} {h0 r : Nat} {K1 K2 : List Int} {p1 p2 : Int → List Sp} {v1 v2 : Int → Value} {left : Lit → Bool} {cnt : Nat} (h : Col w0 wr h0 K1 K2 p1 p2 v1 v2) (hm : Mr (h0 + 4) (h0 + 1 + 1) r K2 p2 v2 left cnt wr) (hr : h0 + 4 ≤ r) (hg : wr.grownBy w' (some r)) : Col w0 w' h0 K1 K2 p1 p2 v1 v2 := by
  obtain ⟨D, d1, _⟩ := hm.map
  exact h.grown hg (fun q hq => by injection hq with hq; omega) (fun k hk => iter_ne d1 (h.m1.mv.vs k hk)) (fun k hk => iter_ne d1 (h.m2.mv.vs k hk))
/-- The rows' value at a key is laid anew, while the range over them is under way. -/
theorem Col.upd1 {w0 wr w2 : World} {h0 r : Nat} {K1 K2 : List Int} {p1 p2 : Int → List Sp} {v1 v2 : Int → Value} {left : Lit → Bool} {cnt : Nat} (h : Col w0 wr h0 K1 K2 p1 p2 v1 v2) (hm : Mr (h0 + 4) (h0 + 1) r K1 p1 v1 left cnt wr) {x : Int} (hx : x ∈ K1) (hn : K1.length < maxLen) (hb : Below wr.heap.size wr w2) {q : List Sp} {v : Value} (hv : w2.ownsRow wr.heap.size 188 2 v q.length (q.flatMap encS)) :
    ∃ w3, (Instr.mapUpdate 161 (.map (some (h0 + 1))) (.int .i64 x) v).run Tryz.prog w2 = .ok () w3 ∧ w2.grownBy w3 (some (h0 + 1)) ∧ Mr (h0 + 4) (h0 + 1) r K1 (fun k' => if k' = x then q else p1 k') (fun k' => if k' = x then v else v1 k') left cnt w3 ∧ Col w0 w3 h0 K1 K2 (fun k' => if k' = x then q else p1 k') p2 (fun k' => if k' = x then v else v1 k') v2 := by
  obtain ⟨w3, hrun, hg3, hs3, hm3⟩ := hm.store hx hn hb hv h.sz
  have h2 := h.below hb
  have hap := h.ap.push (k := x) h.m2.mv (v := v) (.inr (.inr fun g hg => (hv.lt g hg).1))
  rw [show addI K1 x = K1 from if_pos hx] at hap
  refine ⟨w3, hrun, hg3, hm3, hm3.ms, ?_, hap, ?_, ?_, ?_, ?_, ?_⟩
  · exact h2.m2.grown hg3 (fun e => by injection e with e; omega) fun b hb' => .inr fun e => by have := (h2.m2.mv.vs b hb').lt _ e; omega
  · exact (cell_grow hg3 (by have := h2.sz; omega) (fun e => by injection e with e; omega)).trans h2.c0
  · exact (cell_grow hg3 (by have := h2.sz; omega) (fun e => by injection e with e; omega)).trans h2.c1
  · exact h2.low.grown hg3 (by have := h2.sz; omega) fun q hq => by injection hq with hq; omega
  · have := h2.sz; have := hg3.size; omega
  · exact (hg3.block h0 (by have := h2.sz; omega) (fun e => by injection e with e; omega)).trans h2.rb
theorem Col.upd2 {w0 wr w2 : World} {h0 r : Nat} {K1 K2 : List Int} {p1 p2 : Int → List Sp} {v1 v2 : Int → Value} {left : Lit → Bool} {cnt : Nat} (h : Col w0 wr h0 K1 K2 p1 p2 v1 v2) (hm : Mr (h0 + 4) (h0 + 1 + 1) r K2 p2 v2 left cnt wr) {x : Int} (hx : x ∈ K2) (hn : K2.length < maxLen) (hb : Below wr.heap.size wr w2) {q : List Sp} {v : Value} (hv : w2.ownsRow wr.heap.size 188 2 v q.length (q.flatMap encS)) :
    ∃ w3, (Instr.mapUpdate 161 (.map (some (h0 + 1 + 1))) (.int .i64 x) v).run Tryz.prog w2 = .ok () w3 ∧ w2.grownBy w3 (some (h0 + 1 + 1)) ∧ Mr (h0 + 4) (h0 + 1 + 1) r K2 (fun k' => if k' = x then q else p2 k') (fun k' => if k' = x then v else v2 k') left cnt w3 ∧ Col w0 w3 h0 K1 K2 p1 (fun k' => if k' = x then q else p2 k') v1 (fun k' => if k' = x then v else v2 k') := by
  obtain ⟨w3, hrun, hg3, hs3, hm3⟩ := hm.store hx hn hb hv h.sz
  have h2 := h.below hb
  have hap := h.ap.symm.push (k := x) h.m1.mv (v := v) (.inr (.inr fun g hg => (hv.lt g hg).1))
  rw [show addI K2 x = K2 from if_pos hx] at hap
  refine ⟨w3, hrun, hg3, hm3, ?_, hm3.ms, hap.symm, ?_, ?_, ?_, ?_, ?_⟩
  · exact h2.m1.grown hg3 (fun e => by injection e with e; omega) fun b hb' => .inr fun e => by have := (h2.m1.mv.vs b hb').lt _ e; omega
  · exact (cell_grow hg3 (by have := h2.sz; omega) (fun e => by injection e with e; omega)).trans h2.c0
  · exact (cell_grow hg3 (by have := h2.sz; omega) (fun e => by injection e with e; omega)).trans h2.c1
  · exact h2.low.grown hg3 (by have := h2.sz; omega) fun q hq => by injection hq with hq; omega
  · have := h2.sz; have := hg3.size; omega
  · exact (hg3.block h0 (by have := h2.sz; omega) (fun e => by injection e with e; omega)).trans h2.rb
end Go.Proofs.YtdolpeljengpaaaGreat

/- street.collect: the walk. -/
namespace Go.Proofs.YtdolpeljengpaaaGreat
open Go.RowKit Go.Maps
set_option linter.unusedVariables false
set_option linter.unusedSimpArgs false

def KeysUp (K : List Int) (p : Int → List Sp) : Prop := ∀ k, p k ≠ [] → k ∈ K
/-- span.Make of at most 800 valid spans: too many give nothing. -/
def thinS (l : List Sp) : List Sp := if l.length ≤ 400 then sjoin hFst l [] else []
def rowD (l : List Sg) (y : Int) : List Sp := thinS (rowSp l y)
def colD (l : List Sg) (x : Int) : List Sp := thinS (colSp l x)
/-- Without the lines that have too many. -/
def thin (l : List Sg) : List Sg := l.filter fun s => if s.ay = s.cy then decide ((rowSp l s.ay).length ≤ 400) else decide ((colSp l s.ax).length ≤ 400)
theorem thin_row (l : List Sg) (y : Int) : rowSp (thin l) y = if (rowSp l y).length ≤ 400 then rowSp l y else [] := by
  unfold thin
  rw [rowSp, List.filter_filter]
  split
  · rename_i h
    conv => rhs; rw [rowSp]
    congr 1
    refine List.filter_congr fun s _ => ?_
    by_cases h1 : s.ay = s.cy <;> by_cases h2 : s.ay = y <;> simp_all
  · rename_i h
    rw [List.map_eq_nil_iff, List.filter_eq_nil_iff]
    intro s _
    by_cases h1 : s.ay = s.cy <;> by_cases h2 : s.ay = y <;> simp_all
theorem thin_col (l : List Sg) (x : Int) : colSp (thin l) x = if (colSp l x).length ≤ 400 then colSp l x else [] := by
  unfold thin
  rw [colSp, List.filter_filter]
  split
  · rename_i h
    conv => rhs; rw [colSp]
    congr 1
    refine List.filter_congr fun s _ => ?_
    by_cases h1 : s.ay = s.cy <;> by_cases h2 : s.ax = x <;> simp_all
  · rename_i h
    rw [List.map_eq_nil_iff, List.filter_eq_nil_iff]
    intro s _
    by_cases h1 : s.ay = s.cy <;> by_cases h2 : s.ax = x <;> simp_all
theorem rowD_thin (l : List Sg) : rowD l = rowC (thin l) := funext fun y => by
  unfold rowD thinS rowC
  rw [thin_row]
  split
  · rfl
  · rfl
theorem colD_thin (l : List Sg) : colD l = colC (thin l) := funext fun x => by
  unfold colD thinS colC
  rw [thin_col]
  split
  · rfl
  · rfl
theorem thin_all {l : List Sg} (h : l.length ≤ 400) : thin l = l := by
  unfold thin
  rw [List.filter_eq_self]
  intro s _
  have h1 := rowSp_len l s.ay
  have h2 := colSp_len l s.ax
  split <;> simp <;> omega
theorem thin_mem {l : List Sg} {s : Sg} (h : s ∈ thin l) : s ∈ l := (List.mem_filter.1 h).1
theorem thin_len (l : List Sg) : (thin l).length ≤ l.length := List.length_filter_le _ _
theorem keys_thin {K : List Int} {l : List Sg} (h : KeysOk K (rowSp l)) : KeysUp K (rowSp (thin l)) := fun k hk => (h k).2 (fun e => hk (by rw [thin_row, e]; simp))
theorem keys_thinC {K : List Int} {l : List Sg} (h : KeysOk K (colSp l)) : KeysUp K (colSp (thin l)) := fun k hk => (h k).2 (fun e => hk (by rw [thin_col, e]; simp))
theorem spanMake_thin {w : World} {v : Value} {l : List Sp} (hr : RdK encS 2 w w.heap.size v l) (hv : ∀ p ∈ l, validS p) :
    Calls Tryz.prog 143 #[v] w fun e w' => ∃ A c er, e = .returned (.tuple #[.slice A (thinS l).length c, .int .i64 er]) ∧ w'.ownsRow w.heap.size 188 2 (.slice A (thinS l).length c) (thinS l).length ((thinS l).flatMap encS) ∧ Below w.heap.size w w' := by
  by_cases hl : l.length ≤ 400
  · refine (spanMake_ok hr hl hv).mono ?_
    rintro e w' ⟨A, c, rfl, h2⟩
    have e1 : thinS l = sjoin hFst l [] := by unfold thinS; rw [if_pos hl]
    rw [e1]
    exact ⟨A, c, 0, rfl, h2⟩
  · have e1 : thinS l = [] := by unfold thinS; rw [if_neg hl]
    rw [e1]
    obtain ⟨A, c, rfl, _⟩ := hr
    have hlz : ¬ (l.length : Int) ≤ 400 := by omega
    have hlz2 : (400 : Int) < (l.length : Int) := by omega
    clear hv hl e1
    go_enter Tryz.func143, Tryz.ntmps143
    go_wp2
    go_ret2
    exact ⟨none, 0, ⟨4, rfl⟩, World.ownsRow_nil _ _ _ _, Below.refl _ _⟩
/-- What collect gives: two maps with the canonical lines. -/
def Roads (B : Nat) (l : List Sg) (v : Value) (w : World) : Prop := ∃ b1 b2 K1 K2 v1 v2, v = .agg #[.map (some b1), .map (some b2)] ∧ Ms B b1 K1 (rowC l) v1 w ∧ Ms B b2 K2 (colC l) v2 w ∧ KeysUp K1 (rowSp l) ∧ KeysUp K2 (colSp l) ∧ B ≤ b1 ∧ B ≤ b2
theorem col_start {w w0 : World} (h : w0 = (((w.alloc (Obj.cells #[.map none, .map none] 163)).alloc (Obj.map #[] 0)).alloc (Obj.map #[] 0)).alloc (Obj.cells #[Value.map (some (w.heap.size + 1)), Value.map (some (w.heap.size + 1 + 1))] 163)) (hb : Below w.heap.size w w0) :
    Col w w0 w.heap.size [] [] (rowSp []) (colSp []) (fun _ => .slice none 0 0) (fun _ => .slice none 0 0) := by
  have e1 : (w.alloc (Obj.cells #[.map none, .map none] 163)).heap.size = w.heap.size + 1 := by simp
  have e2 : ((w.alloc (Obj.cells #[.map none, .map none] 163)).alloc (Obj.map #[] 0)).heap.size = w.heap.size + 1 + 1 := by simp
  have m1 := Ms.made (w.alloc (Obj.cells #[.map none, .map none] 163)) (w.heap.size + 4) (rowSp []) (fun _ => .slice none 0 0)
  have m2 := Ms.made ((w.alloc (Obj.cells #[.map none, .map none] 163)).alloc (Obj.map #[] 0)) (w.heap.size + 4) (colSp []) (fun _ => .slice none 0 0)
  rw [e1] at m1
  rw [e2] at m2
  refine ⟨?_, ?_, fun a ha => (List.not_mem_nil ha).elim, ?_, ?_, hb, ?_, ?_⟩
  · rw [h]
    exact m1.below (((Below.refl _ _).alloc (Nat.le_refl _) _).alloc (by simp) _)
  · rw [h]
    exact m2.below ((Below.refl _ _).alloc (Nat.le_refl _) _)
  · rw [h]; simp [go_sem]
  · rw [h]; simp [go_sem]
  · rw [h]; simp
  · rw [h]
    have e3 := (MapKept.heap_alloc w (Obj.cells #[.map none, .map none] 163)).1
    have hb3 := (((Below.refl (w.alloc (Obj.cells #[.map none, .map none] 163)).heap.size (w.alloc (Obj.cells #[.map none, .map none] 163))).alloc (Nat.le_refl _) (Obj.map #[] 0)).alloc (by simp) (Obj.map #[] 0)).alloc (by simp) (Obj.cells #[Value.map (some (w.heap.size + 1)), Value.map (some (w.heap.size + 1 + 1))] 163)
    exact (hb3.block w.heap.size (by simp)).trans e3
set_option maxRecDepth 100000 in
set_option maxHeartbeats 8000000 in
theorem collect_any {w : World} {v : Value} {l : List Sg} (hr : RdK encSg 4 w w.heap.size v l) (hl : l.length ≤ 800) (hv : ∀ s ∈ l, okSg s) :
    Calls Tryz.prog 106 #[v] w fun e w' => ∃ u, e = .returned u ∧ Roads w.heap.size (thin l) u w' ∧ Below w.heap.size w w' := by
  obtain ⟨i1, gi, gz0, gz1, gz2⟩ := info_parts infoSp
  obtain ⟨A, c, rfl, hc⟩ := hr
  have HRC := hide hc
  have HV := hide hv
  clear hc hv
  have hmm := @run_makeMap Tryz.prog
  go_enter Tryz.func106, Tryz.ntmps106
  go_upto_region 2 with fail
  refine wp_name fun w0 hw0 => ?_
  clear hmm
  have hb0 : Below w.heap.size w w0 := by
    rw [hw0]
    repeat (first | with_reducible exact Below.refl _ _ | with_reducible refine Below.setCell ?_ (by first | (simp; done) | (simp; omega)) _ | with_reducible refine Below.alloc ?_ (by first | omega | (simp; omega) | simp) _)
  have hcol : Col w w0 w.heap.size [] [] (rowSp []) (colSp []) (fun _ => .slice none 0 0) (fun _ => .slice none 0 0) := by
    exact col_start hw0 hb0
  have HC0 := hide hcol
  clear hw0 hb0 hcol
  go_wp2
  go_loopw [15] (fun i wr => ∃ m : Nat, m ≤ l.length ∧ i = .int .i64 m ∧ Hid (∃ K1 K2 v1 v2, Col w wr w.heap.size K1 K2 (rowSp (l.take m)) (colSp (l.take m)) v1 v2 ∧ KeysOk K1 (rowSp (l.take m)) ∧ KeysOk K2 (colSp (l.take m)) ∧ K1.length ≤ m ∧ K2.length ≤ m)) (fun i _ => l.length - (intOf i).toNat)
  case atStart => exact ⟨0, Nat.zero_le _, rfl, hide ⟨[], [], _, _, HC0.out, fun k => by simp [rowSp], fun k => by simp [colSp], Nat.zero_le _, Nat.zero_le _⟩⟩
  case round =>
    obtain ⟨m, hm, rfl, HCC⟩ := hrel
    by_cases hlt : m < l.length
    · obtain ⟨s, hs⟩ : ∃ p, l[m]? = some p := ⟨_, List.getElem?_eq_getElem hlt⟩
      obtain ⟨K1, K2, v1, v2, hcol, hk1, hk2, hn1, hn2⟩ := HCC.out
      obtain ⟨b, o, rfl, hbl, k⟩ := HRC.out (by intro e; rw [e] at hlt; simp at hlt)
      have hb := hcol.low
      have d0 : wr.cell? ⟨b, o + m * 4, none⟩ = some (.int .i64 s.ax) := (hb.cell (p := ⟨b, _, none⟩) hbl).trans (k m _ hs 0 _ rfl)
      have d1 : wr.cell? ⟨b, o + m * 4 + 1, none⟩ = some (.int .i64 s.ay) := (hb.cell (p := ⟨b, _, none⟩) hbl).trans (k m _ hs 1 _ rfl)
      have d2 : wr.cell? ⟨b, o + m * 4 + 2, none⟩ = some (.int .i64 s.cx) := (hb.cell (p := ⟨b, _, none⟩) hbl).trans (k m _ hs 2 _ rfl)
      have d3 : wr.cell? ⟨b, o + m * 4 + 3, none⟩ = some (.int .i64 s.cy) := (hb.cell (p := ⟨b, _, none⟩) hbl).trans (k m _ hs 3 _ rfl)
      have hsv := HV.out s (List.mem_of_getElem? hs)
      have hky : okK s.ay := by obtain ⟨⟨_, ⟨_, _⟩, _⟩, _⟩ := hsv; unfold okK; omega
      have hkx : okK s.ax := by obtain ⟨⟨⟨_, _⟩, _⟩, _⟩ := hsv; unfold okK; omega
      have HSR := hide (rowSp_take hs)
      have HSC := hide (colSp_take hs)
      have hlr := fun y => rowSp_len (l.take m) y
      have hlc := fun y => colSp_len (l.take m) y
      have Hp1l : Hid (∀ y, (rowSp (l.take m) y).length ≤ 800) := hide (fun y => by have := hlr y; rw [List.length_take] at this; omega)
      have Hp2l : Hid (∀ y, (colSp (l.take m) y).length ≤ 800) := hide (fun y => by have := hlc y; rw [List.length_take] at this; omega)
      have Hp10 : Hid (∀ k, k ∉ K1 → rowSp (l.take m) k = []) := hide (fun k hk => Classical.byContradiction fun h => hk ((hk1 k).2 h))
      have Hp20 : Hid (∀ k, k ∉ K2 → colSp (l.take m) k = []) := hide (fun k hk => Classical.byContradiction fun h => hk ((hk2 k).2 h))
      have HK1 := hide hk1
      have HK2 := hide hk2
      have HCOL := hide hcol
      have mz : (m : Int) < (l.length : Int) := by omega
      clear k hs hb hsv hlr hlc hk1 hk2 hcol HCC
      generalize rowSp (l.take m) = p1 at *
      generalize colSp (l.take m) = p2 at *
      go_upto_region 5 with fail
      refine wp_name fun w5 hw5 => ?_
      obtain ⟨g5, hg5⟩ : ∃ g, g = wr.heap.size := ⟨_, rfl⟩
      have hb5 : Below wr.heap.size wr w5 := by
        rw [hw5]
        repeat (first | with_reducible exact Below.refl _ _ | with_reducible refine Below.setCell ?_ (by first | (simp; done) | (simp; omega)) _ | with_reducible refine Below.alloc ?_ (by first | omega | (simp; omega) | simp) _)
      have s0 : w5.cell? ⟨g5, 0, none⟩ = some (.int .i64 s.ax) := by rw [hw5, hg5]; simp [go_sem]
      have s1 : w5.cell? ⟨g5, 1, none⟩ = some (.int .i64 s.ay) := by rw [hw5, hg5]; simp [go_sem]
      have s2 : w5.cell? ⟨g5, 2, none⟩ = some (.int .i64 s.cx) := by rw [hw5, hg5]; simp [go_sem]
      have s3 : w5.cell? ⟨g5, 3, none⟩ = some (.int .i64 s.cy) := by rw [hw5, hg5]; simp [go_sem]
      have hlt5 : g5 < w5.heap.size := by rw [hw5, hg5]; simp
      have HC5 := hide (HCOL.out.below hb5)
      have hgR : w.heap.size + 4 ≤ g5 := by rw [hg5]; exact HCOL.out.sz
      have HB5 := hide hb5
      rw [← hg5]
      have HG5 := hide hg5
      clear hw5 hb5 hg5 d0 d1 d2 d3
      by_cases hrow : s.ay = s.cy
      · have hcc : (s.ay == s.cy) = true := by simpa using hrow
        have HROW := hide hrow
        clear hrow
        go_upto_region 6 with fail
        have HKK : Hid (okK s.ay) := hide hky
        have HOWN := hide (HC5.out.m1.own Hp10.out s.ay)
        have HGE := hide (HCOL.out.m1.row_ge s.ay)
        have HNM : Hid (some (w.heap.size + 1) ≠ (gvI K1 v1 s.ay).ownBlock) := hide HC5.out.m1.map_ge
        have HSL := hide HC5.out.m1.mv.sl
        obtain ⟨Ag, cg, hgv⟩ := own_form HOWN.out
        have hpl : (p1 s.ay).length ≤ 800 := Hp1l.out s.ay
        obtain ⟨ps, hps⟩ : ∃ ps, p1 s.ay = ps := ⟨_, rfl⟩
        rw [hps] at hgv
        have HGV := hide hgv
        rw [hps] at HOWN hpl
        rw [hgv] at HOWN HGE HNM
        have HPS := hide hps
        have HS : Hid (∀ w' : World, Below w5.heap.size w5 w' → (w'.cell? ⟨w.heap.size + 1 + 1 + 1, 0, none⟩ = some (.map (some (w.heap.size + 1))) ∧ w'.cell? ⟨w.heap.size + 1 + 1 + 1, 1, none⟩ = some (.map (some (w.heap.size + 1 + 1)))) ∧ (w'.cell? ⟨g5, 0, none⟩ = some (.int .i64 s.ax) ∧ w'.cell? ⟨g5, 1, none⟩ = some (.int .i64 s.ay) ∧ w'.cell? ⟨g5, 2, none⟩ = some (.int .i64 s.cx) ∧ w'.cell? ⟨g5, 3, none⟩ = some (.int .i64 s.cy)) ∧ MsL (w.heap.size + 1) K1 v1 w') := hide (fun w' h => ⟨⟨(HC5.out.below h).c0, (HC5.out.below h).c1⟩, ⟨(h.cell (p := ⟨g5, 0, none⟩) hlt5).trans s0, (h.cell (p := ⟨g5, 1, none⟩) hlt5).trans s1, (h.cell (p := ⟨g5, 2, none⟩) hlt5).trans s2, (h.cell (p := ⟨g5, 3, none⟩) hlt5).trans s3⟩, (HC5.out.below h).m1.map⟩)
        clear hgv hps
        refine wp_region_mix [0, 1, 2, 3, 4, 5, 6, 7, 8, 9, 10, 11, 12, 13, 14, 15, 16, 17, 18, 19, 20, 21, 22, 23, 24, 25] [26, 27, 28] (fun w' => (w'.cell? ⟨w.heap.size + 1 + 1 + 1, 0, none⟩ = some (.map (some (w.heap.size + 1))) ∧ w'.cell? ⟨w.heap.size + 1 + 1 + 1, 1, none⟩ = some (.map (some (w.heap.size + 1 + 1)))) ∧ (w'.cell? ⟨g5, 0, none⟩ = some (.int .i64 s.ax) ∧ w'.cell? ⟨g5, 1, none⟩ = some (.int .i64 s.ay) ∧ w'.cell? ⟨g5, 2, none⟩ = some (.int .i64 s.cx) ∧ w'.cell? ⟨g5, 3, none⟩ = some (.int .i64 s.cy)) ∧ MsL (w.heap.size + 1) K1 v1 w') (by kernel_rfl) (by kernel_rfl) (HS.out _ (Below.refl _ _).drew) ?_
        simp only [List.map_cons, List.map_nil, opAt, List.getElem?_cons_succ, List.getElem?_cons_zero, Option.getD_some]
        clear s0 s1 s2 s3
        iterate 26
          refine ⟨?_, Or.inl ⟨by rfl, ?_⟩, ?_⟩
          rotate_left 1
          · intro w' hSw
            obtain ⟨⟨z0, z1⟩, ⟨z2, z3, z4, z5⟩, z6⟩ := hSw
            have z7 := MsL.look z6 HSL.out HKK.out
            rw [HGV.out] at z7
            clear z6
            go_simp
            first | done | with_reducible rfl
          simp only [Act.put, List.setIfInBounds_toArray, List.set_cons_zero, List.set_cons_succ]
        simp only [wpReads]
        intro K hK
        simp only [Act.put, List.setIfInBounds_toArray, List.set_cons_zero, List.set_cons_succ] at hK ⊢
        go_simp
        refine hK _ _ (fun _ => HS.out _ ((Below.refl _ _).alloc (Nat.le_refl _) _).drew) ?_
        clear hK K
        intro K hK
        refine step_append_lies _ rfl (.tmp 36) (.tmp 52) 182 rfl (w.heap.size + 4) 188 i1 (.agg #[.int .i64 0, .int .i64 0]) 2 16 Tryz.underlying182 gi gz0 gz1 gz2 rfl (by decide) _ ps.length _ rfl (own_drew (World.ownsRow.alloc (w := w5) HOWN.out _)) ⟨w5.heap.size, 0, none⟩ 1 1 [.int .i64 (min s.ax s.cx), .int .i64 (max s.ax s.cx)] rfl rfl (news_drew w5 _ _ _ rfl) (ints_one rfl) (by omega) (by unfold maxLen; omega) (by omega) (by simp; omega) _ rfl ?_
        intro g9 cap9 w9 hown9 hgrow9 hor9 hlt9
        have hS5 := HS.out _ (((Below.refl w5.heap.size w5).alloc (Nat.le_refl _) (.cells #[.int .i64 (min s.ax s.cx), .int .i64 (max s.ax s.cx)] 188)).drew)
        have hcg : ∀ b o, b < w5.heap.size → (b < w.heap.size + 4 ∨ b = g5) → w9.cell? ⟨b, o, none⟩ = ((w5.alloc (.cells #[.int .i64 (min s.ax s.cx), .int .i64 (max s.ax s.cx)] 188)).drew).cell? ⟨b, o, none⟩ := fun b o hb hne => cell_grow hgrow9 (by show b < (w5.alloc _).heap.size; simp; omega) (fun e => by have := HGE.out _ e.symm; have := HG5.out; omega)
        have hS9 : (w9.cell? ⟨w.heap.size + 1 + 1 + 1, 0, none⟩ = some (.map (some (w.heap.size + 1))) ∧ w9.cell? ⟨w.heap.size + 1 + 1 + 1, 1, none⟩ = some (.map (some (w.heap.size + 1 + 1)))) ∧ (w9.cell? ⟨g5, 0, none⟩ = some (.int .i64 s.ax) ∧ w9.cell? ⟨g5, 1, none⟩ = some (.int .i64 s.ay) ∧ w9.cell? ⟨g5, 2, none⟩ = some (.int .i64 s.cx) ∧ w9.cell? ⟨g5, 3, none⟩ = some (.int .i64 s.cy)) ∧ MsL (w.heap.size + 1) K1 v1 w9 := ⟨⟨(hcg _ _ (by omega) (by omega)).trans hS5.1.1, (hcg _ _ (by omega) (by omega)).trans hS5.1.2⟩, ⟨(hcg _ _ hlt5 (.inr rfl)).trans hS5.2.1.1, (hcg _ _ hlt5 (.inr rfl)).trans hS5.2.1.2.1, (hcg _ _ hlt5 (.inr rfl)).trans hS5.2.1.2.2.1, (hcg _ _ hlt5 (.inr rfl)).trans hS5.2.1.2.2.2⟩, hS5.2.2.grown hgrow9 HNM.out⟩
        have HS9 := hide hS9
        refine hK _ _ (fun _ => HS9.out) ?_
        clear hK K hS5 hcg hS9
        have hx9 : ps.flatMap encS ++ [.int .i64 (min s.ax s.cx), .int .i64 (max s.ax s.cx)] = (p1 s.ay ++ [spR s]).flatMap encS := by rw [HPS.out]; simp [encS, spR]
        rw [hx9] at hown9
        have hlen9 : ps.length + 1 = (p1 s.ay ++ [spR s]).length := by rw [HPS.out]; simp
        rw [← HGV.out] at hgrow9 hor9
        obtain ⟨wz, hrun, v9, hcol9⟩ := HCOL.out.push1 (HB5.out.trans ((((Below.refl w5.heap.size w5).alloc (Nat.le_refl _) (.cells #[.int .i64 (min s.ax s.cx), .int .i64 (max s.ax s.cx)] 188)).drew).mono HB5.out.size)) HKK.out (by unfold maxLen; omega) hgrow9 (s := spR s) hlen9 hown9 (by rcases hor9 with h | h; exact .inl h; exact .inr (by rw [← h]; exact Nat.le_refl _))
        have HCOL9 := hide hcol9
        clear hcol9 hown9 hgrow9 hor9 hx9 hlen9
        intro K hK
        simp only [Act.put, List.setIfInBounds_toArray, List.set_cons_zero, List.set_cons_succ] at hK ⊢
        obtain ⟨⟨z0, z1⟩, ⟨z2, z3, z4, z5⟩, -⟩ := HS9.out
        go_simp
        refine hK _ _ (fun h => absurd rfl h) ?_
        clear hK K hrun z0 z1 z2 z3 z4 z5
        refine NoPanic.normal ?_
        go_wp2
        go_roundw
        case rel =>
          have e1 : rowSp (l.take (m + 1)) = fun k' => if k' = s.ay then p1 s.ay ++ [spR s] else p1 k' := funext fun y => by
            rw [HSR.out y]
            by_cases e : y = s.ay
            · subst e
              rw [if_pos ⟨HROW.out, rfl⟩, if_pos rfl]
            · rw [if_neg (fun h => e h.2.symm), if_neg e]
          have e2 : colSp (l.take (m + 1)) = p2 := funext fun y => by
            rw [HSC.out y, if_neg (fun h => h.1 HROW.out)]
          have h1 := addI_len K1 s.ay
          refine ⟨m + 1, by omega, by go_num, ?_⟩
          rw [e1, e2]
          exact hide ⟨addI K1 s.ay, K2, v9, v2, HCOL9.out, keys_push HK1.out _ _, HK2.out, by omega, by omega⟩
        case measure => simp [intOf]; omega
      · have hcc : (s.ay == s.cy) = false := by simpa using hrow
        have HROW := hide hrow
        clear hrow
        go_upto_region 7 with fail
        have HKK : Hid (okK s.ax) := hide hkx
        have HOWN := hide (HC5.out.m2.own Hp20.out s.ax)
        have HGE := hide (HCOL.out.m2.row_ge s.ax)
        have HNM : Hid (some (w.heap.size + 1 + 1) ≠ (gvI K2 v2 s.ax).ownBlock) := hide HC5.out.m2.map_ge
        have HSL := hide HC5.out.m2.mv.sl
        obtain ⟨Ag, cg, hgv⟩ := own_form HOWN.out
        have hpl : (p2 s.ax).length ≤ 800 := Hp2l.out s.ax
        obtain ⟨ps, hps⟩ : ∃ ps, p2 s.ax = ps := ⟨_, rfl⟩
        rw [hps] at hgv
        have HGV := hide hgv
        rw [hps] at HOWN hpl
        rw [hgv] at HOWN HGE HNM
        have HPS := hide hps
        have HS : Hid (∀ w' : World, Below w5.heap.size w5 w' → (w'.cell? ⟨w.heap.size + 1 + 1 + 1, 0, none⟩ = some (.map (some (w.heap.size + 1))) ∧ w'.cell? ⟨w.heap.size + 1 + 1 + 1, 1, none⟩ = some (.map (some (w.heap.size + 1 + 1)))) ∧ (w'.cell? ⟨g5, 0, none⟩ = some (.int .i64 s.ax) ∧ w'.cell? ⟨g5, 1, none⟩ = some (.int .i64 s.ay) ∧ w'.cell? ⟨g5, 2, none⟩ = some (.int .i64 s.cx) ∧ w'.cell? ⟨g5, 3, none⟩ = some (.int .i64 s.cy)) ∧ MsL (w.heap.size + 1 + 1) K2 v2 w') := hide (fun w' h => ⟨⟨(HC5.out.below h).c0, (HC5.out.below h).c1⟩, ⟨(h.cell (p := ⟨g5, 0, none⟩) hlt5).trans s0, (h.cell (p := ⟨g5, 1, none⟩) hlt5).trans s1, (h.cell (p := ⟨g5, 2, none⟩) hlt5).trans s2, (h.cell (p := ⟨g5, 3, none⟩) hlt5).trans s3⟩, (HC5.out.below h).m2.map⟩)
        clear hgv hps
        refine wp_region_mix [0, 1, 2, 3, 4, 5, 6, 7, 8, 9, 10, 11, 12, 13, 14, 15, 16, 17, 18, 19, 20, 21, 22, 23, 24, 25] [26, 27, 28] (fun w' => (w'.cell? ⟨w.heap.size + 1 + 1 + 1, 0, none⟩ = some (.map (some (w.heap.size + 1))) ∧ w'.cell? ⟨w.heap.size + 1 + 1 + 1, 1, none⟩ = some (.map (some (w.heap.size + 1 + 1)))) ∧ (w'.cell? ⟨g5, 0, none⟩ = some (.int .i64 s.ax) ∧ w'.cell? ⟨g5, 1, none⟩ = some (.int .i64 s.ay) ∧ w'.cell? ⟨g5, 2, none⟩ = some (.int .i64 s.cx) ∧ w'.cell? ⟨g5, 3, none⟩ = some (.int .i64 s.cy)) ∧ MsL (w.heap.size + 1 + 1) K2 v2 w') (by kernel_rfl) (by kernel_rfl) (HS.out _ (Below.refl _ _).drew) ?_
        simp only [List.map_cons, List.map_nil, opAt, List.getElem?_cons_succ, List.getElem?_cons_zero, Option.getD_some]
        clear s0 s1 s2 s3
        iterate 26
          refine ⟨?_, Or.inl ⟨by rfl, ?_⟩, ?_⟩
          rotate_left 1
          · intro w' hSw
            obtain ⟨⟨z0, z1⟩, ⟨z2, z3, z4, z5⟩, z6⟩ := hSw
            have z7 := MsL.look z6 HSL.out HKK.out
            rw [HGV.out] at z7
            clear z6
            go_simp
            first | done | with_reducible rfl
          simp only [Act.put, List.setIfInBounds_toArray, List.set_cons_zero, List.set_cons_succ]
        simp only [wpReads]
        intro K hK
        simp only [Act.put, List.setIfInBounds_toArray, List.set_cons_zero, List.set_cons_succ] at hK ⊢
        go_simp
        refine hK _ _ (fun _ => HS.out _ ((Below.refl _ _).alloc (Nat.le_refl _) _).drew) ?_
        clear hK K
        intro K hK
        refine step_append_lies _ rfl (.tmp 64) (.tmp 80) 182 rfl (w.heap.size + 4) 188 i1 (.agg #[.int .i64 0, .int .i64 0]) 2 16 Tryz.underlying182 gi gz0 gz1 gz2 rfl (by decide) _ ps.length _ rfl (own_drew (World.ownsRow.alloc (w := w5) HOWN.out _)) ⟨w5.heap.size, 0, none⟩ 1 1 [.int .i64 (min s.ay s.cy), .int .i64 (max s.ay s.cy)] rfl rfl (news_drew w5 _ _ _ rfl) (ints_one rfl) (by omega) (by unfold maxLen; omega) (by omega) (by simp; omega) _ rfl ?_
        intro g9 cap9 w9 hown9 hgrow9 hor9 hlt9
        have hS5 := HS.out _ (((Below.refl w5.heap.size w5).alloc (Nat.le_refl _) (.cells #[.int .i64 (min s.ay s.cy), .int .i64 (max s.ay s.cy)] 188)).drew)
        have hcg : ∀ b o, b < w5.heap.size → (b < w.heap.size + 4 ∨ b = g5) → w9.cell? ⟨b, o, none⟩ = ((w5.alloc (.cells #[.int .i64 (min s.ay s.cy), .int .i64 (max s.ay s.cy)] 188)).drew).cell? ⟨b, o, none⟩ := fun b o hb hne => cell_grow hgrow9 (by show b < (w5.alloc _).heap.size; simp; omega) (fun e => by have := HGE.out _ e.symm; have := HG5.out; omega)
        have hS9 : (w9.cell? ⟨w.heap.size + 1 + 1 + 1, 0, none⟩ = some (.map (some (w.heap.size + 1))) ∧ w9.cell? ⟨w.heap.size + 1 + 1 + 1, 1, none⟩ = some (.map (some (w.heap.size + 1 + 1)))) ∧ (w9.cell? ⟨g5, 0, none⟩ = some (.int .i64 s.ax) ∧ w9.cell? ⟨g5, 1, none⟩ = some (.int .i64 s.ay) ∧ w9.cell? ⟨g5, 2, none⟩ = some (.int .i64 s.cx) ∧ w9.cell? ⟨g5, 3, none⟩ = some (.int .i64 s.cy)) ∧ MsL (w.heap.size + 1 + 1) K2 v2 w9 := ⟨⟨(hcg _ _ (by omega) (by omega)).trans hS5.1.1, (hcg _ _ (by omega) (by omega)).trans hS5.1.2⟩, ⟨(hcg _ _ hlt5 (.inr rfl)).trans hS5.2.1.1, (hcg _ _ hlt5 (.inr rfl)).trans hS5.2.1.2.1, (hcg _ _ hlt5 (.inr rfl)).trans hS5.2.1.2.2.1, (hcg _ _ hlt5 (.inr rfl)).trans hS5.2.1.2.2.2⟩, hS5.2.2.grown hgrow9 HNM.out⟩
        have HS9 := hide hS9
        refine hK _ _ (fun _ => HS9.out) ?_
        clear hK K hS5 hcg hS9
        have hx9 : ps.flatMap encS ++ [.int .i64 (min s.ay s.cy), .int .i64 (max s.ay s.cy)] = (p2 s.ax ++ [spC s]).flatMap encS := by rw [HPS.out]; simp [encS, spC]
        rw [hx9] at hown9
        have hlen9 : ps.length + 1 = (p2 s.ax ++ [spC s]).length := by rw [HPS.out]; simp
        rw [← HGV.out] at hgrow9 hor9
        obtain ⟨wz, hrun, v9, hcol9⟩ := HCOL.out.push2 (HB5.out.trans ((((Below.refl w5.heap.size w5).alloc (Nat.le_refl _) (.cells #[.int .i64 (min s.ay s.cy), .int .i64 (max s.ay s.cy)] 188)).drew).mono HB5.out.size)) HKK.out (by unfold maxLen; omega) hgrow9 (s := spC s) hlen9 hown9 (by rcases hor9 with h | h; exact .inl h; exact .inr (by rw [← h]; exact Nat.le_refl _))
        have HCOL9 := hide hcol9
        clear hcol9 hown9 hgrow9 hor9 hx9 hlen9
        intro K hK
        simp only [Act.put, List.setIfInBounds_toArray, List.set_cons_zero, List.set_cons_succ] at hK ⊢
        obtain ⟨⟨z0, z1⟩, ⟨z2, z3, z4, z5⟩, -⟩ := HS9.out
        go_simp
        refine hK _ _ (fun h => absurd rfl h) ?_
        clear hK K hrun z0 z1 z2 z3 z4 z5
        refine NoPanic.normal ?_
        go_wp2
        go_roundw
        case rel =>
          have e1 : colSp (l.take (m + 1)) = fun k' => if k' = s.ax then p2 s.ax ++ [spC s] else p2 k' := funext fun y => by
            rw [HSC.out y]
            by_cases e : y = s.ax
            · subst e
              rw [if_pos ⟨HROW.out, rfl⟩, if_pos rfl]
            · rw [if_neg (fun h => e h.2.symm), if_neg e]
          have e2 : rowSp (l.take (m + 1)) = p1 := funext fun y => by
            rw [HSR.out y, if_neg (fun h => HROW.out h.1)]
          have h1 := addI_len K2 s.ax
          refine ⟨m + 1, by omega, by go_num, ?_⟩
          rw [e1, e2]
          exact hide ⟨K1, addI K2 s.ax, v1, v9, HCOL9.out, HK1.out, keys_push HK2.out _ _, by omega, by omega⟩
        case measure => simp [intOf]; omega
    · obtain rfl : m = l.length := by omega
      rw [List.take_length] at HCC
      obtain ⟨K1, K2, v10, v20, hcol, hk1, hk2, hn1, hn2⟩ := HCC.out
      have HK1 := hide hk1
      have HK2 := hide hk2
      have HCOL := hide hcol
      obtain ⟨gS, hgS⟩ : ∃ g, wr.heap.size = g := ⟨_, rfl⟩
      clear hk1 hk2 hcol HCC
      have z0 := HCOL.out.c0
      have z1 := HCOL.out.c1
      go_wp2
      clear z0 z1
      have HC3 := hide (HCOL.out.below ((Below.refl _ _).alloc (Nat.le_refl _) (.cells #[.map (some (w.heap.size + 1)), .map (some (w.heap.size + 1 + 1))] 161)))
      go_loopw [89] (fun q wr2 => ∃ m : Nat, m ≤ 2 ∧ q = .int .i64 m ∧ Hid (∃ p1 p2 v1 v2, Col w wr2 w.heap.size K1 K2 p1 p2 v1 v2 ∧ (∀ k ∈ K1, p1 k = if 1 ≤ m then rowD l k else rowSp l k) ∧ (∀ k ∈ K2, p2 k = if 2 ≤ m then colD l k else colSp l k)) ∧ Hid (wr2.cell? ⟨gS, 0, none⟩ = some (.map (some (w.heap.size + 1))) ∧ wr2.cell? ⟨gS, 1, none⟩ = some (.map (some (w.heap.size + 1 + 1))) ∧ gS < wr2.heap.size ∧ w.heap.size + 4 ≤ gS)) (fun q _ => 2 - (intOf q).toNat)
      case atStart =>
        exact ⟨0, by omega, rfl, hide ⟨_, _, _, _, HC3.out, fun k _ => rfl, fun k _ => rfl⟩, hide ⟨by rw [← hgS]; simp [go_sem], by rw [← hgS]; simp [go_sem], by rw [← hgS]; simp, by rw [← hgS]; exact HCOL.out.sz⟩⟩
      case round =>
        clear HC3 HCOL
        obtain ⟨m, hm, rfl, HCC, HGS⟩ := hrel
        obtain ⟨p1, p2, v1, v2, hc2, hp1, hp2⟩ := HCC.out
        have HC2 := hide hc2
        obtain ⟨s0, s1, -, -⟩ := HGS.out
        have hms : m = 0 ∨ m = 1 ∨ m = 2 := by omega
        clear HCC hc2
        rcases hms with rfl | rfl | rfl
        · skip
          have HP1 : Hid (∀ k ∈ K1, p1 k = rowSp l k) := hide (fun k hk => by rw [hp1 k hk, if_neg (by omega)])
          have HP2 : Hid (∀ k ∈ K2, p2 k = colSp l k) := hide (fun k hk => by rw [hp2 k hk, if_neg (by omega)])
          clear hp1 hp2 hm
          rw [show ((0 : Nat) : Int) = 0 from rfl]
          go_upto_region 12 with fail
          clear s0 s1
          go_wp2_with (at_range; refine wpList_range_ms rfl _ rfl rfl HC2.out.m1 ?_; intro w4 left hmr hleft hgr hs4)
          go_frame
          have HC4 := hide (HC2.out.grown hgr (fun q hq => by cases hq) (fun k hk => own_none_or) (fun k hk => own_none_or))
          have HG4 : Hid (w4.cell? ⟨gS, 0, none⟩ = some (.map (some (w.heap.size + 1))) ∧ w4.cell? ⟨gS, 1, none⟩ = some (.map (some (w.heap.size + 1 + 1))) ∧ gS < w4.heap.size) := hide ⟨(cell_grow hgr HGS.out.2.2.1 (by simp)).trans HGS.out.1, (cell_grow hgr HGS.out.2.2.1 (by simp)).trans HGS.out.2.1, Nat.lt_of_lt_of_le HGS.out.2.2.1 hgr.size⟩
          obtain ⟨r, hrE⟩ : ∃ r, wr.heap.size = r := ⟨_, rfl⟩
          rw [hrE] at hmr ⊢
          have hr4 : w.heap.size + 4 ≤ r := by rw [← hrE]; exact HC2.out.sz
          have hrg : gS < r := by rw [← hrE]; exact HGS.out.2.2.1
          have hgS4 : w.heap.size + 4 ≤ gS := HGS.out.2.2.2
          have HMR := hide hmr
          have HLF := hide hleft
          clear hmr hleft hgr hs4 hrE HGS HC2
          go_loopw [8] (fun _ wr3 => ∃ left cnt, Hid (∃ p v, Mr (w.heap.size + 4) (w.heap.size + 1) r K1 p v left cnt wr3 ∧ (∀ k ∈ K1, p k = if left (.int .i64 k) = true then rowSp l k else rowD l k) ∧ Col w wr3 w.heap.size K1 K2 p p2 v v2 ∧ (wr3.cell? ⟨gS, 0, none⟩ = some (.map (some (w.heap.size + 1))) ∧ wr3.cell? ⟨gS, 1, none⟩ = some (.map (some (w.heap.size + 1 + 1))) ∧ gS < wr3.heap.size))) (fun _ wr3 => wr3.rangeLeft (w.heap.size + 1) r)
          case atStart => exact ⟨left, _, hide ⟨_, _, HMR.out, fun k hk => by rw [HLF.out k hk, if_pos rfl]; exact HP1.out k hk, HC4.out, HG4.out⟩⟩
          case round =>
            clear HMR HLF HC4 HG4
            obtain ⟨left, cnt, HH⟩ := hrel
            obtain ⟨p, v, hmr, hpp, hco, hgs⟩ := HH.out
            have HMR := hide hmr
            have HPP := hide hpp
            have HCO := hide hco
            have HGT := hide hgs
            have HLE : Hid (wr.rangeLeft (w.heap.size + 1) r = cnt) := hide (by obtain ⟨D, d, _⟩ := hmr.map; exact d.left_eq)
            clear hmr hpp hco hgs HH
            go_wp2_with (at_next; refine wpList_next_ms rfl _ rfl rfl HMR.out ?_ ?_)
            · intro _ hl0
              have HPX : Hid (∀ k ∈ K1, p k = rowD l k) := hide (fun k hk => by rw [HPP.out k hk, hl0, if_neg (by simp)])
              clear HPP hl0
              go_wp2
              go_roundw
              case rel => exact ⟨1, by omega, by first | rfl | go_num, hide ⟨p, p2, v, v2, HCO.out, fun k hk => by rw [HPX.out k hk, if_pos (by omega)], fun k hk => by rw [HP2.out k hk, if_neg (by omega)]⟩, hide ⟨HGT.out.1, HGT.out.2.1, HGT.out.2.2, hgS4⟩⟩
              case measure => simp [intOf]
            · intro x w5 cnt5 hx hlx hmr5 hlt5 hg5 hs5 hen
              have HC5 := hide (HCO.out.step1 HMR.out hr4 hg5)
              have HG5 : Hid (w5.cell? ⟨gS, 0, none⟩ = some (.map (some (w.heap.size + 1))) ∧ w5.cell? ⟨gS, 1, none⟩ = some (.map (some (w.heap.size + 1 + 1))) ∧ gS < w5.heap.size) := hide ⟨(cell_grow hg5 HGT.out.2.2 (fun e => by injection e with e; omega)).trans HGT.out.1, (cell_grow hg5 HGT.out.2.2 (fun e => by injection e with e; omega)).trans HGT.out.2.1, Nat.lt_of_lt_of_le HGT.out.2.2 hg5.size⟩
              have hpx : p x = rowSp l x := by rw [HPP.out x hx, if_pos hlx]
              have hrd := own_rd (hmr5.mv.vs x hx) (fun _ => rfl)
              rw [hpx] at hrd
              have HMK := hide (spanMake_thin hrd (rowSp_ok HV.out x))
              have HMR5 := hide hmr5
              have HX : Hid (x ∈ K1) := hide hx
              clear hmr5 hrd hpx HCO HMR HGT hg5 hx hlx hs5
              generalize v x = vx at *
              go_wp2_with (fail)
              refine HMK.out.mono ?_
              rintro e w6 ⟨A6, c6, er6, rfl, ho6, hb6⟩
              obtain ⟨w7, hrun, hg7, hm7, hc7⟩ := HC5.out.upd1 HMR5.out HX.out (by unfold maxLen; omega) hb6 ho6
              have HM7 := hide hm7
              have HC7 := hide hc7
              have HG7 : Hid (w7.cell? ⟨gS, 0, none⟩ = some (.map (some (w.heap.size + 1))) ∧ w7.cell? ⟨gS, 1, none⟩ = some (.map (some (w.heap.size + 1 + 1))) ∧ gS < w7.heap.size) := hide ⟨(cell_grow hg7 (Nat.lt_of_lt_of_le HG5.out.2.2 hb6.size) (fun e => by injection e with e; omega)).trans ((hb6.cell (p := ⟨gS, 0, none⟩) HG5.out.2.2).trans HG5.out.1), (cell_grow hg7 (Nat.lt_of_lt_of_le HG5.out.2.2 hb6.size) (fun e => by injection e with e; omega)).trans ((hb6.cell (p := ⟨gS, 1, none⟩) HG5.out.2.2).trans HG5.out.2.1), Nat.lt_of_lt_of_le (Nat.lt_of_lt_of_le HG5.out.2.2 hb6.size) hg7.size⟩
              clear hm7 hc7 hg7 ho6 hb6 HMR5 HMK hen
              have HL7 : Hid (w7.rangeLeft (w.heap.size + 1) r = cnt5) := hide (by obtain ⟨D, d, _⟩ := HM7.out.map; exact d.left_eq)
              go_wp2_with (fail)
              clear hrun
              go_roundw
              case rel =>
                refine ⟨_, cnt5, hide ⟨_, _, HM7.out, fun k hk => ?_, HC7.out, HG7.out⟩⟩
                by_cases e : k = x
                · subst e
                  rw [if_pos rfl, if_neg (by simp [Lit.sameKey])]
                  rfl
                · rw [if_neg e, HPP.out k hk]
                  have e2 : (left (.int .i64 k) && !(Lit.int .i64 k).sameKey (.int .i64 x)) = left (.int .i64 k) := by
                    rw [show (Lit.int .i64 k).sameKey (.int .i64 x) = false by simp [Lit.sameKey, e]]
                    simp
                  rw [e2]
              case measure => rw [HL7.out, HLE.out]; exact hlt5
        · skip
          have HP1 : Hid (∀ k ∈ K1, p1 k = rowD l k) := hide (fun k hk => by rw [hp1 k hk, if_pos (by omega)])
          have HP2 : Hid (∀ k ∈ K2, p2 k = colSp l k) := hide (fun k hk => by rw [hp2 k hk, if_neg (by omega)])
          clear hp1 hp2 hm
          rw [show ((1 : Nat) : Int) = 1 from rfl]
          go_upto_region 12 with fail
          clear s0 s1
          go_wp2_with (at_range; refine wpList_range_ms rfl _ rfl rfl HC2.out.m2 ?_; intro w4 left hmr hleft hgr hs4)
          go_frame
          have HC4 := hide (HC2.out.grown hgr (fun q hq => by cases hq) (fun k hk => own_none_or) (fun k hk => own_none_or))
          have HG4 : Hid (w4.cell? ⟨gS, 0, none⟩ = some (.map (some (w.heap.size + 1))) ∧ w4.cell? ⟨gS, 1, none⟩ = some (.map (some (w.heap.size + 1 + 1))) ∧ gS < w4.heap.size) := hide ⟨(cell_grow hgr HGS.out.2.2.1 (by simp)).trans HGS.out.1, (cell_grow hgr HGS.out.2.2.1 (by simp)).trans HGS.out.2.1, Nat.lt_of_lt_of_le HGS.out.2.2.1 hgr.size⟩
          obtain ⟨r, hrE⟩ : ∃ r, wr.heap.size = r := ⟨_, rfl⟩
          rw [hrE] at hmr ⊢
          have hr4 : w.heap.size + 4 ≤ r := by rw [← hrE]; exact HC2.out.sz
          have hrg : gS < r := by rw [← hrE]; exact HGS.out.2.2.1
          have hgS4 : w.heap.size + 4 ≤ gS := HGS.out.2.2.2
          have HMR := hide hmr
          have HLF := hide hleft
          clear hmr hleft hgr hs4 hrE HGS HC2
          go_loopw [8] (fun _ wr3 => ∃ left cnt, Hid (∃ p v, Mr (w.heap.size + 4) (w.heap.size + 1 + 1) r K2 p v left cnt wr3 ∧ (∀ k ∈ K2, p k = if left (.int .i64 k) = true then colSp l k else colD l k) ∧ Col w wr3 w.heap.size K1 K2 p1 p v1 v ∧ (wr3.cell? ⟨gS, 0, none⟩ = some (.map (some (w.heap.size + 1))) ∧ wr3.cell? ⟨gS, 1, none⟩ = some (.map (some (w.heap.size + 1 + 1))) ∧ gS < wr3.heap.size))) (fun _ wr3 => wr3.rangeLeft (w.heap.size + 1 + 1) r)
          case atStart => exact ⟨left, _, hide ⟨_, _, HMR.out, fun k hk => by rw [HLF.out k hk, if_pos rfl]; exact HP2.out k hk, HC4.out, HG4.out⟩⟩
          case round =>
            clear HMR HLF HC4 HG4
            obtain ⟨left, cnt, HH⟩ := hrel
            obtain ⟨p, v, hmr, hpp, hco, hgs⟩ := HH.out
            have HMR := hide hmr
            have HPP := hide hpp
            have HCO := hide hco
            have HGT := hide hgs
            have HLE : Hid (wr.rangeLeft (w.heap.size + 1 + 1) r = cnt) := hide (by obtain ⟨D, d, _⟩ := hmr.map; exact d.left_eq)
            clear hmr hpp hco hgs HH
            go_wp2_with (at_next; refine wpList_next_ms rfl _ rfl rfl HMR.out ?_ ?_)
            · intro _ hl0
              have HPX : Hid (∀ k ∈ K2, p k = colD l k) := hide (fun k hk => by rw [HPP.out k hk, hl0, if_neg (by simp)])
              clear HPP hl0
              go_wp2
              go_roundw
              case rel => exact ⟨2, by omega, by first | rfl | go_num, hide ⟨p1, p, v1, v, HCO.out, fun k hk => by rw [HP1.out k hk, if_pos (by omega)], fun k hk => by rw [HPX.out k hk, if_pos (by omega)]⟩, hide ⟨HGT.out.1, HGT.out.2.1, HGT.out.2.2, hgS4⟩⟩
              case measure => simp [intOf]
            · intro x w5 cnt5 hx hlx hmr5 hlt5 hg5 hs5 hen
              have HC5 := hide (HCO.out.step2 HMR.out hr4 hg5)
              have HG5 : Hid (w5.cell? ⟨gS, 0, none⟩ = some (.map (some (w.heap.size + 1))) ∧ w5.cell? ⟨gS, 1, none⟩ = some (.map (some (w.heap.size + 1 + 1))) ∧ gS < w5.heap.size) := hide ⟨(cell_grow hg5 HGT.out.2.2 (fun e => by injection e with e; omega)).trans HGT.out.1, (cell_grow hg5 HGT.out.2.2 (fun e => by injection e with e; omega)).trans HGT.out.2.1, Nat.lt_of_lt_of_le HGT.out.2.2 hg5.size⟩
              have hpx : p x = colSp l x := by rw [HPP.out x hx, if_pos hlx]
              have hrd := own_rd (hmr5.mv.vs x hx) (fun _ => rfl)
              rw [hpx] at hrd
              have HMK := hide (spanMake_thin hrd (colSp_ok HV.out x))
              have HMR5 := hide hmr5
              have HX : Hid (x ∈ K2) := hide hx
              clear hmr5 hrd hpx HCO HMR HGT hg5 hx hlx hs5
              generalize v x = vx at *
              go_wp2_with (fail)
              refine HMK.out.mono ?_
              rintro e w6 ⟨A6, c6, er6, rfl, ho6, hb6⟩
              obtain ⟨w7, hrun, hg7, hm7, hc7⟩ := HC5.out.upd2 HMR5.out HX.out (by unfold maxLen; omega) hb6 ho6
              have HM7 := hide hm7
              have HC7 := hide hc7
              have HG7 : Hid (w7.cell? ⟨gS, 0, none⟩ = some (.map (some (w.heap.size + 1))) ∧ w7.cell? ⟨gS, 1, none⟩ = some (.map (some (w.heap.size + 1 + 1))) ∧ gS < w7.heap.size) := hide ⟨(cell_grow hg7 (Nat.lt_of_lt_of_le HG5.out.2.2 hb6.size) (fun e => by injection e with e; omega)).trans ((hb6.cell (p := ⟨gS, 0, none⟩) HG5.out.2.2).trans HG5.out.1), (cell_grow hg7 (Nat.lt_of_lt_of_le HG5.out.2.2 hb6.size) (fun e => by injection e with e; omega)).trans ((hb6.cell (p := ⟨gS, 1, none⟩) HG5.out.2.2).trans HG5.out.2.1), Nat.lt_of_lt_of_le (Nat.lt_of_lt_of_le HG5.out.2.2 hb6.size) hg7.size⟩
              clear hm7 hc7 hg7 ho6 hb6 HMR5 HMK hen
              have HL7 : Hid (w7.rangeLeft (w.heap.size + 1 + 1) r = cnt5) := hide (by obtain ⟨D, d, _⟩ := HM7.out.map; exact d.left_eq)
              go_wp2_with (fail)
              clear hrun
              go_roundw
              case rel =>
                refine ⟨_, cnt5, hide ⟨_, _, HM7.out, fun k hk => ?_, HC7.out, HG7.out⟩⟩
                by_cases e : k = x
                · subst e
                  rw [if_pos rfl, if_neg (by simp [Lit.sameKey])]
                  rfl
                · rw [if_neg e, HPP.out k hk]
                  have e2 : (left (.int .i64 k) && !(Lit.int .i64 k).sameKey (.int .i64 x)) = left (.int .i64 k) := by
                    rw [show (Lit.int .i64 k).sameKey (.int .i64 x) = false by simp [Lit.sameKey, e]]
                    simp
                  rw [e2]
              case measure => rw [HL7.out, HLE.out]; exact hlt5
        · have HP1 : Hid (∀ k ∈ K1, p1 k = rowD l k) := hide (fun k hk => by rw [hp1 k hk, if_pos (by omega)])
          have HP2 : Hid (∀ k ∈ K2, p2 k = colD l k) := hide (fun k hk => by rw [hp2 k hk, if_pos (by omega)])
          clear hp1 hp2 hm s0 s1 HGS
          rw [show ((2 : Nat) : Int) = 2 from rfl]
          have z0 := HC2.out.c0
          have z1 := HC2.out.c1
          have z2 : wr.cell? ⟨w.heap.size, 0, none⟩ = some (.map none) := by simp [World.cell?, HC2.out.rb]
          have z3 : wr.cell? ⟨w.heap.size, 1, none⟩ = some (.map none) := by simp [World.cell?, HC2.out.rb]
          have z4 : wr.frozen? ⟨w.heap.size, 0, none⟩ = false := by simp [World.frozen?, HC2.out.rb]
          have z5 : wr.frozen? ⟨w.heap.size, 1, none⟩ = false := by simp [World.frozen?, HC2.out.rb]
          go_wp2
          clear z0 z1
          have hs0 : w.heap.size < wr.heap.size := by have := HC2.out.sz; omega
          refine bodyPost_ret (v := .agg #[.map (some (w.heap.size + 1)), .map (some (w.heap.size + 1 + 1))]) (by simp [results, Tryz.results106, go_sem, z2, z3, hs0]) rfl ⟨_, rfl, ?_, ?_⟩
          · have hset : ∀ (o : Nat) (u : Value) (W : World), w.heap.size < W.heap.size → W.grownBy (W.setCell ⟨w.heap.size, o, none⟩ u) (some w.heap.size) := fun o u W _ => ⟨rfl, rfl, rfl, by simp, fun k _ hk => Below.heap_setCell _ _ _ _ (fun e => hk (by rw [e]))⟩
            have g1 := hset 0 (.map (some (w.heap.size + 1))) wr hs0
            have g2 := hset 1 (.map (some (w.heap.size + 1 + 1))) (wr.setCell ⟨w.heap.size, 0, none⟩ (.map (some (w.heap.size + 1)))) (by simpa using hs0)
            have a1 := HC2.out.m1.grown g1 (fun e => by injection e with e; omega) (fun k hk => .inr fun e => by have := (HC2.out.m1.mv.vs k hk).lt _ e; omega)
            have a2 := HC2.out.m2.grown g1 (fun e => by injection e with e; omega) (fun k hk => .inr fun e => by have := (HC2.out.m2.mv.vs k hk).lt _ e; omega)
            have b1 := a1.grown g2 (fun e => by injection e with e; omega) (fun k hk => .inr fun e => by have := (a1.mv.vs k hk).lt _ e; omega)
            have b2 := a2.grown g2 (fun e => by injection e with e; omega) (fun k hk => .inr fun e => by have := (a2.mv.vs k hk).lt _ e; omega)
            exact ⟨_, _, K1, K2, _, _, rfl, by rw [← rowD_thin]; exact (b1.same HP1.out).base (by omega), by rw [← colD_thin]; exact (b2.same HP2.out).base (by omega), keys_thin HK1.out, keys_thinC HK2.out, by omega, by omega⟩
          · exact Below.setCell (Below.setCell HC2.out.low (Nat.le_refl _) _) (Nat.le_refl _) _
end Go.Proofs.YtdolpeljengpaaaGreat

/- Plain: a segment more adds at most one part; networks that are moved. -/
namespace Go.Proofs.YtdolpeljengpaaaGreat
set_option linter.unusedVariables false
set_option linter.unusedSimpArgs false

/-- A point lies on an edge, ends included. -/
def onE (N : List Pt) (e : Ed) (p : Pt) : Prop := ((nd N e.1).1 = (nd N e.2).1 ∧ p.1 = (nd N e.1).1 ∧ (nd N e.1).2 ≤ p.2 ∧ p.2 ≤ (nd N e.2).2) ∨ ((nd N e.1).2 = (nd N e.2).2 ∧ p.2 = (nd N e.1).2 ∧ (nd N e.1).1 ≤ p.1 ∧ p.1 ≤ (nd N e.2).1)
/-- The label of the edges at a point. -/
def pcls (N : List Pt) (E : List Ed) (L : List Nat) (c : Nat) (p : Pt) : Prop := ∃ e ∈ E, onE N e p ∧ lb L e.1 = c
section
variable {h v : Int → Int → Bool} {N : List Pt} (H : NetOK h v N)
include H
/-- Where a point on an edge is a node, it is an end. -/
theorem NetOK.on_node {e : Ed} (he : e ∈ edgesG h v N) {p : Pt} (hp : onE N e p) : p = nd N e.1 ∨ p = nd N e.2 ∨ nodeG h v p = false := by
  obtain ⟨e1, e2, k | k⟩ := H.edge_two he
  · obtain ⟨k1, k2, k3, k4⟩ := k
    rcases hp with ⟨q1, q2, q3, q4⟩ | ⟨q1, _⟩
    · by_cases c1 : p.2 = (nd N e.1).2
      · exact .inl (Prod.ext q2 c1)
      · by_cases c2 : p.2 = (nd N e.2).2
        · exact .inr (.inl (Prod.ext (q2.trans q1) c2))
        · right; right
          have := (H.col_nodes k4).2 p.2 (by omega) (by omega)
          rw [← q2] at this
          exact this
    · omega
  · obtain ⟨k1, k2, k3, k4⟩ := k
    rcases hp with ⟨q1, _⟩ | ⟨q1, q2, q3, q4⟩
    · omega
    · by_cases c1 : p.1 = (nd N e.1).1
      · exact .inl (Prod.ext c1 q2)
      · by_cases c2 : p.1 = (nd N e.2).1
        · exact .inr (.inl (Prod.ext c2 (q2.trans q1)))
        · right; right
          have := (H.row_nodes k4).2 p.1 (by omega) (by omega)
          rw [← q2] at this
          exact this
theorem NetOK.edges_lt : ∀ e ∈ edgesG h v N, e.1 < N.length ∧ e.2 < N.length := fun e he => by
  obtain ⟨e1, e2, _⟩ := H.edge_two he
  exact ⟨by omega, e2⟩
theorem NetOK.nd_inj {i j : Nat} (hi : i < N.length) (hj : j < N.length) (e : nd N i = nd N j) : i = j := by
  rcases Nat.lt_trichotomy i j with g | g | g
  · have := nd_lt H.srt hj g
    rw [e] at this
    exact absurd this (ptLt_irrefl _)
  · exact g
  · have := nd_lt H.srt hi g
    rw [e] at this
    exact absurd this (ptLt_irrefl _)
/-- An edge along x that passes a point with a line to the right of it and one to the left. -/
theorem NetOK.row_mid {e : Ed} (he : e ∈ edgesG h v N) {p : Pt} (hp : onE N e p) (n1 : p ≠ nd N e.1) (n2 : p ≠ nd N e.2) : ((nd N e.1).1 = (nd N e.2).1 ∧ v p.1 p.2 = true ∧ nxt Prod.fst N e.1 e.2 ∧ p.1 = (nd N e.1).1 ∧ (nd N e.1).2 < p.2 ∧ p.2 < (nd N e.2).2) ∨ ((nd N e.1).2 = (nd N e.2).2 ∧ h p.1 p.2 = true ∧ nxt Prod.snd N e.1 e.2 ∧ p.2 = (nd N e.1).2 ∧ (nd N e.1).1 < p.1 ∧ p.1 < (nd N e.2).1) := by
  obtain ⟨e1, e2, k | k⟩ := H.edge_two he
  · obtain ⟨k1, k2, k3, k4⟩ := k
    rcases hp with ⟨q1, q2, q3, q4⟩ | ⟨q1, _⟩
    · left
      have c1 : p.2 ≠ (nd N e.1).2 := fun c => n1 (Prod.ext q2 c)
      have c2 : p.2 ≠ (nd N e.2).2 := fun c => n2 (Prod.ext (q2.trans q1) c)
      refine ⟨k1, ?_, k4, q2, by omega, by omega⟩
      have := H.col_line k4 (y := p.2) (by omega) (by omega)
      rw [q2, this]
      exact k3
    · omega
  · obtain ⟨k1, k2, k3, k4⟩ := k
    rcases hp with ⟨q1, _⟩ | ⟨q1, q2, q3, q4⟩
    · omega
    · right
      have c1 : p.1 ≠ (nd N e.1).1 := fun c => n1 (Prod.ext c q2)
      have c2 : p.1 ≠ (nd N e.2).1 := fun c => n2 (Prod.ext c (q2.trans q1))
      refine ⟨k1, ?_, k4, q2, by omega, by omega⟩
      have := H.row_line k4 (x := p.1) (by omega) (by omega)
      rw [q2, this]
      exact k3
omit H in
/-- Two edges that pass one point which is no end of both are one. -/
theorem mid_same {f : Pt → Int} {a b c d : Nat} (h1 : nxt f N a b) (h2 : nxt f N c d) (hf : f (nd N a) = f (nd N c)) (h3 : c < b) (h4 : a < d) : a = c := by
  obtain ⟨a1, a2, a3, a4⟩ := h1
  obtain ⟨b1, b2, b3, b4⟩ := h2
  rcases Nat.lt_trichotomy a c with g | g | g
  · exact absurd hf.symm (a4 c g h3)
  · exact g
  · exact absurd hf (b4 a g h4)
theorem NetOK.pcls_one {c d : Nat} {p : Pt} (h1 : pcls N (edgesG h v N) (compF N.length (edgesG h v N)).1 c p) (h2 : pcls N (edgesG h v N) (compF N.length (edgesG h v N)).1 d p) : c = d := by
  obtain ⟨e, he, pe, rfl⟩ := h1
  obtain ⟨f, hf, pf, rfl⟩ := h2
  have hsame := comp_same (n := N.length) (E := edgesG h v N) H.edges_lt
  obtain ⟨e1, e2⟩ := H.edges_lt e he
  obtain ⟨f1, f2⟩ := H.edges_lt f hf
  have endL : ∀ g ∈ edgesG h v N, ∀ i, i < N.length → onE N g p → p = nd N i → lb (compF N.length (edgesG h v N)).1 g.1 = lb (compF N.length (edgesG h v N)).1 i := fun g hg i hi pg pi => by
    obtain ⟨g1, g2⟩ := H.edges_lt g hg
    rcases H.on_node hg pg with k | k | k
    · rw [H.nd_inj g1 hi (k.symm.trans pi)]
    · rw [hsame g hg, H.nd_inj g2 hi (k.symm.trans pi)]
    · rw [pi, (H.mem _).1 (nd_mem hi)] at k
      cases k
  by_cases n1 : p = nd N e.1
  · exact (endL f hf e.1 e1 pf n1).symm
  by_cases n2 : p = nd N e.2
  · rw [hsame e he]; exact (endL f hf e.2 e2 pf n2).symm
  by_cases n3 : p = nd N f.1
  · exact endL e he f.1 f1 pe n3
  by_cases n4 : p = nd N f.2
  · rw [hsame f hf]; exact endL e he f.2 f2 pe n4
  have hnode : nodeG h v p = false := by
    rcases H.on_node he pe with k | k | k
    · exact absurd k n1
    · exact absurd k n2
    · exact k
  have hno : ¬ (h p.1 p.2 = true ∧ v p.1 p.2 = true) := by
    rintro ⟨c1, c2⟩
    unfold nodeG at hnode
    rw [c1, c2] at hnode
    simp at hnode
  rcases H.row_mid he pe n1 n2 with ⟨a1, a2, a3, a4, a5, a6⟩ | ⟨a1, a2, a3, a4, a5, a6⟩ <;> rcases H.row_mid hf pf n3 n4 with ⟨b1, b2, b3, b4, b5, b6⟩ | ⟨b1, b2, b3, b4, b5, b6⟩
  · rw [mid_same a3 b3 (a4.symm.trans b4) ((H.ord_col f1 e2 (by omega)).2 (by omega)) ((H.ord_col e1 f2 (by omega)).2 (by omega))]
  · exact absurd ⟨b2, a2⟩ hno
  · exact absurd ⟨a2, b2⟩ hno
  · rw [mid_same a3 b3 (a4.symm.trans b4) ((H.ord_row f1 e2 (by omega)).2 (by omega)) ((H.ord_row e1 f2 (by omega)).2 (by omega))]
/-- A unit line lies on an edge, with both of its ends. -/
theorem NetOK.row_on {x y : Int} (hx : h x y = true) : ∃ e ∈ edgesG h v N, onE N e (x, y) ∧ onE N e (x + 1, y) := by
  have := H.drawn_row x y
  rw [hx, row_mem] at this
  obtain ⟨s, hs, e1, e2, e3, e4⟩ := this
  obtain ⟨e, he, rfl⟩ := List.mem_map.1 hs
  obtain ⟨k0, _, k | ⟨k1, k2, k3, k4⟩⟩ := H.edge_two he
  · have : (nd N e.1).2 = (nd N e.2).2 := e1
    omega
  · have e3' : min (nd N e.1).1 (nd N e.2).1 ≤ x := e3
    have e4' : x < max (nd N e.1).1 (nd N e.2).1 := e4
    have e2' : (nd N e.1).2 = y := e2
    exact ⟨e, he, .inr ⟨k1, e2'.symm, by simp only; omega, by simp only; omega⟩, .inr ⟨k1, e2'.symm, by simp only; omega, by simp only; omega⟩⟩
theorem NetOK.col_on {x y : Int} (hx : v x y = true) : ∃ e ∈ edgesG h v N, onE N e (x, y) ∧ onE N e (x, y + 1) := by
  have := H.drawn_col x y
  rw [hx, col_mem] at this
  obtain ⟨s, hs, e1, e2, e3, e4⟩ := this
  obtain ⟨e, he, rfl⟩ := List.mem_map.1 hs
  obtain ⟨k0, _, ⟨k1, k2, k3, k4⟩ | k⟩ := H.edge_two he
  · have e3' : min (nd N e.1).2 (nd N e.2).2 ≤ y := e3
    have e4' : y < max (nd N e.1).2 (nd N e.2).2 := e4
    have e2' : (nd N e.1).1 = x := e2
    exact ⟨e, he, .inl ⟨k1, e2'.symm, by simp only; omega, by simp only; omega⟩, .inl ⟨k1, e2'.symm, by simp only; omega, by simp only; omega⟩⟩
  · exact absurd k.1 e1
end
abbrev labF (l : List Sg) : List Nat := (compF (nodesF l).length (edgesF l)).1
abbrev partsN (l : List Sg) : Nat := (compF (nodesF l).length (edgesF l)).2
def clsF (l : List Sg) (c : Nat) (p : Pt) : Prop := pcls (nodesF l) (edgesF l) (labF l) c p
theorem cls_one {l : List Sg} (hv : ∀ s ∈ l, okSg s) {c d : Nat} {p : Pt} (h1 : clsF l c p) (h2 : clsF l d p) : c = d := (net_ok hv).pcls_one h1 h2
theorem cls_row {l : List Sg} (hv : ∀ s ∈ l, okSg s) {x y : Int} (hx : htB l x y = true) : ∃ c, clsF l c (x, y) ∧ clsF l c (x + 1, y) := by
  obtain ⟨e, he, h1, h2⟩ := (net_ok hv).row_on hx
  exact ⟨_, ⟨e, he, h1, rfl⟩, ⟨e, he, h2, rfl⟩⟩
theorem cls_col {l : List Sg} (hv : ∀ s ∈ l, okSg s) {x y : Int} (hx : vtB l x y = true) : ∃ c, clsF l c (x, y) ∧ clsF l c (x, y + 1) := by
  obtain ⟨e, he, h1, h2⟩ := (net_ok hv).col_on hx
  exact ⟨_, ⟨e, he, h1, rfl⟩, ⟨e, he, h2, rfl⟩⟩
/-- A node has its own label, and a line. -/
theorem node_line {h v : Int → Int → Bool} {x y : Int} (hn : nodeG h v (x, y) = true) : h x y = true ∨ v x y = true ∨ h (x - 1) y = true ∨ v x (y - 1) = true := by
  unfold nodeG at hn
  simp only at hn
  cases a0 : h x y <;> cases a2 : h (x - 1) y <;> cases a1 : v x y <;> cases a3 : v x (y - 1) <;> rw [a0, a1, a2, a3] at hn <;> simp_all
theorem own_cls {l : List Sg} (hv : ∀ s ∈ l, okSg s) {i : Nat} (hi : i < (nodesF l).length) : clsF l (lb (labF l) i) (nd (nodesF l) i) := by
  have H := net_ok hv
  have hsame := comp_same (n := (nodesF l).length) (E := edgesF l) H.edges_lt
  have hn := (H.mem _).1 (nd_mem hi)
  have key : ∀ e ∈ edgesF l, onE (nodesF l) e (nd (nodesF l) i) → clsF l (lb (labF l) i) (nd (nodesF l) i) := fun e he hp => by
    refine ⟨e, he, hp, ?_⟩
    obtain ⟨g1, g2⟩ := H.edges_lt e he
    rcases H.on_node he hp with k | k | k
    · rw [H.nd_inj hi g1 k]
    · rw [hsame e he, H.nd_inj hi g2 k]
    · rw [hn] at k; cases k
  rcases node_line (x := (nd (nodesF l) i).1) (y := (nd (nodesF l) i).2) hn with h | h | h | h
  · obtain ⟨e, he, p1, _⟩ := H.row_on h
    exact key e he p1
  · obtain ⟨e, he, p1, _⟩ := H.col_on h
    exact key e he p1
  · obtain ⟨e, he, _, p1⟩ := H.row_on h
    rw [Int.sub_add_cancel] at p1
    exact key e he p1
  · obtain ⟨e, he, _, p1⟩ := H.col_on h
    rw [Int.sub_add_cancel] at p1
    exact key e he p1
end Go.Proofs.YtdolpeljengpaaaGreat

/- Plain: networks that are moved. -/
namespace Go.Proofs.YtdolpeljengpaaaGreat
set_option linter.unusedVariables false
set_option linter.unusedSimpArgs false

def mvSg (a b : Int) (s : Sg) : Sg := ⟨s.ax + a, s.ay + b, s.cx + a, s.cy + b⟩
def mvPt (a b : Int) (p : Pt) : Pt := (p.1 + a, p.2 + b)
end Go.Proofs.YtdolpeljengpaaaGreat

/- Plain: the streets of a network: wide unit lines. -/
namespace Go.Proofs.YtdolpeljengpaaaGreat
set_option linter.unusedVariables false
set_option linter.unusedSimpArgs false

def thickS (d : Int) (s : Sg) : R4 := ⟨min s.ax s.cx - d, min s.ay s.cy - d, max s.ax s.cx + d, max s.ay s.cy + d⟩
/-- A point lies in a street: near a unit line. -/
def strP (h v : Int → Int → Bool) (d x y : Int) : Prop := (∃ u w, h u w = true ∧ (u - d ≤ x ∧ x < u + 1 + d) ∧ w - d ≤ y ∧ y < w + d) ∨ (∃ u w, v u w = true ∧ (u - d ≤ x ∧ x < u + d) ∧ w - d ≤ y ∧ y < w + 1 + d)
theorem str_iff {l : List Sg} (hv : ∀ s ∈ l, okSg s) {d : Int} (hd : 1 ≤ d) (x y : Int) : pmem (l.map (thickS d)) x y ↔ strP (htB l) (vtB l) d x y := by
  constructor
  · rintro ⟨r, hr, hin⟩
    obtain ⟨s, hs, rfl⟩ := List.mem_map.1 hr
    unfold rin thickS at hin
    simp only at hin
    have h2 := (hv s hs).2
    by_cases e : s.ay = s.cy
    · exact .inl ⟨max (min s.ax s.cx) (min x (max s.ax s.cx - 1)), s.ay, row_mem.2 ⟨s, hs, e, rfl, by omega, by omega⟩, by omega, by omega, by omega⟩
    · exact .inr ⟨s.ax, max (min s.ay s.cy) (min y (max s.ay s.cy - 1)), col_mem.2 ⟨s, hs, e, rfl, by omega, by omega⟩, by omega, by omega, by omega⟩
  · rintro (⟨u, w, h, h1, h2⟩ | ⟨u, w, h, h1, h2⟩)
    · obtain ⟨s, hs, a1, a2, a3, a4⟩ := row_mem.1 h
      refine ⟨_, List.mem_map.2 ⟨s, hs, rfl⟩, ?_⟩
      unfold rin thickS
      simp only
      omega
    · obtain ⟨s, hs, a1, a2, a3, a4⟩ := col_mem.1 h
      have := (hv s hs).2.2 a1
      refine ⟨_, List.mem_map.2 ⟨s, hs, rfl⟩, ?_⟩
      unfold rin thickS
      simp only
      omega
/-- The edges of a network have the streets of its segments. -/
theorem str_drawn {l : List Sg} (hv : ∀ s ∈ l, okSg s) {d : Int} (hd : 1 ≤ d) (x y : Int) : pmem ((drawnL (nodesF l) (edgesF l)).map (thickS d)) x y ↔ pmem (l.map (thickS d)) x y := by
  rw [str_iff (drawn_ok hv) hd, str_iff hv hd]
  have H := net_ok hv
  rw [show htB (drawnL (nodesF l) (edgesF l)) = htB l from funext fun x => funext fun y => H.drawn_row x y, show vtB (drawnL (nodesF l) (edgesF l)) = vtB l from funext fun x => funext fun y => H.drawn_col x y]
end Go.Proofs.YtdolpeljengpaaaGreat

/- Plain law: the builder's state beside the list of slabs. -/
namespace Go.Proofs.YtdolpeljengpaaaGreat
set_option linter.unusedVariables false
set_option linter.unusedSimpArgs false

/-- The builder has put the slabs S together: 'last', 'first', 'end'. -/
def BInv (S : List Slab) (last : List Sp) (first : Nat) (e : Int) : Prop :=
  (last = [] ∧ ∀ a, S.getLast? = some a → a.t < e) ∨ (last ≠ [] ∧ ∃ S0 f0, S = S0 ++ [⟨f0, e, last⟩] ∧ first = (flat S0).length)
theorem flat_append (S T : List Slab) : flat (S ++ T) = flat S ++ flat T := by simp [flat]
theorem flat_one (a : Slab) : flat [a] = flat1 a := by simp [flat]
theorem BInv.start : BInv [] [] 0 0 := .inl ⟨rfl, by simp⟩
/-- The slab is joined to the one before it. -/
theorem BInv.join {S : List Slab} {last s : List Sp} {first : Nat} {e f t : Int} (h : BInv S last first e) (hs : s ≠ []) (he : e = f) (hl : last = s) :
    ∃ S0 f0, S = S0 ++ [⟨f0, e, last⟩] ∧ first = (flat S0).length ∧ addS S f t s = S0 ++ [⟨f0, t, s⟩] ∧ BInv (addS S f t s) s first t := by
  subst hl
  rcases h with ⟨h1, _⟩ | ⟨h1, S0, f0, h2, h3⟩
  · exact absurd h1 hs
  · have : addS S f t last = S0 ++ [⟨f0, t, last⟩] := by
      unfold addS
      rw [if_neg hs, h2]
      simp [he]
    exact ⟨S0, f0, h2, h3, this, .inr ⟨hs, S0, f0, this, h3⟩⟩
/-- It is not. -/
theorem BInv.push {S : List Slab} {last s : List Sp} {first : Nat} {e f t : Int} (h : BInv S last first e) (hef : S = [] ∨ e ≤ f) (hft : f < t) (hn : ¬ (s ≠ [] ∧ e = f ∧ last = s)) :
    flat (addS S f t s) = flat S ++ s.map (fun p => ⟨f, p.1, t, p.2⟩) ∧ BInv (addS S f t s) s (flat S).length t := by
  by_cases hs : s = []
  · subst hs
    have : addS S f t [] = S := by simp [addS]
    rw [this]
    refine ⟨by simp, .inl ⟨rfl, fun a ha => ?_⟩⟩
    rcases hef with rfl | hef
    · simp at ha
    · rcases h with ⟨_, h2⟩ | ⟨_, S0, f0, h2, _⟩
      · have := h2 a ha; omega
      · rw [h2] at ha
        simp at ha
        subst ha
        show e < t
        omega
  · have key : addS S f t s = S ++ [⟨f, t, s⟩] := by
      unfold addS
      rw [if_neg hs]
      cases hg : S.getLast? with
      | none =>
        have : S = [] := List.getLast?_eq_none_iff.1 hg
        subst this; rfl
      | some a =>
        show (if a.t = f ∧ a.s = s then _ else _) = _
        rw [if_neg]
        rintro ⟨g1, g2⟩
        rcases h with ⟨_, h2⟩ | ⟨_, S0, f0, h2, _⟩
        · have := h2 a hg
          rcases hef with rfl | hef
          · simp at hg
          · omega
        · rw [h2] at hg
          simp at hg
          subst hg
          exact hn ⟨hs, g1, g2⟩
    refine ⟨by rw [key, flat_append, flat_one]; rfl, .inr ⟨hs, S, f, key, rfl⟩⟩
end Go.Proofs.YtdolpeljengpaaaGreat

/- slices.Equal at []Span: two lists are one. -/
namespace Go.Proofs.YtdolpeljengpaaaGreat
open Go.RowKit
set_option linter.unusedVariables false
set_option linter.unusedSimpArgs false

set_option maxHeartbeats 2000000 in
theorem eqSpan_any {w : World} {vs vt : Value} {s t : List Sp} {B C : Nat} (hs : RdK encS 2 w B vs s) (ht : RdK encS 2 w C vt t) (ns : s.length ≤ 100000000) (hB : B ≤ w.heap.size) (hC : C ≤ w.heap.size) :
    Calls Tryz.prog 186 #[vs, vt] w fun e w' => e = .returned (.bool (decide (s = t))) ∧ Below w.heap.size w w' := by
  obtain ⟨A1, c1, rfl, h1⟩ := hs
  obtain ⟨A2, c2, rfl, h2⟩ := ht
  have g : Tryz.prog.eqGuardType Tryz.prog.depth 188 = false := by kernel_rfl
  have H1 := hide h1
  have H2 := hide h2
  clear h1 h2
  go_enter Tryz.func186, Tryz.ntmps186
  by_cases hl : s.length = t.length
  · have hne : ((s.length : Int) != (t.length : Int)) = false := by rw [hl]; simp
    have HL := hide hl
    clear hl
    go_wp2
    go_loopw [13] (fun i wr => ∃ k : Nat, k ≤ s.length ∧ i = .int .i64 k ∧ Hid (s.take k = t.take k) ∧ Below w.heap.size w wr) (fun i _ => s.length - (intOf i).toNat)
    case atStart => exact ⟨0, Nat.zero_le _, rfl, hide rfl, Below.refl _ _⟩
    case round =>
      obtain ⟨k, hk, rfl, HT, hb⟩ := hrel
      by_cases hlt : k < s.length
      · obtain ⟨⟨a, b⟩, hp⟩ : ∃ p, s[k]? = some p := ⟨_, List.getElem?_eq_getElem hlt⟩
        have hlt2 : k < t.length := by rw [← HL.out]; exact hlt
        obtain ⟨⟨c, d⟩, hq⟩ : ∃ p, t[k]? = some p := ⟨_, List.getElem?_eq_getElem hlt2⟩
        obtain ⟨b1, o1, rfl, hb1, k1⟩ := H1.out (by intro e; rw [e] at hlt; simp at hlt)
        obtain ⟨b2, o2, rfl, hb2, k2⟩ := H2.out (by intro e; rw [e] at hlt2; simp at hlt2)
        have x0 : wr.cell? ⟨b1, o1 + k * 2, none⟩ = some (.int .i64 a) := (hb.cell (p := ⟨b1, _, none⟩) (by show b1 < _; omega)).trans (k1 k _ hp 0 _ rfl)
        have x1 : wr.cell? ⟨b1, o1 + k * 2 + 1, none⟩ = some (.int .i64 b) := (hb.cell (p := ⟨b1, _, none⟩) (by show b1 < _; omega)).trans (k1 k _ hp 1 _ rfl)
        have y0 : wr.cell? ⟨b2, o2 + k * 2, none⟩ = some (.int .i64 c) := (hb.cell (p := ⟨b2, _, none⟩) (by show b2 < _; omega)).trans (k2 k _ hq 0 _ rfl)
        have y1 : wr.cell? ⟨b2, o2 + k * 2 + 1, none⟩ = some (.int .i64 d) := (hb.cell (p := ⟨b2, _, none⟩) (by show b2 < _; omega)).trans (k2 k _ hq 1 _ rfl)
        have z1 : (k : Int) < (s.length : Int) := by omega
        have z2 : (k : Int) < (t.length : Int) := by omega
        have HP := hide hp
        have HQ := hide hq
        clear hp hq k1 k2
        by_cases hac : a = c
        · by_cases hbd : b = d
          · subst hac; subst hbd
            go_wp2
            go_region
            go_wp2
            go_roundw
            case rel =>
              refine ⟨k + 1, by omega, by go_num, hide ?_, hb.drew⟩
              obtain ⟨i1, e1⟩ := List.getElem?_eq_some_iff.1 HP.out
              obtain ⟨i2, e2⟩ := List.getElem?_eq_some_iff.1 HQ.out
              rw [List.take_succ_eq_append_getElem i1, List.take_succ_eq_append_getElem i2, HT.out, e1, e2]
            case measure => simp [intOf]; omega
          · subst hac
            have hd : decide (s = t) = false := decide_eq_false fun e => by
              subst e
              have := HP.out.symm.trans HQ.out
              injection this with this
              injection this with _ h2
              exact hbd h2
            have HD := hide hd
            clear hd
            go_wp2
            go_region
            go_wp2
            go_ret
            exact ⟨ret_eq (bool_eq HD.out.symm), hb.drew⟩
        · have hd : decide (s = t) = false := decide_eq_false fun e => by
            subst e
            have := HP.out.symm.trans HQ.out
            injection this with this
            injection this with h2 _
            exact hac h2
          have HD := hide hd
          clear hd
          go_wp2
          go_region
          go_wp2
          go_ret
          exact ⟨ret_eq (bool_eq HD.out.symm), hb.drew⟩
      · have hlz : ¬ (k : Int) < (s.length : Int) := by omega
        have hd : decide (s = t) = true := decide_eq_true (by
          have := HT.out
          rw [List.take_of_length_le (by omega), List.take_of_length_le (by rw [← HL.out]; omega)] at this
          exact this)
        have HD := hide hd
        clear hd
        go_wp2
        go_ret
        exact ⟨ret_eq (bool_eq HD.out.symm), hb⟩
  · have hne : ((s.length : Int) != (t.length : Int)) = true := by simp; omega
    have hd : decide (s = t) = false := decide_eq_false fun e => hl (by rw [e])
    rw [hd]
    clear hl hd
    go_wp2
    go_ret
    exact ⟨rfl, Below.refl _ _⟩
end Go.Proofs.YtdolpeljengpaaaGreat

/- region's builder: its cells, and 'result'. -/
namespace Go.Proofs.YtdolpeljengpaaaGreat
open Go.RowKit
set_option linter.unusedVariables false
set_option linter.unusedSimpArgs false

/-- The builder in block bb has put the slabs S together; its rows lie at or above Bo. -/
structure BW (bb Bo : Nat) (S : List Slab) (last : List Sp) (first : Nat) (e : Int) (W : World) : Prop where
  low : bb < Bo
  size : Bo ≤ W.heap.size
  out : ∃ vo, W.cell? ⟨bb, 0, none⟩ = some vo ∧ W.ownsRow Bo 69 4 vo (flat S).length ((flat S).flatMap encR)
  la : ∃ vl, W.cell? ⟨bb, 1, none⟩ = some vl ∧ W.ownsRow Bo 188 2 vl last.length (last.flatMap encS)
  fi : W.cell? ⟨bb, 2, none⟩ = some (.int .i64 first)
  en : W.cell? ⟨bb, 3, none⟩ = some (.int .i64 e)
  fz : ∀ j, W.frozen? ⟨bb, j, none⟩ = false
  inv : BInv S last first e

set_option maxHeartbeats 1000000 in
theorem result_any {bb Bo : Nat} {S : List Slab} {last : List Sp} {first : Nat} {e : Int} {w : World} (h : BW bb Bo S last first e w) (hn : (flat S).length ≤ 1000000000) :
    Calls Tryz.prog 145 #[.pointer (some ⟨bb, 0, none⟩)] w fun r w' => w = w' ∧
      ((400 < (flat S).length ∧ r = .returned (.tuple #[.slice none 0 0, .int .i64 4])) ∨ ((flat S).length ≤ 400 ∧ ∃ A c, r = .returned (.tuple #[.slice A (flat S).length c, .int .i64 0]) ∧ w.ownsRow Bo 69 4 (.slice A (flat S).length c) (flat S).length ((flat S).flatMap encR))) := by
  obtain ⟨vo, h0, ho⟩ := h.out
  obtain ⟨A, c, hv, _⟩ := own_rd ho (fun _ => rfl)
  subst hv
  have HO := hide ho
  clear ho
  generalize (flat S).length = n at *
  by_cases h4 : 400 < n
  · have hz : (400 : Int) < (n : Int) := by omega
    go_enter Tryz.func145, Tryz.ntmps145
    go_wp2
    go_ret2
    exact ⟨rfl, .inl ⟨h4, rfl⟩⟩
  · have hz : (n : Int) ≤ 400 := by omega
    go_enter Tryz.func145, Tryz.ntmps145
    go_wp2
    go_ret2
    exact ⟨rfl, .inr ⟨by omega, A, c, rfl, HO.out⟩⟩
end Go.Proofs.YtdolpeljengpaaaGreat
