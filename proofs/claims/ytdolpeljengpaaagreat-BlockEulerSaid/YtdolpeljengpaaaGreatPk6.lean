/- Texts laid together: StrF, StrG, SortP, StrH, StrL. Lemmas for the statements of this seat; no condition. -/
import Derived.Test.YtdolpeljengpaaaGreatPk5
import Derived.DeepKeys4
import Derived.Test.YtdolpeljengpaaaGreatShelf
import Derived.Test.YtdolpeljengpaaaGreatPk1
import Derived.Test.YtdolpeljengpaaaGreatPk2

/- A set of points as a map from points to true: what lies in it, store, length, the range over it. -/
namespace Go.Proofs.YtdolpeljengpaaaGreat
open Go.RowKit Go.Maps
open Go.ChangeMaps (setBlock heap_setBlock_same heap_setBlock_other)
set_option linter.unusedVariables false
set_option linter.unusedSimpArgs false

theorem laidOutS : laidOutB Tryz.prog = true := by kernel_rfl
theorem rowPt : 51 < Tryz.prog.types.size := of_decide_eq_true (by kernel_rfl)
theorem lawPtT : WideMaps.KeyLaw Tryz.prog 51 := deep_law_laid laidOutS (m := 2) (by omega) rowPt (by kernel_rfl) (by rw [Tryz.underlying51])
theorem lawPt : Keyed Tryz.prog 51 := Keyed.of_law lawPtT
def vP (p : Pt) : Value := .agg #[.int .i64 p.1, .int .i64 p.2]
def kP (p : Pt) : Lit := .string (keyBytes [.int .i64 p.1, .int .i64 p.2])
theorem keyLits_pt {p : Pt} (h : bigP p) (d : Nat) : Tryz.prog.keyLits (d + 2) 51 [.int .i64 p.1, .int .i64 p.2] = some [.int .i64 p.1, .int .i64 p.2] := by
  obtain ⟨⟨h1, h2⟩, h3, h4⟩ := h
  have w1 : (Lit.int .i64 p.1).wf = true := WalkArith.wf_i64 (by omega)
  have w2 : (Lit.int .i64 p.2).wf = true := WalkArith.wf_i64 (by omega)
  have c1 : Tryz.prog.cellsOf 51 = 2 := by kernel_rfl
  have c2 : Tryz.prog.cellsOf 3 = 1 := by kernel_rfl
  simp [Program.keyLits, Tryz.underlying51, Tryz.underlying3, c1, c2, w1, w2]
theorem keyOf_pt {p : Pt} (h : bigP p) : keyOf Tryz.prog 51 (vP p) = some (kP p) := by
  have h1 : Tryz.prog.keyType 51 = true := by kernel_rfl
  have c1 : Tryz.prog.cellsOf 51 = 2 := by kernel_rfl
  obtain ⟨d, hd⟩ : ∃ d, Tryz.prog.types.size + 1 = d + 2 := by
    have := Nat.lt_of_le_of_lt (Nat.zero_le _) rowPt
    exact ⟨Tryz.prog.types.size - 1, by omega⟩
  have h2 := keyLits_pt h d
  unfold keyOf vP
  rw [Tryz.underlying51, hd]
  have h3 : (Value.agg #[.int .i64 p.1, .int .i64 p.2]).formed Tryz.prog 51 = true := by simp [Value.formed, Tryz.underlying51, c1]
  have h4 : (Value.agg #[.int .i64 p.1, .int .i64 p.2]).cells.toList = [.int .i64 p.1, .int .i64 p.2] := rfl
  simp only [h1, h3, h4, h2, Bool.and_true, if_true, Option.map_some]
  rfl
theorem kP_inj {a b : Pt} (ha : bigP a) (hb : bigP b) (h : kP a = kP b) : a = b := by
  have h1 := keyOf_pt ha
  have h2 := keyOf_pt hb
  rw [h] at h1
  have := lawPt.inj h1 h2
  unfold vP at this
  simp only [Value.agg.injEq, Array.mk.injEq, List.cons.injEq, Value.int.injEq, true_and, and_true] at this
  exact Prod.ext this.1 this.2
abbrev ownsF (b n : Nat) (D : DataW Unit) (w : World) : Prop := w.ownsMap Tryz.prog 51 (plainElem Tryz.prog 4) b n D
def addP (K : List Pt) (k : Pt) : List Pt := if k ∈ K then K else K ++ [k]
theorem mem_addP {K : List Pt} {k k' : Pt} : k' ∈ addP K k ↔ k' = k ∨ k' ∈ K := by
  unfold addP
  split
  · rename_i hm
    constructor
    · exact .inr
    · rintro (rfl | h1)
      · exact hm
      · exact h1
  · rw [List.mem_append, List.mem_singleton]
    exact Or.comm
theorem addP_nd {K : List Pt} (h : K.Nodup) (k : Pt) : (addP K k).Nodup := by
  unfold addP
  split
  · exact h
  · rename_i hm
    rw [List.nodup_append]
    refine ⟨h, by simp, fun a ha b hb e => ?_⟩
    rw [List.mem_singleton] at hb
    subst hb; subst e
    exact hm ha
structure FD (K : List Pt) (D : DataW Unit) : Prop where
  size : Maps.size D = K.length
  has : ∀ l, Maps.has D l = true ↔ ∃ k ∈ K, l = kP k
/-- Block bF is the set of the points K. -/
structure Fs (bF : Nat) (K : List Pt) (w : World) : Prop where
  map : ∃ D, ownsF bF K.length D w ∧ FD K D
  rng : ∀ k ∈ K, bigP k
  nd : K.Nodup
structure Fr (bF r : Nat) (K : List Pt) (left : Lit → Bool) (cnt : Nat) (w : World) : Prop where
  map : ∃ D, w.ranges Tryz.prog 51 (plainElem Tryz.prog 4) bF r K.length D left cnt ∧ FD K D
  rng : ∀ k ∈ K, bigP k
  nd : K.Nodup
theorem Fs.made (w : World) : Fs w.heap.size [] (w.alloc (.map #[] 0)) :=
  ⟨⟨.map [], World.ownsMap_made w _ _ _, rfl, fun l => by rw [has_eq]; simp⟩, fun k h => (List.not_mem_nil h).elim, by simp⟩
theorem Fs.grown {bF : Nat} {K : List Pt} {w w' : World} (h : Fs bF K w) {row : Option Nat} (hg : w.grownBy w' row) (h1 : some bF ≠ row) : Fs bF K w' := by
  obtain ⟨D, d1, d2⟩ := h.map
  exact ⟨⟨D, d1.kept hg h1, d2⟩, h.rng, h.nd⟩
theorem Fs.below {bF : Nat} {K : List Pt} {w w' : World} (h : Fs bF K w) (hb : Below w.heap.size w w') : Fs bF K w' := h.grown (below_grow hb) (by simp)
theorem Fr.grown {bF r : Nat} {K : List Pt} {left : Lit → Bool} {cnt : Nat} {w w' : World} (h : Fr bF r K left cnt w) {row : Option Nat} (hg : w.grownBy w' row) (h1 : some bF ≠ row) (h2 : some r ≠ row) : Fr bF r K left cnt w' := by
  obtain ⟨D, d1, d2⟩ := h.map
  exact ⟨⟨D, d1.kept hg h1 h2, d2⟩, h.rng, h.nd⟩
theorem Fr.fs {bF r : Nat} {K : List Pt} {left : Lit → Bool} {cnt : Nat} {w : World} (h : Fr bF r K left cnt w) : Fs bF K w := by
  obtain ⟨D, d1, d2⟩ := h.map
  exact ⟨⟨D, d1.owns, d2⟩, h.rng, h.nd⟩
theorem Fs.lt {bF : Nat} {K : List Pt} {w : World} (h : Fs bF K w) : bF < w.heap.size := by
  obtain ⟨D, d1, _⟩ := h.map
  exact d1.lt
theorem FD.has_iff {K : List Pt} {D : DataW Unit} (h : FD K D) (hr : ∀ k ∈ K, bigP k) {k : Pt} (hk : bigP k) : Maps.has D (kP k) = true ↔ k ∈ K := by
  rw [h.has]
  constructor
  · rintro ⟨k', hk', e⟩
    rw [kP_inj hk (hr k' hk') e]
    exact hk'
  · intro hm; exact ⟨k, hm, rfl⟩
/-- 'found[p] = true'. -/
theorem Fs.store {bF : Nat} {K : List Pt} {w : World} (h : Fs bF K w) {k : Pt} (hk : bigP k) (hn : K.length < maxLen) :
    ∃ w', (Instr.mapUpdate 226 (.map (some bF)) (vP k) (.bool true)).run Tryz.prog w = .ok () w' ∧ w.grownBy w' (some bF) ∧ Fs bF (addP K k) w' := by
  obtain ⟨D, d1, d2⟩ := h.map
  obtain ⟨w', hrun, o3, g3⟩ := d1.update lawPt Tryz.underlying226 hn (keyOf_pt hk) (plainElem_bool Tryz.underlying4 true)
  have hd : FD (addP K k) (D.put (kP k) (.lit (.bool true))) := by
    refine ⟨?_, fun l => ?_⟩
    · rw [size_put (d1.tidy lawPt)]
      unfold addP
      by_cases hm : k ∈ K
      · rw [if_pos ((d2.has_iff h.rng hk).2 hm), if_pos hm, d2.size]
      · rw [if_neg (fun e => hm ((d2.has_iff h.rng hk).1 e)), if_neg hm, d2.size]; simp
    · by_cases e : l = kP k
      · subst e
        rw [has_put_same d1.isMap (lawPt.key (keyOf_pt hk))]
        exact ⟨fun _ => ⟨k, mem_addP.2 (.inl rfl), rfl⟩, fun _ => rfl⟩
      · rw [has_put_other e, d2.has]
        constructor
        · rintro ⟨k', h1, h2⟩; exact ⟨k', mem_addP.2 (.inr h1), h2⟩
        · rintro ⟨k', h1, h2⟩
          rcases mem_addP.1 h1 with h3 | h3
          · subst h3; exact absurd h2 e
          · exact ⟨k', h3, h2⟩
  refine ⟨w', hrun, g3, ⟨D.put (kP k) (.lit (.bool true)), ?_, hd⟩, fun k' hk' => ?_, addP_nd h.nd k⟩
  · have hsz := hd.size
    obtain ⟨es, clock, hb, F, hs, hD⟩ := o3
    refine ⟨es, clock, hb, F, ?_, hD⟩
    rw [← hsz, hD, Maps.size_eq, length_sorted]
    simp
  · rcases mem_addP.1 hk' with rfl | h1
    · exact hk
    · exact h.rng k' h1
theorem Fs.len {bF : Nat} {K : List Pt} {w : World} (h : Fs bF K w) (ty : TypeId) : (Builtin.len_ #[226] ty #[.map (some bF)]).run Tryz.prog w = .ok (.int .i64 K.length) w := by
  obtain ⟨D, d1, d2⟩ := h.map
  rw [d1.len Tryz.underlying226 ty, d2.size]
theorem bool_inv {v : Value} {y : DataW Unit × List MemPlace} (h : plainElem (H := Unit) Tryz.prog 4 v = some y) : ∃ c, v = .bool c := by
  cases v <;> simp [plainElem, Tryz.underlying4] at h
  exact ⟨_, rfl⟩
theorem pt_inv {K : List Pt} {D : DataW Unit} (hd : FD K D) (hr : ∀ k ∈ K, bigP k) {key : Value} {kl : Lit} (hk : keyOf Tryz.prog 51 key = some kl) (hh : Maps.has D kl = true) : ∃ p ∈ K, key = vP p ∧ kl = kP p := by
  obtain ⟨p, hp, e⟩ := (hd.has kl).1 hh
  refine ⟨p, hp, ?_, e⟩
  exact lawPt.inj hk (by rw [e]; exact keyOf_pt (hr p hp))
/-- The step of a range over such a set, at the operation. -/
theorem wpList_next_fs {w : World} {ops : Array Oper} {rest : List Oper} {o : Oper} {a : Act} {Q : Exit → Act → World → Prop} (hg : o.guard = none) (it : Operand) (hop : o.op = Op.next it false) {bF r : Nat} {K : List Pt} {left : Lit → Bool} {cnt : Nat}
    (hit : a.eval it = .pointer (some ⟨r, 0, none⟩)) (h : Fr bF r K left cnt w)
    (hDone : cnt = 0 → (∀ kl, left kl = false) → wpList Tryz.prog ops Q rest (a.put o.dst (.tuple #[.bool false])) w)
    (hMore : ∀ (x : Pt) (c : Value) (w' : World) (cnt' : Nat), x ∈ K → left (kP x) = true → Fr bF r K (fun z => left z && !z.sameKey (kP x)) cnt' w' → cnt' < cnt → w.grownBy w' (some r) → w'.heap.size = w.heap.size → (Instr.entry (.pointer (some ⟨r, 0, none⟩))).run Tryz.prog w' = .ok (.tuple #[vP x, c]) w' →
      wpList Tryz.prog ops Q rest (a.put o.dst (.tuple #[.bool true, vP x, c])) w') : wpList Tryz.prog ops Q (o :: rest) a w := by
  obtain ⟨D, d1, d2⟩ := h.map
  refine wpList_next_ranges w hg it hop 51 lawPt (plainElem Tryz.prog 4) id Value.bool (fun key kl hkey => ⟨key, rfl⟩) (fun v y hv => bool_inv hv) bF r K.length D left cnt hit d1 hDone ?_
  intro key c kl y w' cnt' hkey hlk hR hat hrg hlt hgr hsz hen
  have hh : Maps.has D kl = true := by
    cases hh : Maps.has D kl
    · have e1 := hat (.map [])
      have e2 := hat .nil
      rw [atKey_of_not_has hh] at e1 e2
      rw [← e2] at e1
      cases e1
    · rfl
  obtain ⟨p, hp, rfl, rfl⟩ := pt_inv d2 h.rng (key := key) hkey hh
  exact hMore p (.bool c) w' cnt' hp hlk ⟨⟨D, hrg, d2⟩, h.rng, h.nd⟩ hlt hgr hsz hen
theorem wpList_range_fs {w : World} {ops : Array Oper} {rest : List Oper} {o : Oper} {a : Act} {Q : Exit → Act → World → Prop} (hg : o.guard = none) (m : Operand) (hop : o.op = Op.range 226 m) {bF : Nat} {K : List Pt} (hm : a.eval m = .map (some bF)) (h : Fs bF K w)
    (hK : ∀ w' left, Fr bF w.heap.size K left K.length w' → (∀ x ∈ K, left (kP x) = true) → w.grownBy w' none → w'.heap.size = w.heap.size + 1 → wpList Tryz.prog ops Q rest (a.put o.dst (.pointer (some ⟨w.heap.size, 0, none⟩))) w') : wpList Tryz.prog ops Q (o :: rest) a w := by
  obtain ⟨D, d1, d2⟩ := h.map
  refine wpList_range_own w hg m _ hop 51 _ lawPt Tryz.underlying226 (plainElem Tryz.prog 4) bF K.length D hm d1 fun w' hr hgr hs => ?_
  exact hK w' _ ⟨⟨D, (d2.size ▸ hr), d2⟩, h.rng, h.nd⟩ (fun x hx => (d2.has_iff h.rng (h.rng x hx)).2 hx) hgr hs
theorem kP_same {a b : Pt} (ha : bigP a) (hb : bigP b) : (kP a).sameKey (kP b) = decide (a = b) := by
  by_cases e : a = b
  · subst e
    rw [decide_eq_true rfl]
    exact WideAt.sameKey_self (lawPt.key (keyOf_pt ha))
  · rw [decide_eq_false e]
    exact Maps.sameKey_ne (fun h => e (kP_inj ha hb h))
end Go.Proofs.YtdolpeljengpaaaGreat

/- street.roads.nodes: the closure that tries a point; what holds while the lines are gone through. -/
namespace Go.Proofs.YtdolpeljengpaaaGreat
open Go.RowKit Go.Maps
set_option linter.unusedVariables false
set_option linter.unusedSimpArgs false

set_option maxRecDepth 100000 in
set_option maxHeartbeats 4000000 in
theorem try_any {w : World} {B b1 b2 gR gF bF : Nat} {l : List Sg} {K : List Pt} (h : Roads B l (.agg #[.map (some b1), .map (some b2)]) w) (hv : ∀ s ∈ l, okSg s) (hl : l.length ≤ 800) {x y : Int} (hp : bigP (x, y))
    (c0 : w.cell? ⟨gR, 0, none⟩ = some (.map (some b1))) (c1 : w.cell? ⟨gR, 1, none⟩ = some (.map (some b2))) (c2 : w.cell? ⟨gF, 0, none⟩ = some (.map (some bF))) (hf : Fs bF K w) (hn : K.length < maxLen) :
    Calls Tryz.prog 157 #[.agg #[.int .i64 x, .int .i64 y], .pointer (some ⟨gR, 0, none⟩), .pointer (some ⟨gF, 0, none⟩)] w fun e w' => e = .returned (.tuple #[]) ∧ w.grownBy w' (some bF) ∧ Fs bF (if nodeG (htB l) (vtB l) (x, y) = true then addP K (x, y) else K) w' := by
  have HA := hide (fun (W : World) (hb : Below w.heap.size w W) => node_any (h.below hb) hv hl hp)
  have HF := hide hf
  have HP := hide hp
  have lR := lt_of_cell c0
  have lF := lt_of_cell c2
  have nR : gR ≠ w.heap.size := by omega
  have nF : gF ≠ w.heap.size := by omega
  have hb0 : ∀ o, Below w.heap.size w (w.alloc o) := fun o => (Below.refl _ _).alloc (Nat.le_refl _) _
  have HB := hide hb0
  clear h hv hf hp hb0
  cases hnode : nodeG (htB l) (vtB l) (x, y)
  · rw [hnode] at HA
    clear hnode
    go_enter Tryz.func157, Tryz.ntmps157
    go_wp2_with (fail)
    refine (HA.out _ (HB.out _)).mono ?_
    rintro e w1 ⟨rfl, hb⟩
    have HB1 := hide ((HB.out (.cells #[.int .i64 x, .int .i64 y] 51)).trans (hb.mono (by simp)))
    clear hb
    go_wp2_with (fail)
    go_end0
    refine ⟨rfl, (below_grow HB1.out).but _, ?_⟩
    exact HF.out.below HB1.out
  · rw [hnode] at HA
    clear hnode
    go_enter Tryz.func157, Tryz.ntmps157
    go_wp2_with (fail)
    refine (HA.out _ (HB.out _)).mono ?_
    rintro e w1 ⟨rfl, hb⟩
    have hz : w.heap.size < w1.heap.size := by have := hb.size; simp at this; omega
    have d0 : w1.cell? ⟨w.heap.size, 0, none⟩ = some (.int .i64 x) := (hb.cell (p := ⟨w.heap.size, 0, none⟩) (by simp)).trans (by simp [go_sem])
    have d1 : w1.cell? ⟨w.heap.size, 1, none⟩ = some (.int .i64 y) := (hb.cell (p := ⟨w.heap.size, 1, none⟩) (by simp)).trans (by simp [go_sem])
    have HB1 := hide ((HB.out (.cells #[.int .i64 x, .int .i64 y] 51)).trans (hb.mono (by simp)))
    have c2' := (HB1.out.cell (p := ⟨gF, 0, none⟩) lF).trans c2
    obtain ⟨w2, hrun, hg2, hf2⟩ := (HF.out.below HB1.out).store HP.out hn
    have hrun' : (Instr.mapUpdate 226 (.map (some bF)) (.agg #[.int .i64 x, .int .i64 y]) (.bool true)).run Tryz.prog w1 = .ok () w2 := hrun
    have HF2 := hide hf2
    have HG2 := hide hg2
    clear hb c0 c1 c2 hrun hf2 hg2
    go_wp2_with (fail)
    go_end0
    refine ⟨rfl, ?_, ?_⟩
    · exact ((below_grow HB1.out).but (some bF)).andThen HG2.out (fun j hj => .inr hj)
    · exact HF2.out
/-- The two maps, apart from all that the walk lays. -/
structure Fix (h0 B b1 b2 : Nat) (K1 K2 : List Int) (v1 v2 : Int → Value) : Prop where
  g1 : b1 < h0
  g2 : b2 < h0
  r1 : ∀ k ∈ K1, ∀ q, (v1 k).ownBlock = some q → q < h0
  r2 : ∀ k ∈ K2, ∀ q, (v2 k).ownBlock = some q → q < h0
/-- What holds while the lines are gone through: K has been found. -/
structure Nst (w0 wr : World) (h0 B b1 b2 : Nat) (K1 K2 : List Int) (v1 v2 : Int → Value) (l : List Sg) (K : List Pt) : Prop where
  c0 : wr.cell? ⟨h0, 0, none⟩ = some (.map (some b1))
  c1 : wr.cell? ⟨h0, 1, none⟩ = some (.map (some b2))
  c2 : wr.cell? ⟨h0 + 1 + 1, 0, none⟩ = some (.map (some (h0 + 1)))
  fs : Fs (h0 + 1) K wr
  m1 : Ms B b1 K1 (rowC l) v1 wr
  m2 : Ms B b2 K2 (colC l) v2 wr
  low : Below h0 w0 wr
  sz : h0 + 3 ≤ wr.heap.size
  nd : ∀ k ∈ K, nodeG (htB l) (vtB l) k = true
section
variable {w0 wr w' : World} {h0 B b1 b2 : Nat} {K1 K2 : List Int} {v1 v2 : Int → Value} {l : List Sg} {K : List Pt}
theorem fix_row {vals : Int → Value} {Ks : List Int} (hr : ∀ k ∈ Ks, ∀ q, (vals k).ownBlock = some q → q < h0) {row : Option Nat} (n : ∀ q, row = some q → h0 ≤ q) : ∀ k ∈ Ks, (vals k).ownBlock = none ∨ (vals k).ownBlock ≠ row := fun k hk => by
  rcases hb : (vals k).ownBlock with _ | q
  · exact .inl rfl
  · right
    intro e
    have := hr k hk q hb
    have := n q e.symm
    omega
/-- Blocks that the walk has laid behind its first three turn. -/
theorem Nst.grown (h : Nst w0 wr h0 B b1 b2 K1 K2 v1 v2 l K) (F : Fix h0 B b1 b2 K1 K2 v1 v2) {row : Option Nat} (hg : wr.grownBy w' row) (n : ∀ q, row = some q → h0 + 3 ≤ q) : Nst w0 w' h0 B b1 b2 K1 K2 v1 v2 l K := by
  have hsz := h.sz
  have g1 := F.g1
  have g2 := F.g2
  have hne : ∀ b, b < h0 + 3 → some b ≠ row := fun b hb e => by have := n b e.symm; omega
  exact ⟨(cell_grow hg (by omega) (hne _ (by omega))).trans h.c0, (cell_grow hg (by omega) (hne _ (by omega))).trans h.c1, (cell_grow hg (by omega) (hne _ (by omega))).trans h.c2, h.fs.grown hg (hne _ (by omega)),
    h.m1.grown hg (hne _ (by omega)) (fix_row F.r1 fun q hq => by have := n q hq; omega), h.m2.grown hg (hne _ (by omega)) (fix_row F.r2 fun q hq => by have := n q hq; omega), h.low.grown hg (by omega) (fun q hq => by have := n q hq; omega), Nat.le_trans hsz hg.size, h.nd⟩
theorem Nst.below (h : Nst w0 wr h0 B b1 b2 K1 K2 v1 v2 l K) (F : Fix h0 B b1 b2 K1 K2 v1 v2) (hb : Below wr.heap.size wr w') : Nst w0 w' h0 B b1 b2 K1 K2 v1 v2 l K := h.grown F (below_grow hb) (fun q hq => by cases hq)
/-- The set of what has been found turns. -/
theorem Nst.found (h : Nst w0 wr h0 B b1 b2 K1 K2 v1 v2 l K) (F : Fix h0 B b1 b2 K1 K2 v1 v2) (hg : wr.grownBy w' (some (h0 + 1))) {K' : List Pt} (hf : Fs (h0 + 1) K' w') (hn : ∀ k ∈ K', nodeG (htB l) (vtB l) k = true) : Nst w0 w' h0 B b1 b2 K1 K2 v1 v2 l K' := by
  have hsz := h.sz
  have g1 := F.g1
  have g2 := F.g2
  exact ⟨(cell_grow hg (by omega) (fun e => by injection e with e; omega)).trans h.c0, (cell_grow hg (by omega) (fun e => by injection e with e; omega)).trans h.c1, (cell_grow hg (by omega) (fun e => by injection e with e; omega)).trans h.c2, hf,
    h.m1.grown hg (fun e => by injection e with e; omega) (fix_row F.r1 fun q hq => by injection hq with hq; omega), h.m2.grown hg (fun e => by injection e with e; omega) (fix_row F.r2 fun q hq => by injection hq with hq; omega), h.low.grown hg (by omega) (fun q hq => by injection hq with hq; omega), Nat.le_trans hsz hg.size, hn⟩
theorem Nst.roads (h : Nst w0 wr h0 B b1 b2 K1 K2 v1 v2 l K) (k1 : KeysUp K1 (rowSp l)) (k2 : KeysUp K2 (colSp l)) (e1 : B ≤ b1) (e2 : B ≤ b2) : Roads B l (.agg #[.map (some b1), .map (some b2)]) wr := ⟨b1, b2, K1, K2, v1, v2, rfl, h.m1, h.m2, k1, k2, e1, e2⟩
/-- A range over one of the maps goes on while other blocks turn. -/
theorem Mr.keep {b r cnt : Nat} {Ks : List Int} {p : Int → List Sp} {vals : Int → Value} {left : Lit → Bool} (h : Mr B b r Ks p vals left cnt wr) (hb : b < h0) (hr : ∀ k ∈ Ks, ∀ q, (vals k).ownBlock = some q → q < h0) {row : Option Nat} (hg : wr.grownBy w' row) (n : ∀ q, row = some q → h0 ≤ q ∧ q ≠ r) : Mr B b r Ks p vals left cnt w' :=
  h.grown hg (fun e => by have := (n b e.symm).1; omega) (fun e => (n r e.symm).2 rfl) (fix_row hr fun q hq => (n q hq).1)
end
/-- What has been found of one span of a row. -/
def DoneS (l : List Sg) (y : Int) (s : Sp) (K : List Pt) : Prop := (nodeG (htB l) (vtB l) (s.1, y) = true → (s.1, y) ∈ K) ∧ (nodeG (htB l) (vtB l) (s.2, y) = true → (s.2, y) ∈ K) ∧ ∀ x, s.1 < x → x < s.2 → (vtB l x y = true ∨ vtB l x (y - 1) = true) → (x, y) ∈ K
def DoneC (l : List Sg) (x : Int) (s : Sp) (K : List Pt) : Prop := (nodeG (htB l) (vtB l) (x, s.1) = true → (x, s.1) ∈ K) ∧ (nodeG (htB l) (vtB l) (x, s.2) = true → (x, s.2) ∈ K)
theorem DoneS.mono {l : List Sg} {y : Int} {s : Sp} {K K' : List Pt} (h : DoneS l y s K) (hk : ∀ p ∈ K, p ∈ K') : DoneS l y s K' := ⟨fun e => hk _ (h.1 e), fun e => hk _ (h.2.1 e), fun x a b c => hk _ (h.2.2 x a b c)⟩
theorem DoneC.mono {l : List Sg} {x : Int} {s : Sp} {K K' : List Pt} (h : DoneC l x s K) (hk : ∀ p ∈ K, p ∈ K') : DoneC l x s K' := ⟨fun e => hk _ (h.1 e), fun e => hk _ (h.2 e)⟩
/-- All nodes are found when all lines are done. -/
theorem all_found {l : List Sg} (hv : ∀ s ∈ l, okSg s) {K : List Pt} (h1 : ∀ y, ∀ s ∈ rowC l y, DoneS l y s K) (h2 : ∀ x, ∀ s ∈ colC l x, DoneC l x s K) (p : Pt) (hp : nodeG (htB l) (vtB l) p = true) : p ∈ K := by
  obtain ⟨x, y⟩ := p
  rcases (found_iff (rowC_ok hv) (x, y)).2 hp with ⟨⟨s, hs, e⟩, hn⟩ | ⟨s, hs, a, b, c⟩ | ⟨⟨s, hs, e⟩, hn⟩
  · rcases e with e | e
    · simp only at e
      subst e
      exact (h1 y s hs).1 hn
    · simp only at e
      subst e
      exact (h1 y s hs).2.1 hn
  · exact (h1 y s hs).2.2 x a b c
  · rcases e with e | e
    · simp only at e
      subst e
      exact (h2 x s hs).1 hn
    · simp only at e
      subst e
      exact (h2 x s hs).2 hn
theorem found_len {l : List Sg} (hv : ∀ s ∈ l, okSg s) {K : List Pt} (hn : K.Nodup) (hk : ∀ k ∈ K, nodeG (htB l) (vtB l) k = true) : K.length ≤ (nodesF l).length := nodup_len hn fun x hx => ((nodesF_ok hv).2 x).2 (hk x hx)
end Go.Proofs.YtdolpeljengpaaaGreat

/- slices.SortFunc at api.Point by street.compare, and at api.Edge by the closure of street.network. -/
namespace Go.Proofs.YtdolpeljengpaaaGreat
open Go.RowKit Go.Sort
set_option linter.unusedVariables false
set_option linter.unusedSimpArgs false

/-- A pair of numbers in range: there the comparison's subtraction does not wrap. -/
abbrev BPt := { p : Pt // bigP p }
instance : Inhabited BPt := ⟨⟨(0, 0), by unfold bigP; decide⟩⟩
def encBp (e : BPt) : List Value := encS e.1
def cfP (x y : BPt) : Int := if x.1.1 = y.1.1 then x.1.2 - y.1.2 else x.1.1 - y.1.1
theorem lift_bp : ∀ (E : List Pt), (∀ e ∈ E, bigP e) → ∃ L : List BPt, L.map (·.1) = E
  | [], _ => ⟨[], rfl⟩
  | e :: E, h => by
    obtain ⟨L, hL⟩ := lift_bp E fun x hx => h x (by simp [hx])
    exact ⟨⟨e, h e (by simp)⟩ :: L, by simp [hL]⟩
theorem flat_bp (L : List BPt) : L.flatMap encBp = (L.map (·.1)).flatMap encS := by
  rw [List.flatMap_map]; rfl
theorem cfP_lt (x y : BPt) : ltOf cfP x y = decide (ptLt x.1 y.1) := by
  unfold ltOf cfP
  rw [decide_eq_decide]
  unfold ptLt
  split <;> omega
theorem swoP : SWO (ltOf cfP) where
  irrefl x := by rw [cfP_lt]; exact decide_eq_false (ptLt_irrefl _)
  trans x y z h1 h2 := by
    rw [cfP_lt] at *
    exact decide_eq_true (ptLt_trans (of_decide_eq_true h1) (of_decide_eq_true h2))
  ntrans x y z h1 h2 := by
    rw [cfP_lt] at *
    have a := of_decide_eq_false h1
    have b := of_decide_eq_false h2
    refine decide_eq_false ?_
    unfold ptLt at *
    omega
set_option maxHeartbeats 1000000 in
theorem compare_any (a b c d : Int) (h1 : bigP (a, b)) (h2 : bigP (c, d)) (W : World) : Calls Tryz.prog 111 #[.agg #[.int .i64 a, .int .i64 b], .agg #[.int .i64 c, .int .i64 d]] W fun r w' => r = .returned (.int .i64 (if a = c then b - d else a - c)) ∧ ∃ os', w' = grow W os' := by
  obtain ⟨⟨x1, x2⟩, x3, x4⟩ := h1
  obtain ⟨⟨y1, y2⟩, y3, y4⟩ := h2
  simp only at x1 x2 x3 x4 y1 y2 y3 y4
  by_cases e : a = c
  · rw [if_pos e]
    have hq : (a != c) = false := by simp [e]
    clear e
    go_enter Tryz.func111, Tryz.ntmps111
    go_wp2
    go_ret
    exact ⟨rfl, _, by rw [alloc_eq_grow, alloc_eq_grow, grow_grow]⟩
  · rw [if_neg e]
    have hq : (a != c) = true := by simp [e]
    clear e
    go_enter Tryz.func111, Tryz.ntmps111
    go_wp2
    go_ret
    exact ⟨rfl, _, by rw [alloc_eq_grow, alloc_eq_grow, grow_grow]⟩
theorem cmpPt_any (x y : BPt) (W : World) : Calls Tryz.prog 111 #[.agg (encBp x).toArray, .agg (encBp y).toArray] W fun e w' => e = .returned (.int .i64 (cfP x y)) ∧ ∃ q os', w' = grow (W.drewN q) os' := by
  obtain ⟨⟨a, b⟩, hx⟩ := x
  obtain ⟨⟨c, d⟩, hy⟩ := y
  refine (compare_any a b c d hx hy W).mono ?_
  rintro e w' ⟨rfl, os, rfl⟩
  exact ⟨rfl, 0, os, rfl⟩
set_option maxHeartbeats 1000000 in
theorem cmpEd_any (x y : BPt) (W : World) : Calls Tryz.prog 110 #[.agg (encBp x).toArray, .agg (encBp y).toArray] W fun e w' => e = .returned (.int .i64 (cfP x y)) ∧ ∃ q os', w' = grow (W.drewN q) os' := by
  obtain ⟨⟨a, b⟩, hx⟩ := x
  obtain ⟨⟨c, d⟩, hy⟩ := y
  have HC := hide (compare_any a b c d hx hy)
  show Calls Tryz.prog 110 #[.agg #[.int .i64 a, .int .i64 b], .agg #[.int .i64 c, .int .i64 d]] W fun r w' => r = .returned (.int .i64 (if a = c then b - d else a - c)) ∧ ∃ q os', w' = grow (W.drewN q) os'
  clear hx hy
  generalize (if a = c then b - d else a - c) = R at *
  go_enter Tryz.func110, Tryz.ntmps110
  go_wp2_with (fail)
  refine (HC.out _).mono ?_
  rintro e w1 ⟨rfl, os, rfl⟩
  go_wp2_with (fail)
  go_ret
  exact ⟨rfl, 0, _, by rw [alloc_eq_grow, alloc_eq_grow, grow_grow, grow_grow]; rfl⟩
theorem sortPt_any (base : Nat) (v : Value) (E : List Pt) (hB : ∀ e ∈ E, bigP e) (w : World) (hown : w.ownsRow base 51 2 v E.length (E.flatMap encS)) (hsz : E.length < 4611686018427387904) :
    Calls Tryz.prog 160 #[v, .func (.func 111) #[] #[]] w fun e w' => e = .returned (.tuple #[]) ∧
      ∃ E' : List Pt, E'.Perm E ∧ E'.Pairwise (fun a b => ¬ ptLt b a) ∧ w'.ownsRow base 51 2 v E'.length (E'.flatMap encS) ∧ w.grownBy w' v.ownBlock := by
  by_cases h0 : E = []
  · subst h0
    obtain ⟨p, cap, hv⟩ : ∃ p cap, v = .slice p 0 cap := by
      rcases hown.2 with ⟨rfl, _⟩ | ⟨g, cap, cur, rfl, _⟩
      · exact ⟨_, _, rfl⟩
      · exact ⟨_, _, rfl⟩
    subst hv
    have h := AnyF.slices_SortFunc_none Tryz.sortPt p cap (.func (.func 111) #[] #[]) w
    change Calls Tryz.prog 160 _ _ _ at h
    refine h.mono ?_
    rintro e w' ⟨rfl, rfl⟩
    exact ⟨rfl, [], .refl _, .nil, hown, ⟨rfl, rfl, rfl, Nat.le_refl _, fun _ _ _ => rfl⟩⟩
  · obtain ⟨L, hL⟩ := lift_bp E hB
    have hlen : L.length = E.length := by rw [← hL]; simp
    have hown0 := hown
    rw [← hL, ← flat_bp, List.length_map] at hown
    obtain ⟨g, cap, rfl, hbg, hg⟩ := hown.form (by rw [hlen]; exact List.length_pos_iff.2 h0)
    have hk : ∀ x : BPt, (encBp x).length = 2 := fun _ => rfl
    have hcon := AnyQ.slices_SortFunc Tryz.sortPt 2 Tryz.isAgg51 Tryz.sizeOf51 encBp hk (fun x v hv => by simp [encBp, encS] at hv; rcases hv with rfl | rfl <;> rfl) cfP swoP 111 #[] g 0 cap L.toArray w
      (enters_of Tryz.func111 (by kernel_rfl) rfl) (fun _ _ _ _ x y => cmpPt_any x y _) (own_holds hk hown) hg (by simpa [hlen] using hsz)
    change Calls Tryz.prog 160 _ _ _ at hcon
    rw [List.size_toArray] at hcon
    refine hcon.mono ?_
    rintro e w' ⟨rfl, d', n, os, hp, hs, rfl⟩
    obtain ⟨hp1, _, hp3⟩ := hp
    have hsz' : d'.toList.length = L.length := by simpa using hp1
    have hperm : d'.toList.Perm L := by
      have e1 : (d'.extract 0 L.length).toList = d'.toList := by
        rw [Array.toList_extract, List.extract_eq_take_drop, List.drop_zero, Nat.sub_zero, ← hsz', List.take_length]
      have e2 : (L.toArray.extract 0 L.length).toList = L := by
        simp [List.extract]
      rw [e1, e2] at hp3
      exact hp3
    obtain ⟨o1, o2⟩ := own_sorted (n := n) (l' := d'.toList) hk os hown hsz'
    have eW : d'.toList.toArray = d' := by simp
    rw [eW] at o1 o2
    refine ⟨rfl, d'.toList.map (·.1), ?_, ?_, ?_, o2⟩
    · rw [← hL]; exact hperm.map _
    · rw [List.pairwise_map, List.pairwise_iff_getElem]
      intro i j hi hj hij
      have := hs i j (Nat.zero_le _) hij (by rw [← hsz']; exact hj)
      have hi' : i < d'.size := by simpa using hi
      have hj' : j < d'.size := by simpa using hj
      rw [getElem!_pos d' i hi', getElem!_pos d' j hj', cfP_lt] at this
      have := of_decide_eq_false this
      rw [Array.getElem_toList, Array.getElem_toList]
      exact this
    · rw [List.length_map, ← flat_bp, ← hsz']
      rw [hsz'] at o1 ⊢
      exact o1
theorem sortEd_any (base : Nat) (v : Value) (E : List Pt) (hB : ∀ e ∈ E, bigP e) (w : World) (hown : w.ownsRow base 109 2 v E.length (E.flatMap encS)) (hsz : E.length < 4611686018427387904) :
    Calls Tryz.prog 109 #[v, .func (.func 110) #[] #[]] w fun e w' => e = .returned (.tuple #[]) ∧
      ∃ E' : List Pt, E'.Perm E ∧ E'.Pairwise (fun a b => ¬ ptLt b a) ∧ w'.ownsRow base 109 2 v E'.length (E'.flatMap encS) ∧ w.grownBy w' v.ownBlock := by
  by_cases h0 : E = []
  · subst h0
    obtain ⟨p, cap, hv⟩ : ∃ p cap, v = .slice p 0 cap := by
      rcases hown.2 with ⟨rfl, _⟩ | ⟨g, cap, cur, rfl, _⟩
      · exact ⟨_, _, rfl⟩
      · exact ⟨_, _, rfl⟩
    subst hv
    have h := AnyF.slices_SortFunc_none Tryz.sortEd p cap (.func (.func 110) #[] #[]) w
    change Calls Tryz.prog 109 _ _ _ at h
    refine h.mono ?_
    rintro e w' ⟨rfl, rfl⟩
    exact ⟨rfl, [], .refl _, .nil, hown, ⟨rfl, rfl, rfl, Nat.le_refl _, fun _ _ _ => rfl⟩⟩
  · obtain ⟨L, hL⟩ := lift_bp E hB
    have hlen : L.length = E.length := by rw [← hL]; simp
    have hown0 := hown
    rw [← hL, ← flat_bp, List.length_map] at hown
    obtain ⟨g, cap, rfl, hbg, hg⟩ := hown.form (by rw [hlen]; exact List.length_pos_iff.2 h0)
    have hk : ∀ x : BPt, (encBp x).length = 2 := fun _ => rfl
    have hcon := AnyQ.slices_SortFunc Tryz.sortEd 2 Tryz.isAgg109 Tryz.sizeOf109 encBp hk (fun x v hv => by simp [encBp, encS] at hv; rcases hv with rfl | rfl <;> rfl) cfP swoP 110 #[] g 0 cap L.toArray w
      (enters_of Tryz.func110 (by kernel_rfl) rfl) (fun _ _ _ _ x y => cmpEd_any x y _) (own_holds hk hown) hg (by simpa [hlen] using hsz)
    change Calls Tryz.prog 109 _ _ _ at hcon
    rw [List.size_toArray] at hcon
    refine hcon.mono ?_
    rintro e w' ⟨rfl, d', n, os, hp, hs, rfl⟩
    obtain ⟨hp1, _, hp3⟩ := hp
    have hsz' : d'.toList.length = L.length := by simpa using hp1
    have hperm : d'.toList.Perm L := by
      have e1 : (d'.extract 0 L.length).toList = d'.toList := by
        rw [Array.toList_extract, List.extract_eq_take_drop, List.drop_zero, Nat.sub_zero, ← hsz', List.take_length]
      have e2 : (L.toArray.extract 0 L.length).toList = L := by
        simp [List.extract]
      rw [e1, e2] at hp3
      exact hp3
    obtain ⟨o1, o2⟩ := own_sorted (n := n) (l' := d'.toList) hk os hown hsz'
    have eW : d'.toList.toArray = d' := by simp
    rw [eW] at o1 o2
    refine ⟨rfl, d'.toList.map (·.1), ?_, ?_, ?_, o2⟩
    · rw [← hL]; exact hperm.map _
    · rw [List.pairwise_map, List.pairwise_iff_getElem]
      intro i j hi hj hij
      have := hs i j (Nat.zero_le _) hij (by rw [← hsz']; exact hj)
      have hi' : i < d'.size := by simpa using hi
      have hj' : j < d'.size := by simpa using hj
      rw [getElem!_pos d' i hi', getElem!_pos d' j hj', cfP_lt] at this
      have := of_decide_eq_false this
      rw [Array.getElem_toList, Array.getElem_toList]
      exact this
    · rw [List.length_map, ← flat_bp, ← hsz']
      rw [hsz'] at o1 ⊢
      exact o1
/-- A list that is a permutation of one without repetition, in order, is in strict order. -/
theorem strict_of {E E' : List Pt} (hp : E'.Perm E) (hn : E.Nodup) (hs : E'.Pairwise (fun a b => ¬ ptLt b a)) : E'.Pairwise ptLt := by
  have hn' : E'.Nodup := hp.nodup_iff.2 hn
  have h2 := hs.and hn'
  exact h2.imp fun {a b} h => by
    rcases ptLt_tri a b with h1 | h1 | h1
    · exact h1
    · exact absurd h1 h.2
    · exact absurd h1 h.1
end Go.Proofs.YtdolpeljengpaaaGreat

/- street.roads.nodes: the walk. -/
namespace Go.Proofs.YtdolpeljengpaaaGreat
open Go.RowKit Go.Maps
set_option linter.unusedVariables false
set_option linter.unusedSimpArgs false

theorem infoPt : (Tryz.prog.info? 51).map (fun i => (i.zero, i.size, i.bytes)) = some (some (.agg #[.int .i64 0, .int .i64 0]), 2, 16) := by kernel_rfl
theorem row_big {l : List Sg} (hv : ∀ s ∈ l, okSg s) {y : Int} {s : Sp} (hs : s ∈ rowC l y) : s.1 < s.2 ∧ (-1000000 ≤ s.1 ∧ s.2 ≤ 1000000) ∧ -1000000 ≤ y ∧ y ≤ 1000000 := by
  have L := rowC_ok hv
  have h0 := (L.rc y).1 s hs
  have h1 := (L.rm s.1 y).1 ⟨s, hs, Int.le_refl _, h0⟩
  have h2 := (L.rm (s.2 - 1) y).1 ⟨s, hs, by omega, by omega⟩
  obtain ⟨q, hq, _, e, e1, _⟩ := row_mem.1 h1
  obtain ⟨⟨⟨a1, a2⟩, ⟨a3, a4⟩, ⟨a5, a6⟩, a7, a8⟩, _⟩ := hv q hq
  obtain ⟨q2, hq2, _, _, _, e2⟩ := row_mem.1 h2
  obtain ⟨⟨⟨c1, c2⟩, ⟨c3, c4⟩, ⟨c5, c6⟩, c7, c8⟩, _⟩ := hv q2 hq2
  refine ⟨h0, ⟨?_, ?_⟩, ?_, ?_⟩ <;> omega
theorem col_big {l : List Sg} (hv : ∀ s ∈ l, okSg s) {x : Int} {s : Sp} (hs : s ∈ colC l x) : s.1 < s.2 ∧ (-1000000 ≤ s.1 ∧ s.2 ≤ 1000000) ∧ -1000000 ≤ x ∧ x ≤ 1000000 := by
  have L := rowC_ok hv
  have h0 := (L.cc x).1 s hs
  have h1 := (L.cm x s.1).1 ⟨s, hs, Int.le_refl _, h0⟩
  have h2 := (L.cm x (s.2 - 1)).1 ⟨s, hs, by omega, by omega⟩
  obtain ⟨q, hq, _, e, e1, _⟩ := col_mem.1 h1
  obtain ⟨⟨⟨a1, a2⟩, ⟨a3, a4⟩, ⟨a5, a6⟩, a7, a8⟩, _⟩ := hv q hq
  obtain ⟨q2, hq2, _, _, _, e2⟩ := col_mem.1 h2
  obtain ⟨⟨⟨c1, c2⟩, ⟨c3, c4⟩, ⟨c5, c6⟩, c7, c8⟩, _⟩ := hv q2 hq2
  refine ⟨h0, ⟨?_, ?_⟩, ?_, ?_⟩ <;> omega
/-- What is found by a try. -/
def tryK (l : List Sg) (K : List Pt) (p : Pt) : List Pt := if nodeG (htB l) (vtB l) p = true then addP K p else K
theorem try_sub (l : List Sg) (K : List Pt) (p : Pt) : ∀ q ∈ K, q ∈ tryK l K p := fun q hq => by
  unfold tryK
  split
  · exact mem_addP.2 (.inr hq)
  · exact hq
theorem try_in (l : List Sg) (K : List Pt) (p : Pt) (h : nodeG (htB l) (vtB l) p = true) : p ∈ tryK l K p := by
  unfold tryK
  rw [if_pos h]
  exact mem_addP.2 (.inl rfl)
theorem try_nd {l : List Sg} {K : List Pt} (h : ∀ k ∈ K, nodeG (htB l) (vtB l) k = true) (p : Pt) : ∀ k ∈ tryK l K p, nodeG (htB l) (vtB l) k = true := fun k hk => by
  unfold tryK at hk
  split at hk
  · rename_i hp
    rcases mem_addP.1 hk with rfl | hk
    · exact hp
    · exact h k hk
  · exact h k hk
theorem node_big {l : List Sg} (hv : ∀ s ∈ l, okSg s) {p : Pt} (h : nodeG (htB l) (vtB l) p = true) : bigP p := by
  obtain ⟨x, y⟩ := p
  obtain ⟨h1, h2, _⟩ := node_in hv h
  obtain ⟨s, hs, h1⟩ := List.mem_flatMap.1 h1
  obtain ⟨t, ht, h2⟩ := List.mem_flatMap.1 h2
  obtain ⟨⟨⟨a1, a2⟩, ⟨a3, a4⟩, ⟨a5, a6⟩, a7, a8⟩, _⟩ := hv s hs
  obtain ⟨⟨⟨c1, c2⟩, ⟨c3, c4⟩, ⟨c5, c6⟩, c7, c8⟩, _⟩ := hv t ht
  simp only [List.mem_cons, List.not_mem_nil, or_false] at h1 h2
  unfold bigP
  simp only
  omega
theorem Nst.try' {w0 wr : World} {h0 B b1 b2 : Nat} {K1 K2 : List Int} {v1 v2 : Int → Value} {l : List Sg} {K : List Pt} (h : Nst w0 wr h0 B b1 b2 K1 K2 v1 v2 l K) (F : Fix h0 B b1 b2 K1 K2 v1 v2) (hk : KeysUp K1 (rowSp l) ∧ KeysUp K2 (colSp l) ∧ B ≤ b1 ∧ B ≤ b2) (hv : ∀ s ∈ l, okSg s) (hl : l.length ≤ 800) (hs : (nodesF l).length ≤ 1000000) {x y : Int} (hp : bigP (x, y)) :
    Calls Tryz.prog 157 #[.agg #[.int .i64 x, .int .i64 y], .pointer (some ⟨h0, 0, none⟩), .pointer (some ⟨h0 + 1 + 1, 0, none⟩)] wr fun e w' => e = .returned (.tuple #[]) ∧ wr.grownBy w' (some (h0 + 1)) ∧ Nst w0 w' h0 B b1 b2 K1 K2 v1 v2 l (tryK l K (x, y)) := by
  have hlen := found_len hv h.fs.nd h.nd
  refine (try_any (h.roads hk.1 hk.2.1 hk.2.2.1 hk.2.2.2) hv hl hp h.c0 h.c1 h.c2 h.fs (by unfold maxLen; omega)).mono ?_
  rintro e w' ⟨rfl, hg, hf⟩
  exact ⟨rfl, hg, h.found F hg hf (try_nd h.nd (x, y))⟩
theorem nodes_small {l : List Sg} (hv : ∀ s ∈ l, okSg s) (hl : l.length ≤ 800) : (nodesF l).length ≤ 1000000 := by
  have h1 := nodes_len hv
  have h2 : l.length * l.length ≤ 800 * 800 := Nat.mul_le_mul hl hl
  omega
set_option maxRecDepth 100000 in
set_option maxHeartbeats 8000000 in
theorem nodes_any {w : World} {B b1 b2 : Nat} {K1 K2 : List Int} {v1 v2 : Int → Value} {l : List Sg} (m1 : Ms B b1 K1 (rowC l) v1 w) (m2 : Ms B b2 K2 (colC l) v2 w) (k1 : KeysUp K1 (rowSp l)) (k2 : KeysUp K2 (colSp l)) (e1 : B ≤ b1) (e2 : B ≤ b2) (hv : ∀ s ∈ l, okSg s) (hl : l.length ≤ 800) :
    Calls Tryz.prog 107 #[.agg #[.map (some b1), .map (some b2)]] w fun e w' => (∃ A c L ok, e = .returned (.tuple #[.slice A L.length c, .bool ok]) ∧ w'.ownsRow w.heap.size 51 2 (.slice A L.length c) L.length (L.flatMap encS) ∧ (((nodesF l).length ≤ 400 ∧ ok = true ∧ L = nodesF l) ∨ (400 < (nodesF l).length ∧ ok = false))) ∧ Below w.heap.size w w' := by
  have FX : Hid (Fix w.heap.size B b1 b2 K1 K2 v1 v2) := hide ⟨m1.bM_lt, m2.bM_lt, fun k hk q hq => ((m1.mv.vs k hk).lt q hq).2, fun k hk q hq => ((m2.mv.vs k hk).lt q hq).2⟩
  have HV := hide hv
  have HKK := hide (And.intro k1 (And.intro k2 (And.intro e1 e2)))
  have HM := hide (And.intro m1 m2)
  have HLN := hide (nodes_small hv hl)
  have HFL := hide (fun (K : List Pt) (hn : K.Nodup) (hk : ∀ k ∈ K, nodeG (htB l) (vtB l) k = true) => found_len hv hn hk)
  have hmm := @run_makeMap Tryz.prog
  clear hv k1 k2 e1 e2 m1 m2
  go_enter Tryz.func107, Tryz.ntmps107
  go_upto_region 3 with fail
  refine wp_name fun w0 hw0 => ?_
  clear hmm
  have hb0 : Below w.heap.size w w0 := by
    rw [hw0]
    repeat (first | with_reducible exact Below.refl _ _ | with_reducible refine Below.setCell ?_ (by first | (simp; done) | (simp; omega)) _ | with_reducible refine Below.alloc ?_ (by first | omega | (simp; omega) | simp) _)
  have HN0 : Hid (Nst w w0 w.heap.size B b1 b2 K1 K2 v1 v2 l []) := hide (by
    have e3 : (w.alloc (.cells #[.map (some b1), .map (some b2)] 163)).heap.size = w.heap.size + 1 := by simp
    have f1 := Fs.made (w.alloc (.cells #[.map (some b1), .map (some b2)] 163))
    rw [e3] at f1
    refine ⟨?_, ?_, ?_, ?_, HM.out.1.below hb0, HM.out.2.below hb0, hb0, ?_, fun k hk => (List.not_mem_nil hk).elim⟩
    · rw [hw0]; simp [go_sem]
    · rw [hw0]; simp [go_sem]
    · rw [hw0]; simp [go_sem]
    · rw [hw0]
      exact f1.below ((Below.refl _ _).alloc (Nat.le_refl _) _)
    · rw [hw0]; simp)
  clear hw0 hb0
  have z0 := HN0.out.c0
  have z1 := HN0.out.c1
  go_wp2_with (at_range; refine wpList_range_ms rfl _ rfl rfl HN0.out.m1 ?_; intro w4 left hmr hleft hgr hs4)
  clear z0 z1
  go_frame
  obtain ⟨r1, hr1⟩ : ∃ r, w0.heap.size = r := ⟨_, rfl⟩
  rw [hr1] at hmr ⊢
  have hr3 : w.heap.size + 3 ≤ r1 := by rw [← hr1]; exact HN0.out.sz
  have HN4 := hide (HN0.out.grown FX.out hgr (fun q hq => by cases hq))
  have HMR := hide hmr
  have HLF := hide hleft
  clear hmr hleft hgr hs4 hr1 HN0
  go_loopw [6] (fun _ wr => ∃ left cnt, Hid (∃ K, Nst w wr w.heap.size B b1 b2 K1 K2 v1 v2 l K ∧ Mr B b1 r1 K1 (rowC l) v1 left cnt wr ∧ ∀ y ∈ K1, left (.int .i64 y) = false → ∀ s ∈ rowC l y, DoneS l y s K)) (fun _ wr => wr.rangeLeft b1 r1)
  case atStart => exact ⟨left, _, hide ⟨[], HN4.out, HMR.out, fun y hy hf => by rw [HLF.out y hy] at hf; cases hf⟩⟩
  case round =>
    clear HMR HLF HN4
    obtain ⟨left, cnt, HH⟩ := hrel
    obtain ⟨K, hn, hmr, hdone⟩ := HH.out
    have HN := hide hn
    have HMR := hide hmr
    have HDN := hide hdone
    have HLE : Hid (wr.rangeLeft b1 r1 = cnt) := hide (by obtain ⟨D, d, _⟩ := hmr.map; exact d.left_eq)
    clear hn hmr hdone HH
    go_wp2_with (at_next; refine wpList_next_ms rfl _ rfl rfl HMR.out ?_ ?_)
    · intro _ hl0
      have HROW : Hid (∀ y, ∀ s ∈ rowC l y, DoneS l y s K) := hide (fun y s hs => by
        by_cases hy : y ∈ K1
        · exact HDN.out y hy (hl0 _) s hs
        · have e : rowSp l y = [] := Classical.byContradiction fun h => hy (HKK.out.1 y h)
          unfold rowC at hs
          rw [e] at hs
          exact absurd hs (by simp [show sjoin hFst [] [] = [] from rfl]))
      clear HDN hl0 HMR HLE
      have z1 := HN.out.c1
      go_wp2_with (at_range; refine wpList_range_ms rfl _ rfl rfl HN.out.m2 ?_; intro w21 left3 hmr3 hleft3 hgr hs4)
      clear z1
      go_frame
      obtain ⟨r3, hr3e⟩ : ∃ r, wr.heap.size = r := ⟨_, rfl⟩
      rw [hr3e] at hmr3 ⊢
      have hr3a : w.heap.size + 3 ≤ r3 := by rw [← hr3e]; exact HN.out.sz
      have HN21 := hide (HN.out.grown FX.out hgr (fun q hq => by cases hq))
      have HMC21 := hide hmr3
      have HLF3 := hide hleft3
      clear hmr3 hleft3 hgr hs4 hr3e HN
      go_loopw [12] (fun _ wr => ∃ left3 cnt3, Hid (∃ K', Nst w wr w.heap.size B b1 b2 K1 K2 v1 v2 l K' ∧ Mr B b2 r3 K2 (colC l) v2 left3 cnt3 wr ∧ (∀ p ∈ K, p ∈ K') ∧ ∀ x ∈ K2, left3 (.int .i64 x) = false → ∀ s ∈ colC l x, DoneC l x s K')) (fun _ wr => wr.rangeLeft b2 r3)
      case atStart => exact ⟨left3, _, hide ⟨K, HN21.out, HMC21.out, fun p h => h, fun x hx hf => by rw [HLF3.out x hx] at hf; cases hf⟩⟩
      case round =>
        clear HN21 HMC21 HLF3
        obtain ⟨left3, cnt3, HH⟩ := hrel
        obtain ⟨KA, hn, hmc, hsub, hdn⟩ := HH.out
        have HN := hide hn
        have HMC := hide hmc
        have HSU := hide hsub
        have HDA := hide hdn
        have HLA : Hid (wr.rangeLeft b2 r3 = cnt3) := hide (by obtain ⟨D, d, _⟩ := hmc.map; exact d.left_eq)
        clear hn hmc hsub hdn HH
        go_wp2_with (at_next; refine wpList_next_ms rfl _ rfl rfl HMC.out ?_ ?_)
        · intro _ hl0
          have HALLN : Hid (∀ p, nodeG (htB l) (vtB l) p = true → p ∈ KA) := hide (all_found HV.out (fun y s hs => (HROW.out y s hs).mono HSU.out) (fun x s hs => by
            by_cases hx : x ∈ K2
            · exact HDA.out x hx (hl0 _) s hs
            · have e : colSp l x = [] := Classical.byContradiction fun h => hx (HKK.out.2.1 x h)
              unfold colC at hs
              rw [e] at hs
              exact absurd hs (by simp [show sjoin hFst [] [] = [] from rfl])))
          clear HDA hl0 HMC HLA HSU HROW
          have z2 := HN.out.c2
          go_wp2_with (at_range; refine wpList_range_fs rfl _ rfl rfl HN.out.fs ?_; intro w31 left4 hfr hleft4 hgr hs4)
          clear z2
          go_frame
          obtain ⟨r4, hr4e⟩ : ∃ r, wr.heap.size = r := ⟨_, rfl⟩
          rw [hr4e] at hfr ⊢
          have hr4a : w.heap.size + 3 ≤ r4 := by rw [← hr4e]; exact HN.out.sz
          have hr4b : r4 < w31.heap.size := by rw [hs4]; omega
          have HB31 := hide (HN.out.low.grown hgr (by have := HN.out.sz; omega) (fun q hq => by cases hq))
          have HKN := hide (And.intro HN.out.fs.nd HN.out.nd)
          have HFR := hide hfr
          have HLF4 := hide hleft4
          clear hfr hleft4 hgr hs4 hr4e HN
          go_loopw [16] (fun o wr => ∃ (left4 : Lit → Bool) (cnt4 : Nat) (A : Option Addr) (c : Nat) (out : List Pt), o = .slice A out.length c ∧ Hid (wr.ownsRow (r4 + 1) 51 2 (.slice A out.length c) out.length (out.flatMap encS)) ∧ Hid (Fr (w.heap.size + 1) r4 KA left4 cnt4 wr) ∧ Hid (Below w.heap.size w wr ∧ r4 < wr.heap.size) ∧ Hid (out.Nodup ∧ ∀ p, p ∈ out ↔ p ∈ KA ∧ left4 (kP p) = false)) (fun _ wr => wr.rangeLeft (w.heap.size + 1) r4)
          case atStart => exact ⟨left4, _, none, 0, [], rfl, hide (World.ownsRow_nil _ _ _ _), HFR, hide ⟨HB31.out, hr4b⟩, hide ⟨by simp, fun p => ⟨fun h => (List.not_mem_nil h).elim, fun ⟨h1, h2⟩ => by rw [HLF4.out p h1] at h2; cases h2⟩⟩⟩
          case round =>
            clear HFR HB31 HLF4 hr4b
            obtain ⟨left4, cnt4, A4, c4, out, rfl, HO, HFR, HBB, HOUT⟩ := hrel
            have HLB : Hid (wr.rangeLeft (w.heap.size + 1) r4 = cnt4) := hide (by obtain ⟨D, d, _⟩ := HFR.out.map; exact d.left_eq)
            have hon : out.length ≤ 1000000 := by
              have h1 := nodup_len HOUT.out.1 (m := KA) (fun p hp => ((HOUT.out.2 p).1 hp).1)
              have h2 := HFL.out KA HKN.out.1 HKN.out.2
              have := HLN.out
              omega
            go_wp2_with (at_next; refine wpList_next_fs rfl _ rfl rfl HFR.out ?_ ?_)
            · intro _ hl0
              have hmem : ∀ p, p ∈ out ↔ nodeG (htB l) (vtB l) p = true := fun p => by
                rw [HOUT.out.2 p]
                exact ⟨fun h => HKN.out.2 p h.1, fun h => ⟨HALLN.out p h, hl0 _⟩⟩
              have HMM := hide hmem
              have HND := hide HOUT.out.1
              clear hmem hl0 HLB HFR HOUT
              go_wp2_with (fail)
              refine (sortPt_any (r4 + 1) _ out (fun p hp => node_big HV.out ((HMM.out p).1 hp)) _ HO.out (by omega)).mono ?_
              rintro e w40 ⟨rfl, E', hp, hs, ho, hg⟩
              have hE : E' = nodesF l := sorted_ext ptLt_irrefl (fun _ _ _ => ptLt_trans) (strict_of hp HND.out hs) (nodesF_ok HV.out).1 fun p => by rw [hp.mem_iff, HMM.out, (nodesF_ok HV.out).2]
              have hlen := hp.length_eq
              have hlow := HBB.out.1.grown hg (Nat.le_trans (by omega) (Nat.le_of_lt HBB.out.2)) (fun q hq => by have := (HO.out.lt q hq).1; omega)
              subst hE
              have HOO := hide ho
              have HLW := hide hlow
              clear hp hs ho hg hlow
              rw [← hlen] at HO ⊢
              rw [← hlen] at HOO
              clear hlen hon
              by_cases h4 : (nodesF l).length ≤ 400
              · have h4z : decide (((nodesF l).length : Int) ≤ 400) = true := decide_eq_true (by omega)
                go_wp2
                go_ret2
                exact ⟨⟨A4, c4, nodesF l, true, rfl, own_base HOO.out (by omega), .inl ⟨h4, rfl, rfl⟩⟩, HLW.out⟩
              · have h4z : decide (((nodesF l).length : Int) ≤ 400) = false := decide_eq_false (by omega)
                go_wp2
                go_ret2
                exact ⟨⟨A4, c4, nodesF l, false, rfl, own_base HOO.out (by omega), .inr ⟨by omega, rfl⟩⟩, HLW.out⟩
            · intro px py cb w5 cnt5 hx hlx hfr5 hlt5 hg5 hs5 hen
              have hen2 : (Instr.entry (.pointer (some ⟨r4, 0, none⟩))).run Tryz.prog w5 = .ok (.tuple #[.agg #[.int .i64 px, .int .i64 py], cb]) w5 := hen
              rw [show vP (px, py) = .agg #[.int .i64 px, .int .i64 py] from rfl]
              have HFR5 := hide hfr5
              have HLT := hide hlt5
              have hO5 := HO.out.kept hg5 (by
                rcases hb : (Value.slice A4 out.length c4).ownBlock with _ | q
                · exact .inl rfl
                · right
                  intro e
                  have h1 := (HO.out.lt q hb).1
                  have h2 : q = r4 := by simpa using e
                  omega)
              have HO5 := hide hO5
              have HB5 : Hid (Below w.heap.size w w5 ∧ r4 < w5.heap.size) := hide ⟨HBB.out.1.grown hg5 (Nat.le_trans (by omega) (Nat.le_of_lt HBB.out.2)) (fun q hq => by injection hq with hq; omega), by rw [hs5]; exact HBB.out.2⟩
              have HIN := hide (And.intro hx hlx)
              clear hen hfr5 hlt5 hg5 hs5 hx hlx hO5 HO HFR HBB
              obtain ⟨i2, fi, fz0, fz1, fz2⟩ := info_parts infoPt
              have h5a := HB5.out.2
              go_wp2_with (at_builtin; go_loud (refine wpList_append_lies _ rfl (.tmp 116) (.tmp 118) 22 rfl (r4 + 1) 51 i2 (.agg #[.int .i64 0, .int .i64 0]) 2 16 Tryz.underlying22 fi fz0 fz1 fz2 rfl (by decide) _ out.length _ rfl (World.ownsRow.alloc (World.ownsRow.alloc HO5.out _) _) ⟨w5.heap.size + 1, 0, none⟩ 1 1 [.int .i64 px, .int .i64 py] rfl rfl (news_new (w5.alloc (.cells #[.int .i64 px, .int .i64 py] 51)) _ _ _ (by simp)) (ints_one rfl) (by omega) (by unfold maxLen; omega) (by omega) (by simp; omega) _ rfl ?_))
              intro g9 cap9 w9 hown9 hgrow9 hor9 hlt9
              have hx9 : out.flatMap encS ++ [.int .i64 px, .int .i64 py] = (out ++ [(px, py)]).flatMap encS := by simp [encS]
              rw [hx9] at hown9
              have hO9 : w9.ownsRow (r4 + 1) 51 2 (.slice (some ⟨g9, 0, none⟩) (out ++ [(px, py)]).length cap9) (out ++ [(px, py)]).length ((out ++ [(px, py)]).flatMap encS) := by
                rw [List.length_append, List.length_singleton]
                exact hown9
              have HO9 := hide hO9
              have hrow : ∀ q, (Value.slice A4 out.length c4).ownBlock = some q → r4 + 1 ≤ q := fun q hq => (HO5.out.lt q hq).1
              have hal : Below w5.heap.size w5 ((w5.alloc (.cells #[.int .i64 px, .int .i64 py] 51)).alloc (.cells #[.int .i64 px, .int .i64 py] 51)) := ((Below.refl _ _).alloc (Nat.le_refl _) _).alloc (by simp) _
              have HFR9 := hide ((HFR5.out.grown (below_grow hal) (by simp) (by simp)).grown hgrow9 (fun e => by have := hrow _ e.symm; omega) (fun e => by have := hrow _ e.symm; omega))
              have HB9 : Hid (Below w.heap.size w w9 ∧ r4 < w9.heap.size) := hide ⟨(HB5.out.1.trans (hal.mono (by omega))).grown hgrow9 (by simp; omega) (fun q hq => by have := hrow q hq; omega), Nat.lt_of_lt_of_le HB5.out.2 (Nat.le_trans hal.size hgrow9.size)⟩
              have HL9 : Hid (w9.rangeLeft (w.heap.size + 1) r4 = cnt5) := hide (by obtain ⟨D, d, _⟩ := HFR9.out.map; exact d.left_eq)
              have HOUT9 : Hid ((out ++ [(px, py)]).Nodup ∧ ∀ p, p ∈ out ++ [(px, py)] ↔ p ∈ KA ∧ (left4 (kP p) && !(kP p).sameKey (kP (px, py))) = false) := hide (by
                have hbx := HFR5.out.rng _ HIN.out.1
                refine ⟨?_, fun p => ?_⟩
                · rw [List.nodup_append]
                  refine ⟨HOUT.out.1, by simp, fun a ha b hb e => ?_⟩
                  rw [List.mem_singleton] at hb
                  subst hb; subst e
                  have := ((HOUT.out.2 _).1 ha).2
                  rw [HIN.out.2] at this
                  cases this
                · rw [List.mem_append, List.mem_singleton, HOUT.out.2]
                  constructor
                  · rintro (⟨h1, h2⟩ | rfl)
                    · exact ⟨h1, by rw [h2]; rfl⟩
                    · exact ⟨HIN.out.1, by rw [kP_same hbx hbx]; simp⟩
                  · rintro ⟨h1, h2⟩
                    rw [kP_same (HFR5.out.rng _ h1) hbx] at h2
                    by_cases e : p = (px, py)
                    · exact .inr e
                    · left
                      refine ⟨h1, ?_⟩
                      rw [decide_eq_false e] at h2
                      simpa using h2)
              clear hown9 hgrow9 hor9 hlt9 hx9 hO9 hrow hal HFR5 HB5 HO5 h5a HOUT
              go_wp2
              clear hen2
              go_roundw
              case rel => exact ⟨_, cnt5, _, cap9, out ++ [(px, py)], by rw [List.length_append]; rfl, HO9, HFR9, HB9, HOUT9⟩
              case measure => rw [HL9.out, HLB.out]; exact HLT.out
        · intro x w5 cnt5 hx hlx hmc5 hlt5 hg5 hs5 hen
          have HN5 := hide (HN.out.grown FX.out hg5 (fun q hq => by injection hq with hq; omega))
          have HMC5 := hide hmc5
          have hrd := own_rd (HM.out.2.mv.vs x hx) (fun _ => rfl)
          obtain ⟨Ax, cx, hvx⟩ := own_form (HM.out.2.mv.vs x hx)
          rw [hvx] at hen hrd ⊢
          obtain ⟨_, cc, hsl, hcc⟩ := hrd
          injection hsl with q1 _ q3
          subst q1
          subst q3
          have HCC := hide hcc
          have HBG := hide (fun s (hs : s ∈ colC l x) => col_big HV.out hs)
          have hnl : (colC l x).length ≤ 1600 := by have := colC_len l x; omega
          obtain ⟨SX, hSX⟩ : ∃ S, colC l x = S := ⟨_, rfl⟩
          have HDS : Hid (∀ (K' : List Pt), (∀ p ∈ KA, p ∈ K') → (∀ s ∈ SX, DoneC l x s K') → ∀ x' ∈ K2, (left3 (.int .i64 x') && !(Lit.int .i64 x').sameKey (.int .i64 x)) = false → ∀ s ∈ colC l x', DoneC l x' s K') := hide (fun K' hk hd x' hx' hf s hs => by
            by_cases e : x' = x
            · subst e
              rw [hSX] at hs
              exact hd s hs
            · rw [show (Lit.int .i64 x').sameKey (.int .i64 x) = false by simp [Lit.sameKey, e]] at hf
              exact (HDA.out x' hx' (by simpa using hf) s hs).mono hk)
          rw [hSX] at HCC HBG hnl hen ⊢
          clear hmc5 hcc hvx hg5 hs5 hx hlx HN HMC HDA hSX
          have HLT : Hid (cnt5 < cnt3) := hide hlt5
          clear hlt5
          go_wp2
          clear hen
          go_loopw [93] (fun j wr => ∃ m : Nat, m ≤ SX.length ∧ j = .int .i64 m ∧ Hid (∃ K', Nst w wr w.heap.size B b1 b2 K1 K2 v1 v2 l K' ∧ Mr B b2 r3 K2 (colC l) v2 (fun z => left3 z && !z.sameKey (.int .i64 x)) cnt5 wr ∧ (∀ p ∈ KA, p ∈ K') ∧ ∀ i s, i < m → SX[i]? = some s → DoneC l x s K')) (fun j _ => SX.length - (intOf j).toNat)
          case atStart => exact ⟨0, Nat.zero_le _, rfl, hide ⟨KA, HN5.out, HMC5.out, fun p h => h, fun i s h => by omega⟩⟩
          case round =>
            clear HN5 HMC5
            obtain ⟨m, hm, rfl, HH⟩ := hrel
            obtain ⟨K6, hn, hmr, hsub, hdn⟩ := HH.out
            have HN := hide hn
            have HMR := hide hmr
            have HSUB := hide hsub
            have HDN := hide hdn
            clear hn hmr hsub hdn HH
            by_cases hlt : m < SX.length
            · obtain ⟨⟨sl, sh⟩, hs⟩ : ∃ p, SX[m]? = some p := ⟨_, List.getElem?_eq_getElem hlt⟩
              obtain ⟨ba, oa, rfl, hbl, kk⟩ := HCC.out (by intro e; rw [e] at hlt; simp at hlt)
              have d0 : wr.cell? ⟨ba, oa + m * 2, none⟩ = some (.int .i64 sl) := (HN.out.low.cell (p := ⟨ba, _, none⟩) hbl).trans (kk m _ hs 0 _ rfl)
              have d1 : wr.cell? ⟨ba, oa + m * 2 + 1, none⟩ = some (.int .i64 sh) := (HN.out.low.cell (p := ⟨ba, _, none⟩) hbl).trans (kk m _ hs 1 _ rfl)
              obtain ⟨g1, ⟨g2, g3⟩, g4, g5⟩ := HBG.out _ (List.mem_of_getElem? hs)
              simp only at g1 g2 g3
              have HS := hide hs
              have mz : (m : Int) < (SX.length : Int) := by omega
              clear kk hs
              go_upto_region 25 with fail
              refine wp_name fun w8 hw8 => ?_
              obtain ⟨g9, hg9⟩ : ∃ g, g = wr.heap.size := ⟨_, rfl⟩
              have hb8 : Below wr.heap.size wr w8 := by
                rw [hw8]
                repeat (first | with_reducible exact Below.refl _ _ | with_reducible refine Below.setCell ?_ (by first | (simp; done) | (simp; omega)) _ | with_reducible refine Below.alloc ?_ (by first | omega | (simp; omega) | simp) _)
              have s0 : w8.cell? ⟨g9, 0, none⟩ = some (.int .i64 sl) := by rw [hw8, hg9]; simp [go_sem]
              have s1 : w8.cell? ⟨g9, 1, none⟩ = some (.int .i64 sh) := by rw [hw8, hg9]; simp [go_sem]
              have hlt9 : g9 < w8.heap.size := by rw [hw8, hg9]; simp
              have hge9 : w.heap.size + 3 ≤ g9 := by rw [hg9]; exact HN.out.sz
              have HN8 := hide (HN.out.below FX.out hb8)
              have HMR8 := hide (HMR.out.below hb8)
              rw [← hg9]
              clear hw8 hb8 hg9 d0 d1 HN HMR
              go_wp2_with (fail)
              refine (HN8.out.try' FX.out HKK.out HV.out hl HLN.out (by unfold bigP; simp only; omega)).mono ?_
              rintro e w9 ⟨rfl, hg, hn9⟩
              have HN9 := hide hn9
              have HMR9 := hide (HMR8.out.keep FX.out.g2 FX.out.r2 hg (fun q hq => by injection hq with hq; omega))
              replace s0 := (cell_grow hg hlt9 (fun e => by injection e with e; omega)).trans s0
              replace s1 := (cell_grow hg hlt9 (fun e => by injection e with e; omega)).trans s1
              replace hlt9 := Nat.lt_of_lt_of_le hlt9 hg.size
              clear hn9 hg HN8 HMR8
              go_wp2_with (fail)
              refine (HN9.out.try' FX.out HKK.out HV.out hl HLN.out (by unfold bigP; simp only; omega)).mono ?_
              rintro e w10 ⟨rfl, hg, hn10⟩
              have HMR10 := hide (HMR9.out.keep FX.out.g2 FX.out.r2 hg (fun q hq => by injection hq with hq; omega))
              have HT1 : Hid (∀ p ∈ K6, p ∈ tryK l (tryK l K6 (x, sl)) (x, sh)) := hide (fun p hp => try_sub _ _ _ _ (try_sub _ _ _ _ hp))
              have HT2 : Hid (DoneC l x (sl, sh) (tryK l (tryK l K6 (x, sl)) (x, sh))) := hide ⟨fun h => try_sub _ _ _ _ (try_in _ _ _ h), fun h => try_in _ _ _ h⟩
              generalize tryK l (tryK l K6 (x, sl)) (x, sh) = K7 at *
              have HN10 := hide hn10
              clear hn10 hg HN9 HMR9 s0 s1 hlt9
              go_wp2_with (fail)
              go_roundw
              case rel =>
                refine ⟨m + 1, by omega, by go_num, hide ⟨K7, HN10.out, HMR10.out, fun p hp => HT1.out _ (HSUB.out _ hp), fun i s hi hs => ?_⟩⟩
                by_cases e : i = m
                · subst e
                  rw [HS.out] at hs
                  obtain rfl := Option.some.inj hs
                  exact HT2.out
                · exact (HDN.out i s (by omega) hs).mono HT1.out
              case measure => simp [intOf]; omega
            · obtain rfl : m = SX.length := by omega
              have HALL : Hid (∀ s ∈ SX, DoneC l x s K6) := hide (fun s hs => by
                obtain ⟨i, hi, rfl⟩ := List.getElem_of_mem hs
                exact HDN.out i _ hi (List.getElem?_eq_getElem hi))
              have HL7 : Hid (wr.rangeLeft b2 r3 = cnt5) := hide (by obtain ⟨D, d, _⟩ := HMR.out.map; exact d.left_eq)
              go_wp2
              go_roundw
              case rel => exact ⟨_, cnt5, hide ⟨K6, HN.out, HMR.out, fun p hp => HSUB.out _ (HSU.out _ hp), HDS.out K6 HSUB.out HALL.out⟩⟩
              case measure => rw [HL7.out, HLA.out]; exact HLT.out
    · intro y w5 cnt5 hy hly hmr5 hlt5 hg5 hs5 hen
      have HN5 := hide (HN.out.grown FX.out hg5 (fun q hq => by injection hq with hq; omega))
      have HMR5 := hide hmr5
      have HY := hide hy
      have hrd := own_rd (HM.out.1.mv.vs y hy) (fun _ => rfl)
      obtain ⟨Ay, cy, hvy⟩ := own_form (HM.out.1.mv.vs y hy)
      rw [hvy] at hen hrd ⊢
      obtain ⟨_, cc, hsl, hcc⟩ := hrd
      injection hsl with q1 _ q3
      subst q1
      subst q3
      have HCC := hide hcc
      have HBG := hide (fun s (hs : s ∈ rowC l y) => row_big HV.out hs)
      have hnl : (rowC l y).length ≤ 1600 := by have := rowC_len l y; omega
      obtain ⟨SY, hSY⟩ : ∃ S, rowC l y = S := ⟨_, rfl⟩
      have HDS : Hid (∀ (K' : List Pt), (∀ p ∈ K, p ∈ K') → (∀ s ∈ SY, DoneS l y s K') → ∀ y' ∈ K1, (left (.int .i64 y') && !(Lit.int .i64 y').sameKey (.int .i64 y)) = false → ∀ s ∈ rowC l y', DoneS l y' s K') := hide (fun K' hk hd y' hy' hf s hs => by
        by_cases e : y' = y
        · subst e
          rw [hSY] at hs
          exact hd s hs
        · rw [show (Lit.int .i64 y').sameKey (.int .i64 y) = false by simp [Lit.sameKey, e]] at hf
          exact (HDN.out y' hy' (by simpa using hf) s hs).mono hk)
      rw [hSY] at HCC HBG hnl hen ⊢
      have HSE : Hid (SY = rowC l y) := hide hSY.symm
      clear hmr5 hcc hvy hg5 hs5 hy hly HN HMR HDN hSY
      have HLT : Hid (cnt5 < cnt) := hide hlt5
      clear hlt5
      go_wp2
      clear hen
      go_loopw [30] (fun j wr => ∃ m : Nat, m ≤ SY.length ∧ j = .int .i64 m ∧ Hid (∃ K', Nst w wr w.heap.size B b1 b2 K1 K2 v1 v2 l K' ∧ Mr B b1 r1 K1 (rowC l) v1 (fun z => left z && !z.sameKey (.int .i64 y)) cnt5 wr ∧ (∀ p ∈ K, p ∈ K') ∧ ∀ i s, i < m → SY[i]? = some s → DoneS l y s K')) (fun j _ => SY.length - (intOf j).toNat)
      case atStart => exact ⟨0, Nat.zero_le _, rfl, hide ⟨K, HN5.out, HMR5.out, fun p h => h, fun i s h => by omega⟩⟩
      case round =>
        clear HN5 HMR5
        obtain ⟨m, hm, rfl, HH⟩ := hrel
        obtain ⟨K6, hn, hmr, hsub, hdn⟩ := HH.out
        have HN := hide hn
        have HMR := hide hmr
        have HSUB := hide hsub
        have HDN := hide hdn
        clear hn hmr hsub hdn HH
        by_cases hlt : m < SY.length
        · obtain ⟨⟨sl, sh⟩, hs⟩ : ∃ p, SY[m]? = some p := ⟨_, List.getElem?_eq_getElem hlt⟩
          obtain ⟨ba, oa, rfl, hbl, kk⟩ := HCC.out (by intro e; rw [e] at hlt; simp at hlt)
          have d0 : wr.cell? ⟨ba, oa + m * 2, none⟩ = some (.int .i64 sl) := (HN.out.low.cell (p := ⟨ba, _, none⟩) hbl).trans (kk m _ hs 0 _ rfl)
          have d1 : wr.cell? ⟨ba, oa + m * 2 + 1, none⟩ = some (.int .i64 sh) := (HN.out.low.cell (p := ⟨ba, _, none⟩) hbl).trans (kk m _ hs 1 _ rfl)
          obtain ⟨g1, ⟨g2, g3⟩, g4, g5⟩ := HBG.out _ (List.mem_of_getElem? hs)
          simp only at g1 g2 g3
          have HS := hide hs
          have HSM : Hid ((sl, sh) ∈ rowC l y) := hide (HSE.out ▸ List.mem_of_getElem? hs)
          have mz : (m : Int) < (SY.length : Int) := by omega
          clear kk hs
          go_upto_region 9 with fail
          refine wp_name fun w8 hw8 => ?_
          obtain ⟨g9, hg9⟩ : ∃ g, g = wr.heap.size := ⟨_, rfl⟩
          have hb8 : Below wr.heap.size wr w8 := by
            rw [hw8]
            repeat (first | with_reducible exact Below.refl _ _ | with_reducible refine Below.setCell ?_ (by first | (simp; done) | (simp; omega)) _ | with_reducible refine Below.alloc ?_ (by first | omega | (simp; omega) | simp) _)
          have s0 : w8.cell? ⟨g9, 0, none⟩ = some (.int .i64 sl) := by rw [hw8, hg9]; simp [go_sem]
          have s1 : w8.cell? ⟨g9, 1, none⟩ = some (.int .i64 sh) := by rw [hw8, hg9]; simp [go_sem]
          have hlt9 : g9 < w8.heap.size := by rw [hw8, hg9]; simp
          have hge9 : w.heap.size + 3 ≤ g9 := by rw [hg9]; exact HN.out.sz
          have HN8 := hide (HN.out.below FX.out hb8)
          have HMR8 := hide (HMR.out.below hb8)
          rw [← hg9]
          clear hw8 hb8 hg9 d0 d1 HN HMR
          go_wp2_with (fail)
          refine (HN8.out.try' FX.out HKK.out HV.out hl HLN.out (by unfold bigP; simp only; omega)).mono ?_
          rintro e w9 ⟨rfl, hg, hn9⟩
          have HN9 := hide hn9
          have HMR9 := hide (HMR8.out.keep FX.out.g1 FX.out.r1 hg (fun q hq => by injection hq with hq; omega))
          replace s0 := (cell_grow hg hlt9 (fun e => by injection e with e; omega)).trans s0
          replace s1 := (cell_grow hg hlt9 (fun e => by injection e with e; omega)).trans s1
          replace hlt9 := Nat.lt_of_lt_of_le hlt9 hg.size
          clear hn9 hg HN8 HMR8
          go_wp2_with (fail)
          refine (HN9.out.try' FX.out HKK.out HV.out hl HLN.out (by unfold bigP; simp only; omega)).mono ?_
          rintro e w10 ⟨rfl, hg, hn10⟩
          have HMR10 := hide (HMR9.out.keep FX.out.g1 FX.out.r1 hg (fun q hq => by injection hq with hq; omega))
          replace s0 := (cell_grow hg hlt9 (fun e => by injection e with e; omega)).trans s0
          replace s1 := (cell_grow hg hlt9 (fun e => by injection e with e; omega)).trans s1
          replace hlt9 := Nat.lt_of_lt_of_le hlt9 hg.size
          have HT1 : Hid (∀ p ∈ K6, p ∈ tryK l (tryK l K6 (sl, y)) (sh, y)) := hide (fun p hp => try_sub _ _ _ _ (try_sub _ _ _ _ hp))
          have HT2 : Hid (nodeG (htB l) (vtB l) (sl, y) = true → (sl, y) ∈ tryK l (tryK l K6 (sl, y)) (sh, y)) := hide (fun h => try_sub _ _ _ _ (try_in _ _ _ h))
          have HT3 : Hid (nodeG (htB l) (vtB l) (sh, y) = true → (sh, y) ∈ tryK l (tryK l K6 (sl, y)) (sh, y)) := hide (fun h => try_in _ _ _ h)
          generalize tryK l (tryK l K6 (sl, y)) (sh, y) = K7 at *
          have HN10 := hide hn10
          clear hn10 hg HN9 HMR9
          have z1 := HN10.out.c1
          go_wp2_with (at_range; refine wpList_range_ms rfl _ rfl rfl HN10.out.m2 ?_; intro w11 left2 hmr2 hleft2 hgr hs4)
          clear z1
          go_frame
          obtain ⟨r2, hr2⟩ : ∃ r, w10.heap.size = r := ⟨_, rfl⟩
          rw [hr2] at hmr2 ⊢
          have hr2a : w.heap.size + 3 ≤ r2 := by rw [← hr2]; exact HN10.out.sz
          have hr2b : r1 ≠ r2 := by
            obtain ⟨D, d, _⟩ := HMR10.out.map
            have := d.lt
            omega
          have hr2c : g9 ≠ r2 := by omega
          have HN11 := hide (HN10.out.grown FX.out hgr (fun q hq => by cases hq))
          have HMR11 := hide (HMR10.out.keep FX.out.g1 FX.out.r1 hgr (fun q hq => by cases hq))
          have HMC11 := hide hmr2
          have HLF2 := hide hleft2
          replace s0 := (cell_grow hgr hlt9 (by simp)).trans s0
          replace s1 := (cell_grow hgr hlt9 (by simp)).trans s1
          replace hlt9 := Nat.lt_of_lt_of_le hlt9 hgr.size
          have HS9 := hide (And.intro s0 (And.intro s1 hlt9))
          clear hmr2 hleft2 hgr hs4 hr2 HN10 HMR10 s0 s1 hlt9
          go_loopw [10] (fun _ wr => ∃ left2 cnt2, Hid (∃ K', Nst w wr w.heap.size B b1 b2 K1 K2 v1 v2 l K' ∧ Mr B b1 r1 K1 (rowC l) v1 (fun z => left z && !z.sameKey (.int .i64 y)) cnt5 wr ∧ Mr B b2 r2 K2 (colC l) v2 left2 cnt2 wr ∧ (∀ p ∈ K7, p ∈ K') ∧ (wr.cell? ⟨g9, 0, none⟩ = some (.int .i64 sl) ∧ wr.cell? ⟨g9, 1, none⟩ = some (.int .i64 sh) ∧ g9 < wr.heap.size) ∧ ∀ x ∈ K2, left2 (.int .i64 x) = false → sl < x → x < sh → (vtB l x y = true ∨ vtB l x (y - 1) = true) → (x, y) ∈ K')) (fun _ wr => wr.rangeLeft b2 r2)
          case atStart => exact ⟨left2, _, hide ⟨K7, HN11.out, HMR11.out, HMC11.out, fun p h => h, HS9.out, fun x hx hf => by rw [HLF2.out x hx] at hf; cases hf⟩⟩
          case round =>
            clear HN11 HMR11 HMC11 HS9 HLF2
            obtain ⟨left2, cnt2, HH⟩ := hrel
            obtain ⟨K8, hn, hmr, hmc, hsub, ⟨s0, s1, hlt9⟩, hdn⟩ := HH.out
            have HN := hide hn
            have HMR := hide hmr
            have HMC := hide hmc
            have HSU := hide hsub
            have HD8 := hide hdn
            have HL2 : Hid (wr.rangeLeft b2 r2 = cnt2) := hide (by obtain ⟨D, d, _⟩ := hmc.map; exact d.left_eq)
            clear hn hmr hmc hsub hdn HH
            go_wp2_with (at_next; refine wpList_next_ms rfl _ rfl rfl HMC.out ?_ ?_)
            · intro _ hl0
              have HDS9 : Hid (DoneS l y (sl, sh) K8) := hide ⟨fun h => HSU.out _ (HT2.out h), fun h => HSU.out _ (HT3.out h), fun x a b c => by
                have hx : x ∈ K2 := HKK.out.2.1 x (fun e => by
                  rcases c with c | c <;> (obtain ⟨q, hq, c1, c2, c3, c4⟩ := col_mem.1 c; have hmem : (min q.ay q.cy, max q.ay q.cy) ∈ colSp l x := List.mem_map.2 ⟨q, List.mem_filter.2 ⟨hq, by simp [c1, c2]⟩, rfl⟩; rw [e] at hmem; cases hmem))
                exact HD8.out x hx (hl0 _) a b c⟩
              have hkl := HFL.out K8 HN.out.fs.nd HN.out.nd
              have hlen : ∀ ty, (Builtin.len_ #[226] ty #[.map (some (w.heap.size + 1))]).run Tryz.prog wr = .ok (.int .i64 K8.length) wr := fun ty => HN.out.fs.len ty
              have z2 := HN.out.c2
              clear HD8 hl0 s0 s1 hlt9 HMC HL2
              by_cases h4 : 400 < K8.length
              · have h4z : (400 : Int) < (K8.length : Int) := by omega
                go_wp2
                go_ret2
                exact ⟨⟨none, 0, [], false, rfl, World.ownsRow_nil _ _ _ _, .inr ⟨by omega, rfl⟩⟩, HN.out.low⟩
              · have h4z : ¬ (400 : Int) < (K8.length : Int) := by omega
                go_wp2
                clear hlen z2
                go_roundw
                case rel =>
                  refine ⟨m + 1, by omega, by go_num, hide ⟨K8, HN.out, HMR.out, fun p hp => HSU.out _ (HT1.out _ (HSUB.out _ hp)), fun i s hi hs => ?_⟩⟩
                  by_cases e : i = m
                  · subst e
                    rw [HS.out] at hs
                    obtain rfl := Option.some.inj hs
                    exact HDS9.out
                  · exact (HDN.out i s (by omega) hs).mono fun p hp => HSU.out _ (HT1.out _ hp)
                case measure => simp [intOf]; omega
            · intro x w12 cnt12 hx hlx hmc12 hlt12 hg12 hs12 hen
              have hrd := own_rd (HM.out.2.mv.vs x hx) (fun _ => rfl)
              obtain ⟨Ax, cx, hvx⟩ := own_form (HM.out.2.mv.vs x hx)
              rw [hvx] at hen hrd ⊢
              have hLn := rowC_ok HV.out
              have hcl := colC_len l x
              have hA := hide (fun (W : World) (hb : Below w.heap.size w W) (z : Int) => spHas_any (w := W) ((hrd.below hb).mono hb.size) (by omega) z)
              have HH1 := hide (fun (W : World) (hb : Below w.heap.size w W) => by have := hA.out W hb y; rwa [show decide (smem (colC l x) y) = vtB l x y by rw [Bool.eq_iff_iff, decide_eq_true_eq]; exact hLn.cm x y] at this)
              have HH2 := hide (fun (W : World) (hb : Below w.heap.size w W) => by have := hA.out W hb (y - 1); rwa [show decide (smem (colC l x) (y - 1)) = vtB l x (y - 1) by rw [Bool.eq_iff_iff, decide_eq_true_eq]; exact hLn.cm x (y - 1)] at this)
              have HVB : Hid (∀ z, vtB l x z = true → -1000000 ≤ x ∧ x ≤ 1000000) := hide (fun z hz => by
                obtain ⟨q, hq, _, e, _⟩ := col_mem.1 hz
                obtain ⟨⟨⟨a1, a2⟩, _⟩, _⟩ := HV.out q hq
                omega)
              have HNM : Hid (sl < x → x < sh → (vtB l x y = true ∨ vtB l x (y - 1) = true) → nodeG (htB l) (vtB l) (x, y) = true) := hide (fun a b c => by
                rw [found_mid hLn HSM.out a b]
                rcases c with c | c <;> rw [c] <;> simp)
              have HDX : Hid (∀ K' : List Pt, (∀ p ∈ K8, p ∈ K') → (sl < x → x < sh → (vtB l x y = true ∨ vtB l x (y - 1) = true) → (x, y) ∈ K') → ∀ x' ∈ K2, (left2 (.int .i64 x') && !(Lit.int .i64 x').sameKey (.int .i64 x)) = false → sl < x' → x' < sh → (vtB l x' y = true ∨ vtB l x' (y - 1) = true) → (x', y) ∈ K') := hide (fun K' hk hd x' hx' hf a b c => by
                by_cases e : x' = x
                · subst e
                  exact hd a b c
                · rw [show (Lit.int .i64 x').sameKey (.int .i64 x) = false by simp [Lit.sameKey, e]] at hf
                  exact hk _ (HD8.out x' hx' (by simpa using hf) a b c))
              have HN12 := hide (HN.out.grown FX.out hg12 (fun q hq => by injection hq with hq; omega))
              have HMR12 := hide (HMR.out.keep FX.out.g1 FX.out.r1 hg12 (fun q hq => by injection hq with hq; omega))
              have HMC12 := hide hmc12
              have HS12 : Hid (w12.cell? ⟨g9, 0, none⟩ = some (.int .i64 sl) ∧ w12.cell? ⟨g9, 1, none⟩ = some (.int .i64 sh) ∧ g9 < w12.heap.size) := hide ⟨(cell_grow hg12 hlt9 (fun e => by injection e with e; omega)).trans s0, (cell_grow hg12 hlt9 (fun e => by injection e with e; omega)).trans s1, Nat.lt_of_lt_of_le hlt9 hg12.size⟩
              have HLT2 : Hid (cnt12 < cnt2) := hide hlt12
              have wy1 : IntKind.i64.wrap (y - 1) = y - 1 := IntWalk.i64_in _ (by omega)
              generalize (colC l x).length = nx at *
              clear hmc12 hg12 hs12 hlt12 hrd hvx hLn hcl hA hx hlx HD8 HN HMR HMC s0 s1 hlt9
              obtain ⟨s0, s1, -⟩ := HS12.out
              by_cases q1 : sl < x
              · by_cases q2 : x < sh
                · generalize hv1 : vtB l x y = e1 at *
                  generalize hv2 : vtB l x (y - 1) = e2 at *
                  have HV1 := hide hv1
                  have HV2 := hide hv2
                  clear hv1 hv2
                  go_wp2_with (fail)
                  clear hen s0 s1
                  refine (HH1.out _ HN12.out.low).mono ?_
                  rintro e w13 ⟨rfl, hb⟩
                  have HN13 := hide (HN12.out.below FX.out hb)
                  have HMR13 := hide (HMR12.out.below hb)
                  have HMC13 := hide (HMC12.out.below hb)
                  have HS13 : Hid (w13.cell? ⟨g9, 0, none⟩ = some (.int .i64 sl) ∧ w13.cell? ⟨g9, 1, none⟩ = some (.int .i64 sh) ∧ g9 < w13.heap.size) := hide ⟨(hb.cell (p := ⟨g9, 0, none⟩) HS12.out.2.2).trans HS12.out.1, (hb.cell (p := ⟨g9, 1, none⟩) HS12.out.2.2).trans HS12.out.2.1, Nat.lt_of_lt_of_le HS12.out.2.2 hb.size⟩
                  clear hb
                  cases e1
                  · go_wp2_with (fail)
                    refine (HH2.out _ HN13.out.low).mono ?_
                    rintro e w14 ⟨rfl, hb⟩
                    have HN14 := hide (HN13.out.below FX.out hb)
                    have HMR14 := hide (HMR13.out.below hb)
                    have HMC14 := hide (HMC13.out.below hb)
                    have HS14 : Hid (w14.cell? ⟨g9, 0, none⟩ = some (.int .i64 sl) ∧ w14.cell? ⟨g9, 1, none⟩ = some (.int .i64 sh) ∧ g9 < w14.heap.size) := hide ⟨(hb.cell (p := ⟨g9, 0, none⟩) HS13.out.2.2).trans HS13.out.1, (hb.cell (p := ⟨g9, 1, none⟩) HS13.out.2.2).trans HS13.out.2.1, Nat.lt_of_lt_of_le HS13.out.2.2 hb.size⟩
                    clear hb
                    cases e2
                    · go_wp2_with (fail)
                      go_roundw
                      case rel => exact ⟨_, cnt12, hide ⟨K8, HN14.out, HMR14.out, HMC14.out, HSU.out, HS14.out, HDX.out _ (fun p hp => hp) (fun _ _ c => by rcases c with c | c <;> cases c)⟩⟩
                      case measure => rw [show w14.rangeLeft b2 r2 = cnt12 by obtain ⟨D, d, _⟩ := HMC14.out.map; exact d.left_eq, HL2.out]; exact HLT2.out
                    · have HBX : Hid (-1000000 ≤ x ∧ x ≤ 1000000) := hide (HVB.out _ HV2.out)
                      have HND := hide (HNM.out q1 q2 (.inr rfl))
                      obtain ⟨w15, hrun, hg15, hf15⟩ := HN14.out.fs.store (k := (x, y)) (by unfold bigP; simp only; have := HBX.out; omega) (by have := HFL.out K8 HN14.out.fs.nd HN14.out.nd; have := HLN.out; unfold maxLen; omega)
                      have hrun' : (Instr.mapUpdate 226 (.map (some (w.heap.size + 1))) (.agg #[.int .i64 x, .int .i64 y]) (.bool true)).run Tryz.prog w14 = .ok () w15 := hrun
                      have z2 := HN14.out.c2
                      have HN15 := hide (HN14.out.found FX.out hg15 hf15 (fun k hk => by
                        rcases mem_addP.1 hk with rfl | hk
                        · exact HND.out
                        · exact HN14.out.nd k hk))
                      have HMR15 := hide (HMR14.out.keep FX.out.g1 FX.out.r1 hg15 (fun q hq => by injection hq with hq; omega))
                      have HMC15 := hide (HMC14.out.keep FX.out.g2 FX.out.r2 hg15 (fun q hq => by injection hq with hq; omega))
                      have HS15 : Hid (w15.cell? ⟨g9, 0, none⟩ = some (.int .i64 sl) ∧ w15.cell? ⟨g9, 1, none⟩ = some (.int .i64 sh) ∧ g9 < w15.heap.size) := hide ⟨(cell_grow hg15 HS14.out.2.2 (fun e => by injection e with e; omega)).trans HS14.out.1, (cell_grow hg15 HS14.out.2.2 (fun e => by injection e with e; omega)).trans HS14.out.2.1, Nat.lt_of_lt_of_le HS14.out.2.2 hg15.size⟩
                      clear hrun hg15 hf15
                      go_wp2_with (fail)
                      clear hrun' z2
                      go_roundw
                      case rel => exact ⟨_, cnt12, hide ⟨addP K8 (x, y), HN15.out, HMR15.out, HMC15.out, fun p hp => mem_addP.2 (.inr (HSU.out _ hp)), HS15.out, HDX.out _ (fun p hp => mem_addP.2 (.inr hp)) (fun _ _ _ => mem_addP.2 (.inl rfl))⟩⟩
                      case measure => rw [show w15.rangeLeft b2 r2 = cnt12 by obtain ⟨D, d, _⟩ := HMC15.out.map; exact d.left_eq, HL2.out]; exact HLT2.out
                  · have HBX : Hid (-1000000 ≤ x ∧ x ≤ 1000000) := hide (HVB.out _ HV1.out)
                    have HND := hide (HNM.out q1 q2 (.inl rfl))
                    obtain ⟨w15, hrun, hg15, hf15⟩ := HN13.out.fs.store (k := (x, y)) (by unfold bigP; simp only; have := HBX.out; omega) (by have := HFL.out K8 HN13.out.fs.nd HN13.out.nd; have := HLN.out; unfold maxLen; omega)
                    have hrun' : (Instr.mapUpdate 226 (.map (some (w.heap.size + 1))) (.agg #[.int .i64 x, .int .i64 y]) (.bool true)).run Tryz.prog w13 = .ok () w15 := hrun
                    have z2 := HN13.out.c2
                    have HN15 := hide (HN13.out.found FX.out hg15 hf15 (fun k hk => by
                      rcases mem_addP.1 hk with rfl | hk
                      · exact HND.out
                      · exact HN13.out.nd k hk))
                    have HMR15 := hide (HMR13.out.keep FX.out.g1 FX.out.r1 hg15 (fun q hq => by injection hq with hq; omega))
                    have HMC15 := hide (HMC13.out.keep FX.out.g2 FX.out.r2 hg15 (fun q hq => by injection hq with hq; omega))
                    have HS15 : Hid (w15.cell? ⟨g9, 0, none⟩ = some (.int .i64 sl) ∧ w15.cell? ⟨g9, 1, none⟩ = some (.int .i64 sh) ∧ g9 < w15.heap.size) := hide ⟨(cell_grow hg15 HS13.out.2.2 (fun e => by injection e with e; omega)).trans HS13.out.1, (cell_grow hg15 HS13.out.2.2 (fun e => by injection e with e; omega)).trans HS13.out.2.1, Nat.lt_of_lt_of_le HS13.out.2.2 hg15.size⟩
                    clear hrun hg15 hf15
                    go_wp2_with (fail)
                    clear hrun' z2
                    go_roundw
                    case rel => exact ⟨_, cnt12, hide ⟨addP K8 (x, y), HN15.out, HMR15.out, HMC15.out, fun p hp => mem_addP.2 (.inr (HSU.out _ hp)), HS15.out, HDX.out _ (fun p hp => mem_addP.2 (.inr hp)) (fun _ _ _ => mem_addP.2 (.inl rfl))⟩⟩
                    case measure => rw [show w15.rangeLeft b2 r2 = cnt12 by obtain ⟨D, d, _⟩ := HMC15.out.map; exact d.left_eq, HL2.out]; exact HLT2.out
                · go_wp2_with (fail)
                  clear hen
                  go_roundw
                  case rel => exact ⟨_, cnt12, hide ⟨K8, HN12.out, HMR12.out, HMC12.out, HSU.out, HS12.out, HDX.out _ (fun p hp => hp) (fun _ b _ => absurd b q2)⟩⟩
                  case measure => rw [show w12.rangeLeft b2 r2 = cnt12 by obtain ⟨D, d, _⟩ := HMC12.out.map; exact d.left_eq, HL2.out]; exact HLT2.out
              · go_wp2_with (fail)
                clear hen
                go_roundw
                case rel => exact ⟨_, cnt12, hide ⟨K8, HN12.out, HMR12.out, HMC12.out, HSU.out, HS12.out, HDX.out _ (fun p hp => hp) (fun a _ _ => absurd a q1)⟩⟩
                case measure => rw [show w12.rangeLeft b2 r2 = cnt12 by obtain ⟨D, d, _⟩ := HMC12.out.map; exact d.left_eq, HL2.out]; exact HLT2.out
        · obtain rfl : m = SY.length := by omega
          have HALL : Hid (∀ s ∈ SY, DoneS l y s K6) := hide (fun s hs => by
            obtain ⟨i, hi, rfl⟩ := List.getElem_of_mem hs
            exact HDN.out i _ hi (List.getElem?_eq_getElem hi))
          have HL7 : Hid (wr.rangeLeft b1 r1 = cnt5) := hide (by obtain ⟨D, d, _⟩ := HMR.out.map; exact d.left_eq)
          go_wp2
          go_roundw
          case rel => exact ⟨_, cnt5, hide ⟨K6, HN.out, HMR.out, HDS.out K6 HSUB.out HALL.out⟩⟩
          case measure => rw [HL7.out, HLE.out]; exact HLT.out
end Go.Proofs.YtdolpeljengpaaaGreat

/- A map from ints to ints: look-up and store. The code's list of edges, step by step. -/
namespace Go.Proofs.YtdolpeljengpaaaGreat
open Go.RowKit Go.Maps
set_option linter.unusedVariables false
set_option linter.unusedSimpArgs false

/-- Block b maps each number k to f k, where what is absent reads as 0. -/
def LM (b n : Nat) (f : Int → Int) (w : World) : Prop := ∃ D : DataW Unit, w.ownsMap Tryz.prog 3 (plainElem Tryz.prog 3) b n D ∧ ∀ k, okK k → D.atKey (.int .i64 k) (.lit (.int .i64 0)) = .lit (.int .i64 (f k))
theorem LM.made (w : World) : LM w.heap.size 0 (fun _ => 0) (w.alloc (.map #[] 0)) := ⟨.map [], World.ownsMap_made w _ _ _, fun k _ => rfl⟩
theorem LM.grown {b n : Nat} {f : Int → Int} {w w' : World} (h : LM b n f w) {row : Option Nat} (hg : w.grownBy w' row) (h1 : some b ≠ row) : LM b n f w' := by
  obtain ⟨D, d1, d2⟩ := h
  exact ⟨D, d1.kept hg h1, d2⟩
theorem LM.below {b n : Nat} {f : Int → Int} {w w' : World} (h : LM b n f w) (hb : Below w.heap.size w w') : LM b n f w' := h.grown (below_grow hb) (by simp)
theorem LM.lt {b n : Nat} {f : Int → Int} {w : World} (h : LM b n f w) : b < w.heap.size := by
  obtain ⟨D, d1, _⟩ := h
  exact d1.lt
theorem zeroI (w : World) : (zeroValue 3).run Tryz.prog w = .ok (.int .i64 0) w := by kernel_rfl
theorem litInj {a b : Int} (h : (DataW.lit (.int .i64 a) : DataW Unit) = .lit (.int .i64 b)) : a = b := by
  injection h with h
  injection h
theorem LM.look {b n : Nat} {f : Int → Int} {w : World} (h : LM b n f w) {k : Int} (hk : okK k) : (Instr.lookup 105 (.map (some b)) (.int .i64 k) false).run Tryz.prog w = .ok (.int .i64 (f k)) w := by
  obtain ⟨D, d1, d2⟩ := h
  obtain ⟨c, hrun, hat, _⟩ := d1.lookup_int lawIS Tryz.underlying105 Tryz.underlying3 (zeroI w) (keyI hk)
  rw [d2 k hk] at hat
  rw [litInj hat]
  exact hrun
theorem LM.store {b n : Nat} {f : Int → Int} {w : World} (h : LM b n f w) {k v : Int} (hk : okK k) (hv : okK v) (hn : n < maxLen) :
    ∃ w', (Instr.mapUpdate 105 (.map (some b)) (.int .i64 k) (.int .i64 v)).run Tryz.prog w = .ok () w' ∧ w.grownBy w' (some b) ∧ LM b (n + 1) (fun k' => if k' = k then v else f k') w' := by
  obtain ⟨D, d1, d2⟩ := h
  obtain ⟨w', hrun, o3, g3⟩ := d1.update lawIS Tryz.underlying105 hn (keyI hk) (plainElem_int Tryz.underlying3 (WalkArith.wf_i64 (by unfold okK at hv; omega)) (a := v))
  refine ⟨w', hrun, g3, _, o3, fun k' hk' => ?_⟩
  by_cases e : k' = k
  · subst e
    simp only [if_true]
    rw [atKey_put_same d1.isMap (lawIS.key (keyI hk))]
  · simp only [if_neg e]
    rw [atKey_put_other (fun e2 => e (by injection e2))]
    exact d2 k' hk'
/-- The edges that the code has laid behind i nodes. -/
def codeE (h v : Int → Int → Bool) (N : List Pt) (i : Nat) : List Ei := edI ((List.range i).flatMap fun i => ltE h N i ++ dnE v N i)
theorem codeE_succ (h v : Int → Int → Bool) (N : List Pt) (i : Nat) : codeE h v N (i + 1) = codeE h v N i ++ edI (ltE h N i) ++ edI (dnE v N i) := by
  unfold codeE edI
  rw [List.range_succ, List.flatMap_append, List.map_append, List.flatMap_cons, List.flatMap_nil, List.append_nil, List.map_append, List.append_assoc]
theorem codeE_len (h v : Int → Int → Bool) (N : List Pt) (i : Nat) : (codeE h v N i).length ≤ 2 * i := by
  induction i with
  | zero => simp [codeE, edI]
  | succ i ih =>
    rw [codeE_succ, List.length_append, List.length_append]
    have e1 : (edI (ltE h N i)).length ≤ 1 := by unfold edI ltE; split <;> simp
    have e2 : (edI (dnE v N i)).length ≤ 1 := by unfold edI dnE; split <;> simp
    omega
theorem edI_perm {E E' : List Ed} (h : E.Perm E') : (edI E).Perm (edI E') := h.map _
theorem edI_srt {E : List Ed} (h : E.Pairwise edLt) : (edI E).Pairwise ptLt := by
  unfold edI
  rw [List.pairwise_map]
  refine h.imp ?_
  intro a b hab
  unfold edLt at hab
  unfold ptLt
  simp only
  omega
/-- The last index of a coordinate, as a function. -/
def lastI (f : Pt → Int) (N : List Pt) (i : Nat) : Int → Int := fun y => (lastG f N i y : Nat)
theorem lastI_zero (f : Pt → Int) (N : List Pt) : lastI f N 0 = fun _ => 0 := rfl
theorem lastI_succ (f : Pt → Int) (N : List Pt) (i : Nat) : lastI f N (i + 1) = fun y => if y = f (nd N i) then (i : Int) else lastI f N i y := by
  funext y
  unfold lastI
  simp only [lastG]
  by_cases e : f (nd N i) = y
  · rw [if_pos e, if_pos e.symm]
  · rw [if_neg e, if_neg (fun h => e h.symm)]
theorem lastG_lt (f : Pt → Int) (N : List Pt) : ∀ (i : Nat) (y : Int), lastG f N i y ≤ i
  | 0, _ => Nat.le_refl _
  | i + 1, y => by
    simp only [lastG]
    split
    · omega
    · have := lastG_lt f N i y; omega
end Go.Proofs.YtdolpeljengpaaaGreat
