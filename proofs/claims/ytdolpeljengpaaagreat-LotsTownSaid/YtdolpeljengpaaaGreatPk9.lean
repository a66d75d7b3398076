/- Texts laid together: MStrB, MCan, MStrC, MStrD, MStrE, StrA, StrB. Lemmas for the statements of this seat; no condition. -/
import Derived.Test.YtdolpeljengpaaaGreatPk8
import Derived.Test.YtdolpeljengpaaaGreatPk1
import Derived.Test.YtdolpeljengpaaaGreatPk2
import Derived.Test.YtdolpeljengpaaaGreatPk3
import Derived.Deep.DeepCutAuto

/- Plain: the edges of a network: to the right and up, from each node on; the same as to the left and down, sorted. -/
namespace Go.Proofs.YtdolpeljengpaaaGreat
set_option linter.unusedVariables false
set_option linter.unusedSimpArgs false

abbrev Ed := Nat × Nat
def nd (N : List Pt) (i : Nat) : Pt := N.getD i (0, 0)
def upO (N : List Pt) (a : Nat) : Option Nat := (List.range N.length).find? fun b => decide (a < b) && decide ((nd N b).1 = (nd N a).1)
def rtO (N : List Pt) (a : Nat) : Option Nat := (List.range N.length).find? fun b => decide (a < b) && decide ((nd N b).2 = (nd N a).2)
def upE (v : Int → Int → Bool) (N : List Pt) (a : Nat) : List Ed := if v (nd N a).1 (nd N a).2 = true then (upO N a).toList.map fun b => (a, b) else []
def rtE (h : Int → Int → Bool) (N : List Pt) (a : Nat) : List Ed := if h (nd N a).1 (nd N a).2 = true then (rtO N a).toList.map fun b => (a, b) else []
def edgesG (h v : Int → Int → Bool) (N : List Pt) : List Ed := (List.range N.length).flatMap fun a => upE v N a ++ rtE h N a
/-- The last index ahead of i with a coordinate; 0 where there is none. -/
def lastG (f : Pt → Int) (N : List Pt) : Nat → Int → Nat
  | 0, _ => 0
  | i + 1, y => if f (nd N i) = y then i else lastG f N i y
def ltE (h : Int → Int → Bool) (N : List Pt) (i : Nat) : List Ed := if h ((nd N i).1 - 1) (nd N i).2 = true then [(lastG Prod.snd N i (nd N i).2, i)] else []
def dnE (v : Int → Int → Bool) (N : List Pt) (i : Nat) : List Ed := if v (nd N i).1 ((nd N i).2 - 1) = true then [(lastG Prod.fst N i (nd N i).1, i)] else []
def codeG (h v : Int → Int → Bool) (N : List Pt) : List Ed := (List.range N.length).flatMap fun i => ltE h N i ++ dnE v N i
def edLt (a b : Ed) : Prop := a.1 < b.1 ∨ a.1 = b.1 ∧ a.2 < b.2
instance (a b : Ed) : Decidable (edLt a b) := by unfold edLt; infer_instance
theorem edLt_irrefl (a : Ed) : ¬ edLt a a := by unfold edLt; omega
/-- The nodes of lines: sorted; lines end. -/
structure NetOK (h v : Int → Int → Bool) (N : List Pt) : Prop where
  srt : N.Pairwise ptLt
  mem : ∀ p, p ∈ N ↔ nodeG h v p = true
  rowF : ∀ x y, (x < -1000000 ∨ 1000000 ≤ x) → h x y = false
  colF : ∀ x y, (y < -1000000 ∨ 1000000 ≤ y) → v x y = false
theorem nd_mem {N : List Pt} {i : Nat} (h : i < N.length) : nd N i ∈ N := by
  unfold nd
  rw [List.getD_eq_getElem?_getD, List.getElem?_eq_getElem h, Option.getD_some]
  exact List.getElem_mem h
theorem nd_of_mem {N : List Pt} {p : Pt} (h : p ∈ N) : ∃ i, i < N.length ∧ nd N i = p := by
  obtain ⟨i, hi, rfl⟩ := List.getElem_of_mem h
  exact ⟨i, hi, by unfold nd; rw [List.getD_eq_getElem?_getD, List.getElem?_eq_getElem hi, Option.getD_some]⟩
theorem nd_lt {N : List Pt} (hs : N.Pairwise ptLt) {i j : Nat} (hj : j < N.length) (hij : i < j) : ptLt (nd N i) (nd N j) := by
  have := List.pairwise_iff_getElem.1 hs i j (by omega) hj hij
  unfold nd
  rw [List.getD_eq_getElem?_getD, List.getD_eq_getElem?_getD, List.getElem?_eq_getElem hj, List.getElem?_eq_getElem (by omega), Option.getD_some, Option.getD_some]
  exact this
theorem nd_ord {N : List Pt} (hs : N.Pairwise ptLt) {i j : Nat} (hi : i < N.length) (hj : j < N.length) (h : ptLt (nd N i) (nd N j)) : i < j := by
  rcases Nat.lt_trichotomy i j with e | e | e
  · exact e
  · subst e; exact absurd h (ptLt_irrefl _)
  · exact absurd (ptLt_trans h (nd_lt hs hi e)) (ptLt_irrefl _)
theorem find_range {n : Nat} {p : Nat → Bool} {b : Nat} : (List.range n).find? p = some b ↔ b < n ∧ p b = true ∧ ∀ c, c < b → p c = false := by
  induction n with
  | zero => simp
  | succ n ih =>
    rw [List.range_succ, List.find?_append]
    cases hf : (List.range n).find? p with
    | some d =>
      rw [hf] at ih
      simp only [Option.some_or, Option.some.injEq] at ih ⊢
      constructor
      · intro e
        obtain ⟨h1, h2, h3⟩ := ih.1 e
        exact ⟨by omega, h2, h3⟩
      · rintro ⟨h1, h2, h3⟩
        have hd : d < n ∧ p d = true := ⟨List.mem_range.1 (List.mem_of_find?_eq_some hf), List.find?_some hf⟩
        by_cases e : b < n
        · exact ih.2 ⟨e, h2, h3⟩
        · have := h3 d (by omega)
          rw [hd.2] at this
          cases this
    | none =>
      have hno : ∀ c, c < n → p c = false := fun c hc => by
        have := List.find?_eq_none.1 hf c (List.mem_range.2 hc)
        simpa using this
      simp only [Option.none_or]
      by_cases hp : p n = true
      · rw [List.find?_cons_of_pos hp]
        simp only [Option.some.injEq]
        constructor
        · rintro rfl
          exact ⟨by omega, hp, hno⟩
        · rintro ⟨h1, h2, h3⟩
          by_cases e : b < n
          · rw [hno b e] at h2; cases h2
          · omega
      · rw [List.find?_cons_of_neg hp]
        simp only [List.find?_nil, reduceCtorEq, false_iff]
        rintro ⟨h1, h2, h3⟩
        by_cases e : b < n
        · rw [hno b e] at h2; cases h2
        · obtain rfl : b = n := by omega
          exact hp h2
/-- b is the next index behind a with the same coordinate. -/
def nxt (f : Pt → Int) (N : List Pt) (a b : Nat) : Prop := a < b ∧ b < N.length ∧ f (nd N b) = f (nd N a) ∧ ∀ c, a < c → c < b → f (nd N c) ≠ f (nd N a)
theorem upO_iff {N : List Pt} {a b : Nat} : upO N a = some b ↔ nxt Prod.fst N a b := by
  unfold upO nxt
  rw [find_range]
  simp only [Bool.and_eq_true, decide_eq_true_eq, Bool.and_eq_false_iff, decide_eq_false_iff_not]
  constructor
  · rintro ⟨h1, ⟨h2, h3⟩, h4⟩
    exact ⟨h2, h1, h3, fun c c1 c2 => (h4 c c2).resolve_left fun hh => hh c1⟩
  · rintro ⟨h1, h2, h3, h4⟩
    refine ⟨h2, ⟨h1, h3⟩, fun c hc => ?_⟩
    by_cases e : a < c
    · exact .inr (h4 c e hc)
    · exact .inl e
theorem rtO_iff {N : List Pt} {a b : Nat} : rtO N a = some b ↔ nxt Prod.snd N a b := by
  unfold rtO nxt
  rw [find_range]
  simp only [Bool.and_eq_true, decide_eq_true_eq, Bool.and_eq_false_iff, decide_eq_false_iff_not]
  constructor
  · rintro ⟨h1, ⟨h2, h3⟩, h4⟩
    exact ⟨h2, h1, h3, fun c c1 c2 => (h4 c c2).resolve_left fun hh => hh c1⟩
  · rintro ⟨h1, h2, h3, h4⟩
    refine ⟨h2, ⟨h1, h3⟩, fun c hc => ?_⟩
    by_cases e : a < c
    · exact .inr (h4 c e hc)
    · exact .inl e
theorem last_of_nxt {f : Pt → Int} {N : List Pt} {a b : Nat} (h : nxt f N a b) : lastG f N b (f (nd N b)) = a := by
  obtain ⟨h1, h2, h3, h4⟩ := h
  have key : ∀ i, a < i → i ≤ b → lastG f N i (f (nd N b)) = a := by
    intro i
    induction i with
    | zero => intro h; omega
    | succ i ih =>
      intro q1 q2
      simp only [lastG]
      by_cases e : i = a
      · subst e; rw [if_pos h3.symm]
      · have := h4 i (by omega) (by omega)
        rw [if_neg (by rw [h3]; exact this)]
        exact ih (by omega) (by omega)
  exact key b h1 (Nat.le_refl _)
theorem nxt_of_last {f : Pt → Int} {N : List Pt} {b : Nat} (hb : b < N.length) (hex : ∃ a, a < b ∧ f (nd N a) = f (nd N b)) : nxt f N (lastG f N b (f (nd N b))) b := by
  have key : ∀ i, i ≤ b → (∃ a, a < i ∧ f (nd N a) = f (nd N b)) → lastG f N i (f (nd N b)) < i ∧ f (nd N (lastG f N i (f (nd N b)))) = f (nd N b) ∧ ∀ c, lastG f N i (f (nd N b)) < c → c < i → f (nd N c) ≠ f (nd N b) := by
    intro i
    induction i with
    | zero => rintro _ ⟨a, h, _⟩; omega
    | succ i ih =>
      rintro hi ⟨a, ha, hf⟩
      simp only [lastG]
      by_cases e : f (nd N i) = f (nd N b)
      · rw [if_pos e]
        exact ⟨by omega, e, fun c c1 c2 => by omega⟩
      · rw [if_neg e]
        have hai : a ≠ i := fun h => e (h ▸ hf)
        obtain ⟨k1, k2, k3⟩ := ih (by omega) ⟨a, by omega, hf⟩
        refine ⟨by omega, k2, fun c c1 c2 => ?_⟩
        by_cases ec : c = i
        · subst ec; exact e
        · exact k3 c c1 (by omega)
  obtain ⟨k1, k2, k3⟩ := key b (Nat.le_refl _) hex
  exact ⟨k1, hb, k2.symm, fun c c1 c2 => by rw [k2]; exact k3 c c1 c2⟩
section
variable {h v : Int → Int → Bool} {N : List Pt} (H : NetOK h v N)
include H
theorem NetOK.row_nodes {a b : Nat} (hn : nxt Prod.snd N a b) : (nd N a).1 < (nd N b).1 ∧ ∀ x, (nd N a).1 < x → x < (nd N b).1 → nodeG h v (x, (nd N a).2) = false := by
  obtain ⟨h1, h2, h3, h4⟩ := hn
  have hlt := nd_lt H.srt h2 h1
  refine ⟨by unfold ptLt at hlt; omega, fun x x1 x2 => ?_⟩
  cases e : nodeG h v (x, (nd N a).2)
  · rfl
  · obtain ⟨c, hc, hce⟩ := nd_of_mem ((H.mem _).2 e)
    have c1 := nd_ord H.srt (i := a) (j := c) (by omega) hc (by rw [hce]; exact .inl x1)
    have c2 := nd_ord H.srt (i := c) (j := b) hc h2 (by rw [hce]; exact .inl x2)
    exact absurd (by rw [hce]) (h4 c c1 c2)
theorem NetOK.col_nodes {a b : Nat} (hn : nxt Prod.fst N a b) : (nd N a).2 < (nd N b).2 ∧ ∀ y, (nd N a).2 < y → y < (nd N b).2 → nodeG h v ((nd N a).1, y) = false := by
  obtain ⟨h1, h2, h3, h4⟩ := hn
  have hlt := nd_lt H.srt h2 h1
  refine ⟨by unfold ptLt at hlt; omega, fun y y1 y2 => ?_⟩
  cases e : nodeG h v ((nd N a).1, y)
  · rfl
  · obtain ⟨c, hc, hce⟩ := nd_of_mem ((H.mem _).2 e)
    have c1 := nd_ord H.srt (i := a) (j := c) (by omega) hc (by rw [hce]; exact .inr ⟨rfl, y1⟩)
    have c2 := nd_ord H.srt (i := c) (j := b) hc h2 (by rw [hce]; exact .inr ⟨h3.symm, y2⟩)
    exact absurd (by rw [hce]) (h4 c c1 c2)
theorem NetOK.row_line {a b : Nat} (hn : nxt Prod.snd N a b) {x : Int} (h1 : (nd N a).1 ≤ x) (h2 : x < (nd N b).1) : h x (nd N a).2 = h (nd N a).1 (nd N a).2 :=
  row_to (v := v) h1 fun z z1 z2 => (H.row_nodes hn).2 z z1 (by omega)
theorem NetOK.col_line {a b : Nat} (hn : nxt Prod.fst N a b) {y : Int} (h1 : (nd N a).2 ≤ y) (h2 : y < (nd N b).2) : v (nd N a).1 y = v (nd N a).1 (nd N a).2 :=
  col_to (h := h) h1 fun z z1 z2 => (H.col_nodes hn).2 z z1 (by omega)
/-- A line has a node at its right end, and one at its left end. -/
theorem NetOK.row_right {x y : Int} (hx : h x y = true) : ∃ b, b < N.length ∧ x < (nd N b).1 ∧ (nd N b).2 = y := Classical.byContradiction fun hno => by
  have := row_to (h := h) (v := v) (y := y) (x0 := x) (x1 := max x 1000000) (by omega) fun z z1 z2 => by
    cases e : nodeG h v (z, y)
    · rfl
    · obtain ⟨c, hc, hce⟩ := nd_of_mem ((H.mem _).2 e)
      exact absurd ⟨c, hc, by rw [hce]; exact z1, by rw [hce]⟩ hno
  rw [hx, H.rowF _ _ (by omega)] at this
  cases this
theorem NetOK.row_left {x y : Int} (hx : h x y = true) : ∃ a, a < N.length ∧ (nd N a).1 ≤ x ∧ (nd N a).2 = y := Classical.byContradiction fun hno => by
  have := row_to (h := h) (v := v) (y := y) (x0 := min x (-1000001)) (x1 := x) (by omega) fun z z1 z2 => by
    cases e : nodeG h v (z, y)
    · rfl
    · obtain ⟨c, hc, hce⟩ := nd_of_mem ((H.mem _).2 e)
      exact absurd ⟨c, hc, by rw [hce]; exact z2, by rw [hce]⟩ hno
  rw [hx, H.rowF _ _ (by omega)] at this
  cases this
theorem NetOK.col_right {x y : Int} (hx : v x y = true) : ∃ b, b < N.length ∧ y < (nd N b).2 ∧ (nd N b).1 = x := Classical.byContradiction fun hno => by
  have := col_to (h := h) (v := v) (x := x) (y0 := y) (y1 := max y 1000000) (by omega) fun z z1 z2 => by
    cases e : nodeG h v (x, z)
    · rfl
    · obtain ⟨c, hc, hce⟩ := nd_of_mem ((H.mem _).2 e)
      exact absurd ⟨c, hc, by rw [hce]; exact z1, by rw [hce]⟩ hno
  rw [hx, H.colF _ _ (by omega)] at this
  cases this
theorem NetOK.col_left {x y : Int} (hx : v x y = true) : ∃ a, a < N.length ∧ (nd N a).2 ≤ y ∧ (nd N a).1 = x := Classical.byContradiction fun hno => by
  have := col_to (h := h) (v := v) (x := x) (y0 := min y (-1000001)) (y1 := y) (by omega) fun z z1 z2 => by
    cases e : nodeG h v (x, z)
    · rfl
    · obtain ⟨c, hc, hce⟩ := nd_of_mem ((H.mem _).2 e)
      exact absurd ⟨c, hc, by rw [hce]; exact z2, by rw [hce]⟩ hno
  rw [hx, H.colF _ _ (by omega)] at this
  cases this
omit H in
/-- The least index with a property. -/
theorem least_nat {P : Nat → Prop} {a : Nat} (h : P a) : ∃ b, P b ∧ ∀ c, c < b → ¬ P c := by
  induction a using Nat.strongRecOn with
  | ind a ih =>
    by_cases e : ∃ c, c < a ∧ P c
    · obtain ⟨c, c1, c2⟩ := e
      exact ih c c1 c2
    · exact ⟨a, h, fun c c1 c2 => e ⟨c, c1, c2⟩⟩
theorem NetOK.ord_row {i j : Nat} (hi : i < N.length) (hj : j < N.length) (hy : (nd N i).2 = (nd N j).2) : i < j ↔ (nd N i).1 < (nd N j).1 :=
  ⟨fun h => by have := nd_lt H.srt hj h; unfold ptLt at this; omega, fun h => nd_ord H.srt hi hj (.inl h)⟩
theorem NetOK.ord_col {i j : Nat} (hi : i < N.length) (hj : j < N.length) (hx : (nd N i).1 = (nd N j).1) : i < j ↔ (nd N i).2 < (nd N j).2 :=
  ⟨fun h => by have := nd_lt H.srt hj h; unfold ptLt at this; omega, fun h => nd_ord H.srt hi hj (.inr ⟨hx, h⟩)⟩
omit H in
theorem mem_rtE {a : Nat} {e : Ed} : e ∈ rtE h N a ↔ h (nd N a).1 (nd N a).2 = true ∧ e.1 = a ∧ nxt Prod.snd N a e.2 := by
  unfold rtE
  split
  · rename_i hh
    simp only [List.mem_map, Option.mem_toList, Option.mem_def, rtO_iff]
    constructor
    · rintro ⟨b, hb, rfl⟩; exact ⟨hh, rfl, hb⟩
    · rintro ⟨_, h1, h2⟩; exact ⟨e.2, h2, Prod.ext h1.symm rfl⟩
  · rename_i hh
    simp [hh]
omit H in
theorem mem_upE {a : Nat} {e : Ed} : e ∈ upE v N a ↔ v (nd N a).1 (nd N a).2 = true ∧ e.1 = a ∧ nxt Prod.fst N a e.2 := by
  unfold upE
  split
  · rename_i hh
    simp only [List.mem_map, Option.mem_toList, Option.mem_def, upO_iff]
    constructor
    · rintro ⟨b, hb, rfl⟩; exact ⟨hh, rfl, hb⟩
    · rintro ⟨_, h1, h2⟩; exact ⟨e.2, h2, Prod.ext h1.symm rfl⟩
  · rename_i hh
    simp [hh]
omit H in
theorem mem_edges {e : Ed} : e ∈ edgesG h v N ↔ (v (nd N e.1).1 (nd N e.1).2 = true ∧ nxt Prod.fst N e.1 e.2) ∨ (h (nd N e.1).1 (nd N e.1).2 = true ∧ nxt Prod.snd N e.1 e.2) := by
  unfold edgesG
  rw [List.mem_flatMap]
  constructor
  · rintro ⟨a, _, ha⟩
    rcases List.mem_append.1 ha with ha | ha
    · obtain ⟨h1, rfl, h3⟩ := mem_upE.1 ha
      exact .inl ⟨h1, h3⟩
    · obtain ⟨h1, rfl, h3⟩ := mem_rtE.1 ha
      exact .inr ⟨h1, h3⟩
  · rintro (⟨h1, h2⟩ | ⟨h1, h2⟩)
    · exact ⟨e.1, List.mem_range.2 (Nat.lt_trans h2.1 h2.2.1), List.mem_append.2 (.inl (mem_upE.2 ⟨h1, rfl, h2⟩))⟩
    · exact ⟨e.1, List.mem_range.2 (Nat.lt_trans h2.1 h2.2.1), List.mem_append.2 (.inr (mem_rtE.2 ⟨h1, rfl, h2⟩))⟩
theorem NetOK.edges_srt : (edgesG h v N).Pairwise edLt := by
  unfold edgesG
  rw [List.pairwise_flatMap]
  constructor
  · intro a _
    rw [List.pairwise_append]
    refine ⟨?_, ?_, fun p hp q hq => ?_⟩
    · unfold upE
      split
      · cases upO N a <;> simp
      · simp
    · unfold rtE
      split
      · cases rtO N a <;> simp
      · simp
    · obtain ⟨_, p1, p2⟩ := mem_upE.1 hp
      obtain ⟨_, q1, q2⟩ := mem_rtE.1 hq
      refine .inr ⟨by omega, ?_⟩
      have c := H.col_nodes p2
      have r := H.row_nodes q2
      refine nd_ord H.srt p2.2.1 q2.2.1 (.inl ?_)
      have := p2.2.2.1
      omega
  · rw [List.pairwise_iff_getElem]
    intro i j hi hj hij p hp q hq
    simp only [List.getElem_range] at hp hq
    have hp1 : p.1 = i := by
      rcases List.mem_append.1 hp with hp | hp
      · exact (mem_upE.1 hp).2.1
      · exact (mem_rtE.1 hp).2.1
    have hq1 : q.1 = j := by
      rcases List.mem_append.1 hq with hq | hq
      · exact (mem_upE.1 hq).2.1
      · exact (mem_rtE.1 hq).2.1
    exact .inl (by omega)
/-- The edges that the code lays: an edge to the left of each node with a line there. -/
theorem NetOK.left_iff {b : Nat} (hb : b < N.length) (a : Nat) : (h ((nd N b).1 - 1) (nd N b).2 = true ∧ a = lastG Prod.snd N b (nd N b).2) ↔ (h (nd N a).1 (nd N a).2 = true ∧ nxt Prod.snd N a b) := by
  constructor
  · rintro ⟨h1, rfl⟩
    obtain ⟨c, c1, c2, c3⟩ := H.row_left h1
    have hn := nxt_of_last (f := Prod.snd) hb ⟨c, (H.ord_row c1 hb c3).2 (by omega), c3⟩
    refine ⟨?_, hn⟩
    have := H.row_nodes hn
    have h2 := H.row_line hn (x := (nd N b).1 - 1) (by omega) (by omega)
    rw [← h2, ← hn.2.2.1]
    exact h1
  · rintro ⟨h1, hn⟩
    have := H.row_nodes hn
    have h2 := H.row_line hn (x := (nd N b).1 - 1) (by omega) (by omega)
    rw [h1, ← hn.2.2.1] at h2
    exact ⟨h2, (last_of_nxt hn).symm⟩
theorem NetOK.down_iff {b : Nat} (hb : b < N.length) (a : Nat) : (v (nd N b).1 ((nd N b).2 - 1) = true ∧ a = lastG Prod.fst N b (nd N b).1) ↔ (v (nd N a).1 (nd N a).2 = true ∧ nxt Prod.fst N a b) := by
  constructor
  · rintro ⟨h1, rfl⟩
    obtain ⟨c, c1, c2, c3⟩ := H.col_left h1
    have hn := nxt_of_last (f := Prod.fst) hb ⟨c, (H.ord_col c1 hb c3).2 (by omega), c3⟩
    refine ⟨?_, hn⟩
    have := H.col_nodes hn
    have h2 := H.col_line hn (y := (nd N b).2 - 1) (by omega) (by omega)
    rw [← h2, ← hn.2.2.1]
    exact h1
  · rintro ⟨h1, hn⟩
    have := H.col_nodes hn
    have h2 := H.col_line hn (y := (nd N b).2 - 1) (by omega) (by omega)
    rw [h1, ← hn.2.2.1] at h2
    exact ⟨h2, (last_of_nxt hn).symm⟩
theorem NetOK.mem_code {e : Ed} : e ∈ codeG h v N ↔ e ∈ edgesG h v N := by
  rw [mem_edges]
  unfold codeG
  rw [List.mem_flatMap]
  constructor
  · rintro ⟨i, hi, he⟩
    have hi' := List.mem_range.1 hi
    rcases List.mem_append.1 he with he | he
    · unfold ltE at he
      split at he
      · rename_i hh
        obtain rfl := List.mem_singleton.1 he
        exact .inr ((H.left_iff hi' _).1 ⟨hh, rfl⟩)
      · simp at he
    · unfold dnE at he
      split at he
      · rename_i hh
        obtain rfl := List.mem_singleton.1 he
        exact .inl ((H.down_iff hi' _).1 ⟨hh, rfl⟩)
      · simp at he
  · rintro (he | he)
    · have hb := he.2.2.1
      obtain ⟨h1, h2⟩ := (H.down_iff hb _).2 he
      refine ⟨e.2, List.mem_range.2 hb, List.mem_append.2 (.inr ?_)⟩
      unfold dnE
      rw [if_pos h1, List.mem_singleton]
      exact Prod.ext h2 rfl
    · have hb := he.2.2.1
      obtain ⟨h1, h2⟩ := (H.left_iff hb _).2 he
      refine ⟨e.2, List.mem_range.2 hb, List.mem_append.2 (.inl ?_)⟩
      unfold ltE
      rw [if_pos h1, List.mem_singleton]
      exact Prod.ext h2 rfl
theorem NetOK.code_nodup : (codeG h v N).Nodup := by
  unfold codeG List.Nodup
  rw [List.pairwise_flatMap]
  constructor
  · intro i hi
    have hi' := List.mem_range.1 hi
    rw [List.pairwise_append]
    refine ⟨?_, ?_, fun p hp q hq => ?_⟩
    · unfold ltE; split <;> simp
    · unfold dnE; split <;> simp
    · unfold ltE at hp
      unfold dnE at hq
      split at hp
      · rename_i hh
        split at hq
        · rename_i hk
          obtain rfl := List.mem_singleton.1 hp
          obtain rfl := List.mem_singleton.1 hq
          intro e
          injection e with e1 _
          have n1 := ((H.left_iff hi' _).1 ⟨hh, rfl⟩).2
          have n2 := ((H.down_iff hi' _).1 ⟨hk, rfl⟩).2
          rw [e1] at n1
          have a1 := (H.row_nodes n1).1
          have a2 := n2.2.2.1
          omega
        · simp at hq
      · simp at hp
  · rw [List.pairwise_iff_getElem]
    intro i j hi hj hij p hp q hq
    simp only [List.getElem_range] at hp hq
    have hp1 : p.2 = i := by
      rcases List.mem_append.1 hp with hp | hp
      · unfold ltE at hp; split at hp
        · rw [List.mem_singleton.1 hp]
        · simp at hp
      · unfold dnE at hp; split at hp
        · rw [List.mem_singleton.1 hp]
        · simp at hp
    have hq1 : q.2 = j := by
      rcases List.mem_append.1 hq with hq | hq
      · unfold ltE at hq; split at hq
        · rw [List.mem_singleton.1 hq]
        · simp at hq
      · unfold dnE at hq; split at hq
        · rw [List.mem_singleton.1 hq]
        · simp at hq
    intro e
    rw [e] at hp1
    omega
theorem NetOK.code_perm : (codeG h v N).Perm (edgesG h v N) := by
  refine (List.perm_ext_iff_of_nodup H.code_nodup ?_).2 fun e => H.mem_code
  refine H.edges_srt.imp ?_
  intro a b hab e
  subst e
  exact edLt_irrefl _ hab
end
end Go.Proofs.YtdolpeljengpaaaGreat

/- Plain: how many rectangles a canonical list may have. -/
namespace Go.Proofs.YtdolpeljengpaaaGreat
set_option linter.unusedVariables false
set_option linter.unusedSimpArgs false

/-- No more entries than there are values. -/
theorem nodup_len {α : Type} [DecidableEq α] : ∀ {l m : List α}, l.Nodup → (∀ x ∈ l, x ∈ m) → l.length ≤ m.length
  | [], m, _, _ => Nat.zero_le _
  | a :: l, m, hn, h => by
    obtain ⟨h1, h2⟩ := List.nodup_cons.1 hn
    have ha := h a (by simp)
    have ih := nodup_len (m := m.erase a) h2 fun x hx => (List.mem_erase_of_ne (fun e => h1 (by rw [← e]; exact hx))).2 (h x (List.mem_cons_of_mem _ hx))
    rw [List.length_erase_of_mem ha] at ih
    have : 0 < m.length := List.length_pos_of_mem ha
    simp only [List.length_cons]
    omega
theorem cr_at : ∀ {S : List Slab}, SOK S → ∀ a ∈ S, cr S a.f = a.s
  | b :: S, h, a, ha => by
    rcases List.mem_cons.1 ha with rfl | ha
    · exact cr_head h (Int.le_refl _) h.head.1
    · have := h.after a ha
      have e : cr (b :: S) a.f = cr S a.f := by
        show (if b.f ≤ a.f ∧ a.f < b.t then b.s else cr S a.f) = _
        rw [if_neg (by omega)]
      rw [e]
      exact cr_at h.tail a ha
theorem cr_prev : ∀ {S : List Slab}, SOK S → ∀ a ∈ S, cr S (a.f - 1) ≠ a.s
  | b :: S, h, a, ha => by
    have hne := (h.all a ha).2.1
    rcases List.mem_cons.1 ha with rfl | ha
    · rw [cr_before h (by omega)]
      exact fun e => hne e.symm
    · have h1 := h.after a ha
      by_cases hb : a.f = b.t
      · have hcr : cr (b :: S) (a.f - 1) = b.s := cr_head h (by have := h.head.1; omega) (by omega)
        rw [hcr]
        cases S with
        | nil => cases ha
        | cons c T =>
          have h2 : Rl b c := h.2.1
          rcases List.mem_cons.1 ha with rfl | ha
          · exact h2.2 hb.symm
          · have h3 := h.tail.after a ha
            have h4 := h.tail.head.1
            have h5 := h2.1
            omega
      · have e : cr (b :: S) (a.f - 1) = cr S (a.f - 1) := by
          show (if b.f ≤ a.f - 1 ∧ a.f - 1 < b.t then b.s else cr S (a.f - 1)) = _
          rw [if_neg (by omega)]
        rw [e]
        exact cr_prev h.tail a ha
theorem SOK.nodup : ∀ {S : List Slab}, SOK S → (S.map Slab.f).Nodup
  | [], _ => by simp
  | a :: S, h => by
    rw [List.map_cons, List.nodup_cons]
    refine ⟨fun hm => ?_, SOK.nodup h.tail⟩
    obtain ⟨b, hb, e⟩ := List.mem_map.1 hm
    have := h.after b hb
    have := h.head.1
    omega
theorem scan_starts {s : List Sp} (h : SCan s) : (s.map Prod.fst).Nodup := by
  rw [List.Nodup, List.pairwise_map]
  have h1 : s.Pairwise (fun p q => p.2 < q.1 ∧ p ∈ s) := by
    rw [List.pairwise_and_iff]
    refine ⟨h.2, ?_⟩
    rw [List.pairwise_iff_getElem]
    exact fun i j hi hj _ => List.getElem_mem _
  exact h1.imp fun {p q} hpq => by
    have := h.1 p hpq.2
    omega
theorem flat_le {n : Nat} : ∀ {S : List Slab}, (∀ a ∈ S, a.s.length ≤ n) → (flat S).length ≤ S.length * n
  | [], _ => by simp [flat]
  | a :: S, h => by
    have ih := flat_le (n := n) (S := S) fun b hb => h b (List.mem_cons_of_mem _ hb)
    have h1 := h a (by simp)
    have e : (flat (a :: S)).length = a.s.length + (flat S).length := by simp [flat, flat1]
    rw [e, List.length_cons, Nat.succ_mul]
    omega
/-- A canonical list has at most so many rectangles as its left sides and lower sides tell. -/
theorem can_count {R : List R4} (hR : RCan R) {xs ys : List Int} (hx : ∀ c, (∃ y, ¬ (pmem R (c - 1) y ↔ pmem R c y)) → c ∈ xs) (hy : ∀ x c, ¬ pmem R x (c - 1) → pmem R x c → c ∈ ys) : R.length ≤ xs.length * ys.length := by
  obtain ⟨S, hS, rfl⟩ := hR
  have hm : ∀ x y, pmem (flat S) x y ↔ smem (cr S x) y := fun x y => by rw [pmem_flat, inS_cr hS]
  have h1 : S.length ≤ xs.length := by
    have := nodup_len hS.nodup (m := xs) fun c hc => by
      obtain ⟨a, ha, rfl⟩ := List.mem_map.1 hc
      refine hx _ (Classical.byContradiction fun hno => cr_prev hS a ha ?_)
      have hall : ∀ y, (pmem (flat S) (a.f - 1) y ↔ pmem (flat S) a.f y) := fun y => Classical.byContradiction fun h => hno ⟨y, h⟩
      rw [← cr_at hS a ha]
      exact SCan.ext (cr_can _ hS) (cr_can _ hS) fun y => by rw [← hm, ← hm]; exact hall y
    simpa using this
  have h2 : ∀ a ∈ S, a.s.length ≤ ys.length := fun a ha => by
    have hc := (hS.all a ha).2.2
    have := nodup_len (scan_starts hc) (m := ys) fun c hc' => by
      obtain ⟨p, hp, rfl⟩ := List.mem_map.1 hc'
      refine hy a.f p.1 ?_ ?_
      · rw [hm, cr_at hS a ha]
        rintro ⟨q, hq, q1, q2⟩
        obtain ⟨i, hi, rfl⟩ := List.getElem_of_mem hp
        obtain ⟨j, hj, rfl⟩ := List.getElem_of_mem hq
        have hpw := List.pairwise_iff_getElem.1 hc.2
        rcases Nat.lt_trichotomy i j with e | e | e
        · have := hpw i j hi hj e
          have := hc.1 _ (List.getElem_mem hi)
          omega
        · subst e; omega
        · have := hpw j i hj hi e
          omega
      · rw [hm, cr_at hS a ha]
        exact ⟨p, hp, Int.le_refl _, hc.1 p hp⟩
    simpa using this
  have h3 := flat_le h2
  have h4 := Nat.mul_le_mul_right ys.length h1
  omega
/-- The same, out of any list with the same points. -/
theorem can_count_of {R A : List R4} (hR : RCan R) (h : ∀ x y, pmem R x y ↔ pmem A x y) : R.length ≤ 2 * A.length * A.length := by
  have := can_count hR (xs := A.map R4.x0 ++ A.map R4.x1) (ys := A.map R4.y0)
    (fun c ⟨y, hy⟩ => by
      rw [h, h] at hy
      rw [List.mem_append]
      by_cases hf : pmem A c y
      · left
        obtain ⟨r, hr, hin⟩ := hf
        refine List.mem_map.2 ⟨r, hr, Classical.byContradiction fun e => hy ⟨fun _ => ⟨r, hr, hin⟩, fun _ => ⟨r, hr, ?_⟩⟩⟩
        unfold rin at hin ⊢
        omega
      · right
        have hf1 : pmem A (c - 1) y := Classical.byContradiction fun h1 => hy ⟨fun h2 => absurd h2 h1, fun h2 => absurd h2 hf⟩
        obtain ⟨r, hr, hin⟩ := hf1
        refine List.mem_map.2 ⟨r, hr, Classical.byContradiction fun e => hf ⟨r, hr, ?_⟩⟩
        unfold rin at hin ⊢
        omega)
    (fun x c hno hp => by
      rw [h] at hno hp
      obtain ⟨r, hr, hin⟩ := hp
      refine List.mem_map.2 ⟨r, hr, Classical.byContradiction fun e => hno ⟨r, hr, ?_⟩⟩
      unfold rin at hin ⊢
      omega)
  simp only [List.length_append, List.length_map] at this
  rwa [show 2 * A.length * A.length = (A.length + A.length) * A.length by rw [Nat.two_mul]]
end Go.Proofs.YtdolpeljengpaaaGreat

/- Plain: the network of segments; drawing its edges gives the same lines, and the same network; how many nodes and edges there are. -/
namespace Go.Proofs.YtdolpeljengpaaaGreat
set_option linter.unusedVariables false
set_option linter.unusedSimpArgs false

abbrev edgesF (l : List Sg) : List Ed := edgesG (htB l) (vtB l) (nodesF l)
def sgOf (N : List Pt) (e : Ed) : Sg := ⟨(nd N e.1).1, (nd N e.1).2, (nd N e.2).1, (nd N e.2).2⟩
def drawnL (N : List Pt) (E : List Ed) : List Sg := E.map (sgOf N)
theorem net_ok {l : List Sg} (hv : ∀ s ∈ l, okSg s) : NetOK (htB l) (vtB l) (nodesF l) :=
  ⟨(nodesF_ok hv).1, (nodesF_ok hv).2, fun x y h => row_far hv h, fun x y h => col_far hv h⟩
theorem node_fin {l : List Sg} (hv : ∀ s ∈ l, okSg s) {i : Nat} (h : i < (nodesF l).length) : finS (nd (nodesF l) i).1 ∧ finS (nd (nodesF l) i).2 := by
  obtain ⟨h1, h2, _⟩ := node_in hv (x := (nd (nodesF l) i).1) (y := (nd (nodesF l) i).2) (((nodesF_ok hv).2 _).1 (nd_mem h))
  obtain ⟨s, hs, h1⟩ := List.mem_flatMap.1 h1
  obtain ⟨t, ht, h2⟩ := List.mem_flatMap.1 h2
  obtain ⟨⟨s1, s2, s3, s4⟩, _⟩ := hv s hs
  obtain ⟨⟨t1, t2, t3, t4⟩, _⟩ := hv t ht
  simp only [List.mem_cons, List.not_mem_nil, or_false] at h1 h2
  refine ⟨?_, ?_⟩
  · rcases h1 with h1 | h1 <;> rw [h1] <;> assumption
  · rcases h2 with h2 | h2 <;> rw [h2] <;> assumption
section
variable {h v : Int → Int → Bool} {N : List Pt} (H : NetOK h v N)
include H
/-- An edge is along x or along y. -/
theorem NetOK.edge_two {e : Ed} (he : e ∈ edgesG h v N) : e.1 < e.2 ∧ e.2 < N.length ∧ (((nd N e.1).1 = (nd N e.2).1 ∧ (nd N e.1).2 < (nd N e.2).2 ∧ v (nd N e.1).1 (nd N e.1).2 = true ∧ nxt Prod.fst N e.1 e.2) ∨ ((nd N e.1).2 = (nd N e.2).2 ∧ (nd N e.1).1 < (nd N e.2).1 ∧ h (nd N e.1).1 (nd N e.1).2 = true ∧ nxt Prod.snd N e.1 e.2)) := by
  rcases mem_edges.1 he with ⟨h1, h2⟩ | ⟨h1, h2⟩
  · exact ⟨h2.1, h2.2.1, .inl ⟨h2.2.2.1.symm, (H.col_nodes h2).1, h1, h2⟩⟩
  · exact ⟨h2.1, h2.2.1, .inr ⟨h2.2.2.1.symm, (H.row_nodes h2).1, h1, h2⟩⟩
theorem NetOK.drawn_row (x y : Int) : htB (drawnL N (edgesG h v N)) x y = h x y := by
  rw [Bool.eq_iff_iff, row_mem]
  constructor
  · rintro ⟨s, hs, e1, e2, e3, e4⟩
    obtain ⟨e, he, rfl⟩ := List.mem_map.1 hs
    obtain ⟨_, _, k | ⟨k1, k2, k3, k4⟩⟩ := H.edge_two he
    · have : (nd N e.1).2 = (nd N e.2).2 := e1
      omega
    · have e3' : min (nd N e.1).1 (nd N e.2).1 ≤ x := e3
      have e4' : x < max (nd N e.1).1 (nd N e.2).1 := e4
      have e2' : (nd N e.1).2 = y := e2
      have := H.row_line k4 (x := x) (by omega) (by omega)
      rw [← e2', this]
      exact k3
  · intro hx
    obtain ⟨c, c1, c2, c3⟩ := H.row_right hx
    -- the last node up to x
    obtain ⟨b, ⟨b1, b2, b3⟩, b4⟩ := least_nat (P := fun b => b < N.length ∧ x < (nd N b).1 ∧ (nd N b).2 = y) (a := c) ⟨c1, c2, c3⟩
    obtain ⟨a0, a1, a2, a3⟩ := H.row_left hx
    have hab0 := (H.ord_row a1 b1 (by rw [a3, b3])).2 (by omega)
    have hn := nxt_of_last (f := Prod.snd) b1 ⟨a0, hab0, by rw [a3, b3]⟩
    generalize lastG Prod.snd N b (nd N b).2 = a at hn
    have hy : (nd N a).2 = y := by rw [← hn.2.2.1]; exact b3
    have hax : (nd N a).1 ≤ x := by
      by_cases e : (nd N a).1 ≤ x
      · exact e
      · exact absurd ⟨Nat.lt_trans hn.1 hn.2.1, by omega, hy⟩ (b4 a hn.1)
    have hl := H.row_line hn hax b2
    rw [hy] at hl
    refine ⟨sgOf N (a, b), List.mem_map.2 ⟨(a, b), mem_edges.2 (.inr ⟨?_, hn⟩), rfl⟩, hn.2.2.1.symm, hy, ?_, ?_⟩
    · show h (nd N a).1 (nd N a).2 = true
      rw [hy, ← hl]
      exact hx
    · show min (nd N a).1 (nd N b).1 ≤ x
      omega
    · show x < max (nd N a).1 (nd N b).1
      omega
theorem NetOK.drawn_col (x y : Int) : vtB (drawnL N (edgesG h v N)) x y = v x y := by
  rw [Bool.eq_iff_iff, col_mem]
  constructor
  · rintro ⟨s, hs, e1, e2, e3, e4⟩
    obtain ⟨e, he, rfl⟩ := List.mem_map.1 hs
    obtain ⟨_, _, ⟨k1, k2, k3, k4⟩ | k⟩ := H.edge_two he
    · have e3' : min (nd N e.1).2 (nd N e.2).2 ≤ y := e3
      have e4' : y < max (nd N e.1).2 (nd N e.2).2 := e4
      have e2' : (nd N e.1).1 = x := e2
      have := H.col_line k4 (y := y) (by omega) (by omega)
      rw [← e2', this]
      exact k3
    · exact absurd k.1 e1
  · intro hx
    obtain ⟨c, c1, c2, c3⟩ := H.col_right hx
    obtain ⟨b, ⟨b1, b2, b3⟩, b4⟩ := least_nat (P := fun b => b < N.length ∧ y < (nd N b).2 ∧ (nd N b).1 = x) (a := c) ⟨c1, c2, c3⟩
    obtain ⟨a0, a1, a2, a3⟩ := H.col_left hx
    have hab0 := (H.ord_col a1 b1 (by rw [a3, b3])).2 (by omega)
    have hn := nxt_of_last (f := Prod.fst) b1 ⟨a0, hab0, by rw [a3, b3]⟩
    generalize lastG Prod.fst N b (nd N b).1 = a at hn
    have hy : (nd N a).1 = x := by rw [← hn.2.2.1]; exact b3
    have hax : (nd N a).2 ≤ y := by
      by_cases e : (nd N a).2 ≤ y
      · exact e
      · exact absurd ⟨Nat.lt_trans hn.1 hn.2.1, by omega, hy⟩ (b4 a hn.1)
    have hl := H.col_line hn hax b2
    rw [hy] at hl
    have hcn := (H.col_nodes hn).1
    refine ⟨sgOf N (a, b), List.mem_map.2 ⟨(a, b), mem_edges.2 (.inl ⟨?_, hn⟩), rfl⟩, ?_, hy, ?_, ?_⟩
    · show v (nd N a).1 (nd N a).2 = true
      rw [hy, ← hl]
      exact hx
    · show ¬ (nd N a).2 = (nd N b).2
      omega
    · show min (nd N a).2 (nd N b).2 ≤ y
      omega
    · show y < max (nd N a).2 (nd N b).2
      omega
end
theorem drawn_ok {l : List Sg} (hv : ∀ s ∈ l, okSg s) : ∀ s ∈ drawnL (nodesF l) (edgesF l), okSg s := by
  intro s hs
  obtain ⟨e, he, rfl⟩ := List.mem_map.1 hs
  obtain ⟨h1, h2, h3⟩ := (net_ok hv).edge_two he
  obtain ⟨p1, p2⟩ := node_fin hv (i := e.1) (by omega)
  obtain ⟨q1, q2⟩ := node_fin hv h2
  refine ⟨⟨p1, p2, q1, q2⟩, ?_⟩
  unfold sgOf
  simp only
  rcases h3 with h3 | h3 <;> omega
theorem net_again {l : List Sg} (hv : ∀ s ∈ l, okSg s) : nodesF (drawnL (nodesF l) (edgesF l)) = nodesF l ∧ edgesF (drawnL (nodesF l) (edgesF l)) = edgesF l := by
  have H := net_ok hv
  have h1 : htB (drawnL (nodesF l) (edgesF l)) = htB l := funext fun x => funext fun y => H.drawn_row x y
  have h2 : vtB (drawnL (nodesF l) (edgesF l)) = vtB l := funext fun x => funext fun y => H.drawn_col x y
  have h3 := nodes_ext (drawn_ok hv) hv (fun x y => H.drawn_row x y) (fun x y => H.drawn_col x y)
  refine ⟨h3, ?_⟩
  show edgesG (htB (drawnL (nodesF l) (edgesF l))) (vtB (drawnL (nodesF l) (edgesF l))) (nodesF (drawnL (nodesF l) (edgesF l))) = _
  rw [h1, h2, h3]
theorem len_flat {α β : Type} (f : α → List β) (k : Nat) : ∀ {l : List α}, (∀ a ∈ l, (f a).length ≤ k) → (l.flatMap f).length ≤ l.length * k
  | [], _ => by simp
  | a :: l, h => by
    have h1 := h a (by simp)
    have h2 := len_flat f k (l := l) fun b hb => h b (by simp [hb])
    rw [List.flatMap_cons, List.length_append, List.length_cons, Nat.succ_mul]
    omega
theorem nodes_len {l : List Sg} (hv : ∀ s ∈ l, okSg s) : (nodesF l).length ≤ l.length * 2 + l.length * l.length := by
  obtain ⟨h1, h2⟩ := nodesF_ok hv
  have hnd : (nodesF l).Nodup := h1.imp (by
    intro a b hab e
    subst e
    exact ptLt_irrefl _ hab)
  have hle := nodup_len hnd (m := (l.flatMap fun s => [(s.ax, s.ay), (s.cx, s.cy)]) ++ l.flatMap fun s => l.map fun t => (s.ax, t.ay)) fun p hp => by
    obtain ⟨x, y⟩ := p
    obtain ⟨_, _, ⟨s, hs, ⟨rfl, rfl⟩ | ⟨rfl, rfl⟩⟩ | ⟨s, hs, t, ht, rfl, rfl⟩⟩ := node_in hv ((h2 _).1 hp)
    · exact List.mem_append.2 (.inl (List.mem_flatMap.2 ⟨s, hs, by simp⟩))
    · exact List.mem_append.2 (.inl (List.mem_flatMap.2 ⟨s, hs, by simp⟩))
    · exact List.mem_append.2 (.inr (List.mem_flatMap.2 ⟨s, hs, List.mem_map.2 ⟨t, ht, rfl⟩⟩))
  rw [List.length_append] at hle
  have e1 := len_flat (fun s : Sg => [((s.ax, s.ay) : Pt), (s.cx, s.cy)]) 2 (l := l) fun a _ => by simp
  have e2 := len_flat (fun s : Sg => l.map fun t => ((s.ax, t.ay) : Pt)) l.length (l := l) fun a _ => by simp
  omega
theorem edges_len (h v : Int → Int → Bool) (N : List Pt) : (edgesG h v N).length ≤ N.length * 2 := by
  have := len_flat (fun a => upE v N a ++ rtE h N a) 2 (l := List.range N.length) fun a _ => by
    rw [List.length_append]
    have e1 : (upE v N a).length ≤ 1 := by
      unfold upE
      split
      · cases upO N a <;> simp
      · simp
    have e2 : (rtE h N a).length ≤ 1 := by
      unfold rtE
      split
      · cases rtO N a <;> simp
      · simp
    omega
  rwa [List.length_range] at this
end Go.Proofs.YtdolpeljengpaaaGreat

/- Plain: the parts of a network: labels that are joined edge by edge; as many labels as nodes that are the first ones of their part. -/
namespace Go.Proofs.YtdolpeljengpaaaGreat
set_option linter.unusedVariables false
set_option linter.unusedSimpArgs false

def lb (L : List Nat) (i : Nat) : Nat := L.getD i 0
def joinLb (L : List Nat) (a b : Nat) : List Nat := L.map fun x => if x = b then a else x
def compS (st : List Nat × Nat) (e : Ed) : List Nat × Nat := if lb st.1 e.1 = lb st.1 e.2 then st else (joinLb st.1 (lb st.1 e.1) (lb st.1 e.2), st.2 - 1)
def compF (n : Nat) (E : List Ed) : List Nat × Nat := E.foldl compS (List.range n, n)
def rootB (L : List Nat) (i : Nat) : Bool := decide (lb L i = i)
def firstB (L : List Nat) (i : Nat) : Bool := (List.range i).all fun j => decide (lb L j ≠ lb L i)
structure CompOK (n : Nat) (L : List Nat) (m : Nat) : Prop where
  len : L.length = n
  lt : ∀ i, i < n → lb L i < n
  idem : ∀ i, i < n → lb L (lb L i) = lb L i
  cnt : m = (List.range n).countP (rootB L)
theorem lb_join {L : List Nat} {a b i : Nat} (h : i < L.length) : lb (joinLb L a b) i = if lb L i = b then a else lb L i := by
  unfold lb joinLb
  rw [List.getD_eq_getElem?_getD, List.getD_eq_getElem?_getD, List.getElem?_map, List.getElem?_eq_getElem h]
  rfl
theorem countP_one {n r : Nat} {p q : Nat → Bool} (hr : r < n) (hp : p r = true) (hq : q r = false) (h : ∀ i, i < n → i ≠ r → q i = p i) : (List.range n).countP p = (List.range n).countP q + 1 := by
  induction n with
  | zero => omega
  | succ n ih =>
    rw [List.range_succ, List.countP_append, List.countP_append, List.countP_singleton, List.countP_singleton]
    by_cases e : r = n
    · subst e
      rw [hp, hq, List.countP_congr (q := q) fun i hi => by rw [h i (by have := List.mem_range.1 hi; omega) (by have := List.mem_range.1 hi; omega)]]
      simp
    · rw [ih (by omega) fun i hi => h i (by omega), h n (by omega) (fun x => e x.symm)]
      omega
theorem CompOK.start (n : Nat) : CompOK n (List.range n) n := by
  have hl : ∀ i, i < n → lb (List.range n) i = i := fun i hi => by
    unfold lb
    rw [List.getD_eq_getElem?_getD, List.getElem?_range hi]
    rfl
  refine ⟨List.length_range, fun i hi => by rw [hl i hi]; exact hi, fun i hi => by rw [hl i hi, hl i hi], ?_⟩
  rw [List.countP_eq_length.2 fun i hi => ?_, List.length_range]
  have := hl i (List.mem_range.1 hi)
  unfold rootB
  exact decide_eq_true this
theorem CompOK.step {n : Nat} {st : List Nat × Nat} (h : CompOK n st.1 st.2) {e : Ed} (h1 : e.1 < n) (h2 : e.2 < n) : CompOK n (compS st e).1 (compS st e).2 := by
  unfold compS
  split
  · exact h
  · rename_i hne
    have hj : ∀ i, i < n → lb (joinLb st.1 (lb st.1 e.1) (lb st.1 e.2)) i = if lb st.1 i = lb st.1 e.2 then lb st.1 e.1 else lb st.1 i := fun i hi => lb_join (by rw [h.len]; exact hi)
    have a1 := h.lt _ h1
    have a2 := h.lt _ h2
    have i1 := h.idem _ h1
    have i2 := h.idem _ h2
    refine ⟨by unfold joinLb; rw [List.length_map]; exact h.len, fun i hi => ?_, fun i hi => ?_, ?_⟩
    · simp only [hj i hi]
      split
      · exact a1
      · exact h.lt i hi
    · simp only [hj i hi]
      split
      · rw [hj _ a1, if_neg (by rw [i1]; exact hne), i1]
      · rename_i hno
        rw [hj _ (h.lt i hi), h.idem i hi, if_neg hno]
    · have := countP_one (n := n) (r := lb st.1 e.2) (p := rootB st.1) (q := rootB (joinLb st.1 (lb st.1 e.1) (lb st.1 e.2))) a2 (by unfold rootB; rw [i2]; simp)
        (by unfold rootB; rw [hj _ a2, i2, if_pos rfl]; exact decide_eq_false hne) fun i hi hir => by
          unfold rootB
          rw [hj i hi]
          split
          · rename_i he
            have f1 : ¬ lb st.1 i = i := by rw [he]; exact fun x => hir x.symm
            have f2 : ¬ lb st.1 e.1 = i := fun x => by
              rw [← x, i1] at he
              exact hne he
            rw [decide_eq_false f1, decide_eq_false f2]
          · rfl
      have hc := h.cnt
      show st.2 - 1 = (List.range n).countP (rootB (joinLb st.1 (lb st.1 e.1) (lb st.1 e.2)))
      rw [hc, this]
      rfl
end Go.Proofs.YtdolpeljengpaaaGreat

/- Plain: the nodes as the ends of canonical lines and the places where lines cross; checks of a network; its segments. -/
namespace Go.Proofs.YtdolpeljengpaaaGreat
set_option linter.unusedVariables false
set_option linter.unusedSimpArgs false

theorem can_low {s : List Sp} (h : SCan s) {x : Int} : (smem s x ∧ ¬ smem s (x - 1)) ↔ ∃ p ∈ s, p.1 = x := by
  constructor
  · rintro ⟨⟨p, hp, h1, h2⟩, hno⟩
    refine ⟨p, hp, ?_⟩
    by_cases e : p.1 = x
    · exact e
    · exact absurd ⟨p, hp, by omega, by omega⟩ hno
  · rintro ⟨p, hp, rfl⟩
    refine ⟨⟨p, hp, Int.le_refl _, h.1 p hp⟩, ?_⟩
    rintro ⟨q, hq, q1, q2⟩
    obtain ⟨i, hi, rfl⟩ := List.getElem_of_mem hp
    obtain ⟨j, hj, rfl⟩ := List.getElem_of_mem hq
    have hpw := List.pairwise_iff_getElem.1 h.2
    rcases Nat.lt_trichotomy i j with e | e | e
    · have := hpw i j hi hj e
      have := h.1 _ (List.getElem_mem hi)
      omega
    · subst e; omega
    · have := hpw j i hj hi e
      omega
theorem can_high {s : List Sp} (h : SCan s) {x : Int} : (¬ smem s x ∧ smem s (x - 1)) ↔ ∃ p ∈ s, p.2 = x := by
  constructor
  · rintro ⟨hno, ⟨p, hp, h1, h2⟩⟩
    refine ⟨p, hp, ?_⟩
    by_cases e : p.2 = x
    · exact e
    · exact absurd ⟨p, hp, by omega, by omega⟩ hno
  · rintro ⟨p, hp, rfl⟩
    have hw := h.1 p hp
    refine ⟨?_, ⟨p, hp, by omega, by omega⟩⟩
    rintro ⟨q, hq, q1, q2⟩
    obtain ⟨i, hi, rfl⟩ := List.getElem_of_mem hp
    obtain ⟨j, hj, rfl⟩ := List.getElem_of_mem hq
    have hpw := List.pairwise_iff_getElem.1 h.2
    rcases Nat.lt_trichotomy i j with e | e | e
    · have := hpw i j hi hj e
      omega
    · subst e; omega
    · have := hpw j i hj hi e
      omega
theorem can_mid {s : List Sp} (h : SCan s) {x : Int} : (smem s x ∧ smem s (x - 1)) ↔ ∃ p ∈ s, p.1 < x ∧ x < p.2 := by
  constructor
  · rintro ⟨⟨p, hp, h1, h2⟩, hx⟩
    refine ⟨p, hp, ?_, h2⟩
    by_cases e : p.1 = x
    · exact absurd hx ((can_low h).2 ⟨p, hp, e⟩).2
    · omega
  · rintro ⟨p, hp, h1, h2⟩
    exact ⟨⟨p, hp, by omega, h2⟩, ⟨p, hp, by omega, by omega⟩⟩
/-- The canonical lines of segments. -/
structure Lines (l : List Sg) (R C : Int → List Sp) : Prop where
  rc : ∀ y, SCan (R y)
  rm : ∀ x y, smem (R y) x ↔ htB l x y = true
  cc : ∀ x, SCan (C x)
  cm : ∀ x y, smem (C x) y ↔ vtB l x y = true
def foundP (l : List Sg) (R C : Int → List Sp) (p : Pt) : Prop :=
  ((∃ s ∈ R p.2, s.1 = p.1 ∨ s.2 = p.1) ∧ nodeG (htB l) (vtB l) p = true) ∨ (∃ s ∈ R p.2, s.1 < p.1 ∧ p.1 < s.2 ∧ (vtB l p.1 p.2 = true ∨ vtB l p.1 (p.2 - 1) = true)) ∨ ((∃ s ∈ C p.1, s.1 = p.2 ∨ s.2 = p.2) ∧ nodeG (htB l) (vtB l) p = true)
theorem found_mid {l : List Sg} {R C : Int → List Sp} (H : Lines l R C) {x y : Int} {s : Sp} (hs : s ∈ R y) (h1 : s.1 < x) (h2 : x < s.2) : nodeG (htB l) (vtB l) (x, y) = (vtB l x y || vtB l x (y - 1)) := by
  obtain ⟨m1, m2⟩ := (can_mid (H.rc y)).2 ⟨s, hs, h1, h2⟩
  rw [H.rm] at m1 m2
  unfold nodeG
  simp only [m1, m2]
  cases vtB l x y <;> cases vtB l x (y - 1) <;> rfl
theorem found_iff {l : List Sg} {R C : Int → List Sp} (H : Lines l R C) (p : Pt) : foundP l R C p ↔ nodeG (htB l) (vtB l) p = true := by
  obtain ⟨x, y⟩ := p
  constructor
  · rintro (h | ⟨s, hs, h1, h2, h3⟩ | h)
    · exact h.2
    · rw [found_mid H hs h1 h2]
      rcases h3 with h3 | h3 <;> simp only at h3 <;> rw [h3] <;> simp
    · exact h.2
  · intro h
    by_cases a0 : smem (R y) x <;> by_cases a2 : smem (R y) (x - 1)
    · obtain ⟨s, hs, h1, h2⟩ := (can_mid (H.rc y)).1 ⟨a0, a2⟩
      refine .inr (.inl ⟨s, hs, h1, h2, ?_⟩)
      rw [found_mid H hs h1 h2] at h
      simpa using h
    · obtain ⟨s, hs, h1⟩ := (can_low (H.rc y)).1 ⟨a0, a2⟩
      exact .inl ⟨⟨s, hs, .inl h1⟩, h⟩
    · obtain ⟨s, hs, h1⟩ := (can_high (H.rc y)).1 ⟨a0, a2⟩
      exact .inl ⟨⟨s, hs, .inr h1⟩, h⟩
    · refine .inr (.inr ⟨?_, h⟩)
      have b0 : htB l x y = false := by rw [← Bool.not_eq_true, ← H.rm]; exact a0
      have b2 : htB l (x - 1) y = false := by rw [← Bool.not_eq_true, ← H.rm]; exact a2
      unfold nodeG at h
      simp only [b0, b2] at h
      by_cases a1 : smem (C x) y <;> by_cases a3 : smem (C x) (y - 1)
      · rw [(H.cm x y).1 a1, (H.cm x (y - 1)).1 a3] at h
        exact absurd h (by decide)
      · obtain ⟨s, hs, h1⟩ := (can_low (H.cc x)).1 ⟨a1, a3⟩
        exact ⟨s, hs, .inl h1⟩
      · obtain ⟨s, hs, h1⟩ := (can_high (H.cc x)).1 ⟨a1, a3⟩
        exact ⟨s, hs, .inr h1⟩
      · rw [H.cm, Bool.not_eq_true] at a1 a3
        rw [a1, a3] at h
        exact absurd h (by decide)
/-! ### A network as it is handed over -/
abbrev Ei := Int × Int
def edI (E : List Ed) : List Ei := E.map fun e => ((e.1 : Int), (e.2 : Int))
def sgI (N : List Pt) (e : Ei) : Sg := ⟨(nd N e.1.toNat).1, (nd N e.1.toNat).2, (nd N e.2.toNat).1, (nd N e.2.toNat).2⟩
def okEi (N : List Pt) (e : Ei) : Prop := (0 ≤ e.1 ∧ e.1 < N.length ∧ 0 ≤ e.2 ∧ e.2 < N.length) ∧ okSg (sgI N e)
instance (N : List Pt) (e : Ei) : Decidable (okEi N e) := by unfold okEi; infer_instance
def segsI (N : List Pt) (E : List Ei) : List Sg := E.map (sgI N)
/-- The code of a network that is checked. -/
def chkN (N : List Pt) (E : List Ei) : Int := if 400 < N.length ∨ 800 < E.length then 4 else if ¬ (∀ e ∈ E, okEi N e) then 8 else if (nodesF (segsI N E)).length ≤ 400 ∧ nodesF (segsI N E) = N ∧ edI (edgesF (segsI N E)) = E then 0 else 8
theorem segs_drawn {N : List Pt} (E : List Ed) : segsI N (edI E) = drawnL N E := by
  unfold segsI edI drawnL
  rw [List.map_map]
  rfl
theorem chkN_ok {N : List Pt} {E : List Ei} (h : chkN N E = 0) : N.length ≤ 400 ∧ E.length ≤ 800 ∧ (∀ e ∈ E, okEi N e) ∧ nodesF (segsI N E) = N ∧ edI (edgesF (segsI N E)) = E := by
  unfold chkN at h
  split at h
  · simp at h
  · split at h
    · simp at h
    · rename_i h1 h2
      split at h
      · rename_i h3
        refine ⟨by omega, by omega, Classical.not_not.1 h2, h3.2.1, h3.2.2⟩
      · simp at h
/-- What street.Make lays is a network. -/
theorem made_chk {l : List Sg} (hv : ∀ s ∈ l, okSg s) (hn : (nodesF l).length ≤ 400) : chkN (nodesF l) (edI (edgesF l)) = 0 := by
  have he := edges_len (htB l) (vtB l) (nodesF l)
  have hE : (edI (edgesF l)).length = (edgesF l).length := by unfold edI; rw [List.length_map]
  have hall : ∀ e ∈ edI (edgesF l), okEi (nodesF l) e := by
    intro e he
    obtain ⟨d, hd, rfl⟩ := List.mem_map.1 he
    obtain ⟨h1, h2, _⟩ := (net_ok hv).edge_two hd
    refine ⟨⟨by simp only; omega, by simp only; omega, by simp only; omega, by simp only; omega⟩, ?_⟩
    exact drawn_ok hv _ (List.mem_map.2 ⟨d, hd, rfl⟩)
  unfold chkN
  rw [if_neg (by rw [hE]; show ¬ (400 < (nodesF l).length ∨ 800 < (edgesG (htB l) (vtB l) (nodesF l)).length); omega), if_neg (fun h => h hall), segs_drawn]
  obtain ⟨n1, n2⟩ := net_again hv
  rw [if_pos ⟨by rw [n1]; exact hn, n1, by rw [n2]⟩]
end Go.Proofs.YtdolpeljengpaaaGreat

/- street.collect: the lines of segments, in two maps. -/
namespace Go.Proofs.YtdolpeljengpaaaGreat
open Go.RowKit Go.Maps
set_option linter.unusedVariables false
set_option linter.unusedSimpArgs false

def encSg (s : Sg) : List Value := [.int .i64 s.ax, .int .i64 s.ay, .int .i64 s.cx, .int .i64 s.cy]
def spR (s : Sg) : Sp := (min s.ax s.cx, max s.ax s.cx)
def spC (s : Sg) : Sp := (min s.ay s.cy, max s.ay s.cy)
def rowC (l : List Sg) (y : Int) : List Sp := sjoin hFst (rowSp l y) []
def colC (l : List Sg) (x : Int) : List Sp := sjoin hFst (colSp l x) []
theorem rowSp_take {l : List Sg} {m : Nat} {s : Sg} (h : l[m]? = some s) (y : Int) : rowSp (l.take (m + 1)) y = if s.ay = s.cy ∧ s.ay = y then rowSp (l.take m) y ++ [spR s] else rowSp (l.take m) y := by
  unfold rowSp
  rw [List.take_add_one, h, Option.toList_some, List.filter_append, List.map_append]
  by_cases e : s.ay = s.cy ∧ s.ay = y
  · have hf : (decide (s.ay = s.cy) && decide (s.ay = y)) = true := by rw [decide_eq_true e.1, decide_eq_true e.2]; rfl
    rw [List.filter_cons_of_pos (p := fun s : Sg => decide (s.ay = s.cy) && decide (s.ay = y)) hf, if_pos e]
    rfl
  · have hf : ¬ (decide (s.ay = s.cy) && decide (s.ay = y)) = true := fun hh => e (by rw [Bool.and_eq_true, decide_eq_true_eq, decide_eq_true_eq] at hh; exact hh)
    rw [List.filter_cons_of_neg (p := fun s : Sg => decide (s.ay = s.cy) && decide (s.ay = y)) hf, if_neg e]
    simp
theorem colSp_take {l : List Sg} {m : Nat} {s : Sg} (h : l[m]? = some s) (x : Int) : colSp (l.take (m + 1)) x = if ¬ s.ay = s.cy ∧ s.ax = x then colSp (l.take m) x ++ [spC s] else colSp (l.take m) x := by
  unfold colSp
  rw [List.take_add_one, h, Option.toList_some, List.filter_append, List.map_append]
  by_cases e : ¬ s.ay = s.cy ∧ s.ax = x
  · have hf : (!decide (s.ay = s.cy) && decide (s.ax = x)) = true := by rw [decide_eq_false e.1, decide_eq_true e.2]; rfl
    rw [List.filter_cons_of_pos (p := fun s : Sg => !decide (s.ay = s.cy) && decide (s.ax = x)) hf, if_pos e]
    rfl
  · have hf : ¬ (!decide (s.ay = s.cy) && decide (s.ax = x)) = true := fun hh => e (by rw [Bool.and_eq_true, Bool.not_eq_true', decide_eq_false_iff_not, decide_eq_true_eq] at hh; exact hh)
    rw [List.filter_cons_of_neg (p := fun s : Sg => !decide (s.ay = s.cy) && decide (s.ax = x)) hf, if_neg e]
    simp
theorem rowSp_len (l : List Sg) (y : Int) : (rowSp l y).length ≤ l.length := by
  unfold rowSp
  rw [List.length_map]
  exact List.length_filter_le _ _
theorem colSp_len (l : List Sg) (x : Int) : (colSp l x).length ≤ l.length := by
  unfold colSp
  rw [List.length_map]
  exact List.length_filter_le _ _
theorem rowSp_ok {l : List Sg} (hv : ∀ s ∈ l, okSg s) (y : Int) : ∀ p ∈ rowSp l y, validS p := by
  intro p hp
  obtain ⟨s, hs, rfl⟩ := List.mem_map.1 hp
  rw [List.mem_filter] at hs
  simp only [Bool.and_eq_true, decide_eq_true_eq] at hs
  obtain ⟨⟨⟨a1, a2⟩, ⟨a3, a4⟩, ⟨a5, a6⟩, a7, a8⟩, h2⟩ := hv s hs.1
  unfold validS
  simp only
  omega
theorem colSp_ok {l : List Sg} (hv : ∀ s ∈ l, okSg s) (x : Int) : ∀ p ∈ colSp l x, validS p := by
  intro p hp
  obtain ⟨s, hs, rfl⟩ := List.mem_map.1 hp
  rw [List.mem_filter] at hs
  simp only [Bool.and_eq_true, Bool.not_eq_true', decide_eq_false_iff_not, decide_eq_true_eq] at hs
  obtain ⟨⟨⟨a1, a2⟩, ⟨a3, a4⟩, ⟨a5, a6⟩, a7, a8⟩, h2⟩ := hv s hs.1
  unfold validS
  simp only
  omega
/-- Keys are those with lines. -/
def KeysOk (K : List Int) (p : Int → List Sp) : Prop := ∀ k, k ∈ K ↔ p k ≠ []
theorem keys_push {K : List Int} {p : Int → List Sp} (h : KeysOk K p) (k : Int) (s : Sp) : KeysOk (addI K k) (fun k' => if k' = k then p k ++ [s] else p k') := by
  intro k'
  rw [mem_addI]
  by_cases e : k' = k
  · simp [e]
  · simp only [e, if_false, false_or]
    exact h k'
theorem addI_len (K : List Int) (k : Int) : (addI K k).length ≤ K.length + 1 := by
  unfold addI
  split
  · omega
  · simp
/-- No row of the one map is a row of the other. -/
def Apart2 (K1 : List Int) (v1 : Int → Value) (K2 : List Int) (v2 : Int → Value) : Prop := ∀ a ∈ K1, ∀ b ∈ K2, ((v1 a).ownBlock = none ∨ (v1 a).ownBlock ≠ (v2 b).ownBlock) ∧ ((v2 b).ownBlock = none ∨ (v2 b).ownBlock ≠ (v1 a).ownBlock)
theorem Apart2.symm {K1 K2 : List Int} {v1 v2 : Int → Value} (h : Apart2 K1 v1 K2 v2) : Apart2 K2 v2 K1 v1 := fun a ha b hb => ⟨(h b hb a ha).2, (h b hb a ha).1⟩
theorem gv_in {K : List Int} {vals : Int → Value} {k : Int} (h : k ∈ K) : gvI K vals k = vals k := if_pos h
theorem gv_out {K : List Int} {vals : Int → Value} {k : Int} (h : k ∉ K) : gvI K vals k = .slice none 0 0 := if_neg h
theorem Apart2.push {K1 K2 : List Int} {v1 v2 : Int → Value} (h : Apart2 K1 v1 K2 v2) {B2 : Nat} {p2 : Int → List Sp} {w : World} (h2 : MV B2 K2 p2 v2 w) {k : Int} {v : Value} (hv : v.ownBlock = none ∨ v.ownBlock = (gvI K1 v1 k).ownBlock ∨ ∀ g, v.ownBlock = some g → w.heap.size ≤ g) : Apart2 (addI K1 k) (fun k' => if k' = k then v else v1 k') K2 v2 := by
  intro a ha b hb
  by_cases e : a = k
  · subst e
    simp only [if_true]
    rcases hv with hv | hv | hv
    · refine ⟨.inl hv, ?_⟩
      rcases own_none_or (v := v2 b) with h4 | h4
      · exact .inl h4
      · exact .inr fun e => h4 (e.trans hv)
    · by_cases hm : a ∈ K1
      · rw [hv, gv_in hm]
        exact h a hm b hb
      · rw [gv_out hm] at hv
        have hv' : v.ownBlock = none := hv
        refine ⟨.inl hv', ?_⟩
        rcases own_none_or (v := v2 b) with h4 | h4
        · exact .inl h4
        · exact .inr fun e => h4 (e.trans hv')
    · rcases hb2 : (v2 b).ownBlock with _ | g
      · refine ⟨?_, .inl rfl⟩
        exact own_none_or
      · have h1 := (h2.vs b hb).lt g hb2
        constructor
        · right
          intro e
          have := hv g e
          omega
        · right
          intro e
          have := hv g e.symm
          omega
  · rcases mem_addI.1 ha with h1 | h1
    · exact absurd h1 e
    · simp only [if_neg e]
      exact h a h1 b hb
theorem Ms.same {B bM : Nat} {K : List Int} {p q : Int → List Sp} {vals : Int → Value} {w : World} (h : Ms B bM K p vals w) (e : ∀ k ∈ K, p k = q k) : Ms B bM K q vals w :=
  ⟨h.map, fun k hk => by rw [← e k hk]; exact h.mv.vs k hk, h.mv.apart, h.mv.rng, h.mv.nd⟩
theorem Ms.base {B B0 bM : Nat} {K : List Int} {p : Int → List Sp} {vals : Int → Value} {w : World} (h : Ms B bM K p vals w) (hB : B0 ≤ B) : Ms B0 bM K p vals w :=
  ⟨h.map, fun k hk => own_base (h.mv.vs k hk) hB, h.mv.apart, h.mv.rng, h.mv.nd⟩
theorem Ms.row_ge {B bM : Nat} {K : List Int} {p : Int → List Sp} {vals : Int → Value} {w : World} (h : Ms B bM K p vals w) (k : Int) : ∀ q, (gvI K vals k).ownBlock = some q → B ≤ q ∧ q < w.heap.size := fun q hq => by
  by_cases hm : k ∈ K
  · rw [gv_in hm] at hq
    exact (h.mv.vs k hm).lt q hq
  · rw [gv_out hm] at hq
    cases hq
theorem Ms.own {B bM : Nat} {K : List Int} {p : Int → List Sp} {vals : Int → Value} {w : World} (h : Ms B bM K p vals w) (hp : ∀ k, k ∉ K → p k = []) (k : Int) : w.ownsRow B 188 2 (gvI K vals k) (p k).length ((p k).flatMap encS) := by
  by_cases hm : k ∈ K
  · rw [gv_in hm]
    exact h.mv.vs k hm
  · rw [gv_out hm, hp k hm]
    exact World.ownsRow_nil _ _ _ _
theorem Ms.others {B bM : Nat} {K : List Int} {p : Int → List Sp} {vals : Int → Value} {w : World} (h : Ms B bM K p vals w) (k : Int) : ∀ k' ∈ K, k' ≠ k → (vals k').ownBlock = none ∨ (vals k').ownBlock ≠ (gvI K vals k).ownBlock := fun k' hk' hne => by
  by_cases hm : k ∈ K
  · rw [gv_in hm]
    exact h.mv.apart k' hk' k hm hne
  · rw [gv_out hm]
    exact own_none_or
theorem Apart2.rows {K1 K2 : List Int} {v1 v2 : Int → Value} (h : Apart2 K1 v1 K2 v2) (k : Int) : ∀ b ∈ K2, (v2 b).ownBlock = none ∨ (v2 b).ownBlock ≠ (gvI K1 v1 k).ownBlock := fun b hb => by
  by_cases hm : k ∈ K1
  · rw [gv_in hm]
    exact (h k hm b hb).2
  · rw [gv_out hm]
    exact own_none_or
theorem Ms.map_ge {B bM : Nat} {K : List Int} {p : Int → List Sp} {vals : Int → Value} {w : World} (h : Ms B bM K p vals w) {k : Int} : some bM ≠ (gvI K vals k).ownBlock := by
  by_cases hm : k ∈ K
  · rw [gv_in hm]
    exact h.not_map (h.mv.vs k hm)
  · rw [gv_out hm]
    simp [Value.ownBlock]
/-- The two maps, the box that holds them. -/
structure Col (w0 wr : World) (h0 : Nat) (K1 K2 : List Int) (p1 p2 : Int → List Sp) (v1 v2 : Int → Value) : Prop where
  m1 : Ms (h0 + 4) (h0 + 1) K1 p1 v1 wr
  m2 : Ms (h0 + 4) (h0 + 1 + 1) K2 p2 v2 wr
  ap : Apart2 K1 v1 K2 v2
  c0 : wr.cell? ⟨h0 + 1 + 1 + 1, 0, none⟩ = some (.map (some (h0 + 1)))
  c1 : wr.cell? ⟨h0 + 1 + 1 + 1, 1, none⟩ = some (.map (some (h0 + 1 + 1)))
  low : Below h0 w0 wr
  sz : h0 + 4 ≤ wr.heap.size
  rb : wr.heap[h0]? = some (Obj.cells #[.map none, .map none] 163)
theorem Col.below {w0 wr w' : World} {h0 : Nat} {K1 K2 : List Int} {p1 p2 : Int → List Sp} {v1 v2 : Int → Value} (h : Col w0 wr h0 K1 K2 p1 p2 v1 v2) (hb : Below wr.heap.size wr w') : Col w0 w' h0 K1 K2 p1 p2 v1 v2 :=
  ⟨h.m1.below hb, h.m2.below hb, h.ap, (hb.cell (p := ⟨h0 + 1 + 1 + 1, 0, none⟩) (by have := h.sz; show h0 + 1 + 1 + 1 < _; omega)).trans h.c0, (hb.cell (p := ⟨h0 + 1 + 1 + 1, 1, none⟩) (by have := h.sz; show h0 + 1 + 1 + 1 < _; omega)).trans h.c1, h.low.trans (hb.mono (by have := h.sz; omega)), Nat.le_trans h.sz hb.size, (hb.block h0 (by have := h.sz; omega)).trans h.rb⟩
theorem cell_grow {w w' : World} {row : Option Nat} (h : w.grownBy w' row) {b o : Nat} (hb : b < w.heap.size) (hne : some b ≠ row) : w'.cell? ⟨b, o, none⟩ = w.cell? ⟨b, o, none⟩ := World.cell?_of_block (h.block b hb hne)
/-- One more span in the rows. -/
theorem Col.push1 {w0 wr w5 w9 : World} {h0 : Nat} {K1 K2 : List Int} {p1 p2 : Int → List Sp} {v1 v2 : Int → Value} (h : Col w0 wr h0 K1 K2 p1 p2 v1 v2) (hb : Below wr.heap.size wr w5) {k : Int} (hk : okK k) (hn : K1.length < maxLen) (hg : w5.grownBy w9 (gvI K1 v1 k).ownBlock) {g n cap : Nat} {s : Sp} (hl : n = (p1 k ++ [s]).length)
    (ho : w9.ownsRow (h0 + 4) 188 2 (.slice (some ⟨g, 0, none⟩) n cap) n ((p1 k ++ [s]).flatMap encS)) (hloc : (gvI K1 v1 k).ownBlock = some g ∨ w5.heap.size ≤ g) :
    ∃ wz, (Instr.mapUpdate 161 (.map (some (h0 + 1))) (.int .i64 k) (.slice (some ⟨g, 0, none⟩) n cap)).run Tryz.prog w9 = .ok () wz ∧ ∃ v1', Col w0 wz h0 (addI K1 k) K2 (fun k' => if k' = k then p1 k ++ [s] else p1 k') p2 v1' v2 := by
  subst hl
  have h5 := h.below hb
  have hloc' : (Value.slice (some ⟨g, 0, none⟩) (p1 k ++ [s]).length cap).ownBlock = none ∨ (Value.slice (some ⟨g, 0, none⟩) (p1 k ++ [s]).length cap).ownBlock = (gvI K1 v1 k).ownBlock ∨ ∀ g', (Value.slice (some ⟨g, 0, none⟩) (p1 k ++ [s]).length cap).ownBlock = some g' → w5.heap.size ≤ g' := by
    right
    rcases hloc with hl | hl
    · exact .inl (by rw [hl]; rfl)
    · refine .inr fun g' hg' => ?_
      have : g = g' := by simpa [Value.ownBlock] using hg'
      omega
  obtain ⟨wz, hrun, hgz, hmz⟩ := h5.m1.store hk hn hg h5.m1.map_ge (h5.m1.others k) ho hloc'
  refine ⟨wz, hrun, _, hmz, ?_, h5.ap.push h5.m2.mv hloc', ?_, ?_, ?_, ?_, ?_⟩
  · have h2 := h5.m2.grown hg (fun e => by have := (h5.m1.row_ge k _ e.symm).1; omega) (h5.ap.rows k)
    exact h2.grown hgz (fun e => by injection e with e; omega) fun b hb => .inr fun e => by have := (h2.mv.vs b hb).lt _ e; omega
  · have e1 := cell_grow hg (b := h0 + 1 + 1 + 1) (o := 0) (by have := h5.sz; omega) (fun e => by have := (h5.m1.row_ge k _ e.symm).1; omega)
    exact (cell_grow hgz (by have := h5.sz; have := hg.size; omega) (fun e => by injection e with e; omega)).trans (e1.trans h5.c0)
  · have e1 := cell_grow hg (b := h0 + 1 + 1 + 1) (o := 1) (by have := h5.sz; omega) (fun e => by have := (h5.m1.row_ge k _ e.symm).1; omega)
    exact (cell_grow hgz (by have := h5.sz; have := hg.size; omega) (fun e => by injection e with e; omega)).trans (e1.trans h5.c1)
  · exact (h5.low.grown hg (by have := h5.sz; omega) fun q hq => by have := (h5.m1.row_ge k q hq).1; omega).grown hgz (by have := h5.sz; have := hg.size; omega) fun q hq => by injection hq with hq; omega
  · have := h5.sz
    have := hg.size
    have := hgz.size
    omega
  · exact (hgz.block h0 (by have := h5.sz; have := hg.size; omega) (fun e => by injection e with e; omega)).trans ((hg.block h0 (by have := h5.sz; omega) (fun e => by have := (h5.m1.row_ge k _ e.symm).1; omega)).trans h5.rb)
theorem Col.push2 {w0 wr w5 w9 : World} {h0 : Nat} {K1 K2 : List Int} {p1 p2 : Int → List Sp} {v1 v2 : Int → Value} (h : Col w0 wr h0 K1 K2 p1 p2 v1 v2) (hb : Below wr.heap.size wr w5) {k : Int} (hk : okK k) (hn : K2.length < maxLen) (hg : w5.grownBy w9 (gvI K2 v2 k).ownBlock) {g n cap : Nat} {s : Sp} (hl : n = (p2 k ++ [s]).length)
    (ho : w9.ownsRow (h0 + 4) 188 2 (.slice (some ⟨g, 0, none⟩) n cap) n ((p2 k ++ [s]).flatMap encS)) (hloc : (gvI K2 v2 k).ownBlock = some g ∨ w5.heap.size ≤ g) :
    ∃ wz, (Instr.mapUpdate 161 (.map (some (h0 + 1 + 1))) (.int .i64 k) (.slice (some ⟨g, 0, none⟩) n cap)).run Tryz.prog w9 = .ok () wz ∧ ∃ v2', Col w0 wz h0 K1 (addI K2 k) p1 (fun k' => if k' = k then p2 k ++ [s] else p2 k') v1 v2' := by
  subst hl
  have h5 := h.below hb
  have hloc' : (Value.slice (some ⟨g, 0, none⟩) (p2 k ++ [s]).length cap).ownBlock = none ∨ (Value.slice (some ⟨g, 0, none⟩) (p2 k ++ [s]).length cap).ownBlock = (gvI K2 v2 k).ownBlock ∨ ∀ g', (Value.slice (some ⟨g, 0, none⟩) (p2 k ++ [s]).length cap).ownBlock = some g' → w5.heap.size ≤ g' := by
    right
    rcases hloc with hl | hl
    · exact .inl (by rw [hl]; rfl)
    · refine .inr fun g' hg' => ?_
      have : g = g' := by simpa [Value.ownBlock] using hg'
      omega
  obtain ⟨wz, hrun, hgz, hmz⟩ := h5.m2.store hk hn hg h5.m2.map_ge (h5.m2.others k) ho hloc'
  refine ⟨wz, hrun, _, ?_, hmz, (h5.ap.symm.push h5.m1.mv hloc').symm, ?_, ?_, ?_, ?_, ?_⟩
  · have h2 := h5.m1.grown hg (fun e => by have := (h5.m2.row_ge k _ e.symm).1; omega) (h5.ap.symm.rows k)
    exact h2.grown hgz (fun e => by injection e with e; omega) fun b hb => .inr fun e => by have := (h2.mv.vs b hb).lt _ e; omega
  · have e1 := cell_grow hg (b := h0 + 1 + 1 + 1) (o := 0) (by have := h5.sz; omega) (fun e => by have := (h5.m2.row_ge k _ e.symm).1; omega)
    exact (cell_grow hgz (by have := h5.sz; have := hg.size; omega) (fun e => by injection e with e; omega)).trans (e1.trans h5.c0)
  · have e1 := cell_grow hg (b := h0 + 1 + 1 + 1) (o := 1) (by have := h5.sz; omega) (fun e => by have := (h5.m2.row_ge k _ e.symm).1; omega)
    exact (cell_grow hgz (by have := h5.sz; have := hg.size; omega) (fun e => by injection e with e; omega)).trans (e1.trans h5.c1)
  · exact (h5.low.grown hg (by have := h5.sz; omega) fun q hq => by have := (h5.m2.row_ge k q hq).1; omega).grown hgz (by have := h5.sz; have := hg.size; omega) fun q hq => by injection hq with hq; omega
  · have := h5.sz
    have := hg.size
    have := hgz.size
    omega
  · exact (hgz.block h0 (by have := h5.sz; have := hg.size; omega) (fun e => by injection e with e; omega)).trans ((hg.block h0 (by have := h5.sz; omega) (fun e => by have := (h5.m2.row_ge k _ e.symm).1; omega)).trans h5.rb)
theorem iter_ne {w : World} {b r n : Nat} {D : DataW Unit} {left : Lit → Bool} {cnt : Nat} (h : w.ranges Tryz.prog 3 slD b r n D left cnt) {B m : Nat} {e : TypeId} {s : Nat} {v : Value} {xs : List Value} (ho : w.ownsRow B e s v m xs) : v.ownBlock = none ∨ v.ownBlock ≠ some r := by
  obtain ⟨es, clock, since, seen, c0, _, _, _, _, hr, _⟩ := h
  rcases ho.2 with ⟨rfl, _⟩ | ⟨g, cap, cur, rfl, _, hg, _⟩
  · exact .inl rfl
  · right
    intro e1
    have : g = r := by simpa [Value.ownBlock] using e1
    subst this
    rw [hg] at hr
    cases hr
theorem Col.grown {w0 wr w' : World} {h0 : Nat} {K1 K2 : List Int} {p1 p2 : Int → List Sp} {v1 v2 : Int → Value} (h : Col w0 wr h0 K1 K2 p1 p2 v1 v2) {row : Option Nat} (hg : wr.grownBy w' row) (n : ∀ q, row = some q → h0 < q ∧ q ≠ h0 + 1 ∧ q ≠ h0 + 1 + 1 ∧ q ≠ h0 + 1 + 1 + 1)
    (r1 : ∀ k ∈ K1, (v1 k).ownBlock = none ∨ (v1 k).ownBlock ≠ row) (r2 : ∀ k ∈ K2, (v2 k).ownBlock = none ∨ (v2 k).ownBlock ≠ row) : Col w0 w' h0 K1 K2 p1 p2 v1 v2 :=
  ⟨h.m1.grown hg (fun e => (n _ e.symm).2.1 rfl) r1, h.m2.grown hg (fun e => (n _ e.symm).2.2.1 rfl) r2, h.ap, (cell_grow hg (by have := h.sz; omega) (fun e => (n _ e.symm).2.2.2 rfl)).trans h.c0, (cell_grow hg (by have := h.sz; omega) (fun e => (n _ e.symm).2.2.2 rfl)).trans h.c1,
    h.low.grown hg (by have := h.sz; omega) (fun q hq => Nat.le_of_lt (n q hq).1), Nat.le_trans h.sz hg.size, (hg.block h0 (by have := h.sz; omega) (fun e => Nat.lt_irrefl _ (n _ e.symm).1)).trans h.rb⟩
/-- A step of the range over the rows: the iterator's block turns. -/
theorem Col.step1 {w0 wr w' : World} {h0 r : Nat} {K1 K2 : List Int} {p1 p2 : Int → List Sp} {v1 v2 : Int → Value} {left : Lit → Bool} {cnt : Nat} (h : Col w0 wr h0 K1 K2 p1 p2 v1 v2) (hm : Mr (h0 + 4) (h0 + 1) r K1 p1 v1 left cnt wr) (hr : h0 + 4 ≤ r) (hg : wr.grownBy w' (some r)) : Col w0 w' h0 K1 K2 p1 p2 v1 v2 := by
  obtain ⟨D, d1, _⟩ := hm.map
  exact h.grown hg (fun q hq => by injection hq with hq; omega) (fun k hk => iter_ne d1 (h.m1.mv.vs k hk)) (fun k hk => iter_ne d1 (h.m2.mv.vs k hk))
theorem Col.step2 {w0 wr w' : World} {h0 r : Nat} {K1 K2 : List Int} {p1 p2 : Int → List Sp} {v1 v2 : Int → Value} {left : Lit → Bool} {cnt : Nat} (h : Col w0 wr h0 K1 K2 p1 p2 v1 v2) (hm : Mr (h0 + 4) (h0 + 1 + 1) r K2 p2 v2 left cnt wr) (hr : h0 + 4 ≤ r) (hg : wr.grownBy w' (some r)) : Col w0 w' h0 K1 K2 p1 p2 v1 v2 := by
  obtain ⟨D, d1, _⟩ := hm.map
  exact h.grown hg (fun q hq => by injection hq with hq; omega) (fun k hk => iter_ne d1 (h.m1.mv.vs k hk)) (fun k hk => iter_ne d1 (h.m2.mv.vs k hk))
/-- The rows' value at a key is laid anew, while the range over them is under way. -/
theorem Col.upd1 {w0 wr w2 : World} {h0 r : Nat} {K1 K2 : List Int} {p1 p2 : Int → List Sp} {v1 v2 : Int → Value} {left : Lit → Bool} {cnt : Nat} (h : Col w0 wr h0 K1 K2 p1 p2 v1 v2) (hm : Mr (h0 + 4) (h0 + 1) r K1 p1 v1 left cnt wr) {x : Int} (hx : x ∈ K1) (hn : K1.length < maxLen) (hb : Below wr.heap.size wr w2) {q : List Sp} {v : Value} (hv : w2.ownsRow wr.heap.size 188 2 v q.length (q.flatMap encS)) :
    ∃ w3, (Instr.mapUpdate 161 (.map (some (h0 + 1))) (.int .i64 x) v).run Tryz.prog w2 = .ok () w3 ∧ w2.grownBy w3 (some (h0 + 1)) ∧ Mr (h0 + 4) (h0 + 1) r K1 (fun k' => if k' = x then q else p1 k') (fun k' => if k' = x then v else v1 k') left cnt w3 ∧ Col w0 w3 h0 K1 K2 (fun k' => if k' = x then q else p1 k') p2 (fun k' => if k' = x then v else v1 k') v2 := by
  obtain ⟨w3, hrun, hg3, hs3, hm3⟩ := hm.store hx hn hb hv h.sz
  have h2 := h.below hb
  have hap := h.ap.push (k := x) h.m2.mv (v := v) (.inr (.inr fun g hg => (hv.lt g hg).1))
  rw [show addI K1 x = K1 from if_pos hx] at hap
  refine ⟨w3, hrun, hg3, hm3, hm3.ms, ?_, hap, ?_, ?_, ?_, ?_, ?_⟩
  · exact h2.m2.grown hg3 (fun e => by injection e with e; omega) fun b hb' => .inr fun e => by have := (h2.m2.mv.vs b hb').lt _ e; omega
  · exact (cell_grow hg3 (by have := h2.sz; omega) (fun e => by injection e with e; omega)).trans h2.c0
  · exact (cell_grow hg3 (by have := h2.sz; omega) (fun e => by injection e with e; omega)).trans h2.c1
  · exact h2.low.grown hg3 (by have := h2.sz; omega) fun q hq => by injection hq with hq; omega
  · have := h2.sz; have := hg3.size; omega
  · exact (hg3.block h0 (by have := h2.sz; omega) (fun e => by injection e with e; omega)).trans h2.rb
theorem Col.upd2 {w0 wr w2 : World} {h0 r : Nat} {K1 K2 : List Int} {p1 p2 : Int → List Sp} {v1 v2 : Int → Value} {left : Lit → Bool} {cnt : Nat} (h : Col w0 wr h0 K1 K2 p1 p2 v1 v2) (hm : Mr (h0 + 4) (h0 + 1 + 1) r K2 p2 v2 left cnt wr) {x : Int} (hx : x ∈ K2) (hn : K2.length < maxLen) (hb : Below wr.heap.size wr w2) {q : List Sp} {v : Value} (hv : w2.ownsRow wr.heap.size 188 2 v q.length (q.flatMap encS)) :
    ∃ w3, (Instr.mapUpdate 161 (.map (some (h0 + 1 + 1))) (.int .i64 x) v).run Tryz.prog w2 = .ok () w3 ∧ w2.grownBy w3 (some (h0 + 1 + 1)) ∧ Mr (h0 + 4) (h0 + 1 + 1) r K2 (fun k' => if k' = x then q else p2 k') (fun k' => if k' = x then v else v2 k') left cnt w3 ∧ Col w0 w3 h0 K1 K2 p1 (fun k' => if k' = x then q else p2 k') v1 (fun k' => if k' = x then v else v2 k') := by
  obtain ⟨w3, hrun, hg3, hs3, hm3⟩ := hm.store hx hn hb hv h.sz
  have h2 := h.below hb
  have hap := h.ap.symm.push (k := x) h.m1.mv (v := v) (.inr (.inr fun g hg => (hv.lt g hg).1))
  rw [show addI K2 x = K2 from if_pos hx] at hap
  refine ⟨w3, hrun, hg3, hm3, ?_, hm3.ms, hap.symm, ?_, ?_, ?_, ?_, ?_⟩
  · exact h2.m1.grown hg3 (fun e => by injection e with e; omega) fun b hb' => .inr fun e => by have := (h2.m1.mv.vs b hb').lt _ e; omega
  · exact (cell_grow hg3 (by have := h2.sz; omega) (fun e => by injection e with e; omega)).trans h2.c0
  · exact (cell_grow hg3 (by have := h2.sz; omega) (fun e => by injection e with e; omega)).trans h2.c1
  · exact h2.low.grown hg3 (by have := h2.sz; omega) fun q hq => by injection hq with hq; omega
  · have := h2.sz; have := hg3.size; omega
  · exact (hg3.block h0 (by have := h2.sz; omega) (fun e => by injection e with e; omega)).trans h2.rb
end Go.Proofs.YtdolpeljengpaaaGreat

/- street.collect: the walk. -/
namespace Go.Proofs.YtdolpeljengpaaaGreat
open Go.RowKit Go.Maps
set_option linter.unusedVariables false
set_option linter.unusedSimpArgs false

def KeysUp (K : List Int) (p : Int → List Sp) : Prop := ∀ k, p k ≠ [] → k ∈ K
/-- span.Make of at most 800 valid spans: too many give nothing. -/
def thinS (l : List Sp) : List Sp := if l.length ≤ 400 then sjoin hFst l [] else []
def rowD (l : List Sg) (y : Int) : List Sp := thinS (rowSp l y)
def colD (l : List Sg) (x : Int) : List Sp := thinS (colSp l x)
/-- Without the lines that have too many. -/
def thin (l : List Sg) : List Sg := l.filter fun s => if s.ay = s.cy then decide ((rowSp l s.ay).length ≤ 400) else decide ((colSp l s.ax).length ≤ 400)
theorem thin_row (l : List Sg) (y : Int) : rowSp (thin l) y = if (rowSp l y).length ≤ 400 then rowSp l y else [] := by
  unfold thin
  rw [rowSp, List.filter_filter]
  split
  · rename_i h
    conv => rhs; rw [rowSp]
    congr 1
    refine List.filter_congr fun s _ => ?_
    by_cases h1 : s.ay = s.cy <;> by_cases h2 : s.ay = y <;> simp_all
  · rename_i h
    rw [List.map_eq_nil_iff, List.filter_eq_nil_iff]
    intro s _
    by_cases h1 : s.ay = s.cy <;> by_cases h2 : s.ay = y <;> simp_all
theorem thin_col (l : List Sg) (x : Int) : colSp (thin l) x = if (colSp l x).length ≤ 400 then colSp l x else [] := by
  unfold thin
  rw [colSp, List.filter_filter]
  split
  · rename_i h
    conv => rhs; rw [colSp]
    congr 1
    refine List.filter_congr fun s _ => ?_
    by_cases h1 : s.ay = s.cy <;> by_cases h2 : s.ax = x <;> simp_all
  · rename_i h
    rw [List.map_eq_nil_iff, List.filter_eq_nil_iff]
    intro s _
    by_cases h1 : s.ay = s.cy <;> by_cases h2 : s.ax = x <;> simp_all
theorem rowD_thin (l : List Sg) : rowD l = rowC (thin l) := funext fun y => by
  unfold rowD thinS rowC
  rw [thin_row]
  split
  · rfl
  · rfl
theorem colD_thin (l : List Sg) : colD l = colC (thin l) := funext fun x => by
  unfold colD thinS colC
  rw [thin_col]
  split
  · rfl
  · rfl
theorem thin_all {l : List Sg} (h : l.length ≤ 400) : thin l = l := by
  unfold thin
  rw [List.filter_eq_self]
  intro s _
  have h1 := rowSp_len l s.ay
  have h2 := colSp_len l s.ax
  split <;> simp <;> omega
theorem thin_mem {l : List Sg} {s : Sg} (h : s ∈ thin l) : s ∈ l := (List.mem_filter.1 h).1
theorem thin_len (l : List Sg) : (thin l).length ≤ l.length := List.length_filter_le _ _
theorem keys_thin {K : List Int} {l : List Sg} (h : KeysOk K (rowSp l)) : KeysUp K (rowSp (thin l)) := fun k hk => (h k).2 (fun e => hk (by rw [thin_row, e]; simp))
theorem keys_thinC {K : List Int} {l : List Sg} (h : KeysOk K (colSp l)) : KeysUp K (colSp (thin l)) := fun k hk => (h k).2 (fun e => hk (by rw [thin_col, e]; simp))
theorem spanMake_thin {w : World} {v : Value} {l : List Sp} (hr : RdK encS 2 w w.heap.size v l) (hv : ∀ p ∈ l, validS p) :
    Calls Tryz.prog 143 #[v] w fun e w' => ∃ A c er, e = .returned (.tuple #[.slice A (thinS l).length c, .int .i64 er]) ∧ w'.ownsRow w.heap.size 188 2 (.slice A (thinS l).length c) (thinS l).length ((thinS l).flatMap encS) ∧ Below w.heap.size w w' := by
  by_cases hl : l.length ≤ 400
  · refine (spanMake_ok hr hl hv).mono ?_
    rintro e w' ⟨A, c, rfl, h2⟩
    have e1 : thinS l = sjoin hFst l [] := by unfold thinS; rw [if_pos hl]
    rw [e1]
    exact ⟨A, c, 0, rfl, h2⟩
  · have e1 : thinS l = [] := by unfold thinS; rw [if_neg hl]
    rw [e1]
    obtain ⟨A, c, rfl, _⟩ := hr
    have hlz : ¬ (l.length : Int) ≤ 400 := by omega
    have hlz2 : (400 : Int) < (l.length : Int) := by omega
    clear hv hl e1
    go_enter Tryz.func143, Tryz.ntmps143
    go_wp2
    go_ret2
    exact ⟨none, 0, ⟨4, rfl⟩, World.ownsRow_nil _ _ _ _, Below.refl _ _⟩
/-- What collect gives: two maps with the canonical lines. -/
def Roads (B : Nat) (l : List Sg) (v : Value) (w : World) : Prop := ∃ b1 b2 K1 K2 v1 v2, v = .agg #[.map (some b1), .map (some b2)] ∧ Ms B b1 K1 (rowC l) v1 w ∧ Ms B b2 K2 (colC l) v2 w ∧ KeysUp K1 (rowSp l) ∧ KeysUp K2 (colSp l) ∧ B ≤ b1 ∧ B ≤ b2
theorem col_start {w w0 : World} (h : w0 = (((w.alloc (Obj.cells #[.map none, .map none] 163)).alloc (Obj.map #[] 0)).alloc (Obj.map #[] 0)).alloc (Obj.cells #[Value.map (some (w.heap.size + 1)), Value.map (some (w.heap.size + 1 + 1))] 163)) (hb : Below w.heap.size w w0) :
    Col w w0 w.heap.size [] [] (rowSp []) (colSp []) (fun _ => .slice none 0 0) (fun _ => .slice none 0 0) := by
  have e1 : (w.alloc (Obj.cells #[.map none, .map none] 163)).heap.size = w.heap.size + 1 := by simp
  have e2 : ((w.alloc (Obj.cells #[.map none, .map none] 163)).alloc (Obj.map #[] 0)).heap.size = w.heap.size + 1 + 1 := by simp
  have m1 := Ms.made (w.alloc (Obj.cells #[.map none, .map none] 163)) (w.heap.size + 4) (rowSp []) (fun _ => .slice none 0 0)
  have m2 := Ms.made ((w.alloc (Obj.cells #[.map none, .map none] 163)).alloc (Obj.map #[] 0)) (w.heap.size + 4) (colSp []) (fun _ => .slice none 0 0)
  rw [e1] at m1
  rw [e2] at m2
  refine ⟨?_, ?_, fun a ha => (List.not_mem_nil ha).elim, ?_, ?_, hb, ?_, ?_⟩
  · rw [h]
    exact m1.below (((Below.refl _ _).alloc (Nat.le_refl _) _).alloc (by simp) _)
  · rw [h]
    exact m2.below ((Below.refl _ _).alloc (Nat.le_refl _) _)
  · rw [h]; simp [go_sem]
  · rw [h]; simp [go_sem]
  · rw [h]; simp
  · rw [h]
    have e3 := (MapKept.heap_alloc w (Obj.cells #[.map none, .map none] 163)).1
    have hb3 := (((Below.refl (w.alloc (Obj.cells #[.map none, .map none] 163)).heap.size (w.alloc (Obj.cells #[.map none, .map none] 163))).alloc (Nat.le_refl _) (Obj.map #[] 0)).alloc (by simp) (Obj.map #[] 0)).alloc (by simp) (Obj.cells #[Value.map (some (w.heap.size + 1)), Value.map (some (w.heap.size + 1 + 1))] 163)
    exact (hb3.block w.heap.size (by simp)).trans e3
set_option maxRecDepth 100000 in
set_option maxHeartbeats 8000000 in
theorem collect_any {w : World} {v : Value} {l : List Sg} (hr : RdK encSg 4 w w.heap.size v l) (hl : l.length ≤ 800) (hv : ∀ s ∈ l, okSg s) :
    Calls Tryz.prog 106 #[v] w fun e w' => ∃ u, e = .returned u ∧ Roads w.heap.size (thin l) u w' ∧ Below w.heap.size w w' := by
  obtain ⟨i1, gi, gz0, gz1, gz2⟩ := info_parts infoSp
  obtain ⟨A, c, rfl, hc⟩ := hr
  have HRC := hide hc
  have HV := hide hv
  clear hc hv
  have hmm := @run_makeMap Tryz.prog
  go_enter Tryz.func106, Tryz.ntmps106
  go_upto_region 2 with fail
  refine wp_name fun w0 hw0 => ?_
  clear hmm
  have hb0 : Below w.heap.size w w0 := by
    rw [hw0]
    repeat (first | with_reducible exact Below.refl _ _ | with_reducible refine Below.setCell ?_ (by first | (simp; done) | (simp; omega)) _ | with_reducible refine Below.alloc ?_ (by first | omega | (simp; omega) | simp) _)
  have hcol : Col w w0 w.heap.size [] [] (rowSp []) (colSp []) (fun _ => .slice none 0 0) (fun _ => .slice none 0 0) := by
    exact col_start hw0 hb0
  have HC0 := hide hcol
  clear hw0 hb0 hcol
  go_wp2
  go_loopw [15] (fun i wr => ∃ m : Nat, m ≤ l.length ∧ i = .int .i64 m ∧ Hid (∃ K1 K2 v1 v2, Col w wr w.heap.size K1 K2 (rowSp (l.take m)) (colSp (l.take m)) v1 v2 ∧ KeysOk K1 (rowSp (l.take m)) ∧ KeysOk K2 (colSp (l.take m)) ∧ K1.length ≤ m ∧ K2.length ≤ m)) (fun i _ => l.length - (intOf i).toNat)
  case atStart => exact ⟨0, Nat.zero_le _, rfl, hide ⟨[], [], _, _, HC0.out, fun k => by simp [rowSp], fun k => by simp [colSp], Nat.zero_le _, Nat.zero_le _⟩⟩
  case round =>
    obtain ⟨m, hm, rfl, HCC⟩ := hrel
    by_cases hlt : m < l.length
    · obtain ⟨s, hs⟩ : ∃ p, l[m]? = some p := ⟨_, List.getElem?_eq_getElem hlt⟩
      obtain ⟨K1, K2, v1, v2, hcol, hk1, hk2, hn1, hn2⟩ := HCC.out
      obtain ⟨b, o, rfl, hbl, k⟩ := HRC.out (by intro e; rw [e] at hlt; simp at hlt)
      have hb := hcol.low
      have d0 : wr.cell? ⟨b, o + m * 4, none⟩ = some (.int .i64 s.ax) := (hb.cell (p := ⟨b, _, none⟩) hbl).trans (k m _ hs 0 _ rfl)
      have d1 : wr.cell? ⟨b, o + m * 4 + 1, none⟩ = some (.int .i64 s.ay) := (hb.cell (p := ⟨b, _, none⟩) hbl).trans (k m _ hs 1 _ rfl)
      have d2 : wr.cell? ⟨b, o + m * 4 + 2, none⟩ = some (.int .i64 s.cx) := (hb.cell (p := ⟨b, _, none⟩) hbl).trans (k m _ hs 2 _ rfl)
      have d3 : wr.cell? ⟨b, o + m * 4 + 3, none⟩ = some (.int .i64 s.cy) := (hb.cell (p := ⟨b, _, none⟩) hbl).trans (k m _ hs 3 _ rfl)
      have hsv := HV.out s (List.mem_of_getElem? hs)
      have hky : okK s.ay := by obtain ⟨⟨_, ⟨_, _⟩, _⟩, _⟩ := hsv; unfold okK; omega
      have hkx : okK s.ax := by obtain ⟨⟨⟨_, _⟩, _⟩, _⟩ := hsv; unfold okK; omega
      have HSR := hide (rowSp_take hs)
      have HSC := hide (colSp_take hs)
      have hlr := fun y => rowSp_len (l.take m) y
      have hlc := fun y => colSp_len (l.take m) y
      have Hp1l : Hid (∀ y, (rowSp (l.take m) y).length ≤ 800) := hide (fun y => by have := hlr y; rw [List.length_take] at this; omega)
      have Hp2l : Hid (∀ y, (colSp (l.take m) y).length ≤ 800) := hide (fun y => by have := hlc y; rw [List.length_take] at this; omega)
      have Hp10 : Hid (∀ k, k ∉ K1 → rowSp (l.take m) k = []) := hide (fun k hk => Classical.byContradiction fun h => hk ((hk1 k).2 h))
      have Hp20 : Hid (∀ k, k ∉ K2 → colSp (l.take m) k = []) := hide (fun k hk => Classical.byContradiction fun h => hk ((hk2 k).2 h))
      have HK1 := hide hk1
      have HK2 := hide hk2
      have HCOL := hide hcol
      have mz : (m : Int) < (l.length : Int) := by omega
      clear k hs hb hsv hlr hlc hk1 hk2 hcol HCC
      generalize rowSp (l.take m) = p1 at *
      generalize colSp (l.take m) = p2 at *
      go_upto_region 5 with fail
      refine wp_name fun w5 hw5 => ?_
      obtain ⟨g5, hg5⟩ : ∃ g, g = wr.heap.size := ⟨_, rfl⟩
      have hb5 : Below wr.heap.size wr w5 := by
        rw [hw5]
        repeat (first | with_reducible exact Below.refl _ _ | with_reducible refine Below.setCell ?_ (by first | (simp; done) | (simp; omega)) _ | with_reducible refine Below.alloc ?_ (by first | omega | (simp; omega) | simp) _)
      have s0 : w5.cell? ⟨g5, 0, none⟩ = some (.int .i64 s.ax) := by rw [hw5, hg5]; simp [go_sem]
      have s1 : w5.cell? ⟨g5, 1, none⟩ = some (.int .i64 s.ay) := by rw [hw5, hg5]; simp [go_sem]
      have s2 : w5.cell? ⟨g5, 2, none⟩ = some (.int .i64 s.cx) := by rw [hw5, hg5]; simp [go_sem]
      have s3 : w5.cell? ⟨g5, 3, none⟩ = some (.int .i64 s.cy) := by rw [hw5, hg5]; simp [go_sem]
      have hlt5 : g5 < w5.heap.size := by rw [hw5, hg5]; simp
      have HC5 := hide (HCOL.out.below hb5)
      have hgR : w.heap.size + 4 ≤ g5 := by rw [hg5]; exact HCOL.out.sz
      have HB5 := hide hb5
      rw [← hg5]
      have HG5 := hide hg5
      clear hw5 hb5 hg5 d0 d1 d2 d3
      by_cases hrow : s.ay = s.cy
      · have hcc : (s.ay == s.cy) = true := by simpa using hrow
        have HROW := hide hrow
        clear hrow
        go_upto_region 6 with fail
        have HKK : Hid (okK s.ay) := hide hky
        have HOWN := hide (HC5.out.m1.own Hp10.out s.ay)
        have HGE := hide (HCOL.out.m1.row_ge s.ay)
        have HNM : Hid (some (w.heap.size + 1) ≠ (gvI K1 v1 s.ay).ownBlock) := hide HC5.out.m1.map_ge
        have HSL := hide HC5.out.m1.mv.sl
        obtain ⟨Ag, cg, hgv⟩ := own_form HOWN.out
        have hpl : (p1 s.ay).length ≤ 800 := Hp1l.out s.ay
        obtain ⟨ps, hps⟩ : ∃ ps, p1 s.ay = ps := ⟨_, rfl⟩
        rw [hps] at hgv
        have HGV := hide hgv
        rw [hps] at HOWN hpl
        rw [hgv] at HOWN HGE HNM
        have HPS := hide hps
        have HS : Hid (∀ w' : World, Below w5.heap.size w5 w' → (w'.cell? ⟨w.heap.size + 1 + 1 + 1, 0, none⟩ = some (.map (some (w.heap.size + 1))) ∧ w'.cell? ⟨w.heap.size + 1 + 1 + 1, 1, none⟩ = some (.map (some (w.heap.size + 1 + 1)))) ∧ (w'.cell? ⟨g5, 0, none⟩ = some (.int .i64 s.ax) ∧ w'.cell? ⟨g5, 1, none⟩ = some (.int .i64 s.ay) ∧ w'.cell? ⟨g5, 2, none⟩ = some (.int .i64 s.cx) ∧ w'.cell? ⟨g5, 3, none⟩ = some (.int .i64 s.cy)) ∧ MsL (w.heap.size + 1) K1 v1 w') := hide (fun w' h => ⟨⟨(HC5.out.below h).c0, (HC5.out.below h).c1⟩, ⟨(h.cell (p := ⟨g5, 0, none⟩) hlt5).trans s0, (h.cell (p := ⟨g5, 1, none⟩) hlt5).trans s1, (h.cell (p := ⟨g5, 2, none⟩) hlt5).trans s2, (h.cell (p := ⟨g5, 3, none⟩) hlt5).trans s3⟩, (HC5.out.below h).m1.map⟩)
        clear hgv hps
        refine wp_region_mix [0, 1, 2, 3, 4, 5, 6, 7, 8, 9, 10, 11, 12, 13, 14, 15, 16, 17, 18, 19, 20, 21, 22, 23, 24, 25] [26, 27, 28] (fun w' => (w'.cell? ⟨w.heap.size + 1 + 1 + 1, 0, none⟩ = some (.map (some (w.heap.size + 1))) ∧ w'.cell? ⟨w.heap.size + 1 + 1 + 1, 1, none⟩ = some (.map (some (w.heap.size + 1 + 1)))) ∧ (w'.cell? ⟨g5, 0, none⟩ = some (.int .i64 s.ax) ∧ w'.cell? ⟨g5, 1, none⟩ = some (.int .i64 s.ay) ∧ w'.cell? ⟨g5, 2, none⟩ = some (.int .i64 s.cx) ∧ w'.cell? ⟨g5, 3, none⟩ = some (.int .i64 s.cy)) ∧ MsL (w.heap.size + 1) K1 v1 w') (by kernel_rfl) (by kernel_rfl) (HS.out _ (Below.refl _ _).drew) ?_
        simp only [List.map_cons, List.map_nil, opAt, List.getElem?_cons_succ, List.getElem?_cons_zero, Option.getD_some]
        clear s0 s1 s2 s3
        iterate 26
          refine ⟨?_, Or.inl ⟨by rfl, ?_⟩, ?_⟩
          rotate_left 1
          · intro w' hSw
            obtain ⟨⟨z0, z1⟩, ⟨z2, z3, z4, z5⟩, z6⟩ := hSw
            have z7 := MsL.look z6 HSL.out HKK.out
            rw [HGV.out] at z7
            clear z6
            go_simp
            first | done | with_reducible rfl
          simp only [Act.put, List.setIfInBounds_toArray, List.set_cons_zero, List.set_cons_succ]
        simp only [wpReads]
        intro K hK
        simp only [Act.put, List.setIfInBounds_toArray, List.set_cons_zero, List.set_cons_succ] at hK ⊢
        go_simp
        refine hK _ _ (fun _ => HS.out _ ((Below.refl _ _).alloc (Nat.le_refl _) _).drew) ?_
        clear hK K
        intro K hK
        refine step_append_lies _ rfl (.tmp 36) (.tmp 52) 182 rfl (w.heap.size + 4) 188 i1 (.agg #[.int .i64 0, .int .i64 0]) 2 16 Tryz.underlying182 gi gz0 gz1 gz2 rfl (by decide) _ ps.length _ rfl (own_drew (World.ownsRow.alloc (w := w5) HOWN.out _)) ⟨w5.heap.size, 0, none⟩ 1 1 [.int .i64 (min s.ax s.cx), .int .i64 (max s.ax s.cx)] rfl rfl (news_drew w5 _ _ _ rfl) (ints_one rfl) (by omega) (by unfold maxLen; omega) (by omega) (by simp; omega) _ rfl ?_
        intro g9 cap9 w9 hown9 hgrow9 hor9 hlt9
        have hS5 := HS.out _ (((Below.refl w5.heap.size w5).alloc (Nat.le_refl _) (.cells #[.int .i64 (min s.ax s.cx), .int .i64 (max s.ax s.cx)] 188)).drew)
        have hcg : ∀ b o, b < w5.heap.size → (b < w.heap.size + 4 ∨ b = g5) → w9.cell? ⟨b, o, none⟩ = ((w5.alloc (.cells #[.int .i64 (min s.ax s.cx), .int .i64 (max s.ax s.cx)] 188)).drew).cell? ⟨b, o, none⟩ := fun b o hb hne => cell_grow hgrow9 (by show b < (w5.alloc _).heap.size; simp; omega) (fun e => by have := HGE.out _ e.symm; have := HG5.out; omega)
        have hS9 : (w9.cell? ⟨w.heap.size + 1 + 1 + 1, 0, none⟩ = some (.map (some (w.heap.size + 1))) ∧ w9.cell? ⟨w.heap.size + 1 + 1 + 1, 1, none⟩ = some (.map (some (w.heap.size + 1 + 1)))) ∧ (w9.cell? ⟨g5, 0, none⟩ = some (.int .i64 s.ax) ∧ w9.cell? ⟨g5, 1, none⟩ = some (.int .i64 s.ay) ∧ w9.cell? ⟨g5, 2, none⟩ = some (.int .i64 s.cx) ∧ w9.cell? ⟨g5, 3, none⟩ = some (.int .i64 s.cy)) ∧ MsL (w.heap.size + 1) K1 v1 w9 := ⟨⟨(hcg _ _ (by omega) (by omega)).trans hS5.1.1, (hcg _ _ (by omega) (by omega)).trans hS5.1.2⟩, ⟨(hcg _ _ hlt5 (.inr rfl)).trans hS5.2.1.1, (hcg _ _ hlt5 (.inr rfl)).trans hS5.2.1.2.1, (hcg _ _ hlt5 (.inr rfl)).trans hS5.2.1.2.2.1, (hcg _ _ hlt5 (.inr rfl)).trans hS5.2.1.2.2.2⟩, hS5.2.2.grown hgrow9 HNM.out⟩
        have HS9 := hide hS9
        refine hK _ _ (fun _ => HS9.out) ?_
        clear hK K hS5 hcg hS9
        have hx9 : ps.flatMap encS ++ [.int .i64 (min s.ax s.cx), .int .i64 (max s.ax s.cx)] = (p1 s.ay ++ [spR s]).flatMap encS := by rw [HPS.out]; simp [encS, spR]
        rw [hx9] at hown9
        have hlen9 : ps.length + 1 = (p1 s.ay ++ [spR s]).length := by rw [HPS.out]; simp
        rw [← HGV.out] at hgrow9 hor9
        obtain ⟨wz, hrun, v9, hcol9⟩ := HCOL.out.push1 (HB5.out.trans ((((Below.refl w5.heap.size w5).alloc (Nat.le_refl _) (.cells #[.int .i64 (min s.ax s.cx), .int .i64 (max s.ax s.cx)] 188)).drew).mono HB5.out.size)) HKK.out (by unfold maxLen; omega) hgrow9 (s := spR s) hlen9 hown9 (by rcases hor9 with h | h; exact .inl h; exact .inr (by rw [← h]; exact Nat.le_refl _))
        have HCOL9 := hide hcol9
        clear hcol9 hown9 hgrow9 hor9 hx9 hlen9
        intro K hK
        simp only [Act.put, List.setIfInBounds_toArray, List.set_cons_zero, List.set_cons_succ] at hK ⊢
        obtain ⟨⟨z0, z1⟩, ⟨z2, z3, z4, z5⟩, -⟩ := HS9.out
        go_simp
        refine hK _ _ (fun h => absurd rfl h) ?_
        clear hK K hrun z0 z1 z2 z3 z4 z5
        refine NoPanic.normal ?_
        go_wp2
        go_roundw
        case rel =>
          have e1 : rowSp (l.take (m + 1)) = fun k' => if k' = s.ay then p1 s.ay ++ [spR s] else p1 k' := funext fun y => by
            rw [HSR.out y]
            by_cases e : y = s.ay
            · subst e
              rw [if_pos ⟨HROW.out, rfl⟩, if_pos rfl]
            · rw [if_neg (fun h => e h.2.symm), if_neg e]
          have e2 : colSp (l.take (m + 1)) = p2 := funext fun y => by
            rw [HSC.out y, if_neg (fun h => h.1 HROW.out)]
          have h1 := addI_len K1 s.ay
          refine ⟨m + 1, by omega, by go_num, ?_⟩
          rw [e1, e2]
          exact hide ⟨addI K1 s.ay, K2, v9, v2, HCOL9.out, keys_push HK1.out _ _, HK2.out, by omega, by omega⟩
        case measure => simp [intOf]; omega
      · have hcc : (s.ay == s.cy) = false := by simpa using hrow
        have HROW := hide hrow
        clear hrow
        go_upto_region 7 with fail
        have HKK : Hid (okK s.ax) := hide hkx
        have HOWN := hide (HC5.out.m2.own Hp20.out s.ax)
        have HGE := hide (HCOL.out.m2.row_ge s.ax)
        have HNM : Hid (some (w.heap.size + 1 + 1) ≠ (gvI K2 v2 s.ax).ownBlock) := hide HC5.out.m2.map_ge
        have HSL := hide HC5.out.m2.mv.sl
        obtain ⟨Ag, cg, hgv⟩ := own_form HOWN.out
        have hpl : (p2 s.ax).length ≤ 800 := Hp2l.out s.ax
        obtain ⟨ps, hps⟩ : ∃ ps, p2 s.ax = ps := ⟨_, rfl⟩
        rw [hps] at hgv
        have HGV := hide hgv
        rw [hps] at HOWN hpl
        rw [hgv] at HOWN HGE HNM
        have HPS := hide hps
        have HS : Hid (∀ w' : World, Below w5.heap.size w5 w' → (w'.cell? ⟨w.heap.size + 1 + 1 + 1, 0, none⟩ = some (.map (some (w.heap.size + 1))) ∧ w'.cell? ⟨w.heap.size + 1 + 1 + 1, 1, none⟩ = some (.map (some (w.heap.size + 1 + 1)))) ∧ (w'.cell? ⟨g5, 0, none⟩ = some (.int .i64 s.ax) ∧ w'.cell? ⟨g5, 1, none⟩ = some (.int .i64 s.ay) ∧ w'.cell? ⟨g5, 2, none⟩ = some (.int .i64 s.cx) ∧ w'.cell? ⟨g5, 3, none⟩ = some (.int .i64 s.cy)) ∧ MsL (w.heap.size + 1 + 1) K2 v2 w') := hide (fun w' h => ⟨⟨(HC5.out.below h).c0, (HC5.out.below h).c1⟩, ⟨(h.cell (p := ⟨g5, 0, none⟩) hlt5).trans s0, (h.cell (p := ⟨g5, 1, none⟩) hlt5).trans s1, (h.cell (p := ⟨g5, 2, none⟩) hlt5).trans s2, (h.cell (p := ⟨g5, 3, none⟩) hlt5).trans s3⟩, (HC5.out.below h).m2.map⟩)
        clear hgv hps
        refine wp_region_mix [0, 1, 2, 3, 4, 5, 6, 7, 8, 9, 10, 11, 12, 13, 14, 15, 16, 17, 18, 19, 20, 21, 22, 23, 24, 25] [26, 27, 28] (fun w' => (w'.cell? ⟨w.heap.size + 1 + 1 + 1, 0, none⟩ = some (.map (some (w.heap.size + 1))) ∧ w'.cell? ⟨w.heap.size + 1 + 1 + 1, 1, none⟩ = some (.map (some (w.heap.size + 1 + 1)))) ∧ (w'.cell? ⟨g5, 0, none⟩ = some (.int .i64 s.ax) ∧ w'.cell? ⟨g5, 1, none⟩ = some (.int .i64 s.ay) ∧ w'.cell? ⟨g5, 2, none⟩ = some (.int .i64 s.cx) ∧ w'.cell? ⟨g5, 3, none⟩ = some (.int .i64 s.cy)) ∧ MsL (w.heap.size + 1 + 1) K2 v2 w') (by kernel_rfl) (by kernel_rfl) (HS.out _ (Below.refl _ _).drew) ?_
        simp only [List.map_cons, List.map_nil, opAt, List.getElem?_cons_succ, List.getElem?_cons_zero, Option.getD_some]
        clear s0 s1 s2 s3
        iterate 26
          refine ⟨?_, Or.inl ⟨by rfl, ?_⟩, ?_⟩
          rotate_left 1
          · intro w' hSw
            obtain ⟨⟨z0, z1⟩, ⟨z2, z3, z4, z5⟩, z6⟩ := hSw
            have z7 := MsL.look z6 HSL.out HKK.out
            rw [HGV.out] at z7
            clear z6
            go_simp
            first | done | with_reducible rfl
          simp only [Act.put, List.setIfInBounds_toArray, List.set_cons_zero, List.set_cons_succ]
        simp only [wpReads]
        intro K hK
        simp only [Act.put, List.setIfInBounds_toArray, List.set_cons_zero, List.set_cons_succ] at hK ⊢
        go_simp
        refine hK _ _ (fun _ => HS.out _ ((Below.refl _ _).alloc (Nat.le_refl _) _).drew) ?_
        clear hK K
        intro K hK
        refine step_append_lies _ rfl (.tmp 64) (.tmp 80) 182 rfl (w.heap.size + 4) 188 i1 (.agg #[.int .i64 0, .int .i64 0]) 2 16 Tryz.underlying182 gi gz0 gz1 gz2 rfl (by decide) _ ps.length _ rfl (own_drew (World.ownsRow.alloc (w := w5) HOWN.out _)) ⟨w5.heap.size, 0, none⟩ 1 1 [.int .i64 (min s.ay s.cy), .int .i64 (max s.ay s.cy)] rfl rfl (news_drew w5 _ _ _ rfl) (ints_one rfl) (by omega) (by unfold maxLen; omega) (by omega) (by simp; omega) _ rfl ?_
        intro g9 cap9 w9 hown9 hgrow9 hor9 hlt9
        have hS5 := HS.out _ (((Below.refl w5.heap.size w5).alloc (Nat.le_refl _) (.cells #[.int .i64 (min s.ay s.cy), .int .i64 (max s.ay s.cy)] 188)).drew)
        have hcg : ∀ b o, b < w5.heap.size → (b < w.heap.size + 4 ∨ b = g5) → w9.cell? ⟨b, o, none⟩ = ((w5.alloc (.cells #[.int .i64 (min s.ay s.cy), .int .i64 (max s.ay s.cy)] 188)).drew).cell? ⟨b, o, none⟩ := fun b o hb hne => cell_grow hgrow9 (by show b < (w5.alloc _).heap.size; simp; omega) (fun e => by have := HGE.out _ e.symm; have := HG5.out; omega)
        have hS9 : (w9.cell? ⟨w.heap.size + 1 + 1 + 1, 0, none⟩ = some (.map (some (w.heap.size + 1))) ∧ w9.cell? ⟨w.heap.size + 1 + 1 + 1, 1, none⟩ = some (.map (some (w.heap.size + 1 + 1)))) ∧ (w9.cell? ⟨g5, 0, none⟩ = some (.int .i64 s.ax) ∧ w9.cell? ⟨g5, 1, none⟩ = some (.int .i64 s.ay) ∧ w9.cell? ⟨g5, 2, none⟩ = some (.int .i64 s.cx) ∧ w9.cell? ⟨g5, 3, none⟩ = some (.int .i64 s.cy)) ∧ MsL (w.heap.size + 1 + 1) K2 v2 w9 := ⟨⟨(hcg _ _ (by omega) (by omega)).trans hS5.1.1, (hcg _ _ (by omega) (by omega)).trans hS5.1.2⟩, ⟨(hcg _ _ hlt5 (.inr rfl)).trans hS5.2.1.1, (hcg _ _ hlt5 (.inr rfl)).trans hS5.2.1.2.1, (hcg _ _ hlt5 (.inr rfl)).trans hS5.2.1.2.2.1, (hcg _ _ hlt5 (.inr rfl)).trans hS5.2.1.2.2.2⟩, hS5.2.2.grown hgrow9 HNM.out⟩
        have HS9 := hide hS9
        refine hK _ _ (fun _ => HS9.out) ?_
        clear hK K hS5 hcg hS9
        have hx9 : ps.flatMap encS ++ [.int .i64 (min s.ay s.cy), .int .i64 (max s.ay s.cy)] = (p2 s.ax ++ [spC s]).flatMap encS := by rw [HPS.out]; simp [encS, spC]
        rw [hx9] at hown9
        have hlen9 : ps.length + 1 = (p2 s.ax ++ [spC s]).length := by rw [HPS.out]; simp
        rw [← HGV.out] at hgrow9 hor9
        obtain ⟨wz, hrun, v9, hcol9⟩ := HCOL.out.push2 (HB5.out.trans ((((Below.refl w5.heap.size w5).alloc (Nat.le_refl _) (.cells #[.int .i64 (min s.ay s.cy), .int .i64 (max s.ay s.cy)] 188)).drew).mono HB5.out.size)) HKK.out (by unfold maxLen; omega) hgrow9 (s := spC s) hlen9 hown9 (by rcases hor9 with h | h; exact .inl h; exact .inr (by rw [← h]; exact Nat.le_refl _))
        have HCOL9 := hide hcol9
        clear hcol9 hown9 hgrow9 hor9 hx9 hlen9
        intro K hK
        simp only [Act.put, List.setIfInBounds_toArray, List.set_cons_zero, List.set_cons_succ] at hK ⊢
        obtain ⟨⟨z0, z1⟩, ⟨z2, z3, z4, z5⟩, -⟩ := HS9.out
        go_simp
        refine hK _ _ (fun h => absurd rfl h) ?_
        clear hK K hrun z0 z1 z2 z3 z4 z5
        refine NoPanic.normal ?_
        go_wp2
        go_roundw
        case rel =>
          have e1 : colSp (l.take (m + 1)) = fun k' => if k' = s.ax then p2 s.ax ++ [spC s] else p2 k' := funext fun y => by
            rw [HSC.out y]
            by_cases e : y = s.ax
            · subst e
              rw [if_pos ⟨HROW.out, rfl⟩, if_pos rfl]
            · rw [if_neg (fun h => e h.2.symm), if_neg e]
          have e2 : rowSp (l.take (m + 1)) = p1 := funext fun y => by
            rw [HSR.out y, if_neg (fun h => HROW.out h.1)]
          have h1 := addI_len K2 s.ax
          refine ⟨m + 1, by omega, by go_num, ?_⟩
          rw [e1, e2]
          exact hide ⟨K1, addI K2 s.ax, v1, v9, HCOL9.out, HK1.out, keys_push HK2.out _ _, by omega, by omega⟩
        case measure => simp [intOf]; omega
    · obtain rfl : m = l.length := by omega
      rw [List.take_length] at HCC
      obtain ⟨K1, K2, v10, v20, hcol, hk1, hk2, hn1, hn2⟩ := HCC.out
      have HK1 := hide hk1
      have HK2 := hide hk2
      have HCOL := hide hcol
      obtain ⟨gS, hgS⟩ : ∃ g, wr.heap.size = g := ⟨_, rfl⟩
      clear hk1 hk2 hcol HCC
      have z0 := HCOL.out.c0
      have z1 := HCOL.out.c1
      go_wp2
      clear z0 z1
      have HC3 := hide (HCOL.out.below ((Below.refl _ _).alloc (Nat.le_refl _) (.cells #[.map (some (w.heap.size + 1)), .map (some (w.heap.size + 1 + 1))] 161)))
      go_loopw [89] (fun q wr2 => ∃ m : Nat, m ≤ 2 ∧ q = .int .i64 m ∧ Hid (∃ p1 p2 v1 v2, Col w wr2 w.heap.size K1 K2 p1 p2 v1 v2 ∧ (∀ k ∈ K1, p1 k = if 1 ≤ m then rowD l k else rowSp l k) ∧ (∀ k ∈ K2, p2 k = if 2 ≤ m then colD l k else colSp l k)) ∧ Hid (wr2.cell? ⟨gS, 0, none⟩ = some (.map (some (w.heap.size + 1))) ∧ wr2.cell? ⟨gS, 1, none⟩ = some (.map (some (w.heap.size + 1 + 1))) ∧ gS < wr2.heap.size ∧ w.heap.size + 4 ≤ gS)) (fun q _ => 2 - (intOf q).toNat)
      case atStart =>
        exact ⟨0, by omega, rfl, hide ⟨_, _, _, _, HC3.out, fun k _ => rfl, fun k _ => rfl⟩, hide ⟨by rw [← hgS]; simp [go_sem], by rw [← hgS]; simp [go_sem], by rw [← hgS]; simp, by rw [← hgS]; exact HCOL.out.sz⟩⟩
      case round =>
        clear HC3 HCOL
        obtain ⟨m, hm, rfl, HCC, HGS⟩ := hrel
        obtain ⟨p1, p2, v1, v2, hc2, hp1, hp2⟩ := HCC.out
        have HC2 := hide hc2
        obtain ⟨s0, s1, -, -⟩ := HGS.out
        have hms : m = 0 ∨ m = 1 ∨ m = 2 := by omega
        clear HCC hc2
        rcases hms with rfl | rfl | rfl
        · skip
          have HP1 : Hid (∀ k ∈ K1, p1 k = rowSp l k) := hide (fun k hk => by rw [hp1 k hk, if_neg (by omega)])
          have HP2 : Hid (∀ k ∈ K2, p2 k = colSp l k) := hide (fun k hk => by rw [hp2 k hk, if_neg (by omega)])
          clear hp1 hp2 hm
          rw [show ((0 : Nat) : Int) = 0 from rfl]
          go_upto_region 12 with fail
          clear s0 s1
          go_wp2_with (at_range; refine wpList_range_ms rfl _ rfl rfl HC2.out.m1 ?_; intro w4 left hmr hleft hgr hs4)
          go_frame
          have HC4 := hide (HC2.out.grown hgr (fun q hq => by cases hq) (fun k hk => own_none_or) (fun k hk => own_none_or))
          have HG4 : Hid (w4.cell? ⟨gS, 0, none⟩ = some (.map (some (w.heap.size + 1))) ∧ w4.cell? ⟨gS, 1, none⟩ = some (.map (some (w.heap.size + 1 + 1))) ∧ gS < w4.heap.size) := hide ⟨(cell_grow hgr HGS.out.2.2.1 (by simp)).trans HGS.out.1, (cell_grow hgr HGS.out.2.2.1 (by simp)).trans HGS.out.2.1, Nat.lt_of_lt_of_le HGS.out.2.2.1 hgr.size⟩
          obtain ⟨r, hrE⟩ : ∃ r, wr.heap.size = r := ⟨_, rfl⟩
          rw [hrE] at hmr ⊢
          have hr4 : w.heap.size + 4 ≤ r := by rw [← hrE]; exact HC2.out.sz
          have hrg : gS < r := by rw [← hrE]; exact HGS.out.2.2.1
          have hgS4 : w.heap.size + 4 ≤ gS := HGS.out.2.2.2
          have HMR := hide hmr
          have HLF := hide hleft
          clear hmr hleft hgr hs4 hrE HGS HC2
          go_loopw [8] (fun _ wr3 => ∃ left cnt, Hid (∃ p v, Mr (w.heap.size + 4) (w.heap.size + 1) r K1 p v left cnt wr3 ∧ (∀ k ∈ K1, p k = if left (.int .i64 k) = true then rowSp l k else rowD l k) ∧ Col w wr3 w.heap.size K1 K2 p p2 v v2 ∧ (wr3.cell? ⟨gS, 0, none⟩ = some (.map (some (w.heap.size + 1))) ∧ wr3.cell? ⟨gS, 1, none⟩ = some (.map (some (w.heap.size + 1 + 1))) ∧ gS < wr3.heap.size))) (fun _ wr3 => wr3.rangeLeft (w.heap.size + 1) r)
          case atStart => exact ⟨left, _, hide ⟨_, _, HMR.out, fun k hk => by rw [HLF.out k hk, if_pos rfl]; exact HP1.out k hk, HC4.out, HG4.out⟩⟩
          case round =>
            clear HMR HLF HC4 HG4
            obtain ⟨left, cnt, HH⟩ := hrel
            obtain ⟨p, v, hmr, hpp, hco, hgs⟩ := HH.out
            have HMR := hide hmr
            have HPP := hide hpp
            have HCO := hide hco
            have HGT := hide hgs
            have HLE : Hid (wr.rangeLeft (w.heap.size + 1) r = cnt) := hide (by obtain ⟨D, d, _⟩ := hmr.map; exact d.left_eq)
            clear hmr hpp hco hgs HH
            go_wp2_with (at_next; refine wpList_next_ms rfl _ rfl rfl HMR.out ?_ ?_)
            · intro _ hl0
              have HPX : Hid (∀ k ∈ K1, p k = rowD l k) := hide (fun k hk => by rw [HPP.out k hk, hl0, if_neg (by simp)])
              clear HPP hl0
              go_wp2
              go_roundw
              case rel => exact ⟨1, by omega, by first | rfl | go_num, hide ⟨p, p2, v, v2, HCO.out, fun k hk => by rw [HPX.out k hk, if_pos (by omega)], fun k hk => by rw [HP2.out k hk, if_neg (by omega)]⟩, hide ⟨HGT.out.1, HGT.out.2.1, HGT.out.2.2, hgS4⟩⟩
              case measure => simp [intOf]
            · intro x w5 cnt5 hx hlx hmr5 hlt5 hg5 hs5 hen
              have HC5 := hide (HCO.out.step1 HMR.out hr4 hg5)
              have HG5 : Hid (w5.cell? ⟨gS, 0, none⟩ = some (.map (some (w.heap.size + 1))) ∧ w5.cell? ⟨gS, 1, none⟩ = some (.map (some (w.heap.size + 1 + 1))) ∧ gS < w5.heap.size) := hide ⟨(cell_grow hg5 HGT.out.2.2 (fun e => by injection e with e; omega)).trans HGT.out.1, (cell_grow hg5 HGT.out.2.2 (fun e => by injection e with e; omega)).trans HGT.out.2.1, Nat.lt_of_lt_of_le HGT.out.2.2 hg5.size⟩
              have hpx : p x = rowSp l x := by rw [HPP.out x hx, if_pos hlx]
              have hrd := own_rd (hmr5.mv.vs x hx) (fun _ => rfl)
              rw [hpx] at hrd
              have HMK := hide (spanMake_thin hrd (rowSp_ok HV.out x))
              have HMR5 := hide hmr5
              have HX : Hid (x ∈ K1) := hide hx
              clear hmr5 hrd hpx HCO HMR HGT hg5 hx hlx hs5
              generalize v x = vx at *
              go_wp2_with (fail)
              refine HMK.out.mono ?_
              rintro e w6 ⟨A6, c6, er6, rfl, ho6, hb6⟩
              obtain ⟨w7, hrun, hg7, hm7, hc7⟩ := HC5.out.upd1 HMR5.out HX.out (by unfold maxLen; omega) hb6 ho6
              have HM7 := hide hm7
              have HC7 := hide hc7
              have HG7 : Hid (w7.cell? ⟨gS, 0, none⟩ = some (.map (some (w.heap.size + 1))) ∧ w7.cell? ⟨gS, 1, none⟩ = some (.map (some (w.heap.size + 1 + 1))) ∧ gS < w7.heap.size) := hide ⟨(cell_grow hg7 (Nat.lt_of_lt_of_le HG5.out.2.2 hb6.size) (fun e => by injection e with e; omega)).trans ((hb6.cell (p := ⟨gS, 0, none⟩) HG5.out.2.2).trans HG5.out.1), (cell_grow hg7 (Nat.lt_of_lt_of_le HG5.out.2.2 hb6.size) (fun e => by injection e with e; omega)).trans ((hb6.cell (p := ⟨gS, 1, none⟩) HG5.out.2.2).trans HG5.out.2.1), Nat.lt_of_lt_of_le (Nat.lt_of_lt_of_le HG5.out.2.2 hb6.size) hg7.size⟩
              clear hm7 hc7 hg7 ho6 hb6 HMR5 HMK hen
              have HL7 : Hid (w7.rangeLeft (w.heap.size + 1) r = cnt5) := hide (by obtain ⟨D, d, _⟩ := HM7.out.map; exact d.left_eq)
              go_wp2_with (fail)
              clear hrun
              go_roundw
              case rel =>
                refine ⟨_, cnt5, hide ⟨_, _, HM7.out, fun k hk => ?_, HC7.out, HG7.out⟩⟩
                by_cases e : k = x
                · subst e
                  rw [if_pos rfl, if_neg (by simp [Lit.sameKey])]
                  rfl
                · rw [if_neg e, HPP.out k hk]
                  have e2 : (left (.int .i64 k) && !(Lit.int .i64 k).sameKey (.int .i64 x)) = left (.int .i64 k) := by
                    rw [show (Lit.int .i64 k).sameKey (.int .i64 x) = false by simp [Lit.sameKey, e]]
                    simp
                  rw [e2]
              case measure => rw [HL7.out, HLE.out]; exact hlt5
        · skip
          have HP1 : Hid (∀ k ∈ K1, p1 k = rowD l k) := hide (fun k hk => by rw [hp1 k hk, if_pos (by omega)])
          have HP2 : Hid (∀ k ∈ K2, p2 k = colSp l k) := hide (fun k hk => by rw [hp2 k hk, if_neg (by omega)])
          clear hp1 hp2 hm
          rw [show ((1 : Nat) : Int) = 1 from rfl]
          go_upto_region 12 with fail
          clear s0 s1
          go_wp2_with (at_range; refine wpList_range_ms rfl _ rfl rfl HC2.out.m2 ?_; intro w4 left hmr hleft hgr hs4)
          go_frame
          have HC4 := hide (HC2.out.grown hgr (fun q hq => by cases hq) (fun k hk => own_none_or) (fun k hk => own_none_or))
          have HG4 : Hid (w4.cell? ⟨gS, 0, none⟩ = some (.map (some (w.heap.size + 1))) ∧ w4.cell? ⟨gS, 1, none⟩ = some (.map (some (w.heap.size + 1 + 1))) ∧ gS < w4.heap.size) := hide ⟨(cell_grow hgr HGS.out.2.2.1 (by simp)).trans HGS.out.1, (cell_grow hgr HGS.out.2.2.1 (by simp)).trans HGS.out.2.1, Nat.lt_of_lt_of_le HGS.out.2.2.1 hgr.size⟩
          obtain ⟨r, hrE⟩ : ∃ r, wr.heap.size = r := ⟨_, rfl⟩
          rw [hrE] at hmr ⊢
          have hr4 : w.heap.size + 4 ≤ r := by rw [← hrE]; exact HC2.out.sz
          have hrg : gS < r := by rw [← hrE]; exact HGS.out.2.2.1
          have hgS4 : w.heap.size + 4 ≤ gS := HGS.out.2.2.2
          have HMR := hide hmr
          have HLF := hide hleft
          clear hmr hleft hgr hs4 hrE HGS HC2
          go_loopw [8] (fun _ wr3 => ∃ left cnt, Hid (∃ p v, Mr (w.heap.size + 4) (w.heap.size + 1 + 1) r K2 p v left cnt wr3 ∧ (∀ k ∈ K2, p k = if left (.int .i64 k) = true then colSp l k else colD l k) ∧ Col w wr3 w.heap.size K1 K2 p1 p v1 v ∧ (wr3.cell? ⟨gS, 0, none⟩ = some (.map (some (w.heap.size + 1))) ∧ wr3.cell? ⟨gS, 1, none⟩ = some (.map (some (w.heap.size + 1 + 1))) ∧ gS < wr3.heap.size))) (fun _ wr3 => wr3.rangeLeft (w.heap.size + 1 + 1) r)
          case atStart => exact ⟨left, _, hide ⟨_, _, HMR.out, fun k hk => by rw [HLF.out k hk, if_pos rfl]; exact HP2.out k hk, HC4.out, HG4.out⟩⟩
          case round =>
            clear HMR HLF HC4 HG4
            obtain ⟨left, cnt, HH⟩ := hrel
            obtain ⟨p, v, hmr, hpp, hco, hgs⟩ := HH.out
            have HMR := hide hmr
            have HPP := hide hpp
            have HCO := hide hco
            have HGT := hide hgs
            have HLE : Hid (wr.rangeLeft (w.heap.size + 1 + 1) r = cnt) := hide (by obtain ⟨D, d, _⟩ := hmr.map; exact d.left_eq)
            clear hmr hpp hco hgs HH
            go_wp2_with (at_next; refine wpList_next_ms rfl _ rfl rfl HMR.out ?_ ?_)
            · intro _ hl0
              have HPX : Hid (∀ k ∈ K2, p k = colD l k) := hide (fun k hk => by rw [HPP.out k hk, hl0, if_neg (by simp)])
              clear HPP hl0
              go_wp2
              go_roundw
              case rel => exact ⟨2, by omega, by first | rfl | go_num, hide ⟨p1, p, v1, v, HCO.out, fun k hk => by rw [HP1.out k hk, if_pos (by omega)], fun k hk => by rw [HPX.out k hk, if_pos (by omega)]⟩, hide ⟨HGT.out.1, HGT.out.2.1, HGT.out.2.2, hgS4⟩⟩
              case measure => simp [intOf]
            · intro x w5 cnt5 hx hlx hmr5 hlt5 hg5 hs5 hen
              have HC5 := hide (HCO.out.step2 HMR.out hr4 hg5)
              have HG5 : Hid (w5.cell? ⟨gS, 0, none⟩ = some (.map (some (w.heap.size + 1))) ∧ w5.cell? ⟨gS, 1, none⟩ = some (.map (some (w.heap.size + 1 + 1))) ∧ gS < w5.heap.size) := hide ⟨(cell_grow hg5 HGT.out.2.2 (fun e => by injection e with e; omega)).trans HGT.out.1, (cell_grow hg5 HGT.out.2.2 (fun e => by injection e with e; omega)).trans HGT.out.2.1, Nat.lt_of_lt_of_le HGT.out.2.2 hg5.size⟩
              have hpx : p x = colSp l x := by rw [HPP.out x hx, if_pos hlx]
              have hrd := own_rd (hmr5.mv.vs x hx) (fun _ => rfl)
              rw [hpx] at hrd
              have HMK := hide (spanMake_thin hrd (colSp_ok HV.out x))
              have HMR5 := hide hmr5
              have HX : Hid (x ∈ K2) := hide hx
              clear hmr5 hrd hpx HCO HMR HGT hg5 hx hlx hs5
              generalize v x = vx at *
              go_wp2_with (fail)
              refine HMK.out.mono ?_
              rintro e w6 ⟨A6, c6, er6, rfl, ho6, hb6⟩
              obtain ⟨w7, hrun, hg7, hm7, hc7⟩ := HC5.out.upd2 HMR5.out HX.out (by unfold maxLen; omega) hb6 ho6
              have HM7 := hide hm7
              have HC7 := hide hc7
              have HG7 : Hid (w7.cell? ⟨gS, 0, none⟩ = some (.map (some (w.heap.size + 1))) ∧ w7.cell? ⟨gS, 1, none⟩ = some (.map (some (w.heap.size + 1 + 1))) ∧ gS < w7.heap.size) := hide ⟨(cell_grow hg7 (Nat.lt_of_lt_of_le HG5.out.2.2 hb6.size) (fun e => by injection e with e; omega)).trans ((hb6.cell (p := ⟨gS, 0, none⟩) HG5.out.2.2).trans HG5.out.1), (cell_grow hg7 (Nat.lt_of_lt_of_le HG5.out.2.2 hb6.size) (fun e => by injection e with e; omega)).trans ((hb6.cell (p := ⟨gS, 1, none⟩) HG5.out.2.2).trans HG5.out.2.1), Nat.lt_of_lt_of_le (Nat.lt_of_lt_of_le HG5.out.2.2 hb6.size) hg7.size⟩
              clear hm7 hc7 hg7 ho6 hb6 HMR5 HMK hen
              have HL7 : Hid (w7.rangeLeft (w.heap.size + 1 + 1) r = cnt5) := hide (by obtain ⟨D, d, _⟩ := HM7.out.map; exact d.left_eq)
              go_wp2_with (fail)
              clear hrun
              go_roundw
              case rel =>
                refine ⟨_, cnt5, hide ⟨_, _, HM7.out, fun k hk => ?_, HC7.out, HG7.out⟩⟩
                by_cases e : k = x
                · subst e
                  rw [if_pos rfl, if_neg (by simp [Lit.sameKey])]
                  rfl
                · rw [if_neg e, HPP.out k hk]
                  have e2 : (left (.int .i64 k) && !(Lit.int .i64 k).sameKey (.int .i64 x)) = left (.int .i64 k) := by
                    rw [show (Lit.int .i64 k).sameKey (.int .i64 x) = false by simp [Lit.sameKey, e]]
                    simp
                  rw [e2]
              case measure => rw [HL7.out, HLE.out]; exact hlt5
        · have HP1 : Hid (∀ k ∈ K1, p1 k = rowD l k) := hide (fun k hk => by rw [hp1 k hk, if_pos (by omega)])
          have HP2 : Hid (∀ k ∈ K2, p2 k = colD l k) := hide (fun k hk => by rw [hp2 k hk, if_pos (by omega)])
          clear hp1 hp2 hm s0 s1 HGS
          rw [show ((2 : Nat) : Int) = 2 from rfl]
          have z0 := HC2.out.c0
          have z1 := HC2.out.c1
          have z2 : wr.cell? ⟨w.heap.size, 0, none⟩ = some (.map none) := by simp [World.cell?, HC2.out.rb]
          have z3 : wr.cell? ⟨w.heap.size, 1, none⟩ = some (.map none) := by simp [World.cell?, HC2.out.rb]
          have z4 : wr.frozen? ⟨w.heap.size, 0, none⟩ = false := by simp [World.frozen?, HC2.out.rb]
          have z5 : wr.frozen? ⟨w.heap.size, 1, none⟩ = false := by simp [World.frozen?, HC2.out.rb]
          go_wp2
          clear z0 z1
          have hs0 : w.heap.size < wr.heap.size := by have := HC2.out.sz; omega
          refine bodyPost_ret (v := .agg #[.map (some (w.heap.size + 1)), .map (some (w.heap.size + 1 + 1))]) (by simp [results, Tryz.results106, go_sem, z2, z3, hs0]) rfl ⟨_, rfl, ?_, ?_⟩
          · have hset : ∀ (o : Nat) (u : Value) (W : World), w.heap.size < W.heap.size → W.grownBy (W.setCell ⟨w.heap.size, o, none⟩ u) (some w.heap.size) := fun o u W _ => ⟨rfl, rfl, rfl, by simp, fun k _ hk => Below.heap_setCell _ _ _ _ (fun e => hk (by rw [e]))⟩
            have g1 := hset 0 (.map (some (w.heap.size + 1))) wr hs0
            have g2 := hset 1 (.map (some (w.heap.size + 1 + 1))) (wr.setCell ⟨w.heap.size, 0, none⟩ (.map (some (w.heap.size + 1)))) (by simpa using hs0)
            have a1 := HC2.out.m1.grown g1 (fun e => by injection e with e; omega) (fun k hk => .inr fun e => by have := (HC2.out.m1.mv.vs k hk).lt _ e; omega)
            have a2 := HC2.out.m2.grown g1 (fun e => by injection e with e; omega) (fun k hk => .inr fun e => by have := (HC2.out.m2.mv.vs k hk).lt _ e; omega)
            have b1 := a1.grown g2 (fun e => by injection e with e; omega) (fun k hk => .inr fun e => by have := (a1.mv.vs k hk).lt _ e; omega)
            have b2 := a2.grown g2 (fun e => by injection e with e; omega) (fun k hk => .inr fun e => by have := (a2.mv.vs k hk).lt _ e; omega)
            exact ⟨_, _, K1, K2, _, _, rfl, by rw [← rowD_thin]; exact (b1.same HP1.out).base (by omega), by rw [← colD_thin]; exact (b2.same HP2.out).base (by omega), keys_thin HK1.out, keys_thinC HK2.out, by omega, by omega⟩
          · exact Below.setCell (Below.setCell HC2.out.low (Nat.le_refl _) _) (Nat.le_refl _) _
end Go.Proofs.YtdolpeljengpaaaGreat
