/- Texts laid together: MStrB, MCan, MStrC, MStrD, MStrE, SortE, Range, Values, Ends, Close. Lemmas for the statements of this seat; no condition. -/
import Derived.Test.YtdolpeljengpaaaGreatPk1
import Derived.Test.YtdolpeljengpaaaGreatShelf
import Derived.RangeFuncNested
import Derived.RangeFuncLeaves
import Derived.OwnWalkIn
import Derived.TacticsInMore
import Derived.LoopNIn
import Derived.LoopIn
import Derived.StillTailTactics
import Derived.OwnWalk
import Derived.Deep.AppendLies

/- Plain: the edges of a network: to the right and up, from each node on; the same as to the left and down, sorted. -/
namespace Go.Proofs.YtdolpeljengpaaaGreat
set_option linter.unusedVariables false
set_option linter.unusedSimpArgs false

abbrev Ed := Nat × Nat
def nd (N : List Pt) (i : Nat) : Pt := N.getD i (0, 0)
def upO (N : List Pt) (a : Nat) : Option Nat := (List.range N.length).find? fun b => decide (a < b) && decide ((nd N b).1 = (nd N a).1)
def rtO (N : List Pt) (a : Nat) : Option Nat := (List.range N.length).find? fun b => decide (a < b) && decide ((nd N b).2 = (nd N a).2)
def upE (v : Int → Int → Bool) (N : List Pt) (a : Nat) : List Ed := if v (nd N a).1 (nd N a).2 = true then (upO N a).toList.map fun b => (a, b) else []
def rtE (h : Int → Int → Bool) (N : List Pt) (a : Nat) : List Ed := if h (nd N a).1 (nd N a).2 = true then (rtO N a).toList.map fun b => (a, b) else []
def edgesG (h v : Int → Int → Bool) (N : List Pt) : List Ed := (List.range N.length).flatMap fun a => upE v N a ++ rtE h N a
/-- The last index ahead of i with a coordinate; 0 where there is none. -/
def lastG (f : Pt → Int) (N : List Pt) : Nat → Int → Nat
  | 0, _ => 0
  | i + 1, y => if f (nd N i) = y then i else lastG f N i y
def ltE (h : Int → Int → Bool) (N : List Pt) (i : Nat) : List Ed := if h ((nd N i).1 - 1) (nd N i).2 = true then [(lastG Prod.snd N i (nd N i).2, i)] else []
def dnE (v : Int → Int → Bool) (N : List Pt) (i : Nat) : List Ed := if v (nd N i).1 ((nd N i).2 - 1) = true then [(lastG Prod.fst N i (nd N i).1, i)] else []
def codeG (h v : Int → Int → Bool) (N : List Pt) : List Ed := (List.range N.length).flatMap fun i => ltE h N i ++ dnE v N i
def edLt (a b : Ed) : Prop := a.1 < b.1 ∨ a.1 = b.1 ∧ a.2 < b.2
instance (a b : Ed) : Decidable (edLt a b) := by unfold edLt; infer_instance
theorem edLt_trans {a b c : Ed} (h1 : edLt a b) (h2 : edLt b c) : edLt a c := by unfold edLt at *; omega
theorem edLt_irrefl (a : Ed) : ¬ edLt a a := by unfold edLt; omega
/-- The nodes of lines: sorted; lines end. -/
structure NetOK (h v : Int → Int → Bool) (N : List Pt) : Prop where
  srt : N.Pairwise ptLt
  mem : ∀ p, p ∈ N ↔ nodeG h v p = true
  rowF : ∀ x y, (x < -1000000 ∨ 1000000 ≤ x) → h x y = false
  colF : ∀ x y, (y < -1000000 ∨ 1000000 ≤ y) → v x y = false
theorem nd_mem {N : List Pt} {i : Nat} (h : i < N.length) : nd N i ∈ N := by
  unfold nd
  rw [List.getD_eq_getElem?_getD, List.getElem?_eq_getElem h, Option.getD_some]
  exact List.getElem_mem h
theorem nd_of_mem {N : List Pt} {p : Pt} (h : p ∈ N) : ∃ i, i < N.length ∧ nd N i = p := by
  obtain ⟨i, hi, rfl⟩ := List.getElem_of_mem h
  exact ⟨i, hi, by unfold nd; rw [List.getD_eq_getElem?_getD, List.getElem?_eq_getElem hi, Option.getD_some]⟩
theorem nd_lt {N : List Pt} (hs : N.Pairwise ptLt) {i j : Nat} (hj : j < N.length) (hij : i < j) : ptLt (nd N i) (nd N j) := by
  have := List.pairwise_iff_getElem.1 hs i j (by omega) hj hij
  unfold nd
  rw [List.getD_eq_getElem?_getD, List.getD_eq_getElem?_getD, List.getElem?_eq_getElem hj, List.getElem?_eq_getElem (by omega), Option.getD_some, Option.getD_some]
  exact this
theorem nd_ord {N : List Pt} (hs : N.Pairwise ptLt) {i j : Nat} (hi : i < N.length) (hj : j < N.length) (h : ptLt (nd N i) (nd N j)) : i < j := by
  rcases Nat.lt_trichotomy i j with e | e | e
  · exact e
  · subst e; exact absurd h (ptLt_irrefl _)
  · exact absurd (ptLt_trans h (nd_lt hs hi e)) (ptLt_irrefl _)
theorem find_range {n : Nat} {p : Nat → Bool} {b : Nat} : (List.range n).find? p = some b ↔ b < n ∧ p b = true ∧ ∀ c, c < b → p c = false := by
  induction n with
  | zero => simp
  | succ n ih =>
    rw [List.range_succ, List.find?_append]
    cases hf : (List.range n).find? p with
    | some d =>
      rw [hf] at ih
      simp only [Option.some_or, Option.some.injEq] at ih ⊢
      constructor
      · intro e
        obtain ⟨h1, h2, h3⟩ := ih.1 e
        exact ⟨by omega, h2, h3⟩
      · rintro ⟨h1, h2, h3⟩
        have hd : d < n ∧ p d = true := ⟨List.mem_range.1 (List.mem_of_find?_eq_some hf), List.find?_some hf⟩
        by_cases e : b < n
        · exact ih.2 ⟨e, h2, h3⟩
        · have := h3 d (by omega)
          rw [hd.2] at this
          cases this
    | none =>
      have hno : ∀ c, c < n → p c = false := fun c hc => by
        have := List.find?_eq_none.1 hf c (List.mem_range.2 hc)
        simpa using this
      simp only [Option.none_or]
      by_cases hp : p n = true
      · rw [List.find?_cons_of_pos hp]
        simp only [Option.some.injEq]
        constructor
        · rintro rfl
          exact ⟨by omega, hp, hno⟩
        · rintro ⟨h1, h2, h3⟩
          by_cases e : b < n
          · rw [hno b e] at h2; cases h2
          · omega
      · rw [List.find?_cons_of_neg hp]
        simp only [List.find?_nil, reduceCtorEq, false_iff]
        rintro ⟨h1, h2, h3⟩
        by_cases e : b < n
        · rw [hno b e] at h2; cases h2
        · obtain rfl : b = n := by omega
          exact hp h2
/-- b is the next index behind a with the same coordinate. -/
def nxt (f : Pt → Int) (N : List Pt) (a b : Nat) : Prop := a < b ∧ b < N.length ∧ f (nd N b) = f (nd N a) ∧ ∀ c, a < c → c < b → f (nd N c) ≠ f (nd N a)
theorem upO_iff {N : List Pt} {a b : Nat} : upO N a = some b ↔ nxt Prod.fst N a b := by
  unfold upO nxt
  rw [find_range]
  simp only [Bool.and_eq_true, decide_eq_true_eq, Bool.and_eq_false_iff, decide_eq_false_iff_not]
  constructor
  · rintro ⟨h1, ⟨h2, h3⟩, h4⟩
    exact ⟨h2, h1, h3, fun c c1 c2 => (h4 c c2).resolve_left fun hh => hh c1⟩
  · rintro ⟨h1, h2, h3, h4⟩
    refine ⟨h2, ⟨h1, h3⟩, fun c hc => ?_⟩
    by_cases e : a < c
    · exact .inr (h4 c e hc)
    · exact .inl e
theorem rtO_iff {N : List Pt} {a b : Nat} : rtO N a = some b ↔ nxt Prod.snd N a b := by
  unfold rtO nxt
  rw [find_range]
  simp only [Bool.and_eq_true, decide_eq_true_eq, Bool.and_eq_false_iff, decide_eq_false_iff_not]
  constructor
  · rintro ⟨h1, ⟨h2, h3⟩, h4⟩
    exact ⟨h2, h1, h3, fun c c1 c2 => (h4 c c2).resolve_left fun hh => hh c1⟩
  · rintro ⟨h1, h2, h3, h4⟩
    refine ⟨h2, ⟨h1, h3⟩, fun c hc => ?_⟩
    by_cases e : a < c
    · exact .inr (h4 c e hc)
    · exact .inl e
theorem last_of_nxt {f : Pt → Int} {N : List Pt} {a b : Nat} (h : nxt f N a b) : lastG f N b (f (nd N b)) = a := by
  obtain ⟨h1, h2, h3, h4⟩ := h
  have key : ∀ i, a < i → i ≤ b → lastG f N i (f (nd N b)) = a := by
    intro i
    induction i with
    | zero => intro h; omega
    | succ i ih =>
      intro q1 q2
      simp only [lastG]
      by_cases e : i = a
      · subst e; rw [if_pos h3.symm]
      · have := h4 i (by omega) (by omega)
        rw [if_neg (by rw [h3]; exact this)]
        exact ih (by omega) (by omega)
  exact key b h1 (Nat.le_refl _)
theorem nxt_of_last {f : Pt → Int} {N : List Pt} {b : Nat} (hb : b < N.length) (hex : ∃ a, a < b ∧ f (nd N a) = f (nd N b)) : nxt f N (lastG f N b (f (nd N b))) b := by
  have key : ∀ i, i ≤ b → (∃ a, a < i ∧ f (nd N a) = f (nd N b)) → lastG f N i (f (nd N b)) < i ∧ f (nd N (lastG f N i (f (nd N b)))) = f (nd N b) ∧ ∀ c, lastG f N i (f (nd N b)) < c → c < i → f (nd N c) ≠ f (nd N b) := by
    intro i
    induction i with
    | zero => rintro _ ⟨a, h, _⟩; omega
    | succ i ih =>
      rintro hi ⟨a, ha, hf⟩
      simp only [lastG]
      by_cases e : f (nd N i) = f (nd N b)
      · rw [if_pos e]
        exact ⟨by omega, e, fun c c1 c2 => by omega⟩
      · rw [if_neg e]
        have hai : a ≠ i := fun h => e (h ▸ hf)
        obtain ⟨k1, k2, k3⟩ := ih (by omega) ⟨a, by omega, hf⟩
        refine ⟨by omega, k2, fun c c1 c2 => ?_⟩
        by_cases ec : c = i
        · subst ec; exact e
        · exact k3 c c1 (by omega)
  obtain ⟨k1, k2, k3⟩ := key b (Nat.le_refl _) hex
  exact ⟨k1, hb, k2.symm, fun c c1 c2 => by rw [k2]; exact k3 c c1 c2⟩
section
variable {h v : Int → Int → Bool} {N : List Pt} (H : NetOK h v N)
include H
theorem NetOK.row_nodes {a b : Nat} (hn : nxt Prod.snd N a b) : (nd N a).1 < (nd N b).1 ∧ ∀ x, (nd N a).1 < x → x < (nd N b).1 → nodeG h v (x, (nd N a).2) = false := by
  obtain ⟨h1, h2, h3, h4⟩ := hn
  have hlt := nd_lt H.srt h2 h1
  refine ⟨by unfold ptLt at hlt; omega, fun x x1 x2 => ?_⟩
  cases e : nodeG h v (x, (nd N a).2)
  · rfl
  · obtain ⟨c, hc, hce⟩ := nd_of_mem ((H.mem _).2 e)
    have c1 := nd_ord H.srt (i := a) (j := c) (by omega) hc (by rw [hce]; exact .inl x1)
    have c2 := nd_ord H.srt (i := c) (j := b) hc h2 (by rw [hce]; exact .inl x2)
    exact absurd (by rw [hce]) (h4 c c1 c2)
theorem NetOK.col_nodes {a b : Nat} (hn : nxt Prod.fst N a b) : (nd N a).2 < (nd N b).2 ∧ ∀ y, (nd N a).2 < y → y < (nd N b).2 → nodeG h v ((nd N a).1, y) = false := by
  obtain ⟨h1, h2, h3, h4⟩ := hn
  have hlt := nd_lt H.srt h2 h1
  refine ⟨by unfold ptLt at hlt; omega, fun y y1 y2 => ?_⟩
  cases e : nodeG h v ((nd N a).1, y)
  · rfl
  · obtain ⟨c, hc, hce⟩ := nd_of_mem ((H.mem _).2 e)
    have c1 := nd_ord H.srt (i := a) (j := c) (by omega) hc (by rw [hce]; exact .inr ⟨rfl, y1⟩)
    have c2 := nd_ord H.srt (i := c) (j := b) hc h2 (by rw [hce]; exact .inr ⟨h3.symm, y2⟩)
    exact absurd (by rw [hce]) (h4 c c1 c2)
theorem NetOK.row_line {a b : Nat} (hn : nxt Prod.snd N a b) {x : Int} (h1 : (nd N a).1 ≤ x) (h2 : x < (nd N b).1) : h x (nd N a).2 = h (nd N a).1 (nd N a).2 :=
  row_to (v := v) h1 fun z z1 z2 => (H.row_nodes hn).2 z z1 (by omega)
theorem NetOK.col_line {a b : Nat} (hn : nxt Prod.fst N a b) {y : Int} (h1 : (nd N a).2 ≤ y) (h2 : y < (nd N b).2) : v (nd N a).1 y = v (nd N a).1 (nd N a).2 :=
  col_to (h := h) h1 fun z z1 z2 => (H.col_nodes hn).2 z z1 (by omega)
/-- A line has a node at its right end, and one at its left end. -/
theorem NetOK.row_right {x y : Int} (hx : h x y = true) : ∃ b, b < N.length ∧ x < (nd N b).1 ∧ (nd N b).2 = y := Classical.byContradiction fun hno => by
  have := row_to (h := h) (v := v) (y := y) (x0 := x) (x1 := max x 1000000) (by omega) fun z z1 z2 => by
    cases e : nodeG h v (z, y)
    · rfl
    · obtain ⟨c, hc, hce⟩ := nd_of_mem ((H.mem _).2 e)
      exact absurd ⟨c, hc, by rw [hce]; exact z1, by rw [hce]⟩ hno
  rw [hx, H.rowF _ _ (by omega)] at this
  cases this
theorem NetOK.row_left {x y : Int} (hx : h x y = true) : ∃ a, a < N.length ∧ (nd N a).1 ≤ x ∧ (nd N a).2 = y := Classical.byContradiction fun hno => by
  have := row_to (h := h) (v := v) (y := y) (x0 := min x (-1000001)) (x1 := x) (by omega) fun z z1 z2 => by
    cases e : nodeG h v (z, y)
    · rfl
    · obtain ⟨c, hc, hce⟩ := nd_of_mem ((H.mem _).2 e)
      exact absurd ⟨c, hc, by rw [hce]; exact z2, by rw [hce]⟩ hno
  rw [hx, H.rowF _ _ (by omega)] at this
  cases this
theorem NetOK.col_right {x y : Int} (hx : v x y = true) : ∃ b, b < N.length ∧ y < (nd N b).2 ∧ (nd N b).1 = x := Classical.byContradiction fun hno => by
  have := col_to (h := h) (v := v) (x := x) (y0 := y) (y1 := max y 1000000) (by omega) fun z z1 z2 => by
    cases e : nodeG h v (x, z)
    · rfl
    · obtain ⟨c, hc, hce⟩ := nd_of_mem ((H.mem _).2 e)
      exact absurd ⟨c, hc, by rw [hce]; exact z1, by rw [hce]⟩ hno
  rw [hx, H.colF _ _ (by omega)] at this
  cases this
theorem NetOK.col_left {x y : Int} (hx : v x y = true) : ∃ a, a < N.length ∧ (nd N a).2 ≤ y ∧ (nd N a).1 = x := Classical.byContradiction fun hno => by
  have := col_to (h := h) (v := v) (x := x) (y0 := min y (-1000001)) (y1 := y) (by omega) fun z z1 z2 => by
    cases e : nodeG h v (x, z)
    · rfl
    · obtain ⟨c, hc, hce⟩ := nd_of_mem ((H.mem _).2 e)
      exact absurd ⟨c, hc, by rw [hce]; exact z2, by rw [hce]⟩ hno
  rw [hx, H.colF _ _ (by omega)] at this
  cases this
omit H in
/-- The least index with a property. -/
theorem least_nat {P : Nat → Prop} {a : Nat} (h : P a) : ∃ b, P b ∧ ∀ c, c < b → ¬ P c := by
  induction a using Nat.strongRecOn with
  | ind a ih =>
    by_cases e : ∃ c, c < a ∧ P c
    · obtain ⟨c, c1, c2⟩ := e
      exact ih c c1 c2
    · exact ⟨a, h, fun c c1 c2 => e ⟨c, c1, c2⟩⟩
theorem NetOK.ord_row {i j : Nat} (hi : i < N.length) (hj : j < N.length) (hy : (nd N i).2 = (nd N j).2) : i < j ↔ (nd N i).1 < (nd N j).1 :=
  ⟨fun h => by have := nd_lt H.srt hj h; unfold ptLt at this; omega, fun h => nd_ord H.srt hi hj (.inl h)⟩
theorem NetOK.ord_col {i j : Nat} (hi : i < N.length) (hj : j < N.length) (hx : (nd N i).1 = (nd N j).1) : i < j ↔ (nd N i).2 < (nd N j).2 :=
  ⟨fun h => by have := nd_lt H.srt hj h; unfold ptLt at this; omega, fun h => nd_ord H.srt hi hj (.inr ⟨hx, h⟩)⟩
omit H in
theorem mem_rtE {a : Nat} {e : Ed} : e ∈ rtE h N a ↔ h (nd N a).1 (nd N a).2 = true ∧ e.1 = a ∧ nxt Prod.snd N a e.2 := by
  unfold rtE
  split
  · rename_i hh
    simp only [List.mem_map, Option.mem_toList, Option.mem_def, rtO_iff]
    constructor
    · rintro ⟨b, hb, rfl⟩; exact ⟨hh, rfl, hb⟩
    · rintro ⟨_, h1, h2⟩; exact ⟨e.2, h2, Prod.ext h1.symm rfl⟩
  · rename_i hh
    simp [hh]
omit H in
theorem mem_upE {a : Nat} {e : Ed} : e ∈ upE v N a ↔ v (nd N a).1 (nd N a).2 = true ∧ e.1 = a ∧ nxt Prod.fst N a e.2 := by
  unfold upE
  split
  · rename_i hh
    simp only [List.mem_map, Option.mem_toList, Option.mem_def, upO_iff]
    constructor
    · rintro ⟨b, hb, rfl⟩; exact ⟨hh, rfl, hb⟩
    · rintro ⟨_, h1, h2⟩; exact ⟨e.2, h2, Prod.ext h1.symm rfl⟩
  · rename_i hh
    simp [hh]
omit H in
theorem mem_edges {e : Ed} : e ∈ edgesG h v N ↔ (v (nd N e.1).1 (nd N e.1).2 = true ∧ nxt Prod.fst N e.1 e.2) ∨ (h (nd N e.1).1 (nd N e.1).2 = true ∧ nxt Prod.snd N e.1 e.2) := by
  unfold edgesG
  rw [List.mem_flatMap]
  constructor
  · rintro ⟨a, _, ha⟩
    rcases List.mem_append.1 ha with ha | ha
    · obtain ⟨h1, rfl, h3⟩ := mem_upE.1 ha
      exact .inl ⟨h1, h3⟩
    · obtain ⟨h1, rfl, h3⟩ := mem_rtE.1 ha
      exact .inr ⟨h1, h3⟩
  · rintro (⟨h1, h2⟩ | ⟨h1, h2⟩)
    · exact ⟨e.1, List.mem_range.2 (Nat.lt_trans h2.1 h2.2.1), List.mem_append.2 (.inl (mem_upE.2 ⟨h1, rfl, h2⟩))⟩
    · exact ⟨e.1, List.mem_range.2 (Nat.lt_trans h2.1 h2.2.1), List.mem_append.2 (.inr (mem_rtE.2 ⟨h1, rfl, h2⟩))⟩
theorem NetOK.edges_srt : (edgesG h v N).Pairwise edLt := by
  unfold edgesG
  rw [List.pairwise_flatMap]
  constructor
  · intro a _
    rw [List.pairwise_append]
    refine ⟨?_, ?_, fun p hp q hq => ?_⟩
    · unfold upE
      split
      · cases upO N a <;> simp
      · simp
    · unfold rtE
      split
      · cases rtO N a <;> simp
      · simp
    · obtain ⟨_, p1, p2⟩ := mem_upE.1 hp
      obtain ⟨_, q1, q2⟩ := mem_rtE.1 hq
      refine .inr ⟨by omega, ?_⟩
      have c := H.col_nodes p2
      have r := H.row_nodes q2
      refine nd_ord H.srt p2.2.1 q2.2.1 (.inl ?_)
      have := p2.2.2.1
      omega
  · rw [List.pairwise_iff_getElem]
    intro i j hi hj hij p hp q hq
    simp only [List.getElem_range] at hp hq
    have hp1 : p.1 = i := by
      rcases List.mem_append.1 hp with hp | hp
      · exact (mem_upE.1 hp).2.1
      · exact (mem_rtE.1 hp).2.1
    have hq1 : q.1 = j := by
      rcases List.mem_append.1 hq with hq | hq
      · exact (mem_upE.1 hq).2.1
      · exact (mem_rtE.1 hq).2.1
    exact .inl (by omega)
/-- The edges that the code lays: an edge to the left of each node with a line there. -/
theorem NetOK.left_iff {b : Nat} (hb : b < N.length) (a : Nat) : (h ((nd N b).1 - 1) (nd N b).2 = true ∧ a = lastG Prod.snd N b (nd N b).2) ↔ (h (nd N a).1 (nd N a).2 = true ∧ nxt Prod.snd N a b) := by
  constructor
  · rintro ⟨h1, rfl⟩
    obtain ⟨c, c1, c2, c3⟩ := H.row_left h1
    have hn := nxt_of_last (f := Prod.snd) hb ⟨c, (H.ord_row c1 hb c3).2 (by omega), c3⟩
    refine ⟨?_, hn⟩
    have := H.row_nodes hn
    have h2 := H.row_line hn (x := (nd N b).1 - 1) (by omega) (by omega)
    rw [← h2, ← hn.2.2.1]
    exact h1
  · rintro ⟨h1, hn⟩
    have := H.row_nodes hn
    have h2 := H.row_line hn (x := (nd N b).1 - 1) (by omega) (by omega)
    rw [h1, ← hn.2.2.1] at h2
    exact ⟨h2, (last_of_nxt hn).symm⟩
theorem NetOK.down_iff {b : Nat} (hb : b < N.length) (a : Nat) : (v (nd N b).1 ((nd N b).2 - 1) = true ∧ a = lastG Prod.fst N b (nd N b).1) ↔ (v (nd N a).1 (nd N a).2 = true ∧ nxt Prod.fst N a b) := by
  constructor
  · rintro ⟨h1, rfl⟩
    obtain ⟨c, c1, c2, c3⟩ := H.col_left h1
    have hn := nxt_of_last (f := Prod.fst) hb ⟨c, (H.ord_col c1 hb c3).2 (by omega), c3⟩
    refine ⟨?_, hn⟩
    have := H.col_nodes hn
    have h2 := H.col_line hn (y := (nd N b).2 - 1) (by omega) (by omega)
    rw [← h2, ← hn.2.2.1]
    exact h1
  · rintro ⟨h1, hn⟩
    have := H.col_nodes hn
    have h2 := H.col_line hn (y := (nd N b).2 - 1) (by omega) (by omega)
    rw [h1, ← hn.2.2.1] at h2
    exact ⟨h2, (last_of_nxt hn).symm⟩
theorem NetOK.mem_code {e : Ed} : e ∈ codeG h v N ↔ e ∈ edgesG h v N := by
  rw [mem_edges]
  unfold codeG
  rw [List.mem_flatMap]
  constructor
  · rintro ⟨i, hi, he⟩
    have hi' := List.mem_range.1 hi
    rcases List.mem_append.1 he with he | he
    · unfold ltE at he
      split at he
      · rename_i hh
        obtain rfl := List.mem_singleton.1 he
        exact .inr ((H.left_iff hi' _).1 ⟨hh, rfl⟩)
      · simp at he
    · unfold dnE at he
      split at he
      · rename_i hh
        obtain rfl := List.mem_singleton.1 he
        exact .inl ((H.down_iff hi' _).1 ⟨hh, rfl⟩)
      · simp at he
  · rintro (he | he)
    · have hb := he.2.2.1
      obtain ⟨h1, h2⟩ := (H.down_iff hb _).2 he
      refine ⟨e.2, List.mem_range.2 hb, List.mem_append.2 (.inr ?_)⟩
      unfold dnE
      rw [if_pos h1, List.mem_singleton]
      exact Prod.ext h2 rfl
    · have hb := he.2.2.1
      obtain ⟨h1, h2⟩ := (H.left_iff hb _).2 he
      refine ⟨e.2, List.mem_range.2 hb, List.mem_append.2 (.inl ?_)⟩
      unfold ltE
      rw [if_pos h1, List.mem_singleton]
      exact Prod.ext h2 rfl
theorem NetOK.code_nodup : (codeG h v N).Nodup := by
  unfold codeG List.Nodup
  rw [List.pairwise_flatMap]
  constructor
  · intro i hi
    have hi' := List.mem_range.1 hi
    rw [List.pairwise_append]
    refine ⟨?_, ?_, fun p hp q hq => ?_⟩
    · unfold ltE; split <;> simp
    · unfold dnE; split <;> simp
    · unfold ltE at hp
      unfold dnE at hq
      split at hp
      · rename_i hh
        split at hq
        · rename_i hk
          obtain rfl := List.mem_singleton.1 hp
          obtain rfl := List.mem_singleton.1 hq
          intro e
          injection e with e1 _
          have n1 := ((H.left_iff hi' _).1 ⟨hh, rfl⟩).2
          have n2 := ((H.down_iff hi' _).1 ⟨hk, rfl⟩).2
          rw [e1] at n1
          have a1 := (H.row_nodes n1).1
          have a2 := n2.2.2.1
          omega
        · simp at hq
      · simp at hp
  · rw [List.pairwise_iff_getElem]
    intro i j hi hj hij p hp q hq
    simp only [List.getElem_range] at hp hq
    have hp1 : p.2 = i := by
      rcases List.mem_append.1 hp with hp | hp
      · unfold ltE at hp; split at hp
        · rw [List.mem_singleton.1 hp]
        · simp at hp
      · unfold dnE at hp; split at hp
        · rw [List.mem_singleton.1 hp]
        · simp at hp
    have hq1 : q.2 = j := by
      rcases List.mem_append.1 hq with hq | hq
      · unfold ltE at hq; split at hq
        · rw [List.mem_singleton.1 hq]
        · simp at hq
      · unfold dnE at hq; split at hq
        · rw [List.mem_singleton.1 hq]
        · simp at hq
    intro e
    rw [e] at hp1
    omega
theorem NetOK.code_perm : (codeG h v N).Perm (edgesG h v N) := by
  refine (List.perm_ext_iff_of_nodup H.code_nodup ?_).2 fun e => H.mem_code
  refine H.edges_srt.imp ?_
  intro a b hab e
  subst e
  exact edLt_irrefl _ hab
end
end Go.Proofs.YtdolpeljengpaaaGreat

/- Plain: how many rectangles a canonical list may have. -/
namespace Go.Proofs.YtdolpeljengpaaaGreat
set_option linter.unusedVariables false
set_option linter.unusedSimpArgs false

/-- No more entries than there are values. -/
theorem nodup_len {α : Type} [DecidableEq α] : ∀ {l m : List α}, l.Nodup → (∀ x ∈ l, x ∈ m) → l.length ≤ m.length
  | [], m, _, _ => Nat.zero_le _
  | a :: l, m, hn, h => by
    obtain ⟨h1, h2⟩ := List.nodup_cons.1 hn
    have ha := h a (by simp)
    have ih := nodup_len (m := m.erase a) h2 fun x hx => (List.mem_erase_of_ne (fun e => h1 (by rw [← e]; exact hx))).2 (h x (List.mem_cons_of_mem _ hx))
    rw [List.length_erase_of_mem ha] at ih
    have : 0 < m.length := List.length_pos_of_mem ha
    simp only [List.length_cons]
    omega
theorem cr_at : ∀ {S : List Slab}, SOK S → ∀ a ∈ S, cr S a.f = a.s
  | b :: S, h, a, ha => by
    rcases List.mem_cons.1 ha with rfl | ha
    · exact cr_head h (Int.le_refl _) h.head.1
    · have := h.after a ha
      have e : cr (b :: S) a.f = cr S a.f := by
        show (if b.f ≤ a.f ∧ a.f < b.t then b.s else cr S a.f) = _
        rw [if_neg (by omega)]
      rw [e]
      exact cr_at h.tail a ha
theorem cr_prev : ∀ {S : List Slab}, SOK S → ∀ a ∈ S, cr S (a.f - 1) ≠ a.s
  | b :: S, h, a, ha => by
    have hne := (h.all a ha).2.1
    rcases List.mem_cons.1 ha with rfl | ha
    · rw [cr_before h (by omega)]
      exact fun e => hne e.symm
    · have h1 := h.after a ha
      by_cases hb : a.f = b.t
      · have hcr : cr (b :: S) (a.f - 1) = b.s := cr_head h (by have := h.head.1; omega) (by omega)
        rw [hcr]
        cases S with
        | nil => cases ha
        | cons c T =>
          have h2 : Rl b c := h.2.1
          rcases List.mem_cons.1 ha with rfl | ha
          · exact h2.2 hb.symm
          · have h3 := h.tail.after a ha
            have h4 := h.tail.head.1
            have h5 := h2.1
            omega
      · have e : cr (b :: S) (a.f - 1) = cr S (a.f - 1) := by
          show (if b.f ≤ a.f - 1 ∧ a.f - 1 < b.t then b.s else cr S (a.f - 1)) = _
          rw [if_neg (by omega)]
        rw [e]
        exact cr_prev h.tail a ha
theorem SOK.nodup : ∀ {S : List Slab}, SOK S → (S.map Slab.f).Nodup
  | [], _ => by simp
  | a :: S, h => by
    rw [List.map_cons, List.nodup_cons]
    refine ⟨fun hm => ?_, SOK.nodup h.tail⟩
    obtain ⟨b, hb, e⟩ := List.mem_map.1 hm
    have := h.after b hb
    have := h.head.1
    omega
theorem scan_starts {s : List Sp} (h : SCan s) : (s.map Prod.fst).Nodup := by
  rw [List.Nodup, List.pairwise_map]
  have h1 : s.Pairwise (fun p q => p.2 < q.1 ∧ p ∈ s) := by
    rw [List.pairwise_and_iff]
    refine ⟨h.2, ?_⟩
    rw [List.pairwise_iff_getElem]
    exact fun i j hi hj _ => List.getElem_mem _
  exact h1.imp fun {p q} hpq => by
    have := h.1 p hpq.2
    omega
theorem flat_le {n : Nat} : ∀ {S : List Slab}, (∀ a ∈ S, a.s.length ≤ n) → (flat S).length ≤ S.length * n
  | [], _ => by simp [flat]
  | a :: S, h => by
    have ih := flat_le (n := n) (S := S) fun b hb => h b (List.mem_cons_of_mem _ hb)
    have h1 := h a (by simp)
    have e : (flat (a :: S)).length = a.s.length + (flat S).length := by simp [flat, flat1]
    rw [e, List.length_cons, Nat.succ_mul]
    omega
/-- A canonical list has at most so many rectangles as its left sides and lower sides tell. -/
theorem can_count {R : List R4} (hR : RCan R) {xs ys : List Int} (hx : ∀ c, (∃ y, ¬ (pmem R (c - 1) y ↔ pmem R c y)) → c ∈ xs) (hy : ∀ x c, ¬ pmem R x (c - 1) → pmem R x c → c ∈ ys) : R.length ≤ xs.length * ys.length := by
  obtain ⟨S, hS, rfl⟩ := hR
  have hm : ∀ x y, pmem (flat S) x y ↔ smem (cr S x) y := fun x y => by rw [pmem_flat, inS_cr hS]
  have h1 : S.length ≤ xs.length := by
    have := nodup_len hS.nodup (m := xs) fun c hc => by
      obtain ⟨a, ha, rfl⟩ := List.mem_map.1 hc
      refine hx _ (Classical.byContradiction fun hno => cr_prev hS a ha ?_)
      have hall : ∀ y, (pmem (flat S) (a.f - 1) y ↔ pmem (flat S) a.f y) := fun y => Classical.byContradiction fun h => hno ⟨y, h⟩
      rw [← cr_at hS a ha]
      exact SCan.ext (cr_can _ hS) (cr_can _ hS) fun y => by rw [← hm, ← hm]; exact hall y
    simpa using this
  have h2 : ∀ a ∈ S, a.s.length ≤ ys.length := fun a ha => by
    have hc := (hS.all a ha).2.2
    have := nodup_len (scan_starts hc) (m := ys) fun c hc' => by
      obtain ⟨p, hp, rfl⟩ := List.mem_map.1 hc'
      refine hy a.f p.1 ?_ ?_
      · rw [hm, cr_at hS a ha]
        rintro ⟨q, hq, q1, q2⟩
        obtain ⟨i, hi, rfl⟩ := List.getElem_of_mem hp
        obtain ⟨j, hj, rfl⟩ := List.getElem_of_mem hq
        have hpw := List.pairwise_iff_getElem.1 hc.2
        rcases Nat.lt_trichotomy i j with e | e | e
        · have := hpw i j hi hj e
          have := hc.1 _ (List.getElem_mem hi)
          omega
        · subst e; omega
        · have := hpw j i hj hi e
          omega
      · rw [hm, cr_at hS a ha]
        exact ⟨p, hp, Int.le_refl _, hc.1 p hp⟩
    simpa using this
  have h3 := flat_le h2
  have h4 := Nat.mul_le_mul_right ys.length h1
  omega
/-- The same, out of any list with the same points. -/
theorem can_count_of {R A : List R4} (hR : RCan R) (h : ∀ x y, pmem R x y ↔ pmem A x y) : R.length ≤ 2 * A.length * A.length := by
  have := can_count hR (xs := A.map R4.x0 ++ A.map R4.x1) (ys := A.map R4.y0)
    (fun c ⟨y, hy⟩ => by
      rw [h, h] at hy
      rw [List.mem_append]
      by_cases hf : pmem A c y
      · left
        obtain ⟨r, hr, hin⟩ := hf
        refine List.mem_map.2 ⟨r, hr, Classical.byContradiction fun e => hy ⟨fun _ => ⟨r, hr, hin⟩, fun _ => ⟨r, hr, ?_⟩⟩⟩
        unfold rin at hin ⊢
        omega
      · right
        have hf1 : pmem A (c - 1) y := Classical.byContradiction fun h1 => hy ⟨fun h2 => absurd h2 h1, fun h2 => absurd h2 hf⟩
        obtain ⟨r, hr, hin⟩ := hf1
        refine List.mem_map.2 ⟨r, hr, Classical.byContradiction fun e => hf ⟨r, hr, ?_⟩⟩
        unfold rin at hin ⊢
        omega)
    (fun x c hno hp => by
      rw [h] at hno hp
      obtain ⟨r, hr, hin⟩ := hp
      refine List.mem_map.2 ⟨r, hr, Classical.byContradiction fun e => hno ⟨r, hr, ?_⟩⟩
      unfold rin at hin ⊢
      omega)
  simp only [List.length_append, List.length_map] at this
  rwa [show 2 * A.length * A.length = (A.length + A.length) * A.length by rw [Nat.two_mul]]
end Go.Proofs.YtdolpeljengpaaaGreat

/- Plain: the network of segments; drawing its edges gives the same lines, and the same network; how many nodes and edges there are. -/
namespace Go.Proofs.YtdolpeljengpaaaGreat
set_option linter.unusedVariables false
set_option linter.unusedSimpArgs false

abbrev edgesF (l : List Sg) : List Ed := edgesG (htB l) (vtB l) (nodesF l)
def sgOf (N : List Pt) (e : Ed) : Sg := ⟨(nd N e.1).1, (nd N e.1).2, (nd N e.2).1, (nd N e.2).2⟩
def drawnL (N : List Pt) (E : List Ed) : List Sg := E.map (sgOf N)
theorem net_ok {l : List Sg} (hv : ∀ s ∈ l, okSg s) : NetOK (htB l) (vtB l) (nodesF l) :=
  ⟨(nodesF_ok hv).1, (nodesF_ok hv).2, fun x y h => row_far hv h, fun x y h => col_far hv h⟩
theorem node_fin {l : List Sg} (hv : ∀ s ∈ l, okSg s) {i : Nat} (h : i < (nodesF l).length) : finS (nd (nodesF l) i).1 ∧ finS (nd (nodesF l) i).2 := by
  obtain ⟨h1, h2, _⟩ := node_in hv (x := (nd (nodesF l) i).1) (y := (nd (nodesF l) i).2) (((nodesF_ok hv).2 _).1 (nd_mem h))
  obtain ⟨s, hs, h1⟩ := List.mem_flatMap.1 h1
  obtain ⟨t, ht, h2⟩ := List.mem_flatMap.1 h2
  obtain ⟨⟨s1, s2, s3, s4⟩, _⟩ := hv s hs
  obtain ⟨⟨t1, t2, t3, t4⟩, _⟩ := hv t ht
  simp only [List.mem_cons, List.not_mem_nil, or_false] at h1 h2
  refine ⟨?_, ?_⟩
  · rcases h1 with h1 | h1 <;> rw [h1] <;> assumption
  · rcases h2 with h2 | h2 <;> rw [h2] <;> assumption
section
variable {h v : Int → Int → Bool} {N : List Pt} (H : NetOK h v N)
include H
/-- An edge is along x or along y. -/
theorem NetOK.edge_two {e : Ed} (he : e ∈ edgesG h v N) : e.1 < e.2 ∧ e.2 < N.length ∧ (((nd N e.1).1 = (nd N e.2).1 ∧ (nd N e.1).2 < (nd N e.2).2 ∧ v (nd N e.1).1 (nd N e.1).2 = true ∧ nxt Prod.fst N e.1 e.2) ∨ ((nd N e.1).2 = (nd N e.2).2 ∧ (nd N e.1).1 < (nd N e.2).1 ∧ h (nd N e.1).1 (nd N e.1).2 = true ∧ nxt Prod.snd N e.1 e.2)) := by
  rcases mem_edges.1 he with ⟨h1, h2⟩ | ⟨h1, h2⟩
  · exact ⟨h2.1, h2.2.1, .inl ⟨h2.2.2.1.symm, (H.col_nodes h2).1, h1, h2⟩⟩
  · exact ⟨h2.1, h2.2.1, .inr ⟨h2.2.2.1.symm, (H.row_nodes h2).1, h1, h2⟩⟩
theorem NetOK.drawn_row (x y : Int) : htB (drawnL N (edgesG h v N)) x y = h x y := by
  rw [Bool.eq_iff_iff, row_mem]
  constructor
  · rintro ⟨s, hs, e1, e2, e3, e4⟩
    obtain ⟨e, he, rfl⟩ := List.mem_map.1 hs
    obtain ⟨_, _, k | ⟨k1, k2, k3, k4⟩⟩ := H.edge_two he
    · have : (nd N e.1).2 = (nd N e.2).2 := e1
      omega
    · have e3' : min (nd N e.1).1 (nd N e.2).1 ≤ x := e3
      have e4' : x < max (nd N e.1).1 (nd N e.2).1 := e4
      have e2' : (nd N e.1).2 = y := e2
      have := H.row_line k4 (x := x) (by omega) (by omega)
      rw [← e2', this]
      exact k3
  · intro hx
    obtain ⟨c, c1, c2, c3⟩ := H.row_right hx
    -- the last node up to x
    obtain ⟨b, ⟨b1, b2, b3⟩, b4⟩ := least_nat (P := fun b => b < N.length ∧ x < (nd N b).1 ∧ (nd N b).2 = y) (a := c) ⟨c1, c2, c3⟩
    obtain ⟨a0, a1, a2, a3⟩ := H.row_left hx
    have hab0 := (H.ord_row a1 b1 (by rw [a3, b3])).2 (by omega)
    have hn := nxt_of_last (f := Prod.snd) b1 ⟨a0, hab0, by rw [a3, b3]⟩
    generalize lastG Prod.snd N b (nd N b).2 = a at hn
    have hy : (nd N a).2 = y := by rw [← hn.2.2.1]; exact b3
    have hax : (nd N a).1 ≤ x := by
      by_cases e : (nd N a).1 ≤ x
      · exact e
      · exact absurd ⟨Nat.lt_trans hn.1 hn.2.1, by omega, hy⟩ (b4 a hn.1)
    have hl := H.row_line hn hax b2
    rw [hy] at hl
    refine ⟨sgOf N (a, b), List.mem_map.2 ⟨(a, b), mem_edges.2 (.inr ⟨?_, hn⟩), rfl⟩, hn.2.2.1.symm, hy, ?_, ?_⟩
    · show h (nd N a).1 (nd N a).2 = true
      rw [hy, ← hl]
      exact hx
    · show min (nd N a).1 (nd N b).1 ≤ x
      omega
    · show x < max (nd N a).1 (nd N b).1
      omega
theorem NetOK.drawn_col (x y : Int) : vtB (drawnL N (edgesG h v N)) x y = v x y := by
  rw [Bool.eq_iff_iff, col_mem]
  constructor
  · rintro ⟨s, hs, e1, e2, e3, e4⟩
    obtain ⟨e, he, rfl⟩ := List.mem_map.1 hs
    obtain ⟨_, _, ⟨k1, k2, k3, k4⟩ | k⟩ := H.edge_two he
    · have e3' : min (nd N e.1).2 (nd N e.2).2 ≤ y := e3
      have e4' : y < max (nd N e.1).2 (nd N e.2).2 := e4
      have e2' : (nd N e.1).1 = x := e2
      have := H.col_line k4 (y := y) (by omega) (by omega)
      rw [← e2', this]
      exact k3
    · exact absurd k.1 e1
  · intro hx
    obtain ⟨c, c1, c2, c3⟩ := H.col_right hx
    obtain ⟨b, ⟨b1, b2, b3⟩, b4⟩ := least_nat (P := fun b => b < N.length ∧ y < (nd N b).2 ∧ (nd N b).1 = x) (a := c) ⟨c1, c2, c3⟩
    obtain ⟨a0, a1, a2, a3⟩ := H.col_left hx
    have hab0 := (H.ord_col a1 b1 (by rw [a3, b3])).2 (by omega)
    have hn := nxt_of_last (f := Prod.fst) b1 ⟨a0, hab0, by rw [a3, b3]⟩
    generalize lastG Prod.fst N b (nd N b).1 = a at hn
    have hy : (nd N a).1 = x := by rw [← hn.2.2.1]; exact b3
    have hax : (nd N a).2 ≤ y := by
      by_cases e : (nd N a).2 ≤ y
      · exact e
      · exact absurd ⟨Nat.lt_trans hn.1 hn.2.1, by omega, hy⟩ (b4 a hn.1)
    have hl := H.col_line hn hax b2
    rw [hy] at hl
    have hcn := (H.col_nodes hn).1
    refine ⟨sgOf N (a, b), List.mem_map.2 ⟨(a, b), mem_edges.2 (.inl ⟨?_, hn⟩), rfl⟩, ?_, hy, ?_, ?_⟩
    · show v (nd N a).1 (nd N a).2 = true
      rw [hy, ← hl]
      exact hx
    · show ¬ (nd N a).2 = (nd N b).2
      omega
    · show min (nd N a).2 (nd N b).2 ≤ y
      omega
    · show y < max (nd N a).2 (nd N b).2
      omega
end
theorem drawn_ok {l : List Sg} (hv : ∀ s ∈ l, okSg s) : ∀ s ∈ drawnL (nodesF l) (edgesF l), okSg s := by
  intro s hs
  obtain ⟨e, he, rfl⟩ := List.mem_map.1 hs
  obtain ⟨h1, h2, h3⟩ := (net_ok hv).edge_two he
  obtain ⟨p1, p2⟩ := node_fin hv (i := e.1) (by omega)
  obtain ⟨q1, q2⟩ := node_fin hv h2
  refine ⟨⟨p1, p2, q1, q2⟩, ?_⟩
  unfold sgOf
  simp only
  rcases h3 with h3 | h3 <;> omega
theorem net_again {l : List Sg} (hv : ∀ s ∈ l, okSg s) : nodesF (drawnL (nodesF l) (edgesF l)) = nodesF l ∧ edgesF (drawnL (nodesF l) (edgesF l)) = edgesF l := by
  have H := net_ok hv
  have h1 : htB (drawnL (nodesF l) (edgesF l)) = htB l := funext fun x => funext fun y => H.drawn_row x y
  have h2 : vtB (drawnL (nodesF l) (edgesF l)) = vtB l := funext fun x => funext fun y => H.drawn_col x y
  have h3 := nodes_ext (drawn_ok hv) hv (fun x y => H.drawn_row x y) (fun x y => H.drawn_col x y)
  refine ⟨h3, ?_⟩
  show edgesG (htB (drawnL (nodesF l) (edgesF l))) (vtB (drawnL (nodesF l) (edgesF l))) (nodesF (drawnL (nodesF l) (edgesF l))) = _
  rw [h1, h2, h3]
theorem len_flat {α β : Type} (f : α → List β) (k : Nat) : ∀ {l : List α}, (∀ a ∈ l, (f a).length ≤ k) → (l.flatMap f).length ≤ l.length * k
  | [], _ => by simp
  | a :: l, h => by
    have h1 := h a (by simp)
    have h2 := len_flat f k (l := l) fun b hb => h b (by simp [hb])
    rw [List.flatMap_cons, List.length_append, List.length_cons, Nat.succ_mul]
    omega
theorem nodes_len {l : List Sg} (hv : ∀ s ∈ l, okSg s) : (nodesF l).length ≤ l.length * 2 + l.length * l.length := by
  obtain ⟨h1, h2⟩ := nodesF_ok hv
  have hnd : (nodesF l).Nodup := h1.imp (by
    intro a b hab e
    subst e
    exact ptLt_irrefl _ hab)
  have hle := nodup_len hnd (m := (l.flatMap fun s => [(s.ax, s.ay), (s.cx, s.cy)]) ++ l.flatMap fun s => l.map fun t => (s.ax, t.ay)) fun p hp => by
    obtain ⟨x, y⟩ := p
    obtain ⟨_, _, ⟨s, hs, ⟨rfl, rfl⟩ | ⟨rfl, rfl⟩⟩ | ⟨s, hs, t, ht, rfl, rfl⟩⟩ := node_in hv ((h2 _).1 hp)
    · exact List.mem_append.2 (.inl (List.mem_flatMap.2 ⟨s, hs, by simp⟩))
    · exact List.mem_append.2 (.inl (List.mem_flatMap.2 ⟨s, hs, by simp⟩))
    · exact List.mem_append.2 (.inr (List.mem_flatMap.2 ⟨s, hs, List.mem_map.2 ⟨t, ht, rfl⟩⟩))
  rw [List.length_append] at hle
  have e1 := len_flat (fun s : Sg => [((s.ax, s.ay) : Pt), (s.cx, s.cy)]) 2 (l := l) fun a _ => by simp
  have e2 := len_flat (fun s : Sg => l.map fun t => ((s.ax, t.ay) : Pt)) l.length (l := l) fun a _ => by simp
  omega
theorem edges_len (h v : Int → Int → Bool) (N : List Pt) : (edgesG h v N).length ≤ N.length * 2 := by
  have := len_flat (fun a => upE v N a ++ rtE h N a) 2 (l := List.range N.length) fun a _ => by
    rw [List.length_append]
    have e1 : (upE v N a).length ≤ 1 := by
      unfold upE
      split
      · cases upO N a <;> simp
      · simp
    have e2 : (rtE h N a).length ≤ 1 := by
      unfold rtE
      split
      · cases rtO N a <;> simp
      · simp
    omega
  rwa [List.length_range] at this
end Go.Proofs.YtdolpeljengpaaaGreat

/- Plain: the parts of a network: labels that are joined edge by edge; as many labels as nodes that are the first ones of their part. -/
namespace Go.Proofs.YtdolpeljengpaaaGreat
set_option linter.unusedVariables false
set_option linter.unusedSimpArgs false

def lb (L : List Nat) (i : Nat) : Nat := L.getD i 0
def joinLb (L : List Nat) (a b : Nat) : List Nat := L.map fun x => if x = b then a else x
def compS (st : List Nat × Nat) (e : Ed) : List Nat × Nat := if lb st.1 e.1 = lb st.1 e.2 then st else (joinLb st.1 (lb st.1 e.1) (lb st.1 e.2), st.2 - 1)
def compF (n : Nat) (E : List Ed) : List Nat × Nat := E.foldl compS (List.range n, n)
def rootB (L : List Nat) (i : Nat) : Bool := decide (lb L i = i)
def firstB (L : List Nat) (i : Nat) : Bool := (List.range i).all fun j => decide (lb L j ≠ lb L i)
structure CompOK (n : Nat) (L : List Nat) (m : Nat) : Prop where
  len : L.length = n
  lt : ∀ i, i < n → lb L i < n
  idem : ∀ i, i < n → lb L (lb L i) = lb L i
  cnt : m = (List.range n).countP (rootB L)
theorem lb_join {L : List Nat} {a b i : Nat} (h : i < L.length) : lb (joinLb L a b) i = if lb L i = b then a else lb L i := by
  unfold lb joinLb
  rw [List.getD_eq_getElem?_getD, List.getD_eq_getElem?_getD, List.getElem?_map, List.getElem?_eq_getElem h]
  rfl
theorem countP_one {n r : Nat} {p q : Nat → Bool} (hr : r < n) (hp : p r = true) (hq : q r = false) (h : ∀ i, i < n → i ≠ r → q i = p i) : (List.range n).countP p = (List.range n).countP q + 1 := by
  induction n with
  | zero => omega
  | succ n ih =>
    rw [List.range_succ, List.countP_append, List.countP_append, List.countP_singleton, List.countP_singleton]
    by_cases e : r = n
    · subst e
      rw [hp, hq, List.countP_congr (q := q) fun i hi => by rw [h i (by have := List.mem_range.1 hi; omega) (by have := List.mem_range.1 hi; omega)]]
      simp
    · rw [ih (by omega) fun i hi => h i (by omega), h n (by omega) (fun x => e x.symm)]
      omega
theorem CompOK.start (n : Nat) : CompOK n (List.range n) n := by
  have hl : ∀ i, i < n → lb (List.range n) i = i := fun i hi => by
    unfold lb
    rw [List.getD_eq_getElem?_getD, List.getElem?_range hi]
    rfl
  refine ⟨List.length_range, fun i hi => by rw [hl i hi]; exact hi, fun i hi => by rw [hl i hi, hl i hi], ?_⟩
  rw [List.countP_eq_length.2 fun i hi => ?_, List.length_range]
  have := hl i (List.mem_range.1 hi)
  unfold rootB
  exact decide_eq_true this
theorem CompOK.step {n : Nat} {st : List Nat × Nat} (h : CompOK n st.1 st.2) {e : Ed} (h1 : e.1 < n) (h2 : e.2 < n) : CompOK n (compS st e).1 (compS st e).2 := by
  unfold compS
  split
  · exact h
  · rename_i hne
    have hj : ∀ i, i < n → lb (joinLb st.1 (lb st.1 e.1) (lb st.1 e.2)) i = if lb st.1 i = lb st.1 e.2 then lb st.1 e.1 else lb st.1 i := fun i hi => lb_join (by rw [h.len]; exact hi)
    have a1 := h.lt _ h1
    have a2 := h.lt _ h2
    have i1 := h.idem _ h1
    have i2 := h.idem _ h2
    refine ⟨by unfold joinLb; rw [List.length_map]; exact h.len, fun i hi => ?_, fun i hi => ?_, ?_⟩
    · simp only [hj i hi]
      split
      · exact a1
      · exact h.lt i hi
    · simp only [hj i hi]
      split
      · rw [hj _ a1, if_neg (by rw [i1]; exact hne), i1]
      · rename_i hno
        rw [hj _ (h.lt i hi), h.idem i hi, if_neg hno]
    · have := countP_one (n := n) (r := lb st.1 e.2) (p := rootB st.1) (q := rootB (joinLb st.1 (lb st.1 e.1) (lb st.1 e.2))) a2 (by unfold rootB; rw [i2]; simp)
        (by unfold rootB; rw [hj _ a2, i2, if_pos rfl]; exact decide_eq_false hne) fun i hi hir => by
          unfold rootB
          rw [hj i hi]
          split
          · rename_i he
            have f1 : ¬ lb st.1 i = i := by rw [he]; exact fun x => hir x.symm
            have f2 : ¬ lb st.1 e.1 = i := fun x => by
              rw [← x, i1] at he
              exact hne he
            rw [decide_eq_false f1, decide_eq_false f2]
          · rfl
      have hc := h.cnt
      show st.2 - 1 = (List.range n).countP (rootB (joinLb st.1 (lb st.1 e.1) (lb st.1 e.2)))
      rw [hc, this]
      rfl
theorem comp_from {n : Nat} : ∀ (E : List Ed) (st : List Nat × Nat), CompOK n st.1 st.2 → (∀ e ∈ E, e.1 < n ∧ e.2 < n) → CompOK n (E.foldl compS st).1 (E.foldl compS st).2
  | [], st, h, _ => h
  | e :: E, st, h, hE => comp_from E (compS st e) (h.step (hE e (by simp)).1 (hE e (by simp)).2) fun x hx => hE x (by simp [hx])
theorem comp_ok {n : Nat} {E : List Ed} (hE : ∀ e ∈ E, e.1 < n ∧ e.2 < n) : CompOK n (compF n E).1 (compF n E).2 := comp_from E _ (CompOK.start n) hE
/-- Steps join labels, and part none. -/
theorem step_same {n : Nat} {st : List Nat × Nat} (h : CompOK n st.1 st.2) {e : Ed} (h1 : e.1 < n) (h2 : e.2 < n) : lb (compS st e).1 e.1 = lb (compS st e).1 e.2 ∧ ∀ i j, i < n → j < n → lb st.1 i = lb st.1 j → lb (compS st e).1 i = lb (compS st e).1 j := by
  unfold compS
  split
  · rename_i he
    exact ⟨he, fun i j _ _ hh => hh⟩
  · rename_i hne
    have hj : ∀ i, i < n → lb (joinLb st.1 (lb st.1 e.1) (lb st.1 e.2)) i = if lb st.1 i = lb st.1 e.2 then lb st.1 e.1 else lb st.1 i := fun i hi => lb_join (by rw [h.len]; exact hi)
    refine ⟨?_, fun i j hi hj' hh => ?_⟩
    · rw [hj _ h1, hj _ h2, if_pos rfl, if_neg hne]
    · rw [hj i hi, hj j hj', hh]
theorem comp_same_from {n : Nat} : ∀ (E : List Ed) (st : List Nat × Nat), CompOK n st.1 st.2 → (∀ e ∈ E, e.1 < n ∧ e.2 < n) → (∀ e ∈ E, lb (E.foldl compS st).1 e.1 = lb (E.foldl compS st).1 e.2) ∧ ∀ i j, i < n → j < n → lb st.1 i = lb st.1 j → lb (E.foldl compS st).1 i = lb (E.foldl compS st).1 j
  | [], st, h, _ => ⟨fun e he => by simp at he, fun i j _ _ hh => hh⟩
  | e :: E, st, h, hE => by
    obtain ⟨b1, b2⟩ := hE e (by simp)
    obtain ⟨c1, c2⟩ := step_same h b1 b2
    obtain ⟨d1, d2⟩ := comp_same_from E (compS st e) (h.step b1 b2) fun x hx => hE x (by simp [hx])
    refine ⟨fun x hx => ?_, fun i j hi hj hh => d2 i j hi hj (c2 i j hi hj hh)⟩
    rcases List.mem_cons.1 hx with rfl | hx
    · exact d2 _ _ b1 b2 c1
    · exact d1 x hx
theorem comp_same {n : Nat} {E : List Ed} (hE : ∀ e ∈ E, e.1 < n ∧ e.2 < n) : ∀ e ∈ E, lb (compF n E).1 e.1 = lb (compF n E).1 e.2 := (comp_same_from E _ (CompOK.start n) hE).1
/-- What all edges keep, all nodes of one label keep. -/
theorem comp_min_from {n : Nat} (S : Nat → Prop) : ∀ (E : List Ed) (st : List Nat × Nat), CompOK n st.1 st.2 → (∀ e ∈ E, e.1 < n ∧ e.2 < n) → (∀ e ∈ E, S e.1 ↔ S e.2) → (∀ i j, i < n → j < n → lb st.1 i = lb st.1 j → (S i ↔ S j)) → ∀ i j, i < n → j < n → lb (E.foldl compS st).1 i = lb (E.foldl compS st).1 j → (S i ↔ S j)
  | [], st, h, _, _, hS => hS
  | e :: E, st, h, hE, hk, hS => by
    obtain ⟨b1, b2⟩ := hE e (by simp)
    refine comp_min_from S E (compS st e) (h.step b1 b2) (fun x hx => hE x (by simp [hx])) (fun x hx => hk x (by simp [hx])) fun i j hi hj hh => ?_
    have hke := hk e (by simp)
    unfold compS at hh
    split at hh
    · exact hS i j hi hj hh
    · rw [lb_join (by rw [h.len]; exact hi), lb_join (by rw [h.len]; exact hj)] at hh
      split at hh
      · rename_i q1
        split at hh
        · rename_i q2
          exact hS i j hi hj (by rw [q1, q2])
        · exact (hS i e.2 hi b2 q1).trans (hke.symm.trans (hS e.1 j b1 hj hh))
      · split at hh
        · rename_i q2
          exact (hS i e.1 hi b1 hh).trans (hke.trans (hS e.2 j b2 hj q2.symm))
        · exact hS i j hi hj hh
theorem comp_min {n : Nat} {E : List Ed} (hE : ∀ e ∈ E, e.1 < n ∧ e.2 < n) (S : Nat → Prop) (hk : ∀ e ∈ E, S e.1 ↔ S e.2) {i j : Nat} (hi : i < n) (hj : j < n) (h : lb (compF n E).1 i = lb (compF n E).1 j) : S i ↔ S j := by
  refine comp_min_from S E _ (CompOK.start n) hE hk (fun a b ha hb hh => ?_) i j hi hj h
  unfold lb at hh
  rw [List.getD_eq_getElem?_getD, List.getD_eq_getElem?_getD, List.getElem?_range ha, List.getElem?_range hb] at hh
  have : a = b := hh
  rw [this]
theorem countP_inj {n m : Nat} {p q : Nat → Bool} (f : Nat → Nat) (hf : ∀ i, i < n → p i = true → f i < m ∧ q (f i) = true) (hi : ∀ i j, i < n → j < n → p i = true → p j = true → f i = f j → i = j) : (List.range n).countP p ≤ (List.range m).countP q := by
  rw [List.countP_eq_length_filter, List.countP_eq_length_filter, ← List.length_map (f := f)]
  refine nodup_len ?_ fun x hx => ?_
  · rw [List.Nodup, List.pairwise_map]
    have hp : ((List.range n).filter p).Pairwise fun a b => (a ≠ b ∧ a ∈ (List.range n).filter p) ∧ b ∈ (List.range n).filter p := by
      rw [List.pairwise_iff_getElem]
      intro i j hi hj hij
      refine ⟨⟨?_, List.getElem_mem hi⟩, List.getElem_mem hj⟩
      have hnd : ((List.range n).filter p).Nodup := List.Pairwise.filter _ List.nodup_range
      exact List.pairwise_iff_getElem.1 hnd i j hi hj hij
    refine hp.imp ?_
    rintro a b ⟨⟨hab, ha⟩, hb⟩ e
    obtain ⟨a1, a2⟩ := List.mem_filter.1 ha
    obtain ⟨b1, b2⟩ := List.mem_filter.1 hb
    exact hab (hi a b (List.mem_range.1 a1) (List.mem_range.1 b1) a2 b2 e)
  · obtain ⟨i, hi', rfl⟩ := List.mem_map.1 hx
    obtain ⟨a1, a2⟩ := List.mem_filter.1 hi'
    obtain ⟨c1, c2⟩ := hf i (List.mem_range.1 a1) a2
    exact List.mem_filter.2 ⟨List.mem_range.2 c1, c2⟩
theorem first_iff {L : List Nat} {i : Nat} : firstB L i = true ↔ ∀ j, j < i → lb L j ≠ lb L i := by
  unfold firstB
  simp [List.all_eq_true]
/-- As many nodes are the first ones of their labels as are labels themselves. -/
theorem first_count {n m : Nat} {L : List Nat} (h : CompOK n L m) : (List.range n).countP (firstB L) = m := by
  rw [h.cnt]
  refine Nat.le_antisymm (countP_inj (lb L) (fun i hi _ => ⟨h.lt i hi, by unfold rootB; rw [h.idem i hi]; simp⟩) fun i j hi hj pi pj e => ?_) ?_
  · rcases Nat.lt_trichotomy i j with g | g | g
    · exact absurd e (first_iff.1 pj i g)
    · exact g
    · exact absurd e.symm (first_iff.1 pi j g)
  · have hex : ∀ r, r < n → ∃ b, (b < n ∧ lb L b = lb L r) ∧ ∀ c, c < b → ¬ (c < n ∧ lb L c = lb L r) := fun r hr => least_nat (P := fun b => b < n ∧ lb L b = lb L r) (a := r) ⟨hr, rfl⟩
    refine countP_inj (fun r => if hr : r < n then Classical.choose (hex r hr) else 0) (fun r hr _ => ?_) fun r s hr hs pr ps e => ?_
    · rw [dif_pos hr]
      obtain ⟨⟨k1, k2⟩, k3⟩ := Classical.choose_spec (hex r hr)
      refine ⟨k1, first_iff.2 fun c hc e => k3 c hc ⟨by omega, by rw [e, k2]⟩⟩
    · simp only [dif_pos hr, dif_pos hs] at e
      obtain ⟨⟨_, k2⟩, _⟩ := Classical.choose_spec (hex r hr)
      obtain ⟨⟨_, g2⟩, _⟩ := Classical.choose_spec (hex s hs)
      rw [e, g2] at k2
      unfold rootB at pr ps
      rw [decide_eq_true_eq] at pr ps
      rw [pr, ps] at k2
      exact k2.symm
theorem comp_bd {n : Nat} : ∀ (E : List Ed) (st : List Nat × Nat), st.2 ≤ (E.foldl compS st).2 + E.length ∧ (E.foldl compS st).2 ≤ st.2
  | [], st => ⟨Nat.le_refl _, Nat.le_refl _⟩
  | e :: E, st => by
    have ih := comp_bd (n := n) E (compS st e)
    have h1 : (compS st e).2 ≤ st.2 ∧ st.2 ≤ (compS st e).2 + 1 := by
      unfold compS
      split
      · omega
      · simp only; omega
    simp only [List.foldl_cons, List.length_cons]
    omega
theorem parts_bd (n : Nat) (E : List Ed) : n ≤ (compF n E).2 + E.length ∧ (compF n E).2 ≤ n := comp_bd (n := n) E (List.range n, n)
theorem parts_pos {n : Nat} {E : List Ed} (hE : ∀ e ∈ E, e.1 < n ∧ e.2 < n) (hn : 0 < n) : 0 < (compF n E).2 := by
  have h := comp_ok hE
  rw [h.cnt, List.countP_pos_iff]
  exact ⟨_, List.mem_range.2 (h.lt 0 hn), by unfold rootB; rw [h.idem 0 hn]; simp⟩
end Go.Proofs.YtdolpeljengpaaaGreat

/- Plain: the nodes as the ends of canonical lines and the places where lines cross; checks of a network; its segments. -/
namespace Go.Proofs.YtdolpeljengpaaaGreat
set_option linter.unusedVariables false
set_option linter.unusedSimpArgs false

theorem can_low {s : List Sp} (h : SCan s) {x : Int} : (smem s x ∧ ¬ smem s (x - 1)) ↔ ∃ p ∈ s, p.1 = x := by
  constructor
  · rintro ⟨⟨p, hp, h1, h2⟩, hno⟩
    refine ⟨p, hp, ?_⟩
    by_cases e : p.1 = x
    · exact e
    · exact absurd ⟨p, hp, by omega, by omega⟩ hno
  · rintro ⟨p, hp, rfl⟩
    refine ⟨⟨p, hp, Int.le_refl _, h.1 p hp⟩, ?_⟩
    rintro ⟨q, hq, q1, q2⟩
    obtain ⟨i, hi, rfl⟩ := List.getElem_of_mem hp
    obtain ⟨j, hj, rfl⟩ := List.getElem_of_mem hq
    have hpw := List.pairwise_iff_getElem.1 h.2
    rcases Nat.lt_trichotomy i j with e | e | e
    · have := hpw i j hi hj e
      have := h.1 _ (List.getElem_mem hi)
      omega
    · subst e; omega
    · have := hpw j i hj hi e
      omega
theorem can_high {s : List Sp} (h : SCan s) {x : Int} : (¬ smem s x ∧ smem s (x - 1)) ↔ ∃ p ∈ s, p.2 = x := by
  constructor
  · rintro ⟨hno, ⟨p, hp, h1, h2⟩⟩
    refine ⟨p, hp, ?_⟩
    by_cases e : p.2 = x
    · exact e
    · exact absurd ⟨p, hp, by omega, by omega⟩ hno
  · rintro ⟨p, hp, rfl⟩
    have hw := h.1 p hp
    refine ⟨?_, ⟨p, hp, by omega, by omega⟩⟩
    rintro ⟨q, hq, q1, q2⟩
    obtain ⟨i, hi, rfl⟩ := List.getElem_of_mem hp
    obtain ⟨j, hj, rfl⟩ := List.getElem_of_mem hq
    have hpw := List.pairwise_iff_getElem.1 h.2
    rcases Nat.lt_trichotomy i j with e | e | e
    · have := hpw i j hi hj e
      omega
    · subst e; omega
    · have := hpw j i hj hi e
      omega
theorem can_mid {s : List Sp} (h : SCan s) {x : Int} : (smem s x ∧ smem s (x - 1)) ↔ ∃ p ∈ s, p.1 < x ∧ x < p.2 := by
  constructor
  · rintro ⟨⟨p, hp, h1, h2⟩, hx⟩
    refine ⟨p, hp, ?_, h2⟩
    by_cases e : p.1 = x
    · exact absurd hx ((can_low h).2 ⟨p, hp, e⟩).2
    · omega
  · rintro ⟨p, hp, h1, h2⟩
    exact ⟨⟨p, hp, by omega, h2⟩, ⟨p, hp, by omega, by omega⟩⟩
/-- The canonical lines of segments. -/
structure Lines (l : List Sg) (R C : Int → List Sp) : Prop where
  rc : ∀ y, SCan (R y)
  rm : ∀ x y, smem (R y) x ↔ htB l x y = true
  cc : ∀ x, SCan (C x)
  cm : ∀ x y, smem (C x) y ↔ vtB l x y = true
def foundP (l : List Sg) (R C : Int → List Sp) (p : Pt) : Prop :=
  ((∃ s ∈ R p.2, s.1 = p.1 ∨ s.2 = p.1) ∧ nodeG (htB l) (vtB l) p = true) ∨ (∃ s ∈ R p.2, s.1 < p.1 ∧ p.1 < s.2 ∧ (vtB l p.1 p.2 = true ∨ vtB l p.1 (p.2 - 1) = true)) ∨ ((∃ s ∈ C p.1, s.1 = p.2 ∨ s.2 = p.2) ∧ nodeG (htB l) (vtB l) p = true)
theorem found_mid {l : List Sg} {R C : Int → List Sp} (H : Lines l R C) {x y : Int} {s : Sp} (hs : s ∈ R y) (h1 : s.1 < x) (h2 : x < s.2) : nodeG (htB l) (vtB l) (x, y) = (vtB l x y || vtB l x (y - 1)) := by
  obtain ⟨m1, m2⟩ := (can_mid (H.rc y)).2 ⟨s, hs, h1, h2⟩
  rw [H.rm] at m1 m2
  unfold nodeG
  simp only [m1, m2]
  cases vtB l x y <;> cases vtB l x (y - 1) <;> rfl
theorem found_iff {l : List Sg} {R C : Int → List Sp} (H : Lines l R C) (p : Pt) : foundP l R C p ↔ nodeG (htB l) (vtB l) p = true := by
  obtain ⟨x, y⟩ := p
  constructor
  · rintro (h | ⟨s, hs, h1, h2, h3⟩ | h)
    · exact h.2
    · rw [found_mid H hs h1 h2]
      rcases h3 with h3 | h3 <;> simp only at h3 <;> rw [h3] <;> simp
    · exact h.2
  · intro h
    by_cases a0 : smem (R y) x <;> by_cases a2 : smem (R y) (x - 1)
    · obtain ⟨s, hs, h1, h2⟩ := (can_mid (H.rc y)).1 ⟨a0, a2⟩
      refine .inr (.inl ⟨s, hs, h1, h2, ?_⟩)
      rw [found_mid H hs h1 h2] at h
      simpa using h
    · obtain ⟨s, hs, h1⟩ := (can_low (H.rc y)).1 ⟨a0, a2⟩
      exact .inl ⟨⟨s, hs, .inl h1⟩, h⟩
    · obtain ⟨s, hs, h1⟩ := (can_high (H.rc y)).1 ⟨a0, a2⟩
      exact .inl ⟨⟨s, hs, .inr h1⟩, h⟩
    · refine .inr (.inr ⟨?_, h⟩)
      have b0 : htB l x y = false := by rw [← Bool.not_eq_true, ← H.rm]; exact a0
      have b2 : htB l (x - 1) y = false := by rw [← Bool.not_eq_true, ← H.rm]; exact a2
      unfold nodeG at h
      simp only [b0, b2] at h
      by_cases a1 : smem (C x) y <;> by_cases a3 : smem (C x) (y - 1)
      · rw [(H.cm x y).1 a1, (H.cm x (y - 1)).1 a3] at h
        exact absurd h (by decide)
      · obtain ⟨s, hs, h1⟩ := (can_low (H.cc x)).1 ⟨a1, a3⟩
        exact ⟨s, hs, .inl h1⟩
      · obtain ⟨s, hs, h1⟩ := (can_high (H.cc x)).1 ⟨a1, a3⟩
        exact ⟨s, hs, .inr h1⟩
      · rw [H.cm, Bool.not_eq_true] at a1 a3
        rw [a1, a3] at h
        exact absurd h (by decide)
/-! ### A network as it is handed over -/
abbrev Ei := Int × Int
def edI (E : List Ed) : List Ei := E.map fun e => ((e.1 : Int), (e.2 : Int))
def sgI (N : List Pt) (e : Ei) : Sg := ⟨(nd N e.1.toNat).1, (nd N e.1.toNat).2, (nd N e.2.toNat).1, (nd N e.2.toNat).2⟩
def okEi (N : List Pt) (e : Ei) : Prop := (0 ≤ e.1 ∧ e.1 < N.length ∧ 0 ≤ e.2 ∧ e.2 < N.length) ∧ okSg (sgI N e)
instance (N : List Pt) (e : Ei) : Decidable (okEi N e) := by unfold okEi; infer_instance
def segsI (N : List Pt) (E : List Ei) : List Sg := E.map (sgI N)
/-- The code of a network that is checked. -/
def chkN (N : List Pt) (E : List Ei) : Int := if 400 < N.length ∨ 800 < E.length then 4 else if ¬ (∀ e ∈ E, okEi N e) then 8 else if (nodesF (segsI N E)).length ≤ 400 ∧ nodesF (segsI N E) = N ∧ edI (edgesF (segsI N E)) = E then 0 else 8
theorem segs_drawn {N : List Pt} (E : List Ed) : segsI N (edI E) = drawnL N E := by
  unfold segsI edI drawnL
  rw [List.map_map]
  rfl
theorem chkN_ok {N : List Pt} {E : List Ei} (h : chkN N E = 0) : N.length ≤ 400 ∧ E.length ≤ 800 ∧ (∀ e ∈ E, okEi N e) ∧ nodesF (segsI N E) = N ∧ edI (edgesF (segsI N E)) = E := by
  unfold chkN at h
  split at h
  · simp at h
  · split at h
    · simp at h
    · rename_i h1 h2
      split at h
      · rename_i h3
        refine ⟨by omega, by omega, Classical.not_not.1 h2, h3.2.1, h3.2.2⟩
      · simp at h
theorem segs_ok {N : List Pt} {E : List Ei} (h : ∀ e ∈ E, okEi N e) : ∀ s ∈ segsI N E, okSg s := by
  intro s hs
  obtain ⟨e, he, rfl⟩ := List.mem_map.1 hs
  exact (h e he).2
/-- What street.Make lays is a network. -/
theorem made_chk {l : List Sg} (hv : ∀ s ∈ l, okSg s) (hn : (nodesF l).length ≤ 400) : chkN (nodesF l) (edI (edgesF l)) = 0 := by
  have he := edges_len (htB l) (vtB l) (nodesF l)
  have hE : (edI (edgesF l)).length = (edgesF l).length := by unfold edI; rw [List.length_map]
  have hall : ∀ e ∈ edI (edgesF l), okEi (nodesF l) e := by
    intro e he
    obtain ⟨d, hd, rfl⟩ := List.mem_map.1 he
    obtain ⟨h1, h2, _⟩ := (net_ok hv).edge_two hd
    refine ⟨⟨by simp only; omega, by simp only; omega, by simp only; omega, by simp only; omega⟩, ?_⟩
    exact drawn_ok hv _ (List.mem_map.2 ⟨d, hd, rfl⟩)
  unfold chkN
  rw [if_neg (by rw [hE]; show ¬ (400 < (nodesF l).length ∨ 800 < (edgesG (htB l) (vtB l) (nodesF l)).length); omega), if_neg (fun h => h hall), segs_drawn]
  obtain ⟨n1, n2⟩ := net_again hv
  rw [if_pos ⟨by rw [n1]; exact hn, n1, by rw [n2]⟩]
end Go.Proofs.YtdolpeljengpaaaGreat

/- slices.SortFunc at span.end, by its closure. -/
namespace Go.Proofs.YtdolpeljengpaaaGreat
open Go.RowKit Go.Sort
set_option linter.unusedVariables false
set_option linter.unusedSimpArgs false

/-- An end in range: there the closure's subtraction does not wrap. -/
abbrev BE := { e : En // -1000000 ≤ e.1 ∧ e.1 ≤ 1000000 }
instance : Inhabited BE := ⟨⟨(0, 0, 0), by decide⟩⟩
def encB (e : BE) : List Value := encE e.1
def cfE (x y : BE) : Int := x.1.1 - y.1.1
theorem lift_be : ∀ (E : List En), (∀ e ∈ E, -1000000 ≤ e.1 ∧ e.1 ≤ 1000000) → ∃ L : List BE, L.map (·.1) = E
  | [], _ => ⟨[], rfl⟩
  | e :: E, h => by
    obtain ⟨L, hL⟩ := lift_be E fun x hx => h x (by simp [hx])
    exact ⟨⟨e, h e (by simp)⟩ :: L, by simp [hL]⟩
theorem flat_be (L : List BE) : L.flatMap encB = (L.map (·.1)).flatMap encE := by
  rw [List.flatMap_map]; rfl
theorem swoE : SWO (ltOf cfE) where
  irrefl x := by simp [ltOf, cfE]
  trans x y z h1 h2 := by
    unfold ltOf cfE at *
    have a := of_decide_eq_true h1
    have b := of_decide_eq_true h2
    exact decide_eq_true (by omega)
  ntrans x y z h1 h2 := by
    unfold ltOf cfE at *
    have a := of_decide_eq_false h1
    have b := of_decide_eq_false h2
    exact decide_eq_false (by omega)

set_option maxHeartbeats 1000000 in
theorem cmpE_any (x y : BE) (W : World) : Calls Tryz.prog 239 #[.agg (encB x).toArray, .agg (encB y).toArray] W fun e w' => e = .returned (.int .i64 (cfE x y)) ∧ ∃ q os', w' = grow (W.drewN q) os' := by
  obtain ⟨⟨a, b, c⟩, hx⟩ := x
  obtain ⟨⟨d, e, f⟩, hy⟩ := y
  show Calls Tryz.prog 239 #[.agg #[.int .i64 a, .int .i64 b, .int .i64 c], .agg #[.int .i64 d, .int .i64 e, .int .i64 f]] W fun r w' => r = .returned (.int .i64 (a - d)) ∧ ∃ q os', w' = grow (W.drewN q) os'
  simp only at hx hy
  obtain ⟨x1, x2⟩ := hx
  obtain ⟨y1, y2⟩ := hy
  go_enter Tryz.func239, Tryz.ntmps239
  go_wp2
  go_ret
  exact ⟨rfl, 0, _, by rw [alloc_eq_grow, alloc_eq_grow, grow_grow]; rfl⟩

/-- The sort's contract: the row then holds the ends in order; all else is as it was. -/
theorem sortE_any (base : Nat) (v : Value) (E : List En) (hB : ∀ e ∈ E, -1000000 ≤ e.1 ∧ e.1 ≤ 1000000) (w : World) (hown : w.ownsRow base 282 3 v E.length (E.flatMap encE)) (hsz : E.length < 4611686018427387904) :
    Calls Tryz.prog 238 #[v, .func (.func 239) #[] #[]] w fun e w' => e = .returned (.tuple #[]) ∧
      ∃ E' : List En, E'.Perm E ∧ E'.Pairwise (fun a b => a.1 ≤ b.1) ∧ w'.ownsRow base 282 3 v E'.length (E'.flatMap encE) ∧ w.grownBy w' v.ownBlock := by
  by_cases h0 : E = []
  · subst h0
    obtain ⟨p, cap, hv⟩ : ∃ p cap, v = .slice p 0 cap := by
      rcases hown.2 with ⟨rfl, _⟩ | ⟨g, cap, cur, rfl, _⟩
      · exact ⟨_, _, rfl⟩
      · exact ⟨_, _, rfl⟩
    subst hv
    have h := AnyF.slices_SortFunc_none Tryz.sortEnd p cap (.func (.func 239) #[] #[]) w
    change Calls Tryz.prog 238 _ _ _ at h
    refine h.mono ?_
    rintro e w' ⟨rfl, rfl⟩
    exact ⟨rfl, [], .refl _, .nil, hown, ⟨rfl, rfl, rfl, Nat.le_refl _, fun _ _ _ => rfl⟩⟩
  · obtain ⟨L, hL⟩ := lift_be E hB
    have hlen : L.length = E.length := by rw [← hL]; simp
    have hown0 := hown
    rw [← hL, ← flat_be, List.length_map] at hown
    obtain ⟨g, cap, rfl, hbg, hg⟩ := hown.form (by rw [hlen]; exact List.length_pos_iff.2 h0)
    have hk : ∀ x : BE, (encB x).length = 3 := fun _ => rfl
    have hcon := AnyQ.slices_SortFunc Tryz.sortEnd 3 Tryz.isAgg282 Tryz.sizeOf282 encB hk (fun x v hv => by simp [encB, encE] at hv; rcases hv with rfl | rfl | rfl <;> rfl) cfE swoE 239 #[] g 0 cap L.toArray w
      (enters_of Tryz.func239 (by kernel_rfl) rfl) (fun _ _ _ _ x y => cmpE_any x y _) (own_holds hk hown) hg (by simpa [hlen] using hsz)
    change Calls Tryz.prog 238 _ _ _ at hcon
    rw [List.size_toArray] at hcon
    refine hcon.mono ?_
    rintro e w' ⟨rfl, d', n, os, hp, hs, rfl⟩
    obtain ⟨hp1, _, hp3⟩ := hp
    have hsz' : d'.toList.length = L.length := by simpa using hp1
    have hperm : d'.toList.Perm L := by
      have e1 : (d'.extract 0 L.length).toList = d'.toList := by
        rw [Array.toList_extract, List.extract_eq_take_drop, List.drop_zero, Nat.sub_zero, ← hsz', List.take_length]
      have e2 : (L.toArray.extract 0 L.length).toList = L := by
        simp [List.extract]
      rw [e1, e2] at hp3
      exact hp3
    obtain ⟨o1, o2⟩ := own_sorted (n := n) (l' := d'.toList) hk os hown hsz'
    have eW : d'.toList.toArray = d' := by simp
    rw [eW] at o1 o2
    refine ⟨rfl, d'.toList.map (·.1), ?_, ?_, ?_, o2⟩
    · rw [← hL]; exact hperm.map _
    · rw [List.pairwise_map, List.pairwise_iff_getElem]
      intro i j hi hj hij
      have := hs i j (Nat.zero_le _) hij (by rw [← hsz']; exact hj)
      have hi' : i < d'.size := by simpa using hi
      have hj' : j < d'.size := by simpa using hj
      rw [getElem!_pos d' i hi', getElem!_pos d' j hj'] at this
      unfold ltOf cfE at this
      have := of_decide_eq_false this
      rw [Array.getElem_toList, Array.getElem_toList]
      omega
    · rw [List.length_map, ← flat_be, ← hsz']
      rw [hsz'] at o1 ⊢
      exact o1
end Go.Proofs.YtdolpeljengpaaaGreat

/- A range over a function, at the wide fence: the iterator has a contract over a list of items, the caller an invariant and one walk of its body. And: a region that draws its order, inside a round. -/
namespace Go.Proofs.YtdolpeljengpaaaGreat
open Go.RowKit
set_option linter.unusedVariables false
set_option linter.unusedSimpArgs false

theorem below_putObj {B : Nat} {w W : World} (h : Below B w W) {l : Nat} (hl : B ≤ l) (o : Obj) : Below B w (W.putObj l o) :=
  ⟨h.os, h.tape, h.output, by simpa using h.size, fun k hk => (World.putObj_heap_other (by omega)).trans (h.block k hk)⟩
theorem cell_putObj {A : World} {l : Nat} {o o' : Obj} (h : A.heap[l]? = some o) (ho : o.isCells = false) (ho' : o'.isCells = false) (p : Addr) : (A.putObj l o').cell? p = A.cell? p ∧ (A.putObj l o').frozen? p = A.frozen? p := by
  by_cases hp : p.block = l
  · have h1 : (A.putObj l o').heap[p.block]? = some o' := by rw [hp]; exact World.putObj_heap_same (Array.getElem?_eq_some_iff.1 h).1
    have h2 : A.heap[p.block]? = some o := by rw [hp]; exact h
    constructor
    · unfold World.cell?
      rw [h1, h2]
      cases o <;> cases o' <;> simp_all [Obj.isCells]
    · unfold World.frozen?
      rw [h1, h2]
      cases o <;> cases o' <;> simp_all [Obj.isCells]
  · exact ⟨World.cell?_of_block (World.putObj_heap_other hp), World.frozen?_of_block (World.putObj_heap_other hp)⟩

theorem lt_of_cell {w : World} {b o : Nat} {v : Value} (h : w.cell? ⟨b, o, none⟩ = some v) : b < w.heap.size := by
  obtain ⟨ob, ho, _⟩ := cells_of_cell h
  exact (Array.getElem?_eq_some_iff.1 ho).1

/-- THE ITERATOR's CONTRACT: function gf bound to lb yields the items xs, one behind the other, whatever the caller's invariant J: what it hands over stands in Ok; Kp is what a round keeps for it. -/
def Iter (P : Program) (gf : Nat) (lb : Array Value) {α : Type} (xs : List α) (Ok : α → Array Value → World → Prop) (Kp : World → World → Prop) (w0 : World) : Prop :=
  ∀ (l : Nat) (J Jx : List α → World → Prop) (W : World), Below w0.heap.size w0 W →
    (∀ pre A B, J pre A → Below A.heap.size A B → J pre B) →
    (∀ pre x args A, J pre A → (∃ post, xs = pre ++ x :: post) → Ok x args A → YieldAt Fence.wide 0 P l args A fun e B => (e = .returned (.bool true) ∧ J (pre ++ [x]) B ∧ Kp A B) ∨ (e = .returned (.bool false) ∧ Jx (pre ++ [x]) B)) →
    J [] W →
    CallsIn Fence.wide 0 P gf (#[.func (.yield l) #[] #[]] ++ lb) W fun e B => (∃ v, e = .returned v) ∧ (J xs B ∨ ∃ pre, Jx pre B)

/-- How the body of a round may be left. -/
def roundEnd {α : Type} (B : Nat) (Kp : World → World → Prop) (I Ix : List α → World → Prop) (xs : List α) (A : World) : Exit → Act → World → Prop
  | .normal, _, W => KeepsFrom B A W ∧ Kp A W ∧ I xs W
  | .ret, _, W => KeepsFrom B A W ∧ Ix xs W
  | _, _, _ => False
/-- Behind the assignment to the loop's left sides, and behind the record's turn to 'busy'. -/
def roundMid {α : Type} (P : Program) (B l : Nat) (Kp : World → World → Prop) (body : Code) (I Ix : List α → World → Prop) (xs : List α) (A : World) (a1 : Act) (A1 : World) : Prop :=
  KeepsFrom B A A1 ∧ Kp A A1 ∧ ∀ A2, A1.grownBy A2 (some l) → A2.heap.size = A1.heap.size → (∀ p, A2.cell? p = A1.cell? p) → (∀ p, A2.frozen? p = A1.frozen? p) →
    body.wpIn (Fence.wide.inRound l) 0 P (roundEnd B Kp I Ix xs A2) a1 A2

theorem wp_range {P : Program} {α : Type} {g : Operand} {ps : Array Tmp} {assign body : Code} {Q : Exit → Act → World → Prop} {a : Act} {w : World} {gf : Nat} {lb : Array Value}
    (hg : a.eval g = .func (.func gf) #[] lb) (eg : ∀ args w, (callFunc gf args).run P w = .ok (.enter gf args) w)
    {xs : List α} {Ok : α → Array Value → World → Prop} {Kp : World → World → Prop} {w0 : World} (hit : Iter P gf lb xs Ok Kp w0) (hb0 : Below w0.heap.size w0 w)
    (hps : ∀ x args A, Ok x args A → args.size = ps.size)
    (hKt : ∀ {A B C : World}, Kp A B → Kp B C → Kp A C) (hKb : ∀ (A : World) (l : Nat) (o o' : Obj), w.heap.size ≤ l → A.heap[l]? = some o → o.isCells = false → o'.isCells = false → Kp A (A.putObj l o'))
    (I Ix : List α → World → Prop)
    (hI : ∀ pre A B, I pre A → Below A.heap.size A B → I pre B)
    (hIp : ∀ pre A l o o', I pre A → w.heap.size ≤ l → A.heap[l]? = some o → o.isCells = false → o'.isCells = false → I pre (A.putObj l o'))
    (hIxp : ∀ pre A l o o', Ix pre A → w.heap.size ≤ l → A.heap[l]? = some o → o.isCells = false → o'.isCells = false → Ix pre (A.putObj l o'))
    (h0 : I [] w)
    (hround : ∀ l pre x args A, I pre A → (∃ post, xs = pre ++ x :: post) → Ok x args A → w.heap.size < l → (∃ o, A.heap[l]? = some o ∧ o.isCells = false) →
      assign.wpIn (Fence.wide.inRound l) 0 P (Exit.then (roundMid P w.heap.size l Kp body I Ix (pre ++ [x]) A) (fun _ _ _ => False)) { tmps := (ps.zip args).foldl (fun t (p, v) => t.setIfInBounds p v) a.tmps, defers := [] } A)
    (hdone : ∀ D W, w.heap.size ≤ D → I xs W → W.heap[D]? = some (.deferred (some [])) → Q .normal { a with defers := { target := .collected D, args := #[] } :: a.defers } W)
    (hstop : ∀ D pre W, w.heap.size ≤ D → Ix pre W → W.heap[D]? = some (.deferred (some [])) → Q .ret { a with defers := { target := .collected D, args := #[] } :: a.defers } W) :
    (Code.rangeFunc g ps assign body).wpIn Fence.wide 0 P Q a w := by
  refine wpIn_rangeFunc ?_
  intro fn _
  obtain ⟨rec, hrec⟩ : ∃ rec : LoopState → Option Code → Loop, rec = fun st pe => { state := st, pending := pe, fn, tmps := a.tmps, params := ps, assign, body, defers := w.heap.size } := ⟨_, rfl⟩
  obtain ⟨W1, hW1⟩ : ∃ W1, (w.alloc (.deferred (some []))).alloc (.loop (rec .ready none)) = W1 := ⟨_, rfl⟩
  have hL1 : W1.heap[w.heap.size + 1]? = some (.loop (rec .ready none)) := by
    rw [← hW1]; have := World.alloc_heap_new (w.alloc (.deferred (some []))) (.loop (rec .ready none)); rwa [World.size_alloc] at this
  have hK1 : W1.heap[w.heap.size]? = some (.deferred (some [])) := by
    rw [← hW1]; exact (Below.heap_alloc _ _ _ (by simp)).trans (World.alloc_heap_new w _)
  have hbw : Below w.heap.size w W1 := by rw [← hW1]; exact ((Below.refl _ w).alloc (Nat.le_refl _) _).alloc (by simp) _
  have hI1 : I [] W1 := hI _ _ _ h0 hbw
  refine ⟨w.heap.size + 1, [{ target := .collected w.heap.size, args := #[] }], W1, { target := .fn (.func gf) lb, args := #[.func (.yield (w.heap.size + 1)) #[] #[]] }, W1, gf,
    #[.func (.yield (w.heap.size + 1)) #[] #[]] ++ lb, W1, ?_, ?_, fun _ _ => trivial, ?_, (fun h => by cases h), ?_⟩
  · rw [← hW1, hrec]; exact run_enterLoop_outer _ _ _ _ _
  · simp only [resolve, hg]
    simp [go_sem]
  · simp [invoke, go_sem, eg]
  · refine (hit (w.heap.size + 1)
      (fun pre W => I pre W ∧ W.heap[w.heap.size + 1]? = some (.loop (rec .ready none)) ∧ W.heap[w.heap.size]? = some (.deferred (some [])))
      (fun pre W => Ix pre W ∧ W.heap[w.heap.size + 1]? = some (.loop (rec .done (some .ret))) ∧ W.heap[w.heap.size]? = some (.deferred (some [])))
      W1 (hb0.trans (hbw.mono hb0.size)) ?_ ?_ ⟨hI1, hL1, hK1⟩).mono ?_
    · rintro pre A B ⟨i1, i2, i3⟩ hb
      exact ⟨hI _ _ _ i1 hb, (hb.block _ (Array.getElem?_eq_some_iff.1 i2).1).trans i2, (hb.block _ (Array.getElem?_eq_some_iff.1 i3).1).trans i3⟩
    · rintro pre x args W ⟨hi, hl, hk⟩ hpost hok
      have hy := run_yield (P := P) (args := args) hl (by rw [hrec]; exact hps x args W hok)
      rw [hrec] at hy
      refine ⟨fn, _, assign, body, hy, roundIn_of_wpIn trivial (wpIn_mono (hround (w.heap.size + 1) pre x args W hi hpost hok (by omega) ⟨_, hl, rfl⟩) ?_)⟩
      clear hy
      rintro ex a1 A1 hp
      cases ex with
      | normal =>
        obtain ⟨k1, k2, k3⟩ := hp
        replace hl := k1.same _ _ (by omega) hl rfl
        replace hk := k1.same _ _ (Nat.le_refl _) hk rfl
        have hlt : w.heap.size + 1 < A1.heap.size := (Array.getElem?_eq_some_iff.1 hl).1
        refine ⟨_, run_beginRound hl (by rw [hrec]), ?_⟩
        have hl2 : (A1.putObj (w.heap.size + 1) (.loop { rec .ready none with state := .busy })).heap[w.heap.size + 1]? = some (.loop { rec .ready none with state := .busy }) := World.putObj_heap_same hlt
        have hk2 : (A1.putObj (w.heap.size + 1) (.loop { rec .ready none with state := .busy })).heap[w.heap.size]? = some (.deferred (some [])) := (World.putObj_heap_other (by omega)).trans hk
        have hc2 := cell_putObj (o' := .loop { rec .ready none with state := .busy }) hl rfl rfl
        have hw2 : Kp A1 (A1.putObj (w.heap.size + 1) (.loop { rec .ready none with state := .busy })) := hKb _ _ _ _ (by omega) hl rfl rfl
        refine wpIn_mono (k3 _ (grownBy_putObj' _ _ _) (by simp) (fun p => (hc2 p).1) (fun p => (hc2 p).2)) ?_
        rintro e a3 W3 hp
        cases e with
        | normal =>
          obtain ⟨hk3, hkp3, hi3⟩ := hp
          have hl3 := hk3.same _ _ (by omega) hl2 rfl
          have hk3' := hk3.same _ _ (Nat.le_refl _) hk2 rfl
          have hlt3 := (Array.getElem?_eq_some_iff.1 hl3).1
          refine ⟨_, _, run_endRound (P := P) none hl3, .inl ⟨rfl, ⟨hIp _ _ _ _ _ hi3 (by omega) hl3 rfl rfl, ?_, (World.putObj_heap_other (by omega)).trans hk3'⟩, ?_⟩⟩
          · rw [World.putObj_heap_same hlt3, hrec]; rfl
          · exact hKt k2 (hKt hw2 (hKt hkp3 (hKb _ _ _ _ (by omega) hl3 rfl rfl)))
        | ret =>
          obtain ⟨hk3, hi3⟩ := hp
          have hl3 := hk3.same _ _ (by omega) hl2 rfl
          have hk3' := hk3.same _ _ (Nat.le_refl _) hk2 rfl
          have hlt3 := (Array.getElem?_eq_some_iff.1 hl3).1
          refine ⟨_, _, run_endRound (P := P) (some .ret) hl3, .inr ⟨rfl, hIxp _ _ _ _ _ hi3 (by omega) hl3 rfl rfl, ?_, (World.putObj_heap_other (by omega)).trans hk3'⟩⟩
          rw [World.putObj_heap_same hlt3, hrec]; rfl
        | exit id => exact hp.elim
        | goto t => exact hp.elim
        | panic c => exact hp.elim
        | outgrown => exact hp.elim
      | exit id => exact hp.elim
      | goto t => exact hp.elim
      | ret => exact hp.elim
      | panic c => exact hp.elim
      | outgrown => exact hp.elim
    · rintro e W2 ⟨⟨v, rfl⟩, (⟨hi, hl, hk⟩ | ⟨pre, hi, hl, hk⟩)⟩
      · refine ⟨none, _, ?_, hdone _ _ (Nat.le_refl _) (hIp _ _ (w.heap.size + 1) _ (.loop { rec .ready none with state := .exhausted }) hi (by omega) hl rfl rfl) ((World.putObj_heap_other (by omega)).trans hk)⟩
        have := run_endLoop (P := P) hl (by rw [hrec]; simp)
        exact this.trans (by rw [hrec])
      · refine ⟨some .ret, _, ?_, wpIn_ret (hstop _ pre _ (Nat.le_refl _) (hIxp _ _ (w.heap.size + 1) _ (.loop { rec .done (some .ret) with state := .exhausted }) hi (by omega) hl rfl rfl) ((World.putObj_heap_other (by omega)).trans hk))⟩
        have := run_endLoop (P := P) hl (by rw [hrec]; simp)
        exact this.trans (by rw [hrec])

/-! ### A region that draws its order, inside a round: by the walks that serve outside of one -/
theorem oper_round {P : Program} {o : Oper} {a : Act} {w : World} {K K' : Act → World → Prop} {Q : Exit → Act → World → Prop} {l n : Nat} (hnd : ∀ c, o.op ≠ .defer c) (hK : ∀ a w, K a w → K' a w) (h : o.wp P a w K Q) :
    o.wpIn (Fence.wide.inRound l) n P a w K' Q := by
  refine ⟨fun _ _ => trivial, ?_⟩
  have hs : o.semAt (Fence.wide.inRound l).round a.eval = execOp a.eval o := Oper.semAt_some l _ _ hnd
  rw [hs]
  unfold Oper.wp at h
  generalize (execOp a.eval o).run P w = r at *
  cases r with
  | ok x w' =>
    cases x <;> simp only [Oper.upon] at h <;> simp only [Oper.uponIn]
    case value v => exact hK _ _ h
    case skip => exact hK _ _ h
    case defer d => exact hK _ _ h
    case enter f args =>
      refine ⟨(fun h => by cases h), ?_⟩
      refine CallsIn.inRound l (callsIn_wide.2 (Calls.mono h fun e w'' he => ?_))
      cases e <;> first | exact hK _ _ he | exact he
    case row row args =>
      refine ⟨(fun h => by cases h), fun c cs _ => ?_⟩
      obtain ⟨v, w'', hv, hst⟩ := h c cs
      exact ⟨v, w'', hK _ _ hv, stepsIn_wide.2 hst⟩
  | halt x w' => cases x <;> simp only [Oper.upon] at h <;> simp only [Oper.uponIn] <;> exact h

theorem wpAny_round {P : Program} {ops : Array Oper} {md : Region.Mode} {Q : Exit → Act → World → Prop} {l n : Nat} (hnd : ∀ (i : Nat) (o : Oper), ops[i]? = some o → ∀ c, o.op ≠ .defer c) (hout : ∀ a w, ¬ Q .outgrown a w) :
    ∀ (fuel : Nat) (listed : Array Bool) (a : Act) (w : World), wpAny P md ops Q fuel listed a w → wpAnyIn (Fence.wide.inRound l) n P md ops Q fuel listed a w
  | 0, _, _, _, h => h
  | fuel + 1, listed, a, w, h => by
    refine ⟨h.1, fun i hi => ?_⟩
    have h2 := h.2 i hi
    unfold wpOp at h2
    unfold wpOpIn
    cases ho : ops[i]? with
    | none =>
      simp only [ho] at h2 ⊢
      exact wpAny_round hnd hout fuel _ a w h2
    | some o =>
      simp only [ho] at h2 ⊢
      by_cases hw : Region.wanted o (yielded ops a.tmps) = true
      · simp only [hw, if_true] at h2 ⊢
        rcases h2 with h2 | ⟨_, a0, w0, hq⟩
        · exact oper_round (hnd i o ho) (fun a' w' h' => wpAny_round hnd hout fuel _ a' w' h') h2
        · exact (hout _ _ hq).elim
      · simp only [hw] at h2 ⊢
        exact ⟨fun _ _ => trivial, wpAny_round hnd hout fuel _ _ w h2⟩
def noDefer (ops : List Oper) : Bool := ops.all fun o => match o.op with | .defer _ => false | _ => true
theorem noDefer_spec {ops : List Oper} (h : noDefer ops = true) : ∀ (i : Nat) (o : Oper), ops.toArray[i]? = some o → ∀ c, o.op ≠ .defer c := by
  intro i o ho c hc
  have hm : o ∈ ops := by
    have := Array.mem_of_getElem? ho
    simpa using this
  have := List.all_eq_true.1 h o hm
  rw [hc] at this
  cases this
/-- Reads and calls that leave the world, then a tail in one order, in a round: the tail is walked as outside of one. -/
theorem wpIn_region_tail_round {P : Program} {id : Nat} {Q : Exit → Act → World → Prop} {a : Act} {w : World} {l : List Oper} {r m : Nat} (n : Nat) (hm : P.follows .mixedOrders = true) (hB : Region.lexTailB .any l.toArray n = true) (hnd : noDefer l = true) (hout : ∀ a w, ¬ Q .outgrown a w)
    (h : wpStill P l.toArray { w with drawn := w.drawn + 1 } (fun a' => wpList P l.toArray Q (l.drop n) a' { w with drawn := w.drawn + 1 }) (l.take n) a) : (Code.region id l.toArray true).wpIn (Fence.wide.inRound r) m P Q a w := by
  simp only [Region.lexTailB, Bool.and_eq_true, decide_eq_true_eq] at hB
  obtain ⟨⟨⟨⟨hsel, hn⟩, hs⟩, hc⟩, hlex⟩ := hB
  have hn' : n < l.length := by simpa using hn
  have htl : (l.take n).length = n := by simp; omega
  have hdl : (l.drop n).length = l.toArray.size - n := by simp
  have inv0 : HeadInv .any l.toArray n (Array.replicate l.toArray.size false) :=
    ⟨by simp, fun j oj _ hl => (by rw [getD_replicate_false] at hl; cases hl), fun t _ ht => getD_in (by simpa using ht) (getD_replicate_false _ _)⟩
  have H := wpAnyL_lex (md := .any) (g := l.toArray.size - n) hsel hs hc hn (l.take n) 0 _ a (fun j hj => by
    have hj' : j < n := by rw [htl] at hj; exact hj
    simp [hj']) (by simpa using htl) inv0 (by rw [htl]; exact hlex) h
  refine wpIn_region_any hm (wpAny_round (noDefer_spec hnd) hout _ _ _ _ ?_)
  have := wpAny_of_head (Q' := Q) (g := l.toArray.size - n) (fun listed a' hL => by
    obtain ⟨h1, h2⟩ := hL
    have := wpAny_of_seq (md := .any) (Q' := Q) (l.drop n) n listed a' { w with drawn := w.drawn + 1 } (fun j => by simp) (by rw [hdl]; exact h1) h2
    rw [hdl] at this
    exact this) (l.take n).length (Array.replicate l.toArray.size false) a H
  rw [htl] at this
  rwa [show n + (l.toArray.size - n) = l.toArray.size by have : n < l.toArray.size := hn; omega] at this
/-- The same, at a name for the world behind the draw. -/
theorem wpIn_region_tail_named {P : Program} {id : Nat} {Q : Exit → Act → World → Prop} {a : Act} {w : World} {l : List Oper} {r m : Nat} (n : Nat) (hm : P.follows .mixedOrders = true) (hB : Region.lexTailB .any l.toArray n = true) (hnd : noDefer l = true) (hout : ∀ a w, ¬ Q .outgrown a w)
    (h : ∀ w', w' = w.drew → wpStill P l.toArray w' (fun a' => wpList P l.toArray Q (l.drop n) a' w') (l.take n) a) : (Code.region id l.toArray true).wpIn (Fence.wide.inRound r) m P Q a w :=
  wpIn_region_tail_round n hm hB hnd hout (h _ rfl)
theorem KeepsFrom.of_below {B : Nat} {A W : World} (h : Below A.heap.size A W) : KeepsFrom B A W :=
  ⟨h.size, fun k o _ hk _ => (h.block k (Array.getElem?_eq_some_iff.1 hk).1).trans hk⟩
theorem own_putObj {w : World} {B : Nat} {e : TypeId} {size : Nat} {v : Value} {n : Nat} {xs : List Value} (h : w.ownsRow B e size v n xs) {l : Nat} {o o' : Obj} (hl : w.heap[l]? = some o) (ho : o.isCells = false) : (w.putObj l o').ownsRow B e size v n xs := by
  refine ⟨h.1, ?_⟩
  rcases h.2 with hn | ⟨g, cap, cur, hv, hg, hh, r⟩
  · exact .inl hn
  · exact .inr ⟨g, cap, cur, hv, hg, (World.putObj_heap_other (fun e => by subst e; rw [hl] at hh; injection hh with hh; subst hh; cases ho)).trans hh, r⟩
end Go.Proofs.YtdolpeljengpaaaGreat

/- slices.Values at span.end: the library's iterator over a slice, by its contract. -/
namespace Go.Proofs.YtdolpeljengpaaaGreat
open Go.RowKit
set_option linter.unusedVariables false
set_option linter.unusedSimpArgs false
attribute [local go_sem] Oper.semAt_some

/-- What a round keeps for an iterator that reads block b. -/
def KpB (b : Nat) (A B : World) : Prop := ∀ o, B.cell? ⟨b, o, none⟩ = A.cell? ⟨b, o, none⟩
theorem KpB.trans {b : Nat} {A B C : World} (h : KpB b A B) (k : KpB b B C) : KpB b A C := fun o => (k o).trans (h o)

set_option maxHeartbeats 1000000 in
theorem values1_iter (Bx b off c : Nat) (xs : List En) (w0 : World) (hn : xs.length ≤ 1000000000) (A : Option Addr) (hBx : Bx < w0.heap.size) (hbox : w0.cell? ⟨Bx, 0, none⟩ = some (.slice A xs.length c))
    (hA : xs ≠ [] → A = some ⟨b, off, none⟩ ∧ b < w0.heap.size ∧ ∀ j x, xs[j]? = some x → ∀ i u, (encE x)[i]? = some u → w0.cell? ⟨b, off + j * 3 + i, none⟩ = some u) :
    Iter Tryz.prog 252 #[.pointer (some ⟨Bx, 0, none⟩)] xs (fun x args _ => args = #[.agg (encE x).toArray]) (KpB b) w0 := by
  intro l J Jx W hW hJ hY h0
  have hboxW : W.cell? ⟨Bx, 0, none⟩ = some (.slice A xs.length c) := (hW.cell (p := ⟨Bx, 0, none⟩) hBx).trans hbox
  refine callsIn_of_wp Tryz.func252 rfl trivial ?_
  simp only [Tryz.ntmps252, List.size_toArray, List.length_cons, List.length_nil, Nat.reduceAdd, Nat.reduceSub, Array.replicate_succ, Array.replicate_zero, List.push_toArray, List.append_toArray, List.nil_append, List.cons_append]
  clear hbox
  gi_wp2
  gi_loopw [4, 7] (fun _ p wr => ∃ k : Nat, k ≤ xs.length ∧ p = .int .i64 k ∧ Hid (J (xs.take k) wr) ∧ Hid (xs ≠ [] → ∀ o, wr.cell? ⟨b, o, none⟩ = w0.cell? ⟨b, o, none⟩)) (fun _ p _ => xs.length - (intOf p).toNat)
  case atStart => exact ⟨0, Nat.zero_le _, rfl, hide (by simpa using h0), hide fun hx o => hW.cell (p := ⟨b, o, none⟩) (hA hx).2.1⟩
  case round =>
    obtain ⟨k, hk, rfl, HJ, HC⟩ := hrel
    by_cases hlt : k < xs.length
    · have hltz : (k : Int) < (xs.length : Int) := by omega
      have hne : xs ≠ [] := by intro e; rw [e] at hlt; simp at hlt
      obtain ⟨rfl, hb, hcell⟩ := hA hne
      have hx : xs[k]? = some xs[k] := List.getElem?_eq_getElem hlt
      obtain ⟨x, hxe⟩ : ∃ x, xs[k] = x := ⟨_, rfl⟩
      rw [hxe] at hx
      have c0 : wr.cell? ⟨b, off + k * 3, none⟩ = some (.int .i64 x.1) := (HC.out hne _).trans (hcell k x hx 0 _ rfl)
      have c1 : wr.cell? ⟨b, off + k * 3 + 1, none⟩ = some (.int .i64 x.2.1) := (HC.out hne _).trans (hcell k x hx 1 _ rfl)
      have c2 : wr.cell? ⟨b, off + k * 3 + 2, none⟩ = some (.int .i64 x.2.2) := (HC.out hne _).trans (hcell k x hx 2 _ rfl)
      have hfi : xs.take (k + 1) = xs.take k ++ [x] := by rw [List.take_succ_eq_append_getElem hlt, hxe]
      have hpost : ∃ post, xs = xs.take k ++ x :: post := ⟨xs.drop (k + 1), by rw [← hxe, ← List.drop_eq_getElem_cons hlt, List.take_append_drop]⟩
      have hJ2 := hJ _ _ (wr.alloc (.cells #[.int .i64 x.1, .int .i64 x.2.1, .int .i64 x.2.2] 282)) HJ.out ((Below.refl _ _).alloc (Nat.le_refl _) _)
      have hkp : ∀ o, (wr.alloc (.cells #[.int .i64 x.1, .int .i64 x.2.1, .int .i64 x.2.2] 282)).cell? ⟨b, o, none⟩ = wr.cell? ⟨b, o, none⟩ := fun o => World.cell?_alloc_lt wr _ ⟨b, o, none⟩ (lt_of_cell c0)
      obtain ⟨fn, tmps, assign, body, hy, hR⟩ := hY (xs.take k) x #[.agg #[.int .i64 x.1, .int .i64 x.2.1, .int .i64 x.2.2]] _ hJ2 hpost rfl
      have FI := hide hfi
      have HKP := hide hkp
      clear hx hxe hfi hcell hpost hJ hY h0 hA hkp
      gi_wp2
      refine ⟨rfl, hR.mono ?_⟩
      rintro e W3 (⟨rfl, hJ3, hk3⟩ | ⟨rfl, hJx3⟩)
      · gi_wp2
        go_roundw
        case rel =>
          exact ⟨k + 1, by omega, by go_num, hide (by rw [FI.out]; exact hJ3), hide fun hx o => ((hk3 o).trans (HKP.out o)).trans (HC.out hx o)⟩
        case measure => simp [intOf]; omega
      · gi_wp2
        refine bodyPost_ret (results_none rfl _ _ _) rfl ?_
        exact ⟨⟨_, rfl⟩, .inr ⟨_, hJx3⟩⟩
    · have hltz : ¬ (k : Int) < (xs.length : Int) := by omega
      have hk' : xs.take k = xs := List.take_of_length_le (by omega)
      have HK := hide hk'
      clear hk' hJ hY h0 hA
      gi_wp2
      go_end0
      exact ⟨⟨_, rfl⟩, .inl (by have := HJ.out; rw [HK.out] at this; exact this)⟩

set_option maxHeartbeats 400000 in
/-- slices.Values itself: it boxes the slice, and hands back the iterator. -/
theorem values_any (v : Value) (w : World) (hv : v.oneCell' = true) :
    Calls Tryz.prog 240 #[v] w fun e w' => e = .returned (.func (.func 252) #[] #[.pointer (some ⟨w.heap.size, 0, none⟩)]) ∧ w.alloc (.cells #[v] 309) = w' := by
  go_enter Tryz.func240, Tryz.ntmps240
  go_wp2
  go_ret
  exact ⟨rfl, rfl⟩
end Go.Proofs.YtdolpeljengpaaaGreat

/- span.ends: the ends of the spans of two lists, in order, as an iterator. -/
namespace Go.Proofs.YtdolpeljengpaaaGreat
open Go.RowKit Go.Sort
set_option linter.unusedVariables false
set_option linter.unusedSimpArgs false

theorem evs_append (i : Int) (s t : List Sp) : evs i (s ++ t) = evs i s ++ evs i t := by
  induction s with
  | nil => rfl
  | cons p s ih => simp [evs, ih]
theorem evs_length (i : Int) (s : List Sp) : (evs i s).length = 2 * s.length := by
  induction s with
  | nil => rfl
  | cons p s ih => simp [evs, ih]; omega
theorem evs_take (i : Int) (s : List Sp) (m : Nat) (p : Sp) (h : s[m]? = some p) : evs i (s.take (m + 1)) = evs i (s.take m) ++ [(p.1, i, 1), (p.2, i, -1)] := by
  obtain ⟨hm, hp⟩ := List.getElem?_eq_some_iff.1 h
  rw [List.take_succ_eq_append_getElem hm, hp, evs_append]; rfl
theorem evs_mem {i : Int} {s : List Sp} {e : En} (h : e ∈ evs i s) : ∃ p ∈ s, (e.1 = p.1 ∨ e.1 = p.2) ∧ e.2.1 = i ∧ (e.2.2 = 1 ∨ e.2.2 = -1) := by
  induction s with
  | nil => simp [evs] at h
  | cons p s ih =>
    simp only [evs, List.mem_cons] at h
    rcases h with rfl | rfl | h
    · exact ⟨p, by simp, by simp⟩
    · exact ⟨p, by simp, by simp⟩
    · obtain ⟨q, hq, h⟩ := ih h
      exact ⟨q, by simp [hq], h⟩
/-- What the first k lists give. -/
def evK (a b : List Sp) (k : Nat) : List En := if k = 0 then [] else if k = 1 then evs 0 a else evs 0 a ++ evs 1 b

theorem infoE : (Tryz.prog.info? 282).map (fun i => (i.zero, i.size, i.bytes)) = some (some (.agg #[.int .i64 0, .int .i64 0, .int .i64 0]), 3, 24) := by kernel_rfl
theorem rel_push {w1 : World} {base : Nat} {v1 : Value} {P : List En} {x y : En} {cells : List Value} (h : w1.ownsRow base 282 3 v1 (P.length + 2) (P.flatMap encE ++ cells)) (hc : cells = encE x ++ encE y) :
    w1.ownsRow base 282 3 v1 (P ++ [x, y]).length ((P ++ [x, y]).flatMap encE) := by
  rw [List.flatMap_append, List.length_append]
  subst hc
  simpa using h

set_option maxHeartbeats 2000000 in
theorem ends_loop (a b : List Sp) (L c : Nat) (va vb : Value) (w : World) (hL : L < w.heap.size) (h0 : w.cell? ⟨L, 0, none⟩ = some va) (h1 : w.cell? ⟨L, 1, none⟩ = some vb)
    (ra : RdK encS 2 w w.heap.size va a) (rb : RdK encS 2 w w.heap.size vb b) (na : a.length ≤ 100000000) (nb : b.length ≤ 100000000) (ba : ∀ p ∈ a, validS p) (bb : ∀ p ∈ b, validS p) :
    Calls Tryz.prog 211 #[.slice (some ⟨L, 0, none⟩) 2 c] w fun e w' => ∃ (E : List En) (Bx rw : Nat), e = .returned (.func (.func 252) #[] #[.pointer (some ⟨Bx, 0, none⟩)]) ∧
      E.Perm (evs 0 a ++ evs 1 b) ∧ E.Pairwise (fun a b => a.1 ≤ b.1) ∧ Below w.heap.size w w' ∧ w.heap.size ≤ rw ∧ rw < w'.heap.size ∧
      Iter Tryz.prog 252 #[.pointer (some ⟨Bx, 0, none⟩)] E (fun x args _ => args = #[.agg (encE x).toArray]) (KpB rw) w' := by
  obtain ⟨i0, hi, hz0, hz1, hz2⟩ := info_parts infoE
  go_enter Tryz.func211, Tryz.ntmps211
  go_wp2
  go_loopw [3, 10] (fun v i wr => ∃ k : Nat, k ≤ 2 ∧ i = .int .i64 k ∧ wr.ownsRow w.heap.size 282 3 v (evK a b k).length ((evK a b k).flatMap encE) ∧ Below w.heap.size w wr)
    (fun _ i _ => 2 - (intOf i).toNat)
  case atStart => exact ⟨0, by omega, rfl, World.ownsRow_nil _ _ _ _, Below.refl _ _⟩
  case round =>
    obtain ⟨k, hk, rfl, hown, hb⟩ := hrel
    by_cases hlt : k < 2
    · obtain ⟨l, v, hc, hr, hn, hv, hK, hnK⟩ : ∃ l v, wr.cell? ⟨L, k, none⟩ = some v ∧ RdK encS 2 w w.heap.size v l ∧ l.length ≤ 100000000 ∧ (∀ p ∈ l, validS p) ∧ evK a b (k + 1) = evK a b k ++ evs k l ∧ (evK a b k).length ≤ 2000000000 := by
        rcases (show k = 0 ∨ k = 1 by omega) with rfl | rfl
        · exact ⟨a, va, (hb.cell (p := ⟨L, 0, none⟩) hL).trans h0, ra, na, ba, rfl, by simp [evK]⟩
        · exact ⟨b, vb, (hb.cell (p := ⟨L, 1, none⟩) hL).trans h1, rb, nb, bb, rfl, by show (evs 0 a).length ≤ _; rw [evs_length]; omega⟩
      obtain ⟨A, c0, rfl, hcl⟩ := hr
      have HK := hide hK
      have HV := hide hv
      have HR := hide hcl
      generalize evK a b k = P at *
      generalize wr = w1 at *
      clear hK hv hcl h0 h1 ra rb na nb ba bb
      have hkz : (k : Int) < 2 := by omega
      go_wp2
      go_loopw [3, 17] (fun u j wi => ∃ m : Nat, m ≤ l.length ∧ j = .int .i64 m ∧ wi.ownsRow w.heap.size 282 3 u (P ++ evs k (l.take m)).length ((P ++ evs k (l.take m)).flatMap encE) ∧ Below w.heap.size w wi)
        (fun _ j _ => l.length - (intOf j).toNat)
      case atStart => exact ⟨0, by omega, rfl, by simpa [evs] using hown, hb⟩
      case round =>
        obtain ⟨m, hm, rfl, hownm, hbm⟩ := hrel
        by_cases hml : m < l.length
        · obtain ⟨p, hp⟩ : ∃ p, l[m]? = some p := ⟨_, List.getElem?_eq_getElem hml⟩
          obtain ⟨x, y⟩ := p
          have hne : l ≠ [] := by intro e; rw [e] at hml; simp at hml
          obtain ⟨bk, off, rfl, hbk, hcell⟩ := HR.out hne
          have c0' : wr.cell? ⟨bk, off + m * 2, none⟩ = some (.int .i64 x) := (hbm.cell hbk).trans (hcell m _ hp 0 _ rfl)
          have c1' : wr.cell? ⟨bk, off + m * 2 + 1, none⟩ = some (.int .i64 y) := (hbm.cell hbk).trans (hcell m _ hp 1 _ rfl)
          have hmz : (m : Int) < (l.length : Int) := by omega
          clear hcell
          have hlenE : (P ++ evs k (l.take m)).length ≤ 4000000000 := by rw [List.length_append, evs_length, List.length_take]; omega
          have hbs := hbm.size
          have HE : Hid (P ++ evs k (l.take (m + 1)) = P ++ evs k (l.take m) ++ [(x, (k : Int), 1), (y, (k : Int), -1)]) := hide (by rw [evs_take k l m _ hp, List.append_assoc])
          generalize P ++ evs k (l.take m) = E0 at *
          go_wp2_with (at_builtin; go_loud (refine wpList_append_lies _ rfl (.tmp 21) (.tmp 30) 309 rfl w.heap.size 282 i0 (.agg #[.int .i64 0, .int .i64 0, .int .i64 0]) 3 24 Tryz.underlying309 hi hz0 hz1 hz2 rfl (by decide) _ _ _ rfl ((hownm.alloc _).alloc _) ⟨wr.heap.size + 1, 0, none⟩ 2 2 [.int .i64 x, .int .i64 k, .int .i64 1, .int .i64 y, .int .i64 k, .int .i64 (-1)] rfl rfl (news_new (wr.alloc _) _ _ _ (by simp)) (ints_one rfl) (by omega) (by unfold maxLen; omega) (by omega) (by simp; omega) _ rfl ?_))
          intro g cap w2 hown2 hgrow _ _
          have R := rel_push (x := (x, (k : Int), 1)) (y := (y, (k : Int), -1)) hown2 rfl
          rw [← HE.out] at R
          have hb2 : Below w.heap.size w w2 := ((hbm.alloc (by omega) _).alloc (by simp; omega) _).grown hgrow (by simp; omega) fun k h => (hownm.lt k h).1
          clear hown2 hgrow hownm hown
          go_wp2
          go_roundw
          case rel => exact ⟨m + 1, by omega, by go_num, R, hb2⟩
          case measure => simp [intOf]; omega
        · have hme : ¬ (m : Int) < (l.length : Int) := by omega
          have hmt : l.take m = l := List.take_of_length_le (by omega)
          rw [hmt, ← HK.out] at hownm
          clear hmt hown
          go_wp2
          go_roundw
          case rel => exact ⟨k + 1, by omega, by go_num, hownm, hbm⟩
          case measure => simp [intOf]; omega
    · obtain rfl : k = 2 := by omega
      have hE : evK a b 2 = evs 0 a ++ evs 1 b := rfl
      rw [hE] at hown
      have hl : (evs 0 a ++ evs 1 b).length ≤ 400000000 := by rw [List.length_append, evs_length, evs_length]; omega
      have hin : ∀ e ∈ evs 0 a ++ evs 1 b, -1000000 ≤ e.1 ∧ e.1 ≤ 1000000 := by
        intro e he
        have key : ∃ p, validS p ∧ (e.1 = p.1 ∨ e.1 = p.2) := by
          rcases List.mem_append.1 he with he | he
          · obtain ⟨p, hp, h, _⟩ := evs_mem he
            exact ⟨p, ba p hp, h⟩
          · obtain ⟨p, hp, h, _⟩ := evs_mem he
            exact ⟨p, bb p hp, h⟩
        obtain ⟨p, ⟨v1, v2, v3⟩, h⟩ := key
        omega
      clear hE h0 h1 ra rb na nb ba bb
      have HE : ∃ E0, Hid (evs 0 a ++ evs 1 b = E0) := ⟨_, hide rfl⟩
      obtain ⟨E0, HE⟩ := HE
      rw [HE.out] at hown hin hl
      obtain ⟨A0, c0, hv, _⟩ := own_rd hown (fun _ => rfl)
      subst hv
      go_wp2_with (first
        | (go_at_call 238; refine (sortE_any w.heap.size _ E0 hin _ hown (by omega)).mono ?_; rintro e w1 ⟨rfl, E1, hp, hs, ho, hg⟩)
        | (go_at_call 240; refine (values_any _ _ rfl).mono ?_; rintro e w2 ⟨rfl, rfl⟩))
      go_ret
      have hb1 : Below w.heap.size w w1 := hb.grown hg hb.size fun k h => (hown.lt k h).1
      have hlen : E1.length = E0.length := hp.length_eq
      have hrd := own_rd ho (fun _ => rfl)
      obtain ⟨A1, c1, e1, hcl⟩ := hrd
      rw [hlen] at e1
      injection e1 with e2 _ e3
      subst e2; subst e3
      have hw2 : ∀ b o, b < w1.heap.size → (w1.alloc (.cells #[.slice A0 E0.length c0] 309)).cell? ⟨b, o, none⟩ = w1.cell? ⟨b, o, none⟩ := fun b o h => World.cell?_alloc_lt w1 _ ⟨b, o, none⟩ h
      have hbx : (w1.alloc (.cells #[.slice A0 E0.length c0] 309)).cell? ⟨w1.heap.size, 0, none⟩ = some (.slice A0 E1.length c0) := by rw [hlen]; simp [go_sem]
      by_cases h0 : E1 = []
      · refine ⟨E1, w1.heap.size, w1.heap.size, rfl, HE.out ▸ hp, hs, hb1.alloc hb1.size _, hb1.size, by simp, ?_⟩
        exact values1_iter w1.heap.size w1.heap.size 0 c0 E1 _ (by omega) A0 (by simp) hbx fun h => absurd h0 h
      · obtain ⟨bk, off, rfl, hbk, hc⟩ := hcl h0
        refine ⟨E1, w1.heap.size, bk, rfl, HE.out ▸ hp, hs, hb1.alloc hb1.size _, (ho.lt bk rfl).1, by simp; omega, ?_⟩
        exact values1_iter w1.heap.size bk off c0 E1 _ (by omega) _ (by simp) hbx fun h => ⟨rfl, by simp; omega, fun j x hx i u hu => (hw2 _ _ hbk).trans (hc j x hx i u hu)⟩
end Go.Proofs.YtdolpeljengpaaaGreat

/- span.join's closure 'close': one more span at the end of the list. -/
namespace Go.Proofs.YtdolpeljengpaaaGreat
open Go.RowKit
set_option linter.unusedVariables false
set_option linter.unusedSimpArgs false

/-- Old blocks are as they were, but for block o and for the row. -/
structure Upd (o : Nat) (row : Option Nat) (w w' : World) : Prop where
  os : w'.os = w.os
  tape : w'.tape = w.tape
  output : w'.output = w.output
  size : w.heap.size ≤ w'.heap.size
  block : ∀ k, k < w.heap.size → k ≠ o → row ≠ some k → w'.heap[k]? = w.heap[k]?
theorem Upd.refl (o : Nat) (row : Option Nat) (w : World) : Upd o row w w := ⟨rfl, rfl, rfl, Nat.le_refl _, fun _ _ _ _ => rfl⟩
theorem Upd.trans {o : Nat} {row : Option Nat} {a b c : World} (h : Upd o row a b) (k : Upd o row b c) : Upd o row a c :=
  ⟨k.os.trans h.os, k.tape.trans h.tape, k.output.trans h.output, Nat.le_trans h.size k.size, fun i hi ho hr => (k.block i (Nat.lt_of_lt_of_le hi h.size) ho hr).trans (h.block i hi ho hr)⟩
theorem Upd.of_below {o : Nat} {row : Option Nat} {a b : World} (h : Below a.heap.size a b) : Upd o row a b := ⟨h.os, h.tape, h.output, h.size, fun i hi _ _ => h.block i hi⟩
theorem Upd.of_grown {o : Nat} {row : Option Nat} {a b : World} (h : a.grownBy b row) : Upd o row a b := ⟨h.os, h.tape, h.output, h.size, fun i hi _ hr => h.block i hi (fun e => hr e.symm)⟩
theorem Upd.setCell {o : Nat} {row : Option Nat} {a b : World} (h : Upd o row a b) (off : Nat) (u : Value) : Upd o row a (b.setCell ⟨o, off, none⟩ u) :=
  h.trans ⟨rfl, rfl, rfl, by simp [World.setCell], fun k hk ho _ => Below.heap_setCell _ _ _ _ ho⟩
theorem Upd.setRow {o g : Nat} {a b : World} (h : Upd o (some g) a b) (off : Nat) (u : Value) : Upd o (some g) a (b.setCell ⟨g, off, none⟩ u) :=
  h.trans ⟨rfl, rfl, rfl, by simp [World.setCell], fun k hk _ hr => Below.heap_setCell _ _ _ _ (fun e => hr (by rw [e]))⟩
theorem Upd.cell {o : Nat} {row : Option Nat} {a b : World} (h : Upd o row a b) {k off : Nat} (hk : k < a.heap.size) (ho : k ≠ o) (hr : row ≠ some k) : b.cell? ⟨k, off, none⟩ = a.cell? ⟨k, off, none⟩ := World.cell?_of_block (w := a) (h.block k hk ho hr)
theorem Upd.frozen {o : Nat} {row : Option Nat} {a b : World} (h : Upd o row a b) {k off : Nat} (hk : k < a.heap.size) (ho : k ≠ o) (hr : row ≠ some k) : b.frozen? ⟨k, off, none⟩ = a.frozen? ⟨k, off, none⟩ := World.frozen?_of_block (w := a) (h.block k hk ho hr)
theorem Upd.below {o n : Nat} {row : Option Nat} {a b : World} (h : Upd o row a b) (hn : n ≤ o) (hB : n ≤ a.heap.size) (hr : ∀ k, row = some k → n ≤ k) : Below n a b :=
  ⟨h.os, h.tape, h.output, h.size, fun k hk => h.block k (by omega) (by omega) (fun e => by have := hr k e; omega)⟩

/-- The list behind 'close(at)'. -/
def jcl (inn : Bool) (last : Int) (out : List Sp) (e : Int) : List Sp := if inn = true ∧ last ≠ e then sext out last e else out
theorem infoS : (Tryz.prog.info? 188).map (fun i => (i.zero, i.size, i.bytes)) = some (some (.agg #[.int .i64 0, .int .i64 0]), 2, 16) := by kernel_rfl

theorem set_last (q : List Sp) (x y e : Int) : ((q ++ [(x, y)]).flatMap encS).set (q.length * 2 + 1) (.int .i64 e) = (q ++ [(x, e)]).flatMap encS := by
  have hl := flat_len (enc := encS) (k := 2) (fun _ => rfl) q
  rw [List.flatMap_append, List.flatMap_append, List.set_append_right _ _ (by omega)]
  congr 1
  rw [hl, show q.length * 2 + 1 - q.length * 2 = 1 by omega]
  rfl
theorem close_set {B o g cap : Nat} {w w1 : World} {q : List Sp} {x y e : Int} (kb : Upd o (some g) w w1) (hoB : o < B) (hBg : B ≤ g) (k3 : w1.cell? ⟨o, 0, none⟩ = some (.slice (some ⟨g, 0, none⟩) (q.length + 1) cap)) (k4 : w1.frozen? ⟨o, 0, none⟩ = false)
    (k5 : w1.ownsRow B 188 2 (.slice (some ⟨g, 0, none⟩) (q.length + 1) cap) (q.length + 1) ((q ++ [(x, y)]).flatMap encS)) :
    ∃ vo', (w1.setCell ⟨g, q.length * 2 + 1, none⟩ (.int .i64 e)).cell? ⟨o, 0, none⟩ = some vo' ∧ (w1.setCell ⟨g, q.length * 2 + 1, none⟩ (.int .i64 e)).frozen? ⟨o, 0, none⟩ = false ∧
      (w1.setCell ⟨g, q.length * 2 + 1, none⟩ (.int .i64 e)).ownsRow B 188 2 vo' (q ++ [(x, e)]).length ((q ++ [(x, e)]).flatMap encS) ∧ Upd o (some g) w (w1.setCell ⟨g, q.length * 2 + 1, none⟩ (.int .i64 e)) := by
  obtain ⟨s1, s2⟩ := k5.stored (q.length * 2 + 1) (.int .i64 e)
  rw [set_last] at s1
  have hb : Below B w1 (w1.setCell ⟨g, q.length * 2 + 1, none⟩ (.int .i64 e)) := (Below.refl B w1).setCell hBg _
  exact ⟨_, (hb.cell (p := ⟨o, 0, none⟩) hoB).trans k3, (hb.frozen (p := ⟨o, 0, none⟩) hoB).trans k4, by simpa using s1, kb.setRow _ _⟩
theorem close_fin {B o : Nat} {w w1 w2 : World} {row : Option Nat} {v2 x : Value} {out' : List Sp} {n : Nat} (kb : Upd o row w w1) (ks : B ≤ w1.heap.size) (hoB : o < B) (k3 : w1.cell? ⟨o, 0, none⟩ = some x) (k4 : w1.frozen? ⟨o, 0, none⟩ = false) (blk : Obj)
    (hgrow : (w1.alloc blk).grownBy w2 row) (hr : ∀ k, row = some k → B ≤ k) (hown2 : w2.ownsRow B 188 2 v2 n (out'.flatMap encS)) (hn : n = out'.length) :
    w2.cell? ⟨o, 0, none⟩ = some x ∧ w2.frozen? ⟨o, 0, none⟩ = false ∧ Hid (∃ vo', (w2.setCell ⟨o, 0, none⟩ v2).cell? ⟨o, 0, none⟩ = some vo' ∧ (w2.setCell ⟨o, 0, none⟩ v2).frozen? ⟨o, 0, none⟩ = false ∧
      (w2.setCell ⟨o, 0, none⟩ v2).ownsRow B 188 2 vo' out'.length (out'.flatMap encS) ∧ Upd o row w (w2.setCell ⟨o, 0, none⟩ v2)) := by
  have hb : Below B w1 w2 := ((Below.refl B w1).alloc ks _).grown hgrow (by simp; omega) hr
  have c := (hb.cell (p := ⟨o, 0, none⟩) hoB).trans k3
  have f := (hb.frozen (p := ⟨o, 0, none⟩) hoB).trans k4
  subst hn
  refine ⟨c, f, hide ⟨v2, by simp [go_sem, c], by simp [go_sem, f], ownsRow_setCell_below hown2 hoB _, (kb.trans ((Upd.of_below ((Below.refl _ _).alloc (Nat.le_refl _) blk)).trans (.of_grown hgrow))).setCell _ _⟩⟩

set_option maxHeartbeats 2000000 in
theorem close_any (B i l o : Nat) (vo : Value) (out : List Sp) (last e : Int) (inn : Bool) (w : World) (h1 : w.cell? ⟨i, 0, none⟩ = some (.bool inn)) (h2 : w.cell? ⟨l, 0, none⟩ = some (.int .i64 last)) (h3 : w.cell? ⟨o, 0, none⟩ = some vo) (h4 : w.frozen? ⟨o, 0, none⟩ = false)
    (hoB : o < B) (hB : B ≤ w.heap.size) (hown : w.ownsRow B 188 2 vo out.length (out.flatMap encS)) (hn : out.length ≤ 1000000000) :
    Calls Tryz.prog 210 #[.int .i64 e, .pointer (some ⟨i, 0, none⟩), .pointer (some ⟨l, 0, none⟩), .pointer (some ⟨o, 0, none⟩)] w fun r w' => r = .returned (.tuple #[]) ∧
      ∃ vo', w'.cell? ⟨o, 0, none⟩ = some vo' ∧ w'.frozen? ⟨o, 0, none⟩ = false ∧ w'.ownsRow B 188 2 vo' (jcl inn last out e).length ((jcl inn last out e).flatMap encS) ∧ Upd o vo.ownBlock w w' := by
  obtain ⟨i0, hi, hz0, hz1, hz2⟩ := info_parts infoS
  obtain ⟨A, c, hv, hcl⟩ := own_rd hown (fun _ => rfl)
  subst hv
  go_enter Tryz.func210, Tryz.ntmps210
  cases inn with
  | false =>
    go_wp2
    refine bodyPost_ret (results_none rfl _ _ _) rfl ?_
    exact ⟨rfl, _, h3, h4, hown, Upd.refl _ _ _⟩
  | true =>
    by_cases hle : last = e
    · subst hle
      go_wp2
      refine bodyPost_ret (results_none rfl _ _ _) rfl ?_
      exact ⟨rfl, _, h3, h4, by simpa [jcl] using hown, Upd.refl _ _ _⟩
    · have hj : jcl true last out e = sext out last e := if_pos ⟨rfl, hle⟩
      rw [hj]
      clear hj
      have hbe : (last == e) = false := by simpa using hle
      clear hle
      have nlt : ∀ (b : Nat), w.heap.size ≤ b → ¬ b = o := fun b h => by omega
      rcases List.eq_nil_or_concat out with rfl | ⟨q, p, rfl⟩
      · have hs : sext [] last e = [(last, e)] := rfl
        rw [hs]
        clear hs nlt hcl
        simp only [List.length_nil, List.flatMap_nil] at *
        go_wp2
        have hg : decide ((0 : Int) < 0) = false := rfl
        go_quiet (fail)
        obtain ⟨w1, hw1⟩ : ∃ w1, w1 = w.drewN nq := ⟨_, rfl⟩
        rw [← hw1]
        have k2 : w1.cell? ⟨l, 0, none⟩ = some (.int .i64 last) := by rw [hw1]; exact h2
        have k3 : w1.cell? ⟨o, 0, none⟩ = some (.slice A 0 c) := by rw [hw1]; exact h3
        have k4 : w1.frozen? ⟨o, 0, none⟩ = false := by rw [hw1]; exact h4
        have k5 : w1.ownsRow B 188 2 (.slice A 0 c) 0 [] := by rw [hw1]; exact hown
        have kb : Upd o (Value.slice A 0 c).ownBlock w w1 := by rw [hw1]; exact ⟨rfl, rfl, rfl, Nat.le_refl _, fun _ _ _ _ => rfl⟩
        have ks : B ≤ w1.heap.size := by rw [hw1]; exact hB
        clear hw1 h1 h2 h3 h4 hown hg
        go_wp2_with (at_builtin; (refine wpList_append_lies _ rfl (.tmp 33) (.tmp 37) 182 rfl B 188 i0 (.agg #[.int .i64 0, .int .i64 0]) 2 16 Tryz.underlying182 hi hz0 hz1 hz2 rfl (by decide) _ _ _ rfl (k5.alloc _) ⟨w1.heap.size, 0, none⟩ 1 1 [.int .i64 last, .int .i64 e] rfl rfl (news_new w1 _ _ _ (by simp)) (ints_one rfl) (by omega) (by unfold maxLen; omega) (by omega) (by simp; omega) _ rfl ?_))
        intro g cap w2 hown2 hgrow _ _
        obtain ⟨c2, f2, HF⟩ := close_fin (out' := [(last, e)]) kb ks hoB k3 k4 _ hgrow (fun k h => (k5.lt k h).1) hown2 rfl
        clear hown2 hgrow k2 k3 k4 k5 kb
        go_wp2
        go_end0
        exact ⟨rfl, HF.out⟩
      · obtain ⟨x, y⟩ := p
        rw [List.concat_eq_append] at *
        have hy : sext (q ++ [(x, y)]) last e = if y = last then q ++ [(x, e)] else q ++ [(x, y)] ++ [(last, e)] := by
          unfold sext
          simp [List.getLast?_append, List.dropLast_concat]
        rw [hy]
        clear hy nlt
        clear hcl
        obtain ⟨g, cap, hv, hBg, hgw⟩ := hown.form (by simp)
        injection hv with e1 _ e3
        subst e1; subst e3
        have cy : w.cell? ⟨g, q.length * 2 + 1, none⟩ = some (.int .i64 y) := by
          have := (hown.cells (g := g) rfl) _ _ (flat_get (k := 2) (fun _ => rfl) _ q.length (x, y) 1 _ (by simp) rfl)
          rwa [addr_add] at this
        have fy : w.frozen? ⟨g, q.length * 2 + 1, none⟩ = false := hown.frozenAt _
        simp only [List.length_append, List.length_cons, List.length_nil, Nat.zero_add] at hown h3 hn
        have hg : decide ((0 : Int) < (q.length : Int) + 1) = true := decide_eq_true (by omega)
        have q1 : (q.length : Int) < (q.length : Int) + 1 := by omega
        have q0 : (0 : Int) ≤ (q.length : Int) := by omega
        by_cases hyl : y = last
        · rw [if_pos hyl]
          have hb2 : (y == last) = true := by simpa using hyl
          clear hyl
          go_wp2
          go_quiet (fail)
          obtain ⟨w1, hw1⟩ : ∃ w1, w1 = w.drewN nq := ⟨_, rfl⟩
          rw [← hw1]
          have k3 : w1.cell? ⟨o, 0, none⟩ = some (.slice (some ⟨g, 0, none⟩) (q.length + 1) c) := by rw [hw1]; exact h3
          have k4 : w1.frozen? ⟨o, 0, none⟩ = false := by rw [hw1]; exact h4
          have k5 : w1.ownsRow B 188 2 (.slice (some ⟨g, 0, none⟩) (q.length + 1) c) (q.length + 1) ((q ++ [(x, y)]).flatMap encS) := by rw [hw1]; exact hown
          have k6 : w1.cell? ⟨g, q.length * 2 + 1, none⟩ = some (.int .i64 y) := by rw [hw1]; exact cy
          have k7 : w1.frozen? ⟨g, q.length * 2 + 1, none⟩ = false := by rw [hw1]; exact fy
          have kb : Upd o (some g) w w1 := by rw [hw1]; exact ⟨rfl, rfl, rfl, Nat.le_refl _, fun _ _ _ _ => rfl⟩
          have HF := hide (close_set (e := e) kb hoB hBg k3 k4 k5)
          clear hw1 h1 h2 h3 h4 hown cy fy k5 kb hg
          go_wp2
          go_end0
          exact ⟨rfl, HF.out⟩
        · rw [if_neg hyl]
          have hb2 : (y == last) = false := by simpa using hyl
          clear hyl
          go_wp2
          go_quiet (fail)
          obtain ⟨w1, hw1⟩ : ∃ w1, w1 = w.drewN nq := ⟨_, rfl⟩
          rw [← hw1]
          have k2 : w1.cell? ⟨l, 0, none⟩ = some (.int .i64 last) := by rw [hw1]; exact h2
          have k3 : w1.cell? ⟨o, 0, none⟩ = some (.slice (some ⟨g, 0, none⟩) (q.length + 1) c) := by rw [hw1]; exact h3
          have k4 : w1.frozen? ⟨o, 0, none⟩ = false := by rw [hw1]; exact h4
          have k5 : w1.ownsRow B 188 2 (.slice (some ⟨g, 0, none⟩) (q.length + 1) c) (q.length + 1) ((q ++ [(x, y)]).flatMap encS) := by rw [hw1]; exact hown
          have kb : Upd o (some g) w w1 := by rw [hw1]; exact ⟨rfl, rfl, rfl, Nat.le_refl _, fun _ _ _ _ => rfl⟩
          have ks : B ≤ w1.heap.size := by rw [hw1]; exact hB
          clear hw1 h1 h2 h3 h4 hown hg cy fy
          go_wp2_with (at_builtin; refine wpList_append_lies _ rfl (.tmp 33) (.tmp 37) 182 rfl B 188 i0 (.agg #[.int .i64 0, .int .i64 0]) 2 16 Tryz.underlying182 hi hz0 hz1 hz2 rfl (by decide) _ _ _ rfl (k5.alloc _) ⟨w1.heap.size, 0, none⟩ 1 1 [.int .i64 last, .int .i64 e] rfl rfl (news_new w1 _ _ _ (by simp)) (ints_one rfl) (by omega) (by unfold maxLen; omega) (by omega) (by simp; omega) _ rfl ?_)
          intro g2 cap w2 hown2 hgrow _ _
          rw [show q.flatMap encS ++ (encS (x, y) ++ [.int .i64 last, .int .i64 e]) = (q ++ [(x, y)] ++ [(last, e)]).flatMap encS by simp [encS]] at hown2
          obtain ⟨c2, f2, HF⟩ := close_fin (out' := q ++ [(x, y)] ++ [(last, e)]) kb ks hoB k3 k4 _ hgrow (fun k h => (k5.lt k h).1) hown2 (by simp)
          clear hown2 hgrow k2 k3 k4 k5 kb
          go_wp2
          go_end0
          exact ⟨rfl, HF.out⟩
end Go.Proofs.YtdolpeljengpaaaGreat
