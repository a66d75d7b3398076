/- Texts laid together: Open, Regs, Alive35, MBlkP, MBeside, MBesB, OpenS. Lemmas for the statements of this seat; no condition. -/
import Derived.Test.YtmnhlcbmoibahaaGreatPk12
import Derived.Test.YtmnhlcbmoibahaaGreatPk1
import Derived.Test.YtmnhlcbmoibahaaGreatPk11
import Derived.Test.YtmnhlcbmoibahaaGreatPk7
import Derived.Test.YtmnhlcbmoibahaaGreatPk4
import Derived.Deep.Strs

/- An argument that is a list of structs of ints, read as a list. -/
namespace Go.Proofs.YtmnhlcbmoibahaaGreat
open Go.ChangeShapes Go.WideShapes Go.ChangeAt Go.RowKit Go.Joins Go.Deep
set_option linter.unusedVariables false
set_option linter.unusedSimpArgs false

section
variable {H : Type} {enc : TypeId × Value → H} {P : Program} {w : World} {base : Nat} {spare : Nat → Bool} {held : Bool}
/-- The fields of a struct of ints: each one cell, an int. -/
theorem trod_int_fields {t : TypeId} {fs : Array Field} {n : Nat} {cs : List Value} {y : DataW H × List MemPlace} (he : P.underlying t = some (.struct fs)) (hone : oneCellFields P fs = true) (hint : ∀ (j : Nat) (f : Field), fs[j]? = some f → P.underlying f.type = some (.int .i64))
    (hl : cs.length = fs.size) (h : DataW.trod enc P w base spare held n t cs = some y) : ∀ j, j < fs.size → ∃ z : Int, cs[j]? = some (.int .i64 z) := by
  obtain ⟨ys, n', _, _, _, hyl, hf⟩ := DataW.trod_struct he h
  intro j hj
  have hjf : fs[j]? = some fs[j] := Array.getElem?_eq_getElem hj
  obtain ⟨ho, hk⟩ := hone_of hone j _ hjf
  have h1 := hf j _ hjf
  rw [ho, hk] at h1
  have hd : (cs.drop j).take 1 = [cs[j]'(by omega)] := by rw [List.drop_eq_getElem_cons (by omega)]; rfl
  rw [hd] at h1
  have hy : ys[j]? = some (ys[j]'(by omega)) := List.getElem?_eq_getElem (by omega)
  rw [hy] at h1
  obtain ⟨z, hz, _⟩ := DataW.trod_int (hint j _ hjf) h1
  have hz' : cs[j]'(by omega) = .int .i64 z := by simpa using hz
  exact ⟨z, by rw [List.getElem?_eq_getElem (by omega), hz']⟩
/-- A slice of structs of k ints: its cells. -/
theorem trod_rows {t e : TypeId} {fs : Array Field} {v : Value} {d : DataW H} {p : List MemPlace} {r : Reach} {b0 : Nat} (ht : P.underlying t = some (.slice e)) (he : P.underlying e = some (.struct fs)) (hone : oneCellFields P fs = true)
    (hint : ∀ (j : Nat) (f : Field), fs[j]? = some f → P.underlying f.type = some (.int .i64)) (hC : P.cellsOf e = fs.size) (hk : 0 < fs.size) (hv : Value.okWide P w r b0 t v) (h : DataW.Trod enc P w base spare held t v d p) :
    ∃ (A : Option Addr) (n c : Nat) (F : Nat → Nat → Int), v = .slice A n c ∧ n ≤ maxLen ∧ (0 < n → ∃ b off, A = some ⟨b, off, none⟩ ∧ b < w.heap.size ∧ ∀ i j, i < n → j < fs.size → w.cell? ⟨b, off + i * fs.size + j, none⟩ = some (.int .i64 (F i j))) := by
  obtain ⟨A, n, c, rfl⟩ := okWide_slice ht hv
  obtain ⟨fuel, hf⟩ := h
  rcases open_slice ht hf with ⟨hcs, _⟩ | ⟨a, len, cap, m, nn, D, Pl, hcs, hb, hl, hm, hmm, hx, hi⟩
  · simp [Value.cells] at hcs
    obtain ⟨rfl, rfl, rfl⟩ := hcs
    exact ⟨none, 0, 0, fun _ _ => 0, rfl, Nat.zero_le _, fun h => absurd h (Nat.lt_irrefl 0)⟩
  · simp [Value.cells] at hcs
    obtain ⟨rfl, rfl, rfl⟩ := hcs
    have hlm : n ≤ m := by rw [hmm]; split <;> omega
    have key : ∀ i, i < n → ∀ j, j < fs.size → ∃ z : Int, w.cell? (a.add (i * fs.size + j)) = some (.int .i64 z) := by
      intro i hin j hj
      obtain ⟨cs', hc, ht'⟩ := hi i (by omega)
      rw [hC] at hc
      obtain ⟨_, hcl, hat⟩ := World.cells?_some hc
      obtain ⟨z, hz⟩ := trod_int_fields he hone hint hcl ht' j hj
      have := hat j hj
      rw [← Go.Deep.add_add, this, hz]
      exact ⟨z, rfl⟩
    refine ⟨some a, n, c, fun i j => if h : i < n ∧ j < fs.size then Classical.choose (key i h.1 j h.2) else 0, rfl, by omega, fun hn => ?_⟩
    obtain ⟨z0, h0⟩ := key 0 hn 0 hk
    have hadd0 : a.add (0 * fs.size + 0) = a := by simp [Addr.add]
    rw [hadd0] at h0
    obtain ⟨b, off, sp⟩ := a
    have hsp : sp = none := by
      unfold World.cell? at h0
      cases sp with
      | none => rfl
      | some x => split at h0 <;> simp at h0
    subst hsp
    refine ⟨b, off, rfl, ?_, fun i j hin hj => ?_⟩
    · unfold World.cell? at h0
      split at h0
      · rename_i hh
        exact (Array.getElem?_eq_some_iff.1 hh).1
      · cases h0
    · have hz := Classical.choose_spec (key i hin j hj)
      have e1 : (⟨b, off, none⟩ : Addr).add (i * fs.size + j) = ⟨b, off + i * fs.size + j, none⟩ := by unfold Addr.add; split <;> simp_all [Nat.add_assoc]
      rw [← e1]
      simp only [dif_pos (And.intro hin hj)]
      exact hz
/-- .. rectangles. -/
theorem trod_rects {t e : TypeId} {fs : Array Field} {v : Value} {d : DataW H} {p : List MemPlace} {r : Reach} {b0 : Nat} (ht : P.underlying t = some (.slice e)) (he : P.underlying e = some (.struct fs)) (hone : oneCellFields P fs = true)
    (hint : ∀ (j : Nat) (f : Field), fs[j]? = some f → P.underlying f.type = some (.int .i64)) (hC : P.cellsOf e = 4) (hk : fs.size = 4) (hv : Value.okWide P w r b0 t v) (h : DataW.Trod enc P w base spare held t v d p) :
    ∃ l : List R4, RdK encR 4 w w.heap.size v l ∧ l.length ≤ maxLen := by
  obtain ⟨A, n, c, F, rfl, hn, hF⟩ := trod_rows ht he hone hint (hC.trans hk.symm) (by omega) hv h
  rw [hk] at hF
  refine ⟨(List.range n).map fun i => ⟨F i 0, F i 1, F i 2, F i 3⟩, ⟨A, c, by simp, fun hl => ?_⟩, by simpa using hn⟩
  have hn0 : 0 < n := by
    rcases Nat.eq_zero_or_pos n with h | h
    · subst h; exact absurd rfl hl
    · exact h
  obtain ⟨b, off, hA, hb, hc⟩ := hF hn0
  refine ⟨b, off, hA, hb, fun j x hj i u hu => ?_⟩
  have hjn : j < n := by have := (List.getElem?_eq_some_iff.1 hj).1; simpa using this
  rw [List.getElem?_map, List.getElem?_range hjn] at hj
  simp only [Option.map_some, Option.some.injEq] at hj
  subst hj
  have hi : i < 4 := (List.getElem?_eq_some_iff.1 hu).1
  rw [hc j i hjn hi]
  match i, hi with
  | 0, _ => exact hu
  | 1, _ => exact hu
  | 2, _ => exact hu
  | 3, _ => exact hu
end
theorem int_bd {n : Int} (h : (Lit.int .i64 n).wf = true) : -9223372036854775808 ≤ n ∧ n ≤ 9223372036854775807 := by
  simp [Lit.wf, IntKind.min, IntKind.max, IntKind.signed, IntKind.bits] at h
  omega
theorem rect_fields : ∀ (j : Nat) (f : Field), (match Tryz.prog.underlying 65 with | some (.struct fs) => fs | _ => #[])[j]? = some f → Tryz.prog.underlying f.type = some (.int .i64) := by
  rw [Tryz.underlying65]
  intro j f hf
  match j, hf with
  | 0, hf => simp at hf; subst hf; exact Tryz.underlying3
  | 1, hf => simp at hf; subst hf; exact Tryz.underlying3
  | 2, hf => simp at hf; subst hf; exact Tryz.underlying3
  | 3, hf => simp at hf; subst hf; exact Tryz.underlying3
  | j + 4, hf => simp at hf
end Go.Proofs.YtmnhlcbmoibahaaGreat

/- A slice that reads as a list of lists of rectangles; an argument that is one, read as such. -/
namespace Go.Proofs.YtmnhlcbmoibahaaGreat
open Go.ChangeShapes Go.WideShapes Go.ChangeAt Go.RowKit Go.Joins Go.Deep
set_option linter.unusedVariables false
set_option linter.unusedSimpArgs false

/-- The slice v reads as the lists bs, all of it below block B. -/
def RdRR (w : World) (B : Nat) (v : Value) (bs : List (List R4)) : Prop :=
  ∃ A c, v = .slice A bs.length c ∧ (bs ≠ [] → ∃ b off, A = some ⟨b, off, none⟩ ∧ b < B ∧ ∀ j x, bs[j]? = some x → ∃ u, w.cell? ⟨b, off + j, none⟩ = some u ∧ RdK encR 4 w B u x)
theorem RdRR.keep {w w' : World} {B : Nat} {v : Value} {bs : List (List R4)} (h : RdRR w B v bs) (hk : ∀ b o, b < B → w'.cell? ⟨b, o, none⟩ = w.cell? ⟨b, o, none⟩) : RdRR w' B v bs := by
  obtain ⟨A, c, hv, h⟩ := h
  refine ⟨A, c, hv, fun hl => ?_⟩
  obtain ⟨b, off, hA, hb, hc⟩ := h hl
  refine ⟨b, off, hA, hb, fun j x hx => ?_⟩
  obtain ⟨u, h1, h2⟩ := hc j x hx
  exact ⟨u, (hk b _ hb).trans h1, h2.keep hk⟩
theorem RdRR.mono {w : World} {B B' : Nat} {v : Value} {bs : List (List R4)} (h : RdRR w B v bs) (hB : B ≤ B') : RdRR w B' v bs := by
  obtain ⟨A, c, hv, h⟩ := h
  refine ⟨A, c, hv, fun hl => ?_⟩
  obtain ⟨b, off, hA, hb, hc⟩ := h hl
  refine ⟨b, off, hA, by omega, fun j x hx => ?_⟩
  obtain ⟨u, h1, h2⟩ := hc j x hx
  exact ⟨u, h1, h2.mono hB⟩
theorem RdRR.below {w w' : World} {B : Nat} {v : Value} {bs : List (List R4)} (h : RdRR w B v bs) (hb : Below B w w') : RdRR w' B v bs := h.keep fun b o hlt => hb.cell (p := ⟨b, o, none⟩) hlt
section
variable {H : Type} {enc : TypeId × Value → H} {P : Program} {w : World} {base : Nat} {spare : Nat → Bool} {held : Bool}
theorem cell_plain {a : Addr} {u : Value} (h : w.cell? a = some u) : ∃ b off, a = ⟨b, off, none⟩ ∧ b < w.heap.size := by
  obtain ⟨b, off, sp⟩ := a
  have hsp : sp = none := by
    unfold World.cell? at h
    cases sp with
    | none => rfl
    | some x => split at h <;> simp at h
  subst hsp
  refine ⟨b, off, rfl, ?_⟩
  unfold World.cell? at h
  split at h
  · rename_i hh
    exact (Array.getElem?_eq_some_iff.1 hh).1
  · cases h
/-- One value that reads as a list of rectangles. -/
theorem trod_rects1 {t e : TypeId} {fs : Array Field} {v : Value} {fuel : Nat} {x : DataW H × List MemPlace} (ht : P.underlying t = some (.slice e)) (he : P.underlying e = some (.struct fs)) (hone : oneCellFields P fs = true)
    (hint : ∀ (j : Nat) (f : Field), fs[j]? = some f → P.underlying f.type = some (.int .i64)) (hC : P.cellsOf e = 4) (hk : fs.size = 4) (hf : DataW.trod enc P w base spare held fuel t [v] = some x) :
    ∃ l : List R4, RdK encR 4 w w.heap.size v l ∧ l.length ≤ maxLen := by
  rcases open_slice ht hf with ⟨hcs, _⟩ | ⟨a, n, cap, m, nn, D, Pl, hcs, hb, hl, hm, hmm, hx, hi⟩
  · simp at hcs
    subst hcs
    exact ⟨[], RdK.nil _ _, Nat.zero_le _⟩
  · simp at hcs
    subst hcs
    have hlm : n ≤ m := by rw [hmm]; split <;> omega
    have key : ∀ i, i < n → ∀ j, j < 4 → ∃ z : Int, w.cell? (a.add (i * 4 + j)) = some (.int .i64 z) := by
      intro i hin j hj
      obtain ⟨cs', hc, ht'⟩ := hi i (by omega)
      rw [hC] at hc
      obtain ⟨_, hcl, hat⟩ := World.cells?_some hc
      obtain ⟨z, hz⟩ := trod_int_fields he hone hint (by rw [hk]; exact hcl) ht' j (by omega)
      have := hat j hj
      rw [← Go.Deep.add_add, this, hz]
      exact ⟨z, rfl⟩
    refine ⟨(List.range n).map fun i => ⟨if h : i < n then Classical.choose (key i h 0 (by omega)) else 0, if h : i < n then Classical.choose (key i h 1 (by omega)) else 0, if h : i < n then Classical.choose (key i h 2 (by omega)) else 0, if h : i < n then Classical.choose (key i h 3 (by omega)) else 0⟩, ⟨some a, cap, by simp, fun hl0 => ?_⟩, by simp; omega⟩
    have hn : 0 < n := by
      rcases Nat.eq_zero_or_pos n with h | h
      · subst h; exact absurd rfl hl0
      · exact h
    obtain ⟨z0, h0⟩ := key 0 hn 0 (by omega)
    have hadd0 : a.add (0 * 4 + 0) = a := by simp [Addr.add]
    rw [hadd0] at h0
    obtain ⟨b, off, rfl, hbs⟩ := cell_plain h0
    refine ⟨b, off, rfl, hbs, fun j x hj i u hu => ?_⟩
    have hjn : j < n := by have := (List.getElem?_eq_some_iff.1 hj).1; simpa using this
    rw [List.getElem?_map, List.getElem?_range hjn] at hj
    simp only [Option.map_some, Option.some.injEq, dif_pos hjn] at hj
    subst hj
    have e1 : ∀ k, (⟨b, off, none⟩ : Addr).add (j * 4 + k) = ⟨b, off + j * 4 + k, none⟩ := fun k => by unfold Addr.add; split <;> simp_all [Nat.add_assoc]
    have hi : i < 4 := (List.getElem?_eq_some_iff.1 hu).1
    rw [← e1]
    match i, hi with
    | 0, _ => rw [Classical.choose_spec (key j hjn 0 (by omega))]; exact hu
    | 1, _ => rw [Classical.choose_spec (key j hjn 1 (by omega))]; exact hu
    | 2, _ => rw [Classical.choose_spec (key j hjn 2 (by omega))]; exact hu
    | 3, _ => rw [Classical.choose_spec (key j hjn 3 (by omega))]; exact hu
/-- An argument that is a list of lists of rectangles. -/
theorem trod_regs {t e ee : TypeId} {fs : Array Field} {v : Value} {d : DataW H} {p : List MemPlace} {r : Reach} {b0 : Nat} (ht : P.underlying t = some (.slice e)) (hE : P.underlying e = some (.slice ee)) (hC1 : P.cellsOf e = 1) (he : P.underlying ee = some (.struct fs)) (hone : oneCellFields P fs = true)
    (hint : ∀ (j : Nat) (f : Field), fs[j]? = some f → P.underlying f.type = some (.int .i64)) (hC : P.cellsOf ee = 4) (hk : fs.size = 4) (hv : Value.okWide P w r b0 t v) (h : DataW.Trod enc P w base spare held t v d p) :
    ∃ bs : List (List R4), RdRR w w.heap.size v bs ∧ bs.length ≤ maxLen ∧ ∀ b ∈ bs, b.length ≤ maxLen := by
  obtain ⟨A, n, c, rfl⟩ := okWide_slice ht hv
  obtain ⟨fuel, hf⟩ := h
  rcases open_slice1 ht hC1 hf with ⟨hcs, _⟩ | ⟨a, len, cap, m, nn, V, D, Pl, hcs, hb, hl, hm, hmm, hx, hi⟩
  · simp [Value.cells] at hcs
    obtain ⟨rfl, rfl, rfl⟩ := hcs
    exact ⟨[], ⟨none, 0, rfl, fun h => absurd rfl h⟩, Nat.zero_le _, by simp⟩
  · simp [Value.cells] at hcs
    obtain ⟨rfl, rfl, rfl⟩ := hcs
    have hlm : n ≤ m := by rw [hmm]; split <;> omega
    have key : ∀ i, ∃ l : List R4, i < n → RdK encR 4 w w.heap.size (V i) l ∧ l.length ≤ maxLen := fun i => by
      by_cases h : i < n
      · obtain ⟨l, h1⟩ := trod_rects1 hE he hone hint hC hk (hi i (by omega)).2
        exact ⟨l, fun _ => h1⟩
      · exact ⟨[], fun g => absurd g h⟩
    refine ⟨(List.range n).map fun i => Classical.choose (key i), ⟨some a, c, by simp, fun hl0 => ?_⟩, by simp; omega, fun b hb => ?_⟩
    · have hn : 0 < n := by
        rcases Nat.eq_zero_or_pos n with h | h
        · subst h; exact absurd rfl hl0
        · exact h
      have h0 := (hi 0 (by omega)).1
      have hadd0 : a.add 0 = a := by simp [Addr.add]
      rw [hadd0] at h0
      obtain ⟨b, off, rfl, hbs⟩ := cell_plain h0
      refine ⟨b, off, rfl, hbs, fun j x hj => ?_⟩
      have hjn : j < n := by have := (List.getElem?_eq_some_iff.1 hj).1; simpa using this
      rw [List.getElem?_map, List.getElem?_range hjn] at hj
      simp only [Option.map_some, Option.some.injEq] at hj
      subst hj
      have e1 : (⟨b, off, none⟩ : Addr).add j = ⟨b, off + j, none⟩ := by unfold Addr.add; split <;> simp_all
      exact ⟨V j, e1 ▸ (hi j (by omega)).1, (Classical.choose_spec (key j) hjn).1⟩
    · obtain ⟨i, hi', rfl⟩ := List.mem_map.1 hb
      exact (Classical.choose_spec (key i) (by simpa using hi')).2
end
end Go.Proofs.YtmnhlcbmoibahaaGreat

/- The chapter's examples hold: law.go's alive. -/
namespace Go.Proofs.YtmnhlcbmoibahaaGreat
open Go.RowKit
set_option linter.unusedVariables false
set_option linter.unusedSimpArgs false

theorem regs_rd {B : Nat} {R : List (List R4)} {A : Option Addr} {c : Nat} {vs : List Value} {w : World} (ho : w.ownsRow B 27 1 (.slice A R.length c) R.length vs) (hr : ∀ (i : Nat) (r : List R4), R[i]? = some r → ∃ v, vs[i]? = some v ∧ w.ownsRow B 65 4 v r.length (r.flatMap encR)) : RdRR w w.heap.size (.slice A R.length c) R := by
  refine ⟨A, c, rfl, fun hl => ?_⟩
  have hp : 0 < R.length := List.length_pos_iff.2 hl
  obtain ⟨g, cap, hv, hB, hg⟩ := ho.form (by omega)
  injection hv with e1 _ e3
  subst e1; subst e3
  refine ⟨g, 0, rfl, (ho.lt g rfl).2, fun j x hx => ?_⟩
  obtain ⟨v, h3, h4⟩ := hr j x hx
  refine ⟨v, ?_, own_rd h4 (fun _ => rfl)⟩
  have := (ho.cells (g := g) rfl) j _ h3
  rw [addr_add] at this
  rwa [Nat.zero_add]
theorem RegsRet.rd {B : Nat} {x : List (List R4) × Int} {e : Ending} {w : World} (h : RegsRet B x e w) : ∃ A c, e = .returned (.tuple #[.slice A x.1.length c, .int .i64 x.2]) ∧ RdRR w w.heap.size (.slice A x.1.length c) x.1 := by
  obtain ⟨A, c, vs, h1, h2, h3⟩ := h
  exact ⟨A, c, h1, regs_rd h2 h3⟩
/-- A cell of a list of regions. -/
theorem RdRR.get {w : World} {A : Option Addr} {n c : Nat} {bs : List (List R4)} (h : RdRR w w.heap.size (.slice A n c) bs) {j : Nat} {x : List R4} (hx : bs[j]? = some x) : ∃ b off A2 c2, A = some ⟨b, off, none⟩ ∧ b < w.heap.size ∧ w.cell? ⟨b, off + j, none⟩ = some (.slice A2 x.length c2) ∧ RdK encR 4 w w.heap.size (.slice A2 x.length c2) x := by
  obtain ⟨A1, c1, hv, h⟩ := h
  injection hv with e1 _ _
  subst e1
  obtain ⟨b, off, rfl, hb, k⟩ := h (by intro e; rw [e] at hx; simp at hx)
  obtain ⟨u, h1, h2⟩ := k j x hx
  obtain ⟨A2, c2, rfl, _⟩ := id h2
  exact ⟨b, off, A2, c2, rfl, hb, h1, h2⟩
def strL : List R4 := ([⟨(-1), (-1), 1, 9⟩, ⟨1, (-1), 7, 1⟩, ⟨1, 7, 7, 9⟩, ⟨7, (-1), 9, 9⟩] : List R4)
def restL35 : List R4 := ([⟨(-3), (-3), (-1), 11⟩, ⟨(-1), (-3), 1, (-1)⟩, ⟨(-1), 9, 1, 11⟩, ⟨1, (-3), 7, (-1)⟩, ⟨1, 1, 7, 7⟩, ⟨1, 9, 7, 11⟩, ⟨7, (-3), 9, (-1)⟩, ⟨7, 9, 9, 11⟩, ⟨9, (-3), 11, 11⟩] : List R4)
def ringL : List R4 := ([⟨(-3), (-3), (-1), 11⟩, ⟨(-1), (-3), 9, (-1)⟩, ⟨(-1), 9, 9, 11⟩, ⟨9, (-3), 11, 11⟩] : List R4)
theorem ex35_p : prtF (sqN 8) sqE = (1, 0) := by kernel_rfl
theorem ex35_l : lopF (sqN 8) sqE = (1, 0) := by kernel_rfl
theorem ex35_s : strF (sqN 8) sqE 1 = (strL, 0) := by kernel_rfl
theorem ex35_a : areaF strL = (64, 0) := by kernel_rfl
theorem ex35_r : joinF hSub [⟨-3, -3, 11, 11⟩] strL = (restL35, 0) := by kernel_rfl
theorem ex35_g : areaF ringL = (96, 0) := by kernel_rfl
theorem ex35_i : areaF [⟨1, 1, 7, 7⟩] = (36, 0) := by kernel_rfl
theorem ex35_o : alongF [⟨1, 1, 7, 7⟩] strL = (24, 0) := by kernel_rfl
def lab35 (i : Nat) : Nat := if i = 4 then 4 else 0
/-- Two rectangles side by side: one step. -/
def sideB (l : List R4) (i j : Nat) : Bool := match l[i]?, l[j]? with
  | some x, some y => bsd x y
  | _, _ => false
theorem sideB_adj {l : List R4} {i j : Nat} (h : sideB l i j = true) : adj l i j := by
  unfold sideB at h
  split at h
  · exact ⟨_, _, by assumption, by assumption, h⟩
  · cases h
theorem adj_sideB {l : List R4} {i j : Nat} (h : adj l i j) : sideB l i j = true := by
  obtain ⟨x, y, h1, h2, h3⟩ := h
  unfold sideB
  rw [h1, h2]
  exact h3
theorem ex35_mn : ∀ i, i < restL35.length → lab35 i = mn restL35 i := by
  refine labels_mn (fun i hi => ?_) (fun i k h => ?_)
  · have s : ∀ j k, sideB restL35 j k = true → Conn restL35 j k := fun j k h => Conn.refl.step (sideB_adj h)
    have c1 := s 1 0 (by decide)
    have c2 := s 2 0 (by decide)
    have c3 := (s 3 1 (by decide)).trans c1
    have c5 := (s 5 2 (by decide)).trans c2
    have c6 := (s 6 3 (by decide)).trans c3
    have c7 := (s 7 5 (by decide)).trans c5
    have c8 := (s 8 6 (by decide)).trans c6
    have hc : i = 0 ∨ i = 1 ∨ i = 2 ∨ i = 3 ∨ i = 4 ∨ i = 5 ∨ i = 6 ∨ i = 7 ∨ i = 8 := by simp [restL35] at hi; omega
    rcases hc with rfl | rfl | rfl | rfl | rfl | rfl | rfl | rfl | rfl
    · exact ⟨.refl, by decide⟩
    · exact ⟨c1, by decide⟩
    · exact ⟨c2, by decide⟩
    · exact ⟨c3, by decide⟩
    · exact ⟨.refl, by decide⟩
    · exact ⟨c5, by decide⟩
    · exact ⟨c6, by decide⟩
    · exact ⟨c7, by decide⟩
    · exact ⟨c8, by decide⟩
  · have hs := adj_sideB h
    have hl := (show i < 9 from by obtain ⟨x, y, h1, h2, h3⟩ := h; have := (List.getElem?_eq_some_iff.1 h1).1; simpa [restL35] using this)
    have hk := (show k < 9 from by obtain ⟨x, y, h1, h2, h3⟩ := h; have := (List.getElem?_eq_some_iff.1 h2).1; simpa [restL35] using this)
    revert hs
    have key : ∀ i : Fin 9, ∀ k : Fin 9, sideB restL35 i.1 k.1 = true → lab35 i.1 ≤ lab35 k.1 := by decide
    exact key ⟨i, hl⟩ ⟨k, hk⟩
theorem ex35_parts : partsE restL35 = ([ringL, [⟨1, 1, 7, 7⟩]], 0) := by
  have h0 : checkF restL35 = 0 := by kernel_rfl
  have m := ex35_mn
  have m' : ∀ i, i < 9 → mn restL35 i = lab35 i := fun i hi => (m i (by simpa [restL35] using hi)).symm
  unfold partsE
  rw [if_pos h0]
  have e0 : compL restL35 0 = [⟨-3, -3, -1, 11⟩, ⟨-1, -3, 1, -1⟩, ⟨-1, 9, 1, 11⟩, ⟨1, -3, 7, -1⟩, ⟨1, 9, 7, 11⟩, ⟨7, -3, 9, -1⟩, ⟨7, 9, 9, 11⟩, ⟨9, -3, 11, 11⟩] := by
    unfold compL
    rw [show restL35.length = 9 from rfl]
    have hf : (List.range 9).filter (fun j => decide (mn restL35 j = 0)) = [0, 1, 2, 3, 5, 6, 7, 8] := by
      simp [List.range_succ, m', lab35]
    rw [hf]
    rfl
  have e4 : compL restL35 4 = [⟨1, 1, 7, 7⟩] := by
    unfold compL
    rw [show restL35.length = 9 from rfl]
    have hf : (List.range 9).filter (fun j => decide (mn restL35 j = 4)) = [4] := by
      simp [List.range_succ, m', lab35]
    rw [hf]
    rfl
  unfold partsF
  rw [show restL35.length = 9 from rfl]
  have hf : (List.range 9).filter (fun j => decide (mn restL35 j = j)) = [0, 4] := by
    simp [List.range_succ, m', lab35]
  rw [hf, List.map_cons, List.map_cons, List.map_nil, e0, e4]
  have r0 : rjoin hFst [⟨-3, -3, -1, 11⟩, ⟨-1, -3, 1, -1⟩, ⟨-1, 9, 1, 11⟩, ⟨1, -3, 7, -1⟩, ⟨1, 9, 7, 11⟩, ⟨7, -3, 9, -1⟩, ⟨7, 9, 9, 11⟩, ⟨9, -3, 11, 11⟩] [] = ringL := by kernel_rfl
  have r4 : rjoin hFst [⟨1, 1, 7, 7⟩] [] = [⟨1, 1, 7, 7⟩] := by kernel_rfl
  rw [r0, r4]
theorem ex35_b : blkF (sqN 8) sqE 1 [⟨-3, -3, 11, 11⟩] = ([ringL, [⟨1, 1, 7, 7⟩]], 0) := by
  unfold blkF
  rw [ex35_s]
  simp only
  rw [ex35_r]
  simp only [ex35_parts]
  rfl
set_option maxRecDepth 100000 in
set_option maxHeartbeats 8000000 in
theorem alive35_any (w : World) : Calls Tryz.prog 23 #[] w fun e w' => e = .returned (.bool true) ∧ Below w.heap.size w w' := by
  have G1 := hide (fun (w : World) (nv ev : Value) (hn : RdK encS 2 w w.heap.size nv (sqN 8)) (he : RdK encS 2 w w.heap.size ev sqE) => by have := parts35_any hn he; rwa [ex35_p] at this)
  have G2 := hide (fun (w : World) (nv ev : Value) (hn : RdK encS 2 w w.heap.size nv (sqN 8)) (he : RdK encS 2 w w.heap.size ev sqE) => by have := loops_any hn he; rwa [ex35_l] at this)
  have G3 := hide (fun (w : World) (nv ev : Value) (hn : RdK encS 2 w w.heap.size nv (sqN 8)) (he : RdK encS 2 w w.heap.size ev sqE) => by have := streets_any (d := 1) hn he; rwa [ex35_s] at this)
  have G4 := hide (fun (w : World) (nv ev va : Value) (hn : RdK encS 2 w w.heap.size nv (sqN 8)) (he : RdK encS 2 w w.heap.size ev sqE) (ha : RdK encR 4 w w.heap.size va ([⟨-3, -3, 11, 11⟩] : List R4)) => by have := blocks_any (d := 1) hn he ha (by simp); rwa [ex35_b] at this)
  have G5 := hide (fun (w : World) (v : Value) (h : RdK encR 4 w w.heap.size v strL) => by have := area_any h (by simp [strL]); rwa [ex35_a] at this)
  have G6 := hide (fun (w : World) (v : Value) (h : RdK encR 4 w w.heap.size v ringL) => by have := area_any h (by simp [ringL]); rwa [ex35_g] at this)
  have G7 := hide (fun (w : World) (v : Value) (h : RdK encR 4 w w.heap.size v ([⟨1, 1, 7, 7⟩] : List R4)) => by have := area_any h (by simp); rwa [ex35_i] at this)
  have G8 := hide (fun (w : World) (v v2 : Value) (h : RdK encR 4 w w.heap.size v ([⟨1, 1, 7, 7⟩] : List R4)) (h2 : RdK encR 4 w w.heap.size v2 strL) => by have := along_any h h2 (by simp) (by simp [strL]); rwa [ex35_o] at this)
  have K := hide (Below.refl w.heap.size w)
  go_enter Tryz.func23, Tryz.ntmps23
  go_wp2_with (fail)
  refine (square_any 8 _).mono ?_
  rintro e v1 ⟨nv, ev, rfl, hn, he, hb⟩
  replace K := hide (K.out.trans (hb.mono K.out.size))
  have HN1 := hide hn
  have HE1 := hide he
  clear hn he
  clear hb
  go_wp2_with (fail)
  refine (G1.out _ _ _ HN1.out HE1.out).mono ?_
  rintro e v2 ⟨rfl, hb⟩
  replace K := hide (K.out.trans (hb.mono K.out.size))
  replace HN1 := hide ((HN1.out.below hb).mono hb.size)
  replace HE1 := hide ((HE1.out.below hb).mono hb.size)
  clear hb
  clear HN1 HE1
  go_wp2_with (fail)
  refine (square_any 8 _).mono ?_
  rintro e v3 ⟨nv, ev, rfl, hn, he, hb⟩
  replace K := hide (K.out.trans (hb.mono K.out.size))
  have HN2 := hide hn
  have HE2 := hide he
  clear hn he
  clear hb
  go_wp2_with (fail)
  refine (G2.out _ _ _ HN2.out HE2.out).mono ?_
  rintro e v4 ⟨rfl, hb⟩
  replace K := hide (K.out.trans (hb.mono K.out.size))
  replace HN2 := hide ((HN2.out.below hb).mono hb.size)
  replace HE2 := hide ((HE2.out.below hb).mono hb.size)
  clear hb
  clear HN2 HE2
  go_wp2_with (fail)
  refine (square_any 8 _).mono ?_
  rintro e v5 ⟨nv, ev, rfl, hn, he, hb⟩
  replace K := hide (K.out.trans (hb.mono K.out.size))
  have HN3 := hide hn
  have HE3 := hide he
  clear hn he
  clear hb
  go_wp2_with (fail)
  refine (G3.out _ _ _ HN3.out HE3.out).mono ?_
  rintro e v6 ⟨⟨A1, c1, rfl, ho⟩, hb⟩
  replace K := hide (K.out.trans (hb.mono K.out.size))
  replace HN3 := hide ((HN3.out.below hb).mono hb.size)
  replace HE3 := hide ((HE3.out.below hb).mono hb.size)
  have HS := hide (own_rd (l := strL) ho (fun _ => rfl))
  clear ho
  clear hb
  clear HN3 HE3
  go_wp2_with (fail)
  refine (G5.out _ _ HS.out).mono ?_
  rintro e v7 ⟨rfl, hb⟩
  replace K := hide (K.out.trans (hb.mono K.out.size))
  replace HS := hide ((HS.out.below hb).mono hb.size)
  clear hb
  go_wp2_with (fail)
  refine (square_any 8 _).mono ?_
  rintro e v8 ⟨nv, ev, rfl, hn, he, hb⟩
  replace K := hide (K.out.trans (hb.mono K.out.size))
  replace HS := hide ((HS.out.below hb).mono hb.size)
  have HN4 := hide hn
  have HE4 := hide he
  clear hn he
  clear hb
  go_wp2_with (fail)
  refine (land_any (-3) 11 _).mono ?_
  rintro e v9 ⟨va, rfl, ha, hb⟩
  replace K := hide (K.out.trans (hb.mono K.out.size))
  replace HS := hide ((HS.out.below hb).mono hb.size)
  replace HN4 := hide ((HN4.out.below hb).mono hb.size)
  replace HE4 := hide ((HE4.out.below hb).mono hb.size)
  have HA := hide ha
  clear ha
  clear hb
  go_wp2_with (fail)
  refine (G4.out _ _ _ _ HN4.out HE4.out HA.out).mono ?_
  rintro e v10 ⟨hrg, hb⟩
  replace K := hide (K.out.trans (hb.mono K.out.size))
  replace HS := hide ((HS.out.below hb).mono hb.size)
  replace HN4 := hide ((HN4.out.below hb).mono hb.size)
  replace HE4 := hide ((HE4.out.below hb).mono hb.size)
  replace HA := hide ((HA.out.below hb).mono hb.size)
  obtain ⟨A2, c2, rfl, hr⟩ := hrg.rd
  have HR := hide hr
  clear hr hrg
  clear hb
  clear HN4 HE4 HA
  obtain ⟨b, off, A3, c3, hA, hbl, hc, hrd⟩ := HR.out.get (j := 0) (x := ringL) rfl
  subst hA
  have HB0 := hide hrd
  simp only [Nat.add_zero] at hc
  clear hrd
  go_wp2_with (fail)
  refine (G6.out _ _ HB0.out).mono ?_
  rintro e v11 ⟨rfl, hb⟩
  replace K := hide (K.out.trans (hb.mono K.out.size))
  replace HS := hide ((HS.out.below hb).mono hb.size)
  replace HR := hide ((HR.out.below hb).mono hb.size)
  replace HB0 := hide ((HB0.out.below hb).mono hb.size)
  clear hb hbl hc
  clear HB0
  obtain ⟨b2, off2, A4, c4, hA, hbl, hc, hrd⟩ := HR.out.get (j := 1) (x := [⟨1, 1, 7, 7⟩]) rfl
  injection hA with hA
  injection hA with e1 e2
  subst e1
  subst e2
  have HB1 := hide hrd
  clear hrd
  go_wp2_with (fail)
  refine (G7.out _ _ HB1.out).mono ?_
  rintro e v12 ⟨rfl, hb⟩
  replace K := hide (K.out.trans (hb.mono K.out.size))
  replace HS := hide ((HS.out.below hb).mono hb.size)
  replace HR := hide ((HR.out.below hb).mono hb.size)
  replace HB1 := hide ((HB1.out.below hb).mono hb.size)
  clear hb hbl hc
  clear HB1
  obtain ⟨b2, off2, A4, c4, hA, hbl, hc, hrd⟩ := HR.out.get (j := 1) (x := [⟨1, 1, 7, 7⟩]) rfl
  injection hA with hA
  injection hA with e1 e2
  subst e1
  subst e2
  have HB2 := hide hrd
  clear hrd
  go_wp2_with (fail)
  refine (G8.out _ _ _ HB2.out HS.out).mono ?_
  rintro e v13 ⟨rfl, hb⟩
  replace K := hide (K.out.trans (hb.mono K.out.size))
  replace HS := hide ((HS.out.below hb).mono hb.size)
  replace HR := hide ((HR.out.below hb).mono hb.size)
  replace HB2 := hide ((HB2.out.below hb).mono hb.size)
  clear hb hbl hc
  go_wp2_with (fail)
  go_ret
  exact ⟨rfl, K.out⟩
end Go.Proofs.YtmnhlcbmoibahaaGreat

/- The numbers of parts and loops of networks that street.Make lays. -/
namespace Go.Proofs.YtmnhlcbmoibahaaGreat
open Go.RowKit
set_option linter.unusedVariables false
set_option linter.unusedSimpArgs false

theorem near_ok {l : List Sg} (h : ∀ s ∈ l, near35 s) : ∀ s ∈ l, okSg s := fun s hs => (h s hs).1
theorem few35 {l : List Sg} (hv : ∀ s ∈ l, okSg s) (h12 : l.length ≤ 12) : (nodesF l).length ≤ 168 := by
  have h := nodes_len hv
  have h2 : l.length * l.length ≤ 12 * 12 := Nat.mul_le_mul h12 h12
  omega
theorem made35 {l : List Sg} (hv : ∀ s ∈ l, okSg s) (h12 : l.length ≤ 12) : madeN l = 0 := by
  have := few35 hv h12
  unfold madeN
  rw [if_neg (by omega), if_neg (fun h => h hv), if_neg (by omega)]
theorem prt_made {l : List Sg} (hv : ∀ s ∈ l, okSg s) (h4 : (nodesF l).length ≤ 400) : prtF (nodesF l) (edI (edgesF l)) = (((partsN l : Nat) : Int), 0) := by
  unfold prtF
  rw [if_pos (made_chk hv h4), segs_drawn]
  obtain ⟨n1, n2⟩ := net_again hv
  show ((((compF (nodesF (drawnL (nodesF l) (edgesF l))).length (edgesF (drawnL (nodesF l) (edgesF l)))).2 : Nat) : Int), (0 : Int)) = _
  rw [n1, n2]
def lopN (l : List Sg) : Int := ((edgesF l).length : Int) - (nodesF l).length + (partsN l : Nat)
theorem lop_made {l : List Sg} (hv : ∀ s ∈ l, okSg s) (h4 : (nodesF l).length ≤ 400) : lopF (nodesF l) (edI (edgesF l)) = (lopN l, 0) := by
  unfold lopF
  rw [prt_made hv h4, if_pos rfl]
  unfold lopN edI
  rw [List.length_map]
theorem lop_nn (l : List Sg) : 0 ≤ lopN l := by
  have h := (parts_bd (nodesF l).length (edgesF l)).1
  unfold lopN
  show 0 ≤ ((edgesF l).length : Int) - (nodesF l).length + (((compF (nodesF l).length (edgesF l)).2 : Nat) : Int)
  omega
theorem lop_mv {l : List Sg} {a b : Int} (hl : ∀ s ∈ l, okSg s) (hm : ∀ s ∈ l.map (mvSg a b), okSg s) : lopN (l.map (mvSg a b)) = lopN l := by
  unfold lopN
  rw [parts_mv hl hm, edges_mv hl hm, nodes_mv hl hm, List.length_map]
theorem near_mv {s : Sg} {a b : Int} (h : near35 s) (ha : -100 ≤ a ∧ a ≤ 100) (hb : -100 ≤ b ∧ b ≤ 100) : okSg (mvSg a b s) := by
  obtain ⟨⟨h0, h00⟩, h1, h2, h3, h4⟩ := h
  unfold okSg mvSg finS
  simp only
  refine ⟨⟨by omega, by omega, by omega, by omega⟩, ?_⟩
  constructor
  · intro e e2
    exact h00.1 (by omega) (by omega)
  · intro e
    have := h00.2 (by omega)
    omega
theorem parts_ge {s : Sg} {t : List Sg} (hv : ∀ q ∈ s :: t, okSg q) : 1 ≤ partsN (s :: t) := parts_pos (net_ok hv).edges_lt (node_ex hv)
/-- street.Make of a few segments. -/
theorem make35_any {w : World} {v : Value} {l : List Sg} (hr : RdK encSg 4 w w.heap.size v l) (hv : ∀ s ∈ l, okSg s) (h12 : l.length ≤ 12) :
    Calls Tryz.prog 30 #[v] w fun e w' => (∃ nv ev, e = .returned (.tuple #[.agg #[nv, ev], .int .i64 0]) ∧ RdK encS 2 w' w'.heap.size nv (nodesF l) ∧ RdK encS 2 w' w'.heap.size ev (edI (edgesF l))) ∧ Below w.heap.size w w' := by
  refine (Make_any hr).mono ?_
  rintro e w' ⟨⟨nv, ev, he, h1, _⟩, hb⟩
  have h0 := made35 hv h12
  rw [h0] at he
  obtain ⟨o1, o2⟩ := h1 h0
  exact ⟨⟨nv, ev, he, own_rd o1 (fun _ => rfl), own_rd o2 (fun _ => rfl)⟩, hb⟩
theorem parts_made {w : World} {nv ev : Value} {l : List Sg} (hv : ∀ s ∈ l, okSg s) (h12 : l.length ≤ 12) (hn : RdK encS 2 w w.heap.size nv (nodesF l)) (he : RdK encS 2 w w.heap.size ev (edI (edgesF l))) :
    Calls Tryz.prog 16 #[.agg #[nv, ev]] w fun e w' => e = .returned (.tuple #[.int .i64 ((partsN l : Nat) : Int), .int .i64 0]) ∧ Below w.heap.size w w' := by
  have h := parts35_any hn he
  rwa [prt_made hv (by have := few35 hv h12; omega)] at h
theorem loops_made {w : World} {nv ev : Value} {l : List Sg} (hv : ∀ s ∈ l, okSg s) (h12 : l.length ≤ 12) (hn : RdK encS 2 w w.heap.size nv (nodesF l)) (he : RdK encS 2 w w.heap.size ev (edI (edgesF l))) :
    Calls Tryz.prog 18 #[.agg #[nv, ev]] w fun e w' => e = .returned (.tuple #[.int .i64 (lopN l), .int .i64 0]) ∧ Below w.heap.size w w' := by
  have h := loops_any hn he
  rwa [lop_made hv (by have := few35 hv h12; omega)] at h
/-- A list less its first entry. -/
theorem rd_tail {α : Type} {enc : α → List Value} {k : Nat} {w : World} {B b o n c c' : Nat} {x : α} {l : List α} (h : RdK enc k w B (.slice (some ⟨b, o, none⟩) n c) (x :: l)) : RdK enc k w B (.slice (some ⟨b, o + k, none⟩) l.length c') l := by
  obtain ⟨A, c1, hv, hc⟩ := h
  injection hv with e1 e2 e3
  subst e1
  refine ⟨_, c', rfl, fun hl => ?_⟩
  obtain ⟨b2, o2, e, hb, hk⟩ := hc (by simp)
  injection e with e
  injection e with e1 e2
  subst e1; subst e2
  refine ⟨b, o + k, rfl, hb, fun j y hy i u hu => ?_⟩
  have := hk (j + 1) y (by simpa using hy) i u hu
  rwa [show o + (j + 1) * k + i = o + k + j * k + i by rw [Nat.add_mul]; omega] at this
/-- The first m segments, turned. -/
def firstSg (f : Sg → Sg) (l : List Sg) (m : Nat) : List Sg := (l.take m).map f
theorem firstSg_zero (f : Sg → Sg) (l : List Sg) : firstSg f l 0 = [] := rfl
theorem firstSg_succ {f : Sg → Sg} {l : List Sg} {m : Nat} {s : Sg} (h : l[m]? = some s) : firstSg f l (m + 1) = firstSg f l m ++ [f s] := by
  unfold firstSg
  rw [List.take_add_one, h, Option.toList_some, List.map_append]
  rfl
theorem firstSg_all (f : Sg → Sg) (l : List Sg) : firstSg f l l.length = l.map f := by
  unfold firstSg
  rw [List.take_length]
/-- The box of a network. -/
def NetAt (b : Nat) (nv ev : Value) (W : World) : Prop := b < W.heap.size ∧ W.cell? ⟨b, 0, none⟩ = some nv ∧ W.cell? ⟨b, 1, none⟩ = some ev
theorem NetAt.keep {b : Nat} {nv ev : Value} {W W' : World} (h : NetAt b nv ev W) (hb : Below W.heap.size W W') : NetAt b nv ev W' := ⟨Nat.lt_of_lt_of_le h.1 hb.size, (hb.cell (p := ⟨b, 0, none⟩) h.1).trans h.2.1, (hb.cell (p := ⟨b, 1, none⟩) h.1).trans h.2.2⟩
theorem calls_nm {P : Program} {F : Nat} {A : Array Value} {W : World} {Q : Ending → World → Prop} (h : ∀ w, w = W → Calls P F A w Q) : Calls P F A W Q := h W rfl
end Go.Proofs.YtmnhlcbmoibahaaGreat

/- Plain: being along each other is the same both ways; the boundaries of two regions without a common point. -/
namespace Go.Proofs.YtmnhlcbmoibahaaGreat
set_option linter.unusedVariables false
set_option linter.unusedSimpArgs false

def halfA (m : Nat) (a b : List R4) : Int := vol (m + 1) (fun X Y => hit a b X Y (X - 1) Y)
theorem along_half {m : Nat} {a b : List R4} (ha : fits m a) (hb : fits m b) : alongC a b = halfA m a b + halfA m (a.map fl4) (b.map fl4) := by
  unfold alongC halfA
  rw [← lr_vol ha hb, ← lr_vol (fits_fl ha) (fits_fl hb), dir_fl ha hb (x := 0) (y := 1) (by omega) (by omega), dir_fl ha hb (x := 0) (y := -1) (by omega) (by omega)]
  omega
theorem hitZ_comm (A B U V : Int) : hitZ A B U V = hitZ B A V U := by
  unfold hitZ
  rw [Int.add_comm, Int.mul_comm (A * (1 - B)) (V * (1 - U)), Int.mul_comm (U * (1 - V)) (B * (1 - A))]
theorem half_comm (m : Nat) (a b : List R4) : halfA m a b = halfA m b a := vol_congr fun X Y _ _ _ _ => hitZ_comm _ _ _ _
theorem half_nn (m : Nat) (a b : List R4) : 0 ≤ halfA m a b := vol_nonneg fun X Y => by
  unfold hit hitZ
  rcases one_01 a X Y with h1 | h1 <;> rcases one_01 b X Y with h2 | h2 <;> rcases one_01 a (X - 1) Y with h3 | h3 <;> rcases one_01 b (X - 1) Y with h4 | h4 <;> rw [h1, h2, h3, h4] <;> decide
theorem along_comm {m : Nat} {a b : List R4} (ha : fits m a) (hb : fits m b) : alongC a b = alongC b a := by
  rw [along_half ha hb, along_half hb ha, half_comm m a b, half_comm m (a.map fl4) (b.map fl4)]
theorem along_nn {m : Nat} {a b : List R4} (ha : fits m a) (hb : fits m b) : 0 ≤ alongC a b := by
  rw [along_half ha hb]
  have := half_nn m a b
  have := half_nn m (a.map fl4) (b.map fl4)
  omega
/-- A frame around a region, less the region. -/
structure Rim (k : Int) (a oa : List R4) : Prop where
  small : ∀ x y, pmem a x y → -k ≤ x ∧ x < k ∧ -k ≤ y ∧ y < k
  mem : ∀ x y, pmem oa x y ↔ (-k - 2 ≤ x ∧ x < k + 2 ∧ -k - 2 ≤ y ∧ y < k + 2) ∧ ¬ pmem a x y
theorem Rim.fl {k : Int} {a oa : List R4} (h : Rim k a oa) : Rim k (a.map fl4) (oa.map fl4) :=
  ⟨fun x y hp => by
    have := h.small _ _ ((pmem_fl a x y).1 hp)
    omega, fun x y => by
    rw [pmem_fl, h.mem, pmem_fl]
    constructor
    · rintro ⟨h1, h2⟩
      exact ⟨by omega, h2⟩
    · rintro ⟨h1, h2⟩
      exact ⟨by omega, h2⟩⟩
theorem Rim.hit {k : Int} {a oa : List R4} (h : Rim k a oa) (X Y : Int) : hit a oa X Y (X - 1) Y = one a X Y * (1 - one a (X - 1) Y) + one a (X - 1) Y * (1 - one a X Y) := by
  have e : ∀ x y, (-k - 2 ≤ x ∧ x < k + 2 ∧ -k - 2 ≤ y ∧ y < k + 2) → one oa x y = 1 - one a x y := fun x y hx => by
    by_cases hp : pmem a x y
    · rw [show one oa x y = 0 from ind_f fun hh => ((h.mem _ _).1 hh).2 hp, show one a x y = 1 from ind_t hp]; rfl
    · rw [show one oa x y = 1 from ind_t ((h.mem _ _).2 ⟨hx, hp⟩), show one a x y = 0 from ind_f hp]; rfl
  have z : ∀ x y, ¬ pmem a x y → one a x y = 0 := fun x y hx => ind_f hx
  unfold Go.Proofs.YtmnhlcbmoibahaaGreat.hit hitZ
  by_cases h1 : pmem a X Y
  · have hs := h.small _ _ h1
    rw [e X Y (by omega), e (X - 1) Y (by omega)]
    rcases one_01 a X Y with h1 | h1 <;> rcases one_01 a (X - 1) Y with h3 | h3 <;> rw [h1, h3] <;> rfl
  · by_cases h2 : pmem a (X - 1) Y
    · have hs := h.small _ _ h2
      rw [e X Y (by omega), e (X - 1) Y (by omega)]
      rcases one_01 a X Y with h1 | h1 <;> rcases one_01 a (X - 1) Y with h3 | h3 <;> rw [h1, h3] <;> rfl
    · rw [z _ _ h1, z _ _ h2]
      simp
theorem half_three {m : Nat} {k : Int} {a b c oa ob oc : List R4} (ha : Rim k a oa) (hb : Rim k b ob) (hc : Rim k c oc) (hno : ∀ x y, ¬ (pmem a x y ∧ pmem b x y)) (hor : ∀ x y, pmem c x y ↔ pmem a x y ∨ pmem b x y) :
    halfA m a oa + halfA m b ob = halfA m c oc + 2 * halfA m a b := by
  have hcv : ∀ x y, one c x y = one a x y + one b x y ∧ one a x y * one b x y = 0 := fun x y => by
    by_cases h1 : pmem a x y <;> by_cases h2 : pmem b x y
    · exact absurd ⟨h1, h2⟩ (hno x y)
    · rw [show one c x y = 1 from ind_t ((hor x y).2 (.inl h1)), show one a x y = 1 from ind_t h1, show one b x y = 0 from ind_f h2]; exact ⟨rfl, rfl⟩
    · rw [show one c x y = 1 from ind_t ((hor x y).2 (.inr h2)), show one a x y = 0 from ind_f h1, show one b x y = 1 from ind_t h2]; exact ⟨rfl, rfl⟩
    · rw [show one c x y = 0 from ind_f (fun hh => ((hor x y).1 hh).elim h1 h2), show one a x y = 0 from ind_f h1, show one b x y = 0 from ind_f h2]; exact ⟨rfl, rfl⟩
  have e2 : 2 * halfA m a b = vol (m + 1) (fun X Y => hit a b X Y (X - 1) Y + hit a b X Y (X - 1) Y) := by rw [vol_add]; unfold halfA; omega
  rw [e2]
  unfold halfA
  rw [← vol_add, ← vol_add]
  refine vol_congr fun X Y _ _ _ _ => ?_
  rw [ha.hit, hb.hit, hc.hit, (hcv X Y).1, (hcv (X - 1) Y).1]
  have g1 := (hcv X Y).2
  have g2 := (hcv (X - 1) Y).2
  unfold hit hitZ
  rcases one_01 a X Y with h1 | h1 <;> rcases one_01 b X Y with h2 | h2 <;> rcases one_01 a (X - 1) Y with h3 | h3 <;> rcases one_01 b (X - 1) Y with h4 | h4 <;> rw [h1, h2] at g1 <;> rw [h3, h4] at g2 <;> rw [h1, h2, h3, h4] <;> first | rfl | (exact absurd g1 (by decide)) | (exact absurd g2 (by decide))
/-- **The law of boundaries.** -/
theorem along_three {m : Nat} {k : Int} {a b c oa ob oc : List R4} (fa : fits m a) (fb : fits m b) (fc : fits m c) (foa : fits m oa) (fob : fits m ob) (foc : fits m oc) (ha : Rim k a oa) (hb : Rim k b ob) (hc : Rim k c oc) (hno : ∀ x y, ¬ (pmem a x y ∧ pmem b x y)) (hor : ∀ x y, pmem c x y ↔ pmem a x y ∨ pmem b x y) :
    alongC a oa + alongC b ob = alongC c oc + 2 * alongC a b := by
  rw [along_half fa foa, along_half fb fob, along_half fc foc, along_half fa fb]
  have h1 := half_three (m := m) ha hb hc hno hor
  have h2 := half_three (m := m) ha.fl hb.fl hc.fl (fun x y => by rw [pmem_fl, pmem_fl]; exact hno y x) (fun x y => by rw [pmem_fl, pmem_fl, pmem_fl]; exact hor y x)
  omega
end Go.Proofs.YtmnhlcbmoibahaaGreat

/- Plain: the regions of BlockBeside's law: joins of regions, frames around them. -/
namespace Go.Proofs.YtmnhlcbmoibahaaGreat
set_option linter.unusedVariables false
set_option linter.unusedSimpArgs false

theorem can_oneB {r : R4} (h : wf4 r) : RCan [r] := ⟨[⟨r.x0, r.x1, [(r.y0, r.y1)]⟩], ⟨h.1, by simp, by simp [SCan]; exact h.2⟩, by simp [flat, flat1]⟩
/-- What a join of two regions is. -/
theorem joinTwo {h : Bool → Bool → Bool} (h0 : h false false = false) {a b : List R4} (ha : checkF a = 0) (hb : checkF b = 0) :
    joinF h a b = ([], 4) ∨ ∃ R, joinF h a b = (R, 0) ∧ checkF R = 0 ∧ R.length ≤ 400 ∧ ∀ x y, pmem R x y ↔ h (decide (pmem a x y)) (decide (pmem b x y)) = true := by
  rw [joinF_ok ha hb]
  by_cases hl : 400 < (rjoin h a b).length
  · rw [if_pos hl]; exact .inl rfl
  · rw [if_neg hl]
    exact .inr ⟨_, rfl, join_check h0 ha hb (by omega), by omega, join_pts h0 ha hb⟩
theorem joinZero {h : Bool → Bool → Bool} (h0 : h false false = false) {a b R : List R4} (ha : checkF a = 0) (hb : checkF b = 0) (he : joinF h a b = (R, 0)) : checkF R = 0 ∧ R.length ≤ 400 ∧ ∀ x y, pmem R x y ↔ h (decide (pmem a x y)) (decide (pmem b x y)) = true := by
  rcases joinTwo h0 ha hb with e | ⟨R', e, h1, h2, h3⟩
  · rw [he] at e; injection e with _ e; cases e
  · rw [he] at e; injection e with e _; subst e; exact ⟨h1, h2, h3⟩
theorem joinFour {h : Bool → Bool → Bool} (h0 : h false false = false) {a b R : List R4} {c : Int} (ha : checkF a = 0) (hb : checkF b = 0) (he : joinF h a b = (R, c)) (hc : c ≠ 0) : R = [] ∧ c = 4 := by
  rcases joinTwo h0 ha hb with e | ⟨R', e, _⟩
  · rw [he] at e; injection e with e1 e2; exact ⟨e1, e2⟩
  · rw [he] at e; injection e with _ e; exact absurd e hc
theorem orP {a b : List R4} {x y : Int} : hOr (decide (pmem a x y)) (decide (pmem b x y)) = true ↔ pmem a x y ∨ pmem b x y := by simp [hOr]
theorem andP {a b : List R4} {x y : Int} : hAnd (decide (pmem a x y)) (decide (pmem b x y)) = true ↔ pmem a x y ∧ pmem b x y := by simp [hAnd]
theorem subP {a b : List R4} {x y : Int} : hSub (decide (pmem a x y)) (decide (pmem b x y)) = true ↔ pmem a x y ∧ ¬ pmem b x y := by simp [hSub]
theorem pmem_one {r : R4} {x y : Int} : pmem [r] x y ↔ rin r x y := by simp [pmem]
theorem fits_chk {l : List R4} (h : checkF l = 0) : fits 1000000 l := ⟨(check_rcan h).apart, check_frame h (Nat.le_refl _)⟩
def small35 (l : List R4) : Bool := l.all fun r => decide (-1000 ≤ r.x0) && decide (-1000 ≤ r.y0) && decide (r.x1 ≤ 1000) && decide (r.y1 ≤ 1000)
def frm35 : List R4 := [⟨-1002, -1002, 1002, 1002⟩]
theorem frm35_chk : checkF frm35 = 0 := can_check (can_oneB ⟨by decide, by decide⟩) (by intro r hr; rw [frm35, List.mem_singleton] at hr; subst hr; decide) (by simp [frm35])
theorem small_mem {l : List R4} (h : small35 l = true) {x y : Int} (hp : pmem l x y) : -1000 ≤ x ∧ x < 1000 ∧ -1000 ≤ y ∧ y < 1000 := by
  obtain ⟨r, hr, hi⟩ := hp
  unfold small35 at h
  have := List.all_eq_true.1 h r hr
  simp only [Bool.and_eq_true, decide_eq_true_eq] at this
  unfold rin at hi
  omega
theorem rim35 {a O : List R4} (ha : checkF a = 0) (hs : ∀ x y, pmem a x y → -1000 ≤ x ∧ x < 1000 ∧ -1000 ≤ y ∧ y < 1000) (he : joinF hSub frm35 a = (O, 0)) : Rim 1000 a O ∧ checkF O = 0 := by
  obtain ⟨h1, _, h3⟩ := joinZero rfl frm35_chk ha he
  refine ⟨⟨hs, fun x y => ?_⟩, h1⟩
  rw [h3, subP]
  unfold frm35
  rw [pmem_one]
  unfold rin
  simp only
  constructor
  · rintro ⟨h1, h2⟩
    exact ⟨by omega, h2⟩
  · rintro ⟨h1, h2⟩
    exact ⟨by omega, h2⟩
theorem beside_three {a b U O1 O2 O3 : List R4} (ha : checkF a = 0) (hb : checkF b = 0) (e1 : joinF hAnd a b = ([], 0)) (e2 : joinF hOr a b = (U, 0)) (e3 : joinF hSub frm35 a = (O1, 0)) (e4 : joinF hSub frm35 b = (O2, 0)) (e5 : joinF hSub frm35 U = (O3, 0)) (sa : small35 a = true) (sb : small35 b = true) :
    alongC a O1 + alongC b O2 = alongC U O3 + 2 * alongC a b := by
  obtain ⟨_, _, k1⟩ := joinZero rfl ha hb e1
  obtain ⟨cU, _, k2⟩ := joinZero rfl ha hb e2
  have hor : ∀ x y, pmem U x y ↔ pmem a x y ∨ pmem b x y := fun x y => (k2 x y).trans orP
  obtain ⟨r1, c1⟩ := rim35 ha (fun x y h => small_mem sa h) e3
  obtain ⟨r2, c2⟩ := rim35 hb (fun x y h => small_mem sb h) e4
  obtain ⟨r3, c3⟩ := rim35 cU (fun x y h => by
    rcases (hor x y).1 h with h | h
    · exact small_mem sa h
    · exact small_mem sb h) e5
  refine along_three (fits_chk ha) (fits_chk hb) (fits_chk cU) (fits_chk c1) (fits_chk c2) (fits_chk c3) r1 r2 r3 (fun x y h => ?_) hor
  have := (k1 x y).2 (andP.2 h)
  simp [pmem] at this
theorem along_comm35 {a b : List R4} (ha : checkF a = 0) (hb : checkF b = 0) : alongC b a = alongC a b := along_comm (fits_chk hb) (fits_chk ha)
theorem along_nn35 {a b : List R4} (ha : checkF a = 0) (hb : checkF b = 0) : 0 ≤ alongC a b := along_nn (fits_chk ha) (fits_chk hb)
theorem wrap35 (A B : Int) : IntKind.i64.wrap (IntKind.i64.wrap A + B) = IntKind.i64.wrap (A + B) := by
  simp [IntKind.wrap, IntKind.bits, IntKind.signed]
  repeat' split
  all_goals omega
end Go.Proofs.YtmnhlcbmoibahaaGreat

/- An argument that is a list of segments, read as such. -/
namespace Go.Proofs.YtmnhlcbmoibahaaGreat
open Go.ChangeShapes Go.WideShapes Go.ChangeAt Go.RowKit Go.Joins Go.Deep
set_option linter.unusedVariables false
set_option linter.unusedSimpArgs false

theorem point_fields : ∀ (j : Nat) (f : Field), (match Tryz.prog.underlying 57 with | some (.struct fs) => fs | _ => #[])[j]? = some f → Tryz.prog.underlying f.type = some (.int .i64) := by
  rw [Tryz.underlying57]
  intro j f hf
  match j, hf with
  | 0, hf => simp at hf; subst hf; exact Tryz.underlying3
  | 1, hf => simp at hf; subst hf; exact Tryz.underlying3
  | j + 2, hf => simp at hf
section
variable {H : Type} {enc : TypeId × Value → H} {w : World} {base : Nat} {spare : Nat → Bool} {held : Bool}
set_option maxRecDepth 100000 in
/-- The cells of a segment: four ints. -/
theorem trod_seg {n : Nat} {cs : List Value} {y : DataW H × List MemPlace} (hl : cs.length = 4) (h : DataW.trod enc Tryz.prog w base spare held n 59 cs = some y) : ∀ j, j < 4 → ∃ z : Int, cs[j]? = some (.int .i64 z) := by
  have h2 : Tryz.prog.cellsOf 57 = 2 := by kernel_rfl
  obtain ⟨y0, y1, m, _, _, hy0, hy1⟩ := trod_struct2 Tryz.underlying59 h
  simp only [h2] at hy0 hy1
  have hr := trod_int_fields Tryz.underlying57 (by kernel_rfl) point_fields (by simp [List.length_take]; omega) hy0
  have hs := trod_int_fields Tryz.underlying57 (by kernel_rfl) point_fields (by simp [List.length_take, List.length_drop]; omega) hy1
  obtain ⟨a, b, c, d, rfl⟩ : ∃ a b c d, cs = [a, b, c, d] := by
    match cs, hl with
    | [a, b, c, d], _ => exact ⟨a, b, c, d, rfl⟩
  obtain ⟨z1, e1⟩ := hr 0 (by decide)
  obtain ⟨z2, e2⟩ := hr 1 (by decide)
  obtain ⟨z3, e3⟩ := hs 0 (by decide)
  obtain ⟨z4, e4⟩ := hs 1 (by decide)
  simp at e1 e2 e3 e4
  subst e1 e2 e3 e4
  intro j hj
  match j, hj with
  | 0, _ => exact ⟨_, rfl⟩
  | 1, _ => exact ⟨_, rfl⟩
  | 2, _ => exact ⟨_, rfl⟩
  | 3, _ => exact ⟨_, rfl⟩
set_option maxRecDepth 100000 in
theorem trod_segs {v : Value} {d : DataW H} {p : List MemPlace} {r : Reach} {b0 : Nat} (hv : Value.okWide Tryz.prog w r b0 60 v) (h : DataW.Trod enc Tryz.prog w base spare held 60 v d p) :
    ∃ l : List Sg, RdK encSg 4 w w.heap.size v l ∧ l.length ≤ maxLen ∧ ∀ A n c, v = .slice A n c → n ≤ c := by
  obtain ⟨A, n, c, rfl⟩ := okWide_slice Tryz.underlying60 hv
  have hC : Tryz.prog.cellsOf 59 = 4 := by kernel_rfl
  obtain ⟨fuel, hf⟩ := h
  rcases open_slice Tryz.underlying60 hf with ⟨hcs, _⟩ | ⟨a, len, cap, m, nn, D, Pl, hcs, hb, hl, hm, hmm, hx, hi⟩
  · simp [Value.cells] at hcs
    obtain ⟨rfl, rfl, rfl⟩ := hcs
    exact ⟨[], ⟨none, 0, rfl, fun h => absurd rfl h⟩, by simp, fun A n c e => by injection e; omega⟩
  · simp [Value.cells] at hcs
    obtain ⟨rfl, rfl, rfl⟩ := hcs
    have hlm : n ≤ m := by rw [hmm]; split <;> omega
    have key : ∀ i, i < n → ∀ j, j < 4 → ∃ z : Int, w.cell? (a.add (i * 4 + j)) = some (.int .i64 z) := by
      intro i hin j hj
      obtain ⟨cs', hc, ht'⟩ := hi i (by omega)
      rw [hC] at hc
      obtain ⟨_, hcl, hat⟩ := World.cells?_some hc
      obtain ⟨z, hz⟩ := trod_seg hcl ht' j hj
      have := hat j hj
      rw [← Go.Deep.add_add, this, hz]
      exact ⟨z, rfl⟩
    obtain ⟨F, hF⟩ : ∃ F : Nat → Nat → Int, ∀ i, i < n → ∀ j, j < 4 → w.cell? (a.add (i * 4 + j)) = some (.int .i64 (F i j)) :=
      ⟨fun i j => if h : i < n ∧ j < 4 then Classical.choose (key i h.1 j h.2) else 0, fun i hi j hj => by
        simp only [dif_pos (And.intro hi hj)]
        exact Classical.choose_spec (key i hi j hj)⟩
    refine ⟨(List.range n).map fun i => ⟨F i 0, F i 1, F i 2, F i 3⟩, ⟨some a, c, by simp, fun hl => ?_⟩, by simp; omega, fun A n c e => by injection e; omega⟩
    have hn : 0 < n := by
      rcases Nat.eq_zero_or_pos n with h | h
      · subst h; exact absurd rfl hl
      · exact h
    have h0 := hF 0 hn 0 (by omega)
    have hadd0 : a.add (0 * 4 + 0) = a := by simp [Addr.add]
    rw [hadd0] at h0
    obtain ⟨b, off, sp⟩ := a
    have hsp : sp = none := by
      unfold World.cell? at h0
      cases sp with
      | none => rfl
      | some x => split at h0 <;> simp at h0
    subst hsp
    refine ⟨b, off, rfl, ?_, fun j x hj i u hu => ?_⟩
    · unfold World.cell? at h0
      split at h0
      · rename_i hh
        exact (Array.getElem?_eq_some_iff.1 hh).1
      · cases h0
    · have hjn : j < n := by have := (List.getElem?_eq_some_iff.1 hj).1; simpa using this
      rw [List.getElem?_map, List.getElem?_range hjn] at hj
      simp only [Option.map_some, Option.some.injEq] at hj
      subst hj
      have hi4 : i < 4 := (List.getElem?_eq_some_iff.1 hu).1
      have hz := hF j hjn i hi4
      have e1 : (⟨b, off, none⟩ : Addr).add (j * 4 + i) = ⟨b, off + j * 4 + i, none⟩ := by unfold Addr.add; split <;> simp_all [Nat.add_assoc]
      rw [← e1, hz]
      match i, hi4 with
      | 0, _ => exact hu
      | 1, _ => exact hu
      | 2, _ => exact hu
      | 3, _ => exact hu
end
end Go.Proofs.YtmnhlcbmoibahaaGreat
