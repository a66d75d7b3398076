/- Rows of the call's own (append), read as lists of structs; and what slices.SortFunc leaves of them. -/
import Derived.Test.YtamnaojheecopaaRd
import Derived.Shelf.SlSortCmp.NoneTotal
import Derived.Deep.AppendLies
namespace Go.Proofs.Ytamnaojheecopaa
open Go.RowKit Go.Sort
set_option linter.unusedVariables false
set_option linter.unusedSimpArgs false

theorem addr_add (g j : Nat) : (⟨g, 0, none⟩ : Addr).add j = ⟨g, j, none⟩ := by unfold Addr.add; split <;> simp_all

/-- The cells of a block that has just been laid, in the words of append's law. -/
theorem news_new (w : World) (cs : List Value) (t : TypeId) (B : Nat) (hB : w.heap.size = B) : ∀ j u, cs[j]? = some u → (w.alloc (.cells cs.toArray t)).cell? ((⟨B, 0, none⟩ : Addr).add j) = some u := by
  subst hB
  exact fun j u hu => World.news_of_block (heap_alloc_new w _) j u (by simpa using hu)
def isInt : Value → Bool | .int _ _ => true | _ => false
theorem ints_one {l : List Value} (h : l.all isInt = true) : ∀ u ∈ l, u.oneCell' = true := fun u hu => by
  have := List.all_eq_true.1 h u hu
  cases u <;> first | rfl | cases this

theorem flat_get {α : Type} {enc : α → List Value} {k : Nat} (hk : ∀ x, (enc x).length = k) : ∀ (l : List α) (j : Nat) (x : α) (i : Nat) (u : Value), l[j]? = some x → (enc x)[i]? = some u → (l.flatMap enc)[j * k + i]? = some u
  | [], j, x, i, u, h, _ => by simp at h
  | y :: l, 0, x, i, u, h, hu => by
    simp at h; subst h
    have hi : i < (enc y).length := (List.getElem?_eq_some_iff.1 hu).1
    rw [List.flatMap_cons, Nat.zero_mul, Nat.zero_add, List.getElem?_append_left hi, hu]
  | y :: l, j + 1, x, i, u, h, hu => by
    have := flat_get hk l j x i u (by simpa using h) hu
    rw [List.flatMap_cons, List.getElem?_append_right (by rw [hk, Nat.add_mul]; omega), ← this]
    congr 1
    rw [hk, Nat.add_mul]; omega
theorem flat_len {α : Type} {enc : α → List Value} {k : Nat} (hk : ∀ x, (enc x).length = k) (l : List α) : (l.flatMap enc).length = l.length * k := by
  induction l with
  | nil => simp
  | cons y l ih => rw [List.flatMap_cons, List.length_append, ih, hk, List.length_cons, Nat.add_mul]; omega
theorem own_len {α : Type} {enc : α → List Value} {w : World} {base k : Nat} {e : TypeId} {v : Value} {n : Nat} {l : List α} (h : w.ownsRow base e k v n (l.flatMap enc)) (hk : ∀ x, (enc x).length = k) (k0 : 0 < k) : n = l.length := by
  have := h.1
  rw [flat_len hk] at this
  exact (Nat.eq_of_mul_eq_mul_right k0 this).symm
/-- A row of the call's own is read as a list. -/
theorem own_rd {α : Type} {enc : α → List Value} {w : World} {base k : Nat} {e : TypeId} {v : Value} {l : List α} (h : w.ownsRow base e k v l.length (l.flatMap enc)) (hk : ∀ x, (enc x).length = k) : RdK enc k w w.heap.size v l := by
  rcases h.2 with ⟨rfl, h0⟩ | ⟨g, cap, cur, rfl, hb, hg, hnc, hcm, hcs, ht⟩
  · exact ⟨none, 0, by rw [h0], fun hl => absurd (List.eq_nil_of_length_eq_zero h0) hl⟩
  · refine ⟨some ⟨g, 0, none⟩, cap, rfl, fun hl => ⟨g, 0, rfl, (Array.getElem?_eq_some_iff.1 hg).1, fun j x hj i u hu => ?_⟩⟩
    have := (h.cells (g := g) rfl) _ _ (flat_get hk l j x i u hj hu)
    rw [addr_add] at this
    rwa [Nat.zero_add]

theorem flatK_toList {α : Type} [Inhabited α] {enc : α → List Value} {k : Nat} (hk : ∀ x, (enc x).length = k) (l : List α) : (flatK enc k l.toArray).toList = l.flatMap enc := by
  apply List.ext_getElem?
  intro t
  by_cases ht : t < l.length * k
  · have k0 : 0 < k := by rcases Nat.eq_zero_or_pos k with h | h; · subst h; simp at ht
                          · exact h
    have hj : t / k < l.length := (Nat.div_lt_iff_lt_mul k0).2 ht
    have hi : t % k < k := Nat.mod_lt _ k0
    have e : t = t / k * k + t % k := by rw [Nat.mul_comm]; exact (Nat.div_add_mod t k).symm
    have g := get_flatK enc k l.toArray t (by simpa using ht)
    rw [getElem!_pos _ t (by simpa using ht), getElem!_pos _ (t / k) (by simpa using hj), getElem!_pos _ (t % k) (by rw [hk]; exact hi)] at g
    rw [Array.getElem?_toList, Array.getElem?_eq_getElem (by simpa using ht), g]
    conv => rhs; rw [e]
    rw [flat_get hk l (t / k) (l[t / k]) (t % k) _ (List.getElem?_eq_getElem hj) (List.getElem?_eq_getElem (by rw [hk]; exact hi))]
    simp
  · rw [List.getElem?_eq_none (by simpa using Nat.le_of_not_lt ht), List.getElem?_eq_none (by rw [flat_len hk]; omega)]

/-- A row of the call's own holds its elements, in the sort's words. -/
theorem own_holds {α : Type} [Inhabited α] {enc : α → List Value} {w : World} {base k : Nat} {e : TypeId} {g n cap : Nat} {l : List α} (hk : ∀ x, (enc x).length = k) (h : w.ownsRow base e k (.slice (some ⟨g, 0, none⟩) n cap) n (l.flatMap enc)) : HoldsK enc k w g 0 l.toArray := by
  intro j hj
  have hj' : j < (l.flatMap enc).length := by rw [flat_len hk]; simpa using hj
  have e1 : (flatK enc k l.toArray)[j]! = (l.flatMap enc)[j] := by
    rw [getElem!_pos _ j hj]
    have := flatK_toList (enc := enc) hk l
    rw [← Array.getElem_toList]
    exact List.getElem_of_eq this (by simpa using hj)
  refine ⟨?_, h.frozenAt _⟩
  have := (h.cells (g := g) rfl) j _ (List.getElem?_eq_getElem hj')
  rw [addr_add] at this
  rw [e1, Nat.zero_add]
  exact this

/-- What a sort leaves: the row owns the new elements, all else is as it was. -/
theorem own_sorted {α : Type} [Inhabited α] {enc : α → List Value} {w : World} {base k : Nat} {e : TypeId} {g cap n : Nat} {l l' : List α} (hk : ∀ x, (enc x).length = k) (os : Array Obj)
    (h : w.ownsRow base e k (.slice (some ⟨g, 0, none⟩) l.length cap) l.length (l.flatMap enc)) (hl : l'.length = l.length) :
    (sortWorldK enc k w g 0 n l'.toArray os).ownsRow base e k (.slice (some ⟨g, 0, none⟩) l'.length cap) l'.length (l'.flatMap enc) ∧ w.grownBy (sortWorldK enc k w g 0 n l'.toArray os) (some g) := by
  rcases h.2 with ⟨e0, _⟩ | ⟨g', cap', cur, e0, hb, hg, hn, hm, hs, ht⟩
  · cases e0
  · injection e0 with e1 _ e3
    injection e1 with e1
    injection e1 with e1
    subst e1; subst e3
    have hlt : g < w.heap.size := (Array.getElem?_eq_some_iff.1 hg).1
    have hrow : ∀ b, (sortWorldK enc k w g 0 n l'.toArray os).heap[b]? = if b < w.heap.size then (putRow id w g 0 (flatK enc k l'.toArray)).heap[b]? else os[b - w.heap.size]? := by
      intro b
      show ((putRow id w g 0 (flatK enc k l'.toArray)).heap ++ os)[b]? = _
      rw [Array.getElem?_append]
      simp
    refine ⟨⟨flat_len hk l', .inr ⟨g, cap, putCells id 0 (flatK enc k l'.toArray) cur, rfl, hb, ?_, by omega, hm, by simpa [putCells] using hs, ?_⟩⟩, ⟨rfl, rfl, rfl, ?_, fun b hb' hne => ?_⟩⟩
    · rw [hrow, if_pos hlt]
      simp [putRow, mapBlock, Array.getElem?_modify, hg, onCells]
    · rw [← flatK_toList hk l']
      apply List.ext_getElem?
      intro j
      have hle : l'.length * k ≤ cap * k := Nat.mul_le_mul_right k (by omega)
      rw [List.getElem?_take, Array.getElem?_toList, Array.getElem?_toList]
      by_cases hj : j < l'.length * k
      · have hjc : j < cur.size := by omega
        simp only [if_pos hj, putCells, Array.getElem?_mapIdx, Array.getElem?_eq_getElem hjc, Option.map_some]
        rw [if_pos (by simp; omega), Array.getElem?_eq_getElem (by simpa using hj)]
        simp [getElem!_pos, hj]
      · rw [if_neg hj, Array.getElem?_eq_none (by simpa using Nat.le_of_not_lt hj)]
    · show w.heap.size ≤ ((putRow id w g 0 (flatK enc k l'.toArray)).heap ++ os).size
      simp
    · rw [hrow, if_pos hb']
      have : g ≠ b := fun e => hne (by rw [e])
      simp [putRow, mapBlock, Array.getElem?_modify, this]
theorem own_base {w : World} {base B : Nat} {e : TypeId} {size : Nat} {v : Value} {n : Nat} {xs : List Value} (h : w.ownsRow B e size v n xs) (hb : base ≤ B) : w.ownsRow base e size v n xs := by
  refine ⟨h.1, ?_⟩
  rcases h.2 with hn | ⟨g, cap, cur, hv, hg, r⟩
  · exact .inl hn
  · exact .inr ⟨g, cap, cur, hv, by omega, r⟩
theorem own_n {w : World} {B : Nat} {e : TypeId} {size : Nat} {v : Value} {n n' : Nat} {xs : List Value} (h : w.ownsRow B e size v n xs) (hn : n = n') : w.ownsRow B e size v n' xs := hn ▸ h
end Go.Proofs.Ytamnaojheecopaa
