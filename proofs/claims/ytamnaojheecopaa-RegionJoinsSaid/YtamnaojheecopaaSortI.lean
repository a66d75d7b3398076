/- slices.Sort and slices.Compact on a row of the call's own. -/
import Derived.Test.YtamnaojheecopaaOwn
import Derived.Test.YtamnaojheecopaaShelf
import Derived.Test.YtamnaojheecopaaMCuts
import Derived.Lib.OwnBridge
namespace Go.Proofs.Ytamnaojheecopaa
open Go.RowKit Go.Sort
set_option linter.unusedVariables false
set_option linter.unusedSimpArgs false

abbrev iv (x : Int) : Value := .int .i64 x
theorem own_grow {w : World} {base size : Nat} {e : TypeId} {v : Value} {n : Nat} {xs : List Value} (h : w.ownsRow base e size v n xs) (os : Array Obj) : (grow w os).ownsRow base e size v n xs := by
  refine ⟨h.1, ?_⟩
  rcases h.2 with hn | ⟨g, cap, cur, hv, hg, hh, r⟩
  · exact .inl hn
  · refine .inr ⟨g, cap, cur, hv, hg, ?_, r⟩
    show (w.heap ++ os)[g]? = _
    rw [Array.getElem?_append_left (Array.getElem?_eq_some_iff.1 hh).1]
    exact hh
theorem putRow_grown {α : Type} [Inhabited α] {enc : α → Value} (w : World) (q g : Nat) (d : Array α) (os : Array Obj) : w.grownBy (grow (putRow enc (Sort.ahead w q) g 0 d) os) (some g) := by
  refine ⟨rfl, rfl, rfl, ?_, fun k hk hne => ?_⟩
  · show w.heap.size ≤ (_ ++ os).size
    simp [putRow, mapBlock, Sort.ahead]
  · have hg : g ≠ k := fun e => hne (by rw [e])
    show ((putRow enc (Sort.ahead w q) g 0 d).heap ++ os)[k]? = _
    rw [Array.getElem?_append_left (by simpa [putRow, mapBlock, Sort.ahead] using hk)]
    simp [putRow, mapBlock, Sort.ahead, Array.getElem?_modify, hg]
theorem grown_self (w : World) (row : Option Nat) : w.grownBy w row := ⟨rfl, rfl, rfl, Nat.le_refl _, fun _ _ _ => rfl⟩
theorem own_form {w : World} {base size : Nat} {e : TypeId} {v : Value} {n : Nat} {xs : List Value} (h : w.ownsRow base e size v n xs) : ∃ A c, v = .slice A n c := by
  rcases h.2 with ⟨rfl, rfl⟩ | ⟨g, cap, cur, rfl, _⟩
  · exact ⟨_, _, rfl⟩
  · exact ⟨_, _, rfl⟩

theorem sortI_any (base : Nat) (v : Value) (zs : List Int) (w : World) (hown : w.ownsRow base 3 1 v zs.length (zs.map iv)) (hsz : zs.length < 4611686018427387904) :
    Calls Try.prog 76 #[v] w fun e w' => e = .returned (.tuple #[]) ∧ w'.ownsRow base 3 1 v zs.length ((zs.mergeSort fun x y => decide (x ≤ y)).map iv) ∧ w.grownBy w' v.ownBlock := by
  by_cases h0 : zs = []
  · subst h0
    obtain ⟨A, c, rfl⟩ := own_form hown
    refine (Try.slices_Sort_int_none A c w).mono ?_
    rintro e w' ⟨rfl, rfl⟩
    exact ⟨rfl, by simpa using hown, grown_self _ _⟩
  · have hv : v ≠ .slice none 0 0 := by
      rintro rfl
      rcases hown.2 with ⟨_, h⟩ | ⟨g, cap, cur, h, _⟩
      · exact h0 (List.eq_nil_of_length_eq_zero h)
      · cases h
    obtain ⟨g, cap, rfl, hb, hg, hn, hm, _, hH⟩ := Lib.holds_of_ownsRow hown hv
    refine (Try.slices_Sort_int g 0 cap zs w hH hg hsz).mono ?_
    rintro e w' ⟨rfl, n, os, rfl⟩
    refine ⟨rfl, own_grow ?_ os, putRow_grown _ _ _ _ _⟩
    have hl : (zs.mergeSort fun x y => decide (x ≤ y)).length = zs.length := List.length_mergeSort zs
    have := Lib.ownsRow_putRow (enc := iv) (q := n) (k := zs.length) (ys := zs.mergeSort fun x y => decide (x ≤ y)) hown hl (Nat.le_refl _)
    rw [List.take_of_length_le (by omega)] at this
    exact this

theorem compI_any (base : Nat) (v : Value) (zs : List Int) (w : World) (hown : w.ownsRow base 3 1 v zs.length (zs.map iv)) (hsz : zs.length < 4611686018427387904) :
    Calls Try.prog 77 #[v] w fun e w' => ∃ v', e = .returned v' ∧ v'.ownBlock = v.ownBlock ∧ w'.ownsRow base 3 1 v' (Lib.compact zs).length ((Lib.compact zs).map iv) ∧ w.grownBy w' v.ownBlock := by
  by_cases h0 : zs = []
  · subst h0
    obtain ⟨A, c, rfl⟩ := own_form hown
    refine (Try.slices_Compact_int_empty A c w).mono ?_
    rintro e w' ⟨rfl, rfl⟩
    exact ⟨_, rfl, rfl, hown, grown_self _ _⟩
  · have hv : v ≠ .slice none 0 0 := by
      rintro rfl
      rcases hown.2 with ⟨_, h⟩ | ⟨g, cap, cur, h, _⟩
      · exact h0 (List.eq_nil_of_length_eq_zero h)
      · cases h
    obtain ⟨g, cap, rfl, hb, hg, hn, hm, _, hH⟩ := Lib.holds_of_ownsRow hown hv
    refine (Try.slices_Compact_int g 0 cap zs w hH (by omega) hn).mono ?_
    rintro e w' ⟨rfl, q, rfl⟩
    have hle : (Lib.compact zs).length ≤ zs.length := Lib.compact_length_le zs
    have := Lib.ownsRow_putRow (enc := iv) (q := q) (k := (Lib.compact zs).length) (ys := Lib.compact zs ++ List.replicate (zs.length - (Lib.compact zs).length) 0) hown (by simp; omega) hle
    rw [List.take_left] at this
    refine ⟨_, rfl, rfl, this, ?_⟩
    have h2 := putRow_grown (enc := iv) w q g (Lib.compact zs ++ List.replicate (zs.length - (Lib.compact zs).length) 0).toArray #[]
    rwa [Go.Sort.grow_empty] at h2
end Go.Proofs.Ytamnaojheecopaa
