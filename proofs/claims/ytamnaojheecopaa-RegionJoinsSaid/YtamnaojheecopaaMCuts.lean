/- Plain law: the cuts: sorted, without repetitions; and the pairs of neighbours. -/
import Derived.Test.YtamnaojheecopaaMRegion
import Derived.Lib.SlicesCompact
namespace Go.Proofs.Ytamnaojheecopaa
open Go.Lib
set_option linter.unusedVariables false
set_option linter.unusedSimpArgs false

theorem compact_up (d : Array Int) (hd : ∀ i j, i < j → j < d.size → d[i]! ≤ d[j]!) : ∀ m, m ≤ d.size → (compactUpTo d m).Pairwise (· < ·) ∧ (∀ x, x ∈ compactUpTo d m ↔ ∃ j, j < m ∧ d[j]! = x)
  | 0, _ => by simp [compactUpTo]
  | m + 1, hm => by
    obtain ⟨h1, h2⟩ := compact_up d hd m (by omega)
    rw [compactUpTo_succ]
    by_cases hk : keeps d m = true
    · rw [if_pos hk]
      refine ⟨?_, fun x => ?_⟩
      · rw [List.pairwise_append]
        refine ⟨h1, by simp, fun a ha b hb => ?_⟩
        simp at hb; subst hb
        obtain ⟨j, hj, rfl⟩ := (h2 a).1 ha
        simp only [keeps, decide_eq_true_eq] at hk
        rcases hk with hk | hk
        · omega
        · have e1 : d[j]! ≤ d[m - 1]! := by
            by_cases e : j = m - 1
            · rw [e]; exact Int.le_refl _
            · exact hd j (m - 1) (by omega) (by omega)
          have e2 := hd (m - 1) m (by omega) (by omega)
          omega
      · rw [List.mem_append, h2]
        simp only [List.mem_singleton]
        constructor
        · rintro (⟨j, hj, e⟩ | e)
          · exact ⟨j, by omega, e⟩
          · exact ⟨m, by omega, e.symm⟩
        · rintro ⟨j, hj, e⟩
          by_cases hjm : j = m
          · subst hjm; exact .inr e.symm
          · exact .inl ⟨j, by omega, e⟩
    · rw [if_neg hk]
      simp only [List.append_nil]
      refine ⟨h1, fun x => ?_⟩
      rw [h2]
      have hk' : ¬ (m = 0 ∨ d[m]! ≠ d[m - 1]!) := by simpa [keeps] using hk
      have hm0 : m ≠ 0 := fun e => hk' (.inl e)
      have he : d[m]! = d[m - 1]! := Classical.byContradiction fun e => hk' (.inr e)
      constructor
      · rintro ⟨j, hj, e⟩
        exact ⟨j, by omega, e⟩
      · rintro ⟨j, hj, e⟩
        by_cases hjm : j = m
        · subst hjm; exact ⟨j - 1, by omega, by rw [← he]; exact e⟩
        · exact ⟨j, by omega, e⟩

/-- The cuts of some numbers. -/
def cutsOf (xs : List Int) : List Int := compact (xs.mergeSort fun x y => decide (x ≤ y))
theorem cutsOf_ok (xs : List Int) : (cutsOf xs).Pairwise (· < ·) ∧ ∀ x, x ∈ cutsOf xs ↔ x ∈ xs := by
  have hs : (xs.mergeSort fun x y => decide (x ≤ y)).Pairwise (fun a b => a ≤ b) := by
    have := List.pairwise_mergeSort (le := fun (x y : Int) => decide (x ≤ y)) (fun a b c h1 h2 => by simp at *; omega) (fun a b => by simp; omega) xs
    simpa using this
  have hm := fun x => (List.mergeSort_perm xs fun x y => decide (x ≤ y)).mem_iff (a := x)
  unfold cutsOf
  generalize xs.mergeSort (fun x y => decide (x ≤ y)) = zs at hs hm
  have hd : ∀ i j, i < j → j < zs.toArray.size → zs.toArray[i]! ≤ zs.toArray[j]! := by
    intro i j hij hj
    have hj' : j < zs.length := by simpa using hj
    have := List.pairwise_iff_getElem.1 hs i j (by omega) hj' hij
    rw [getElem!_pos _ i (by simp; omega), getElem!_pos _ j hj]
    simpa using this
  obtain ⟨h1, h2⟩ := compact_up zs.toArray hd zs.length (by simp)
  refine ⟨h1, fun x => ?_⟩
  rw [← hm, show compact zs = compactUpTo zs.toArray zs.length from rfl, h2]
  constructor
  · rintro ⟨j, hj, rfl⟩
    rw [getElem!_pos _ j (by simpa using hj)]
    simp
  · intro hx
    obtain ⟨j, hj, e⟩ := List.getElem_of_mem hx
    exact ⟨j, hj, by rw [getElem!_pos _ j (by simpa using hj)]; simpa using e⟩
theorem cutsOf_len (xs : List Int) : (cutsOf xs).length ≤ xs.length := by
  unfold cutsOf
  have h1 : (xs.mergeSort fun x y => decide (x ≤ y)).length = xs.length := List.length_mergeSort xs
  generalize xs.mergeSort (fun x y => decide (x ≤ y)) = zs at h1
  have : (compact zs).length ≤ zs.length := by
    unfold compact compactUpTo
    rw [List.length_map]
    refine Nat.le_trans (List.length_filter_le _ _) (by simp)
  omega

/-- The pairs of neighbours. -/
def prs : List Int → List (Int × Int)
  | c :: d :: r => (c, d) :: prs (d :: r)
  | _ => []
theorem prs_len : ∀ (l : List Int), (prs l).length = l.length - 1
  | [] => rfl
  | [_] => rfl
  | c :: d :: r => by simp [prs, prs_len (d :: r)]
theorem prs_get : ∀ (l : List Int) (i : Nat) (x y : Int), l[i]? = some x → l[i + 1]? = some y → (prs l)[i]? = some (x, y)
  | [], i, x, y, h, _ => by simp at h
  | [c], i, x, y, _, h => by simp at h
  | c :: d :: r, 0, x, y, h1, h2 => by
    simp at h1 h2
    simp [prs, h1, h2]
  | c :: d :: r, i + 1, x, y, h1, h2 => by
    have := prs_get (d :: r) i x y (by simpa using h1) (by simpa using h2)
    simpa [prs] using this
/-- The sweep, as a fold over the pairs. -/
theorem sweep_prs (g : Int → List Sp) : ∀ (l : List Int) (acc : List Slab), sweep g acc l = (prs l).foldl (fun S p => addS S p.1 p.2 (g p.1)) acc
  | [], acc => rfl
  | [_], acc => rfl
  | c :: d :: r, acc => by
    show sweep g (addS acc c d (g c)) (d :: r) = _
    rw [sweep_prs g (d :: r)]
    rfl
end Go.Proofs.Ytamnaojheecopaa
