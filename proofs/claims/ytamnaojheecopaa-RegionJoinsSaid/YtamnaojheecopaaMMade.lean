/- Plain law: what region.made computes. -/
import Derived.Test.YtamnaojheecopaaMBuild
import Derived.Test.YtamnaojheecopaaSpanB
namespace Go.Proofs.Ytamnaojheecopaa
set_option linter.unusedVariables false
set_option linter.unusedSimpArgs false

theorem flat1_len (a : Slab) : (flat1 a).length = a.s.length := by simp [flat1]
theorem addS_len (S : List Slab) (f t : Int) (s : List Sp) : (flat (addS S f t s)).length ≤ (flat S).length + s.length := by
  unfold addS
  by_cases h0 : s = []
  · rw [if_pos h0]; omega
  rw [if_neg h0]
  cases hg : S.getLast? with
  | none => simp only [flat_one, flat1_len]; omega
  | some a =>
    obtain ⟨o, rfl⟩ := List.getLast?_eq_some_iff.1 hg
    simp only [List.dropLast_concat]
    split
    · rename_i hb
      rw [flat_append, flat_append, flat_one, flat_one, List.length_append, List.length_append, flat1_len, flat1_len]
      show _ + s.length ≤ _
      omega
    · rw [flat_append, flat_one, List.length_append, flat1_len]
      show _ + s.length ≤ _
      omega
/-- The sweep over pairs of cuts. -/
def swp (g : Int → List Sp) (ps : List (Int × Int)) : List Slab := ps.foldl (fun S p => addS S p.1 p.2 (g p.1)) []
theorem swp_snoc (g : Int → List Sp) (ps : List (Int × Int)) (x : Int × Int) : swp g (ps ++ [x]) = addS (swp g ps) x.1 x.2 (g x.1) := by simp [swp]
theorem swp_len_from (g : Int → List Sp) (m : Nat) (hg : ∀ c, (g c).length ≤ m) : ∀ (ps : List (Int × Int)) (S : List Slab), (flat (ps.foldl (fun S p => addS S p.1 p.2 (g p.1)) S)).length ≤ (flat S).length + ps.length * m
  | [], S => by simp
  | p :: ps, S => by
    have h1 := swp_len_from g m hg ps (addS S p.1 p.2 (g p.1))
    have h2 := addS_len S p.1 p.2 (g p.1)
    have h3 := hg p.1
    simp only [List.foldl_cons, List.length_cons, Nat.add_mul]
    omega
theorem swp_len (g : Int → List Sp) (m : Nat) (hg : ∀ c, (g c).length ≤ m) (ps : List (Int × Int)) : (flat (swp g ps)).length ≤ ps.length * m := by
  have := swp_len_from g m hg ps []
  simpa [swp, flat] using this
theorem swp_sweep (g : Int → List Sp) (cs : List Int) : swp g (prs cs) = sweep g [] cs := (sweep_prs g cs []).symm
theorem sjoin_len (h : Bool → Bool → Bool) (a b : List Sp) : (sjoin h a b).length ≤ 2 * a.length + 2 * b.length := by
  have h1 := jout_len h (isort (evs 0 a ++ evs 1 b)) js0
  have h2 := (isort_perm (evs 0 a ++ evs 1 b)).length_eq
  rw [List.length_append, evs_length, evs_length] at h2
  have h3 : js0.out.length = 0 := rfl
  unfold sjoin jfold
  omega
theorem crossL_len (l : List R4) (c : Int) : (crossL l c).length ≤ l.length := by
  unfold crossL
  rw [List.length_map]
  exact List.length_filter_le _ _
/-- Neighbours among the pairs. -/
theorem prs_next : ∀ (cs : List Int) (pre : List (Int × Int)) (x : Int × Int) (post : List (Int × Int)), prs cs = pre ++ x :: post → (∀ p, pre.getLast? = some p → p.2 = x.1)
  | [], pre, x, post, h => by
    simp [prs] at h
  | [_], pre, x, post, h => by
    simp [prs] at h
  | c :: d :: r, [], x, post, h => by
    simp
  | c :: d :: r, q :: pre, x, post, h => by
    simp only [prs, List.cons_append, List.cons.injEq] at h
    obtain ⟨h1, h2⟩ := h
    intro p hp
    cases pre with
    | nil =>
      simp at hp
      subst hp
      subst h1
      cases r with
      | nil => simp [prs] at h2
      | cons e r =>
        simp only [prs, List.nil_append, List.cons.injEq] at h2
        rw [← h2.1]
    | cons q' pre => exact prs_next (d :: r) (q' :: pre) x post h2 p (by simpa [List.getLast?_cons_cons] using hp)
theorem prs_lt : ∀ (cs : List Int), cs.Pairwise (· < ·) → ∀ x ∈ prs cs, x.1 < x.2 ∧ x.1 ∈ cs
  | [], _, x, h => by simp [prs] at h
  | [_], _, x, h => by simp [prs] at h
  | c :: d :: r, hs, x, h => by
    simp only [prs, List.mem_cons] at h
    rcases h with rfl | h
    · exact ⟨(List.pairwise_cons.1 hs).1 d (by simp), by simp⟩
    · have := prs_lt (d :: r) (List.pairwise_cons.1 hs).2 x h
      exact ⟨this.1, by simp only [List.mem_cons] at this ⊢; exact .inr this.2⟩
/-- The sweep over whatever sorted cuts hold all xs is the joined list. -/
theorem swp_join {h : Bool → Bool → Bool} (h0 : h false false = false) {a b : List R4} (ha : ∀ r ∈ a, wf4 r) (hb : ∀ r ∈ b, wf4 r) {cs : List Int} (hs : cs.Pairwise (· < ·)) (hca : ∀ c ∈ cutsL a, c ∈ cs) (hcb : ∀ c ∈ cutsL b, c ∈ cs) :
    flat (swp (fun c => sjoin h (crossL a c) (crossL b c)) (prs cs)) = rjoin h a b := by
  rw [swp_sweep]
  obtain ⟨h1, h2⟩ := sweep_join (g := fun c => sjoin h (crossL a c) (crossL b c)) h0 hs hca hcb (fun c _ => sjoin_ok h0 (crossL_wf ha c) (crossL_wf hb c))
  exact rjoin_eq h0 ha hb h1 h2
/-- What made returns. -/
def madeF (l : List R4) : List R4 × Int := if 400 < (rjoin hFst l []).length then ([], 4) else (rjoin hFst l [], 0)
end Go.Proofs.Ytamnaojheecopaa
