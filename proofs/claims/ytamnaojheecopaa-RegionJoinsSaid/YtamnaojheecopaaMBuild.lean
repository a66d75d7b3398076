/- Plain law: the builder's state beside the list of slabs. -/
import Derived.Test.YtamnaojheecopaaMCuts
namespace Go.Proofs.Ytamnaojheecopaa
set_option linter.unusedVariables false
set_option linter.unusedSimpArgs false

/-- The builder has put the slabs S together: 'last', 'first', 'end'. -/
def BInv (S : List Slab) (last : List Sp) (first : Nat) (e : Int) : Prop :=
  (last = [] ∧ ∀ a, S.getLast? = some a → a.t < e) ∨ (last ≠ [] ∧ ∃ S0 f0, S = S0 ++ [⟨f0, e, last⟩] ∧ first = (flat S0).length)
theorem flat_append (S T : List Slab) : flat (S ++ T) = flat S ++ flat T := by simp [flat]
theorem flat_one (a : Slab) : flat [a] = flat1 a := by simp [flat]
theorem BInv.start : BInv [] [] 0 0 := .inl ⟨rfl, by simp⟩
/-- The slab is joined to the one before it. -/
theorem BInv.join {S : List Slab} {last s : List Sp} {first : Nat} {e f t : Int} (h : BInv S last first e) (hs : s ≠ []) (he : e = f) (hl : last = s) :
    ∃ S0 f0, S = S0 ++ [⟨f0, e, last⟩] ∧ first = (flat S0).length ∧ addS S f t s = S0 ++ [⟨f0, t, s⟩] ∧ BInv (addS S f t s) s first t := by
  subst hl
  rcases h with ⟨h1, _⟩ | ⟨h1, S0, f0, h2, h3⟩
  · exact absurd h1 hs
  · have : addS S f t last = S0 ++ [⟨f0, t, last⟩] := by
      unfold addS
      rw [if_neg hs, h2]
      simp [he]
    exact ⟨S0, f0, h2, h3, this, .inr ⟨hs, S0, f0, this, h3⟩⟩
/-- It is not. -/
theorem BInv.push {S : List Slab} {last s : List Sp} {first : Nat} {e f t : Int} (h : BInv S last first e) (hef : S = [] ∨ e ≤ f) (hft : f < t) (hn : ¬ (s ≠ [] ∧ e = f ∧ last = s)) :
    flat (addS S f t s) = flat S ++ s.map (fun p => ⟨f, p.1, t, p.2⟩) ∧ BInv (addS S f t s) s (flat S).length t := by
  by_cases hs : s = []
  · subst hs
    have : addS S f t [] = S := by simp [addS]
    rw [this]
    refine ⟨by simp, .inl ⟨rfl, fun a ha => ?_⟩⟩
    rcases hef with rfl | hef
    · simp at ha
    · rcases h with ⟨_, h2⟩ | ⟨_, S0, f0, h2, _⟩
      · have := h2 a ha; omega
      · rw [h2] at ha
        simp at ha
        subst ha
        show e < t
        omega
  · have key : addS S f t s = S ++ [⟨f, t, s⟩] := by
      unfold addS
      rw [if_neg hs]
      cases hg : S.getLast? with
      | none =>
        have : S = [] := List.getLast?_eq_none_iff.1 hg
        subst this; rfl
      | some a =>
        show (if a.t = f ∧ a.s = s then _ else _) = _
        rw [if_neg]
        rintro ⟨g1, g2⟩
        rcases h with ⟨_, h2⟩ | ⟨_, S0, f0, h2, _⟩
        · have := h2 a hg
          rcases hef with rfl | hef
          · simp at hg
          · omega
        · rw [h2] at hg
          simp at hg
          subst hg
          exact hn ⟨hs, g1, g2⟩
    refine ⟨by rw [key, flat_append, flat_one]; rfl, .inr ⟨hs, S, f, key, rfl⟩⟩
end Go.Proofs.Ytamnaojheecopaa
