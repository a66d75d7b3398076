/- Outlines: the lengths of all loops add up to the number of unit edges with different sides. -/
import Derived.Test.YtdfpbhlnlkjjlaaGreatXtsK
namespace Go.Proofs.YtdfpbhlnlkjjlaaGreat
set_option linter.unusedVariables false
set_option linter.unusedSimpArgs false

section
variable {S : Cs}
theorem vol_edg {m : Nat} {v : Un} (h : (-(m : Int) < v.1.1 ∧ v.1.1 < m) ∧ -(m : Int) < v.1.2 ∧ v.1.2 < m) : vol m (fun x y => edg true x y v + edg false x y v) = 1 := by
  obtain ⟨a, b, ha, hb, e⟩ : ∃ a b : Int, (-(m : Int) ≤ a ∧ a < m) ∧ (-(m : Int) ≤ b ∧ b < m) ∧ ∀ x y, edg true x y v + edg false x y v = ind (rin ⟨a, b, a + 1, b + 1⟩ x y) := by
    obtain ⟨⟨p, q⟩, d⟩ := v
    simp only at h
    have hi : ∀ (a b x y : Int), rin ⟨a, b, a + 1, b + 1⟩ x y ↔ x = a ∧ y = b := fun a b x y => by unfold rin; simp only; omega
    cases d
    · refine ⟨p, q, by omega, by omega, fun x y => ?_⟩
      rw [ind_iff (hi p q x y), edg_eq, edg_eq]; unfold ind; simp; split <;> split <;> omega
    · refine ⟨p, q, by omega, by omega, fun x y => ?_⟩
      rw [ind_iff (hi p q x y), edg_eq, edg_eq]; unfold ind; simp; split <;> split <;> omega
    · refine ⟨p - 1, q, by omega, by omega, fun x y => ?_⟩
      rw [ind_iff (hi (p - 1) q x y), edg_eq, edg_eq]; unfold ind; simp; split <;> split <;> omega
    · refine ⟨p, q - 1, by omega, by omega, fun x y => ?_⟩
      rw [ind_iff (hi p (q - 1) x y), edg_eq, edg_eq]; unfold ind; simp; split <;> split <;> omega
  rw [vol_congr (g := fun x y => ind (rin ⟨a, b, a + 1, b + 1⟩ x y)) fun x y _ _ _ _ => e x y, vol_rect (by simp only; omega) (by simp only; omega) (by simp only; omega) (by simp only; omega)]
  unfold box
  simp only
  rw [show a + 1 - a = 1 by omega, show b + 1 - b = 1 by omega]
  rfl
theorem LpU.len_vol {u : Un} {n : Nat} (h : LpU S u n) {M : Nat} (hM : bdC S M) : lnL (lpC S u n) = vol (M + 1) (fun x y => cvL true x y (lpC S u n) + cvL false x y (lpC S u n)) := by
  have e1 : vol (M + 1) (fun x y => cvL true x y (lpC S u n) + cvL false x y (lpC S u n)) = vol (M + 1) (fun x y => smN (fun k => edg true x y (itU S u k) + edg false x y (itU S u k)) n) := by
    refine vol_congr fun x y _ _ _ _ => ?_
    rw [h.cov, h.cov, smN_add]
    unfold edg cnU
    rw [smN_add, smN_add]
  rw [e1, vol_smN (M + 1) (fun k x y => edg true x y (itU S u k) + edg false x y (itU S u k)) n]
  have e2 : smN (fun k => vol (M + 1) (fun x y => edg true x y (itU S u k) + edg false x y (itU S u k))) n = smN (fun _ => 1) n := smN_congr' _ fun k _ => by
    have hb := bgn_in hM (itU_bgn h.cyc.beg k)
    exact vol_edg (by omega)
  have e3 := h.lenS_n
  unfold lnL
  rw [e2, smN_const, e3]
  omega
/-- **The lengths add up.** -/
theorem Outl.length {L : List (List Pt)} (h : Outl S L) {M : Nat} (hM : bdC S M) : (L.map lnL).sum = vol (M + 1) (fun x y => (if inC S (lc (edU true x y)) = inC S (rc (edU true x y)) then 0 else 1) + (if inC S (lc (edU false x y)) = inC S (rc (edU false x y)) then 0 else 1)) := by
  have hc := fun low x y => h.cover low x y
  obtain ⟨⟨us, ht, hp⟩, _⟩ := h
  rw [perm_sum lnL hp, List.map_map]
  have e : (us.map (lnL ∘ lpP S)).sum = sumT (fun q => vol (M + 1) (fun x y => cvL true x y (lpP S q) + cvL false x y (lpP S q))) us :=
    sumT_congr (f := lnL ∘ lpP S) fun q hq => (ht.lp q hq).len_vol hM
  rw [e, vol_sumT]
  refine vol_congr fun x y _ _ _ _ => ?_
  rw [sumT_add, ← hc true x y, ← hc false x y, perm_sum _ hp, perm_sum _ hp, List.map_map, List.map_map]
  rfl
end
end Go.Proofs.YtdfpbhlnlkjjlaaGreat
